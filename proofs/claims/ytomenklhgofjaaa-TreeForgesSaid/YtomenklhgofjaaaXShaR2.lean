/- Rows at known blocks; rows of bytes that a conversion has made. Conditions: none. -/
import Derived.Test.YtomenklhgofjaaaXShaR1
set_option linter.unusedVariables false
set_option linter.unusedSimpArgs false
namespace Go.Proofs.Ytomenklhgofjaaa.Sh
open Go.RowKit Go.Proofs.YtomenklhgofjaaaW.PrintWords Go.Proofs.YtomenklhgofjaaaW.PrintLast Go.Proofs.YtomenklhgofjaaaW.PrintMore
/-- A row that is read: its first cells. -/
def Rk (k : IntKind) (t : TypeId) (w : World) (g : Nat) (xs : List Int) : Prop := ∃ cur fz, w.heap[g]? = some (.cells cur t fz) ∧ ∀ i, i < xs.length → cur[i]? = some (.int k (xs.getD i 0))
/-- A row of the call's own at a known block. -/
def Rz (k : IntKind) (t : TypeId) (w : World) (g : Nat) (xs : List Int) : Prop := ∃ cur, w.heap[g]? = some (.cells cur t (0, 0)) ∧ ∀ i, i < xs.length → cur[i]? = some (.int k (xs.getD i 0))
section
variable {k : IntKind} {t : TypeId} {w w' : World} {g : Nat} {xs : List Int}
theorem Rz.rk (h : Rz k t w g xs) : Rk k t w g xs := by obtain ⟨c, h1, h2⟩ := h; exact ⟨c, (0, 0), h1, h2⟩
theorem Rk.cell (h : Rk k t w g xs) (i : Nat) (hi : i < xs.length) : w.cell? ⟨g, i, none⟩ = some (.int k (xs.getD i 0)) := by
  obtain ⟨c, fz, h1, h2⟩ := h
  rw [cell_of_row w g i c t fz h1]
  exact h2 i hi
theorem Rz.cell (h : Rz k t w g xs) (i : Nat) (hi : i < xs.length) : w.cell? ⟨g, i, none⟩ = some (.int k (xs.getD i 0)) := h.rk.cell i hi
theorem Rz.frozen (h : Rz k t w g xs) (i : Nat) : w.frozen? ⟨g, i, none⟩ = false := by
  obtain ⟨c, h1, h2⟩ := h
  exact blk_frozen h1 i
theorem Rk.lt (h : Rk k t w g xs) : g < w.heap.size := by obtain ⟨c, fz, h1, _⟩ := h; exact blk_lt h1
theorem Rk.below (h : Rk k t w g xs) (hb : Below w.heap.size w w') : Rk k t w' g xs := by obtain ⟨c, fz, h1, h2⟩ := h; exact ⟨c, fz, blk_below h1 hb, h2⟩
theorem Rz.below (h : Rz k t w g xs) (hb : Below w.heap.size w w') : Rz k t w' g xs := by obtain ⟨c, h1, h2⟩ := h; exact ⟨c, blk_below h1 hb, h2⟩
theorem Rk.drew (h : Rk k t w g xs) : Rk k t w.drew g xs := h
theorem Rk.drewN (h : Rk k t w g xs) (n : Nat) : Rk k t (w.drewN n) g xs := h
theorem Rz.drew (h : Rz k t w g xs) : Rz k t w.drew g xs := h
theorem Rz.drewN (h : Rz k t w g xs) (n : Nat) : Rz k t (w.drewN n) g xs := h
theorem Rk.alloc (h : Rk k t w g xs) (o : Obj) : Rk k t (w.alloc o) g xs := h.below (below_alloc (Below.refl _ _) _)
theorem Rk.far (h : Rk k t w g xs) {p : Addr} (hp : g ≠ p.block) (u : Value) : Rk k t (w.setCell p u) g xs := by
  obtain ⟨c, fz, h1, h2⟩ := h
  exact ⟨c, fz, (Below.heap_setCell w p u g hp).trans h1, h2⟩
theorem Rz.put (h : Rz k t w g xs) (i : Nat) (x : Int) (hi : i < xs.length) : Rz k t (w.setCell ⟨g, i, none⟩ (.int k x)) g (xs.set i x) := by
  obtain ⟨c, h1, h2⟩ := h
  refine ⟨_, blk_set h1 i _, fun j hj => ?_⟩
  rw [List.length_set] at hj
  have hc := h2 j hj
  have hs : j < c.size := (Array.getElem?_eq_some_iff.1 hc).1
  by_cases e : i = j
  · subst e
    rw [Array.getElem?_setIfInBounds_self_of_lt hs, List.getD_eq_getElem?_getD, List.getElem?_set_self hj]
    rfl
  · rw [Array.getElem?_setIfInBounds_ne e, hc, List.getD_eq_getElem?_getD, List.getD_eq_getElem?_getD, List.getElem?_set_ne e]
theorem Rz.new (w : World) (xs : List Int) : Rz k t (w.alloc (.cells (nums k xs).toArray t)) w.heap.size xs := by
  refine ⟨_, blk_new _ _, fun i hi => ?_⟩
  unfold nums
  rw [List.getElem?_toArray, List.getElem?_map, List.getElem?_eq_getElem hi, List.getD_eq_getElem?_getD, List.getElem?_eq_getElem hi]
  rfl
theorem nums_get (k : IntKind) (xs : List Int) (i : Nat) (hi : i < xs.length) : (nums k xs)[i]? = some (.int k (xs.getD i 0)) := by
  unfold nums
  rw [List.getElem?_map, List.getElem?_eq_getElem hi, List.getD_eq_getElem?_getD, List.getElem?_eq_getElem hi]
  rfl
/-- An owned row, at its block. -/
theorem own_rz {base n : Nat} {v : Value} (h : w.ownsRow base t 1 v n (nums k xs)) (hn : 0 < n) (hl : xs.length = n) : ∃ g c, v = .slice (some ⟨g, 0, none⟩) n c ∧ base ≤ g ∧ Rz k t w g xs := by
  rcases h.2 with ⟨rfl, h0⟩ | ⟨g, cap, cur, rfl, hg, hh, _, _, _, ht⟩
  · omega
  · refine ⟨g, cap, rfl, hg, cur, hh, fun i hi => ?_⟩
    rw [← nums_get k xs i hi, ← ht, List.getElem?_take, if_pos (by omega), Array.getElem?_toList]
theorem Rk.reads (h : Rk k t w g xs) (hl : xs.length ≤ 9223372036854775807) : ReadsInt w k (some ⟨g, 0, none⟩) xs.length xs :=
  ⟨rfl, hl, fun _ => ⟨_, rfl, fun j hj => by
    have ha : (⟨g, 0, none⟩ : Addr).add j = ⟨g, j, none⟩ := by unfold Addr.add; split <;> simp_all
    rw [ha]
    exact h.cell j hj⟩⟩
end
/-- A row of bytes of the call's own, a mark behind its cells or none. -/
def RowB (w : World) (base : Nat) (v : Value) (xs : List Int) : Prop :=
  ∃ g cap cur fz, v = .slice (some ⟨g, 0, none⟩) xs.length cap ∧ base ≤ g ∧ w.heap[g]? = some (.cells cur 5 fz) ∧ (∀ j, j < cur.size → ¬ (fz.1 ≤ j ∧ j < fz.2)) ∧ xs.length ≤ cap ∧ cap ≤ maxLen ∧ cur.size = cap ∧ cur.toList.take xs.length = nums .u8 xs
theorem RowB.rk {w : World} {base : Nat} {v : Value} {xs : List Int} (h : RowB w base v xs) : ∃ g c, v = .slice (some ⟨g, 0, none⟩) xs.length c ∧ base ≤ g ∧ xs.length ≤ c ∧ Rk .u8 5 w g xs := by
  obtain ⟨g, cap, cur, fz, rfl, hg, hh, _, h2, _, _, ht⟩ := h
  refine ⟨g, cap, rfl, hg, h2, cur, fz, hh, fun i hi => ?_⟩
  rw [← nums_get .u8 xs i hi, ← ht, List.getElem?_take, if_pos (by omega), Array.getElem?_toList]
theorem RowB.start (w : World) (s : ByteArray) (hs : s.size ≤ 140737488351232) {c : Nat} (hc : c = grownCap w s.size 0 5) : RowB (Lib.bytesWorld w 5 s) w.heap.size (.slice (some ⟨w.heap.size, 0, none⟩) s.size c) (bytesOf s) := by
  subst hc
  have hge := grownCap_ge w s.size 0 5
  have hle : grownCap w s.size 0 5 ≤ maxLen := grownCap_le_maxLen w s.size 0 5 (by simp [maxLen]; omega)
  have hsz : (Lib.bytesCells w 5 s).size = grownCap w s.size 0 5 := by
    unfold Lib.bytesCells
    have : s.data.size = s.size := rfl
    simp
    omega
  refine ⟨w.heap.size, grownCap w s.size 0 5, Lib.bytesCells w 5 s, ((Lib.bytesCells w 5 s).size, (Lib.bytesCells w 5 s).size + 1), by rw [bytesOf_length], Nat.le_refl _, Lib.bytesWorld_at_new w 5 s, fun j hj h => by omega, by rw [bytesOf_length]; exact hge, hle, hsz, ?_⟩
  rw [bytesOf_length]
  unfold Lib.bytesCells nums bytesOf
  have : s.data.size = s.size := rfl
  simp [List.take_append, this]
section
variable {P : Program} {ops : Array Oper} {rest : List Oper} {o : Oper} {a : Act} {Q : Exit → Act → World → Prop}
theorem RowB.append {w0 W : World} (base : Nat) (hgd : o.guard = none) (s x : Operand) (t : TypeId)
    (ho : o.op = .call { callee := .builtin .append, args := #[s, x], argTypes := #[t, t] })
    (ht : P.underlying t = some (.slice 5)) (hinfo : (P.info? 5).map (fun i => (i.zero, i.size, i.bytes)) = some (some (.int .u8 0), 1, 1))
    (v : Value) (xs : List Int) (y : Int) (hs : a.eval s = v) (hx : a.eval x = .slice (some ⟨W.heap.size, 0, none⟩) 1 1)
    (HO : RowB W base v xs) (HB : Below base w0 W) (hbase : base ≤ W.heap.size) (hl : xs.length + 1 ≤ 140737488355328)
    (h : ∀ v1 w1, RowB w1 base v1 (xs ++ [y]) → Below base w0 w1 → wpList P ops Q rest (a.put o.dst v1) w1) :
    wpList P ops Q (o :: rest) a (W.alloc (.cells #[.int .u8 y] 5)) := by
  obtain ⟨i0, hi, hzz⟩ := Option.map_eq_some_iff.1 hinfo
  simp only [Prod.mk.injEq] at hzz
  obtain ⟨hz0, hz1, hz2⟩ := hzz
  obtain ⟨g, cap, cur, fz, rfl, hg, hh, hf, h2, hcm, hcs, htk⟩ := HO
  have hlt : g < W.heap.size := blk_lt hh
  have hh' : (W.alloc (.cells #[.int .u8 y] 5)).heap[g]? = some (.cells cur 5 fz) := blk_alloc hh _
  have hnum : (nums .u8 xs).length = xs.length * 1 := by rw [nums_length, Nat.mul_one]
  refine wpList_append_arg (W.alloc (.cells #[.int .u8 y] 5)) hgd s x t ho 5 i0 (.int .u8 0) 1 1 ht hi hz0 hz1 hz2 rfl (by decide) g 0 xs.length cap (nums .u8 xs) hs hnum ?_ ⟨W.heap.size, 0, none⟩ 1 1 [.int .u8 y] hx rfl ?_ (by simp [Value.oneCell']) ?_ (by simp only [maxLen]; omega) (by omega) ?_ ?_
  · intro j u hu
    rw [Nat.zero_add, cell_of_row _ g j cur 5 fz hh']
    rw [← htk, List.getElem?_take] at hu
    split at hu
    · simpa using hu
    · cases hu
  · intro j u hu
    have hj : j = 0 := by have := (List.getElem?_eq_some_iff.1 hu).1; simp at this; omega
    subst hj
    have ha : (⟨W.heap.size, 0, none⟩ : Addr).add 0 = ⟨W.heap.size, 0, none⟩ := by unfold Addr.add; split <;> simp_all
    rw [ha, cell_of_row _ W.heap.size 0 #[.int .u8 y] 5 (0, 0) (heap_alloc_new W _)]
    exact hu
  · intro hr j hj
    have hj0 : j = 0 := by simp at hj; omega
    subst hj0
    have hc : xs.length < cur.size := by omega
    rw [show 0 + xs.length * 1 + 0 = xs.length by omega]
    refine ⟨?_, ?_⟩
    · rw [cell_of_row _ g xs.length cur 5 fz hh', Array.getElem?_eq_getElem hc]
      rfl
    · have := hf xs.length hc
      simp only [World.frozen?, hh', Bool.and_eq_false_iff, decide_eq_false_iff_not]
      omega
  · intro hr
    have e1 : (W.alloc (.cells #[.int .u8 y] 5)).setCells g (0 + xs.length * 1) [.int .u8 y] = (W.alloc (.cells #[.int .u8 y] 5)).setCell ⟨g, xs.length, none⟩ (.int .u8 y) := by
      rw [show 0 + xs.length * 1 = xs.length by omega]
      rfl
    rw [e1]
    have hl1 : (xs ++ [y]).length = xs.length + 1 := by rw [List.length_append]; rfl
    refine h _ _ ⟨g, cap, cur.setIfInBounds xs.length (.int .u8 y), fz, by rw [hl1], hg, ?_, ?_, by rw [hl1]; exact hr, hcm, by rw [Array.size_setIfInBounds]; exact hcs, ?_⟩ ((HB.alloc hbase _).setCell (show base ≤ g from hg) _)
    · simp only [World.setCell, Array.getElem?_modify, hh']
      simp
    · rw [Array.size_setIfInBounds]
      exact hf
    · have hlt9 : xs.length < (cur.toList.set xs.length (.int .u8 y)).length := by simp; omega
      rw [hl1, Array.toList_setIfInBounds, List.take_succ_eq_append_getElem hlt9, List.getElem_set_self, List.take_set_of_le (Nat.le_refl _), htk]
      unfold nums
      rw [List.map_append]
      rfl
  · intro hr v' w' hown hgr
    have hl1 : (xs ++ [y]).length = xs.length + 1 := by rw [List.length_append]; rfl
    have hnn : nums .u8 xs ++ [.int .u8 y] = nums .u8 (xs ++ [y]) := by unfold nums; rw [List.map_append]; rfl
    rw [hnn] at hown
    have hB' : Below base w0 w' := (HB.alloc hbase _).grown hgr (by simp; omega) (fun k hk => by cases hk)
    rcases hown.2 with ⟨rfl, h0⟩ | ⟨g', cap', cur', rfl, hg', hh'', hn', hcm', hcs', htk'⟩
    · exact absurd h0 (by omega)
    · refine h _ _ ⟨g', cap', cur', (0, 0), by rw [hl1], by simp at hg'; omega, hh'', fun j _ hj => by simp at hj, by rw [hl1]; exact hn', hcm', by omega, by rw [hl1, ← htk']; simp⟩ hB'
end
end Go.Proofs.Ytomenklhgofjaaa.Sh
