/- copy onto a row of numbers that the call itself made: from a slice that is read, or from a text. Conditions: the row is the call's own, whole. -/
import Derived.Test.YtomenklhgofjaaaYW
import Derived.Laws.CopyOwn
import Derived.Laws.CopyRow
import Derived.Laws.IdiomCopy
import Derived.Lib.BufferWrite
set_option linter.unusedVariables false
set_option linter.unusedSimpArgs false
namespace Go.Proofs.Ytomenklhgofjaaa.Xc
open Go.RowKit Go.Proofs.YtomenklhgofjaaaW.PrintWords
/-- What a row is behind a copy: as many elements as the shorter one has go over. -/
def copyL (xs ys : List Int) : List Int := ys.take xs.length ++ xs.drop ys.length
theorem copyL_length (xs ys : List Int) : (copyL xs ys).length = xs.length := by
  unfold copyL
  rw [List.length_append, List.length_take, List.length_drop]
  omega
theorem copyL_getD (xs ys : List Int) (i : Nat) (h : i < xs.length) : (copyL xs ys).getD i 0 = if i < ys.length then ys.getD i 0 else xs.getD i 0 := by
  unfold copyL
  simp only [List.getD_eq_getElem?_getD]
  by_cases hy : i < ys.length
  · rw [if_pos hy, List.getElem?_append_left (by rw [List.length_take]; omega), List.getElem?_take, if_pos h]
  · rw [if_neg hy, List.getElem?_append_right (by rw [List.length_take]; omega), List.getElem?_drop]
    congr 2
    rw [List.length_take]
    omega
theorem encs_take {α : Type} (enc : α → Value) (xs : List α) (n : Nat) : encs enc (xs.take n) = (encs enc xs).take n := by unfold encs; rw [List.map_take]
theorem encs_drop {α : Type} (enc : α → Value) (xs : List α) (n : Nat) : encs enc (xs.drop n) = (encs enc xs).drop n := by unfold encs; rw [List.map_drop]
theorem take_row {α : Type} (cur : List α) (n : Nat) (X cs : List α) (hX : cur.take n = X) (hc : cs.length ≤ n) (hn : n ≤ cur.length) : (cs ++ cur.drop cs.length).take n = cs ++ X.drop cs.length := by
  rw [List.take_append, List.take_of_length_le hc, ← hX, List.drop_take]
section
variable {P : Program} {ops : Array Oper} {rest : List Oper} {o : Oper} {a : Act} {Q : Exit → Act → World → Prop}
/-- Cells laid over a row of the call's own, from its beginning on. -/
theorem own_set {W : World} {base e g n cap : Nat} {X : List Value} (HO : W.ownsRow base e 1 (.slice (some ⟨g, 0, none⟩) n cap) n X) (cur : Array Value) (hg : W.heap[g]? = some (.cells cur e (0, 0))) (cs : List Value) (hc : cs.length ≤ n) :
    (W.setRow g (cur.toList.take 0 ++ cs ++ cur.toList.drop (0 + cs.length)).toArray).ownsRow base e 1 (.slice (some ⟨g, 0, none⟩) n cap) n (cs ++ X.drop cs.length) := by
  obtain ⟨h1, h2⟩ := HO
  rcases h2 with ⟨h2, _⟩ | ⟨g', cap', cur', h3, hb, hh, hnc, hcm, hcs, htk⟩
  · cases h2
  injection h3 with h4 _ h5
  injection h4 with h4
  injection h4 with h6
  subst h6; subst h5
  rw [hg] at hh
  injection hh with hh
  injection hh with hh
  subst hh
  have hsz : n ≤ cur.toList.length := by rw [Array.length_toList]; omega
  have hXl : X.length = n := by simpa using h1
  refine ⟨by rw [List.length_append, List.length_drop]; omega, .inr ⟨g, cap, (cur.toList.take 0 ++ cs ++ cur.toList.drop (0 + cs.length)).toArray, rfl, hb, setRow_heap W g cur _ e _ hg, hnc, hcm, ?_, ?_⟩⟩
  · have e1 : (cur.toList.take 0 ++ cs ++ cur.toList.drop (0 + cs.length)).length = cs.length + (cur.toList.length - cs.length) := by simp
    rw [List.size_toArray, e1]
    have e3 : cur.toList.length = cur.size := Array.length_toList
    have e2 : cur.size = cap * 1 := hcs
    omega
  · simp only [List.take_zero, List.nil_append, Nat.zero_add]
    rw [Nat.mul_one] at htk ⊢
    exact take_row cur.toList n X cs htk hc hsz
theorem grown_set (W : World) (g : Nat) (cs : Array Value) : W.grownBy (W.setRow g cs) (some g) := ⟨rfl, rfl, rfl, by simp [World.setRow], fun k hk hne => setRow_other W g k cs (fun h => hne (by rw [h]))⟩
theorem R_copy (k : IntKind) {w0 W : World} (base : Nat) (hgd : o.guard = none) (d s : Operand) (dT sT e : TypeId)
    (ho : o.op = .call { callee := .builtin .copy, args := #[d, s], argTypes := #[dT, sT] }) (hu : P.underlying dT = some (.slice e)) (hsz : (P.info? e).map (·.size) = some 1)
    (v : Value) (xs ys : List Int) (A : Option Addr) (m c : Nat) (ok : Nat → Prop) (hd : a.eval d = v) (hs : a.eval s = .slice A m c)
    (HO : Kd.R (Kd.int k) e W base ok v xs) (HR : Kd.C (Kd.int k) W A m ys) (HB : Below base w0 W) (hbase : base ≤ W.heap.size)
    (h : ∀ w1, Kd.R (Kd.int k) e w1 base ok v (copyL xs ys) → Below base w0 w1 → W.grownBy w1 v.ownBlock → wpList P ops Q rest (a.put o.dst (goInt (Nat.min m xs.length))) w1) : wpList P ops Q (o :: rest) a W := by
  have hown := Kd.own_of_R HO
  have hm : ys.length = m := HR.1
  have hat := Kd.reads_of_C (enc := Value.int k) (d := (0 : Int)) (h1 := fun _ => rfl) HR
  have fin : ∀ (w1 : World), (Builtin.copy_ #[dT, sT] o.type #[v, .slice A m c]).run P W = .ok (goInt (Nat.min m xs.length)) w1 → w1.ownsRow base e 1 v xs.length (encs (Value.int k) (copyL xs ys)) → W.grownBy w1 v.ownBlock → wpList P ops Q (o :: rest) a W := by
    intro w1 hrun h1 hg
    refine wpList_plain hgd fun K hK => ?_
    unfold Oper.wp execOp
    simp only [ho, resolve, invoke, builtin, Sem.run_bind, Sem.run_pure, Result.andThen_ok, List.map_toArray, List.map_cons, List.map_nil, hd, hs, hrun]
    exact hK _ _ (h w1 (Kd.R_of_own (enc := Value.int k) (h1 := fun _ => rfl) (by rw [copyL_length]; exact h1) HO.1) (HB.grown hg hbase (own_base hown)) hg)
  have hcl : copyL xs ys = ys.take xs.length ++ xs.drop ys.length := rfl
  rcases hown.2 with ⟨rfl, h0⟩ | ⟨g, cap, cur, rfl, hb, hh, hnc, hcm, hcs, htk⟩
  · have hx0 : xs = [] := List.eq_nil_of_length_eq_zero h0
    subst hx0
    refine fin W ?_ (by rw [hcl]; simpa [encs] using hown) (World.grownBy.refl W _)
    have := run_copy_none (P := P) W dT sT o.type e none A 0 0 m c hu hsz (Nat.min_zero m)
    rw [this, show Nat.min m ([] : List Int).length = 0 from Nat.min_zero m]
    rfl
  · by_cases hz : Nat.min m xs.length = 0
    · have hcx : copyL xs ys = xs := by
        rw [hcl]
        have hz' : min m xs.length = 0 := hz
        by_cases hm0 : m = 0
        · obtain rfl : ys = [] := List.eq_nil_of_length_eq_zero (by omega)
          simp
        · obtain rfl : xs = [] := List.eq_nil_of_length_eq_zero (by omega)
          simp
      refine fin W ?_ (by rw [hcx]; exact hown) (World.grownBy.refl W _)
      rw [run_copy_none (P := P) W dT sT o.type e _ A xs.length cap m c hu hsz hz, hz]
      rfl
    · have hmp : 0 < m := by
        have hz' : ¬ min m xs.length = 0 := hz
        omega
      obtain ⟨ad, rfl, hcell⟩ := hat.2.2 hmp
      have hl : (encs (Value.int k) (ys.take xs.length)).length = Nat.min m xs.length := by
        rw [encs_length, List.length_take, hm]
        exact Nat.min_comm _ _
      have hrun := run_copy_row (P := P) W dT sT o.type e g 0 xs.length cap ad m c cur e (encs (Value.int k) (ys.take xs.length)) hu hsz hh hl ?_ ?_ ?_
      · rw [hl] at hrun
        have hk : encs (Value.int k) (copyL xs ys) = encs (Value.int k) (ys.take xs.length) ++ (encs (Value.int k) xs).drop (encs (Value.int k) (ys.take xs.length)).length := by
          rw [hcl, encs_append, encs_drop, hl, hm]
          congr 1
          by_cases hc : m ≤ xs.length
          · rw [show Nat.min m xs.length = m from Nat.min_eq_left hc]
          · rw [show Nat.min m xs.length = xs.length from Nat.min_eq_right (by omega), List.drop_eq_nil_of_le (by rw [encs_length]; omega), List.drop_eq_nil_of_le (by rw [encs_length]; omega)]
        have hset := own_set hown cur hh (encs (Value.int k) (ys.take xs.length)) (by rw [hl]; exact Nat.min_le_right _ _)
        rw [← hk, hl] at hset
        exact fin _ hrun hset (grown_set W g _)
      · intro j u hu'
        have hj : j < (ys.take xs.length).length := by
          have := (List.getElem?_eq_some_iff.1 hu').1
          rwa [encs_length] at this
        rw [List.length_take, hm] at hj
        have e1 := encs_get (enc := Value.int k) (d := (0 : Int)) (ys.take xs.length) j (by rw [List.length_take, hm]; exact hj)
        rw [hu'] at e1
        injection e1 with e1
        rw [hcell j (by omega), e1]
        congr 2
        simp only [List.getD_eq_getElem?_getD, List.getElem?_take]
        rw [if_pos (by omega)]
      · rw [hl]
        have h1 : Nat.min m xs.length ≤ xs.length := Nat.min_le_right _ _
        have := hcs
        omega
      · intro u hu'
        unfold encs at hu'
        obtain ⟨z, _, rfl⟩ := List.mem_map.1 hu'
        rfl
/-! append(xs, ys..) where the two slices' types have two names -/
theorem append_names {t t' e e' ty : TypeId} {W : World} {i : TypeInfo} (hi : P.info? e = some i) (ht : P.underlying t = some (.slice e)) (ht' : P.underlying t' = some (.slice e')) (s x : Value) :
    (Builtin.append_ #[t, t'] ty #[s, x]).run P W = (Builtin.append_ #[t, t] ty #[s, x]).run P W := by
  cases s <;> simp [Builtin.append_, run_underlying ht, run_underlying ht', sizeOf, typeInfo, hi]
theorem R_append_rows2 {α : Type} (d : Kd α) {Rr : α → List Value → Prop} {w0 W : World} (base : Nat) (hgd : o.guard = none) (s x : Operand) (t t' e : TypeId) (z : Value) (bytes : Nat)
    (ho : o.op = .call { callee := .builtin .append, args := #[s, x], argTypes := #[t, t'] })
    (ht : P.underlying t = some (.slice e)) (ht' : P.underlying t' = some (.slice e)) (hinfo : (P.info? e).map (fun i => (i.zero, i.size, i.bytes)) = some (some z, d.sz, bytes)) (hz : z.cells.size = d.sz) (hs0 : 0 < d.sz) (hb0 : 0 < bytes)
    (v : Value) (xs ys : List α) (A : Option Addr) (m c : Nat) (ok okp : Nat → Prop) (hs : a.eval s = v) (hx : a.eval x = .slice A m c)
    (HO : d.R e W base ok v xs) (HR : ReadsRow Rr d.sz W A m ys) (hKM : ∀ x cs, Rr x cs → d.M W base okp x cs) (hokp : ∀ k, okp k → ok k ∧ some k ≠ v.ownBlock) (hfresh : ∀ k, W.heap.size ≤ k → ok k)
    (HB : Below base w0 W) (hbase : base ≤ W.heap.size) (hl : (xs.length + m) * bytes ≤ 140737488355328)
    (h : ∀ v1 w1, d.R e w1 base ok v1 (xs ++ ys) → Below base w0 w1 → W.grownBy w1 v.ownBlock → (v1.ownBlock = v.ownBlock ∨ ∃ b, v1.ownBlock = some b ∧ W.heap.size ≤ b) → wpList P ops Q rest (a.put o.dst v1) w1) :
    wpList P ops Q (o :: rest) a W := by
  refine wpList_plain hgd fun K hK => ?_
  obtain ⟨o', ho'⟩ : ∃ o' : Oper, o' = { o with op := .call { callee := .builtin .append, args := #[s, x], argTypes := #[t, t] } } := ⟨_, rfl⟩
  have hd : o'.dst = o.dst := by rw [ho']
  have hty : o'.type = o.type := by rw [ho']
  have hop : o'.op = .call { callee := .builtin .append, args := #[s, x], argTypes := #[t, t] } := by rw [ho']
  have hw : Region.wanted o' (yielded ops a.tmps) = true := by rw [ho']; simp [Region.wanted, hgd]
  have k := Kd.R_append_rows_step (P := P) (ops := ops) (o := o') (a := a) (Q := Q) (Kc := K) d (Rr := Rr) (w0 := w0) base hw s x t e z bytes hop ht hinfo hz hs0 hb0 v xs ys A m c ok okp hs hx HO HR hKM hokp hfresh HB hbase hl
    (fun v1 w1 h1 h2 h3 h4 => by rw [hd]; exact hK _ _ (h v1 w1 h1 h2 h3 h4))
  rw [if_pos hw] at k
  have he : (execOp a.eval o).run P W = (execOp a.eval o').run P W := by
    unfold execOp
    simp only [ho, hop, resolve, invoke, builtin, Sem.run_bind, Sem.run_pure, Result.andThen_ok, List.map_toArray, List.map_cons, List.map_nil, hty]
    obtain ⟨i0, hi, _⟩ := Option.map_eq_some_iff.1 hinfo
    rw [append_names hi ht ht']
  unfold Oper.wp at k ⊢
  rw [he]
  unfold Oper.upon at k ⊢
  rw [hd] at k
  exact k
/-- The numbers of a text's bytes. -/
def numsOf (t : ByteArray) : List Int := t.data.toList.map fun b => (b.toNat : Int)
theorem numsOf_length (t : ByteArray) : (numsOf t).length = t.size := by unfold numsOf; rw [List.length_map]; rfl
theorem encs_numsOf (t : ByteArray) : encs (Value.int .u8) (numsOf t) = t.data.toList.map fun b : UInt8 => Value.int .u8 (b.toNat : Int) := by unfold encs numsOf; rw [List.map_map]; rfl
theorem run_copy_text (w : World) (dT sT ty elem : TypeId) (g dLen dCap : Nat) (s : ByteArray) (cur : Array Value) (t : TypeId)
    (hu : P.underlying dT = some (.slice elem)) (hs : (P.info? elem).map (·.size) = some 1) (hg : w.heap[g]? = some (.cells cur t (0, 0))) (hfit : dLen ≤ cur.size) (cs : List Value) (hcs : encs (Value.int .u8) ((numsOf s).take dLen) = cs) :
    (Builtin.copy_ #[dT, sT] ty #[.slice (some ⟨g, 0, none⟩) dLen dCap, .string s]).run P w =
      .ok (goInt (Nat.min s.size dLen)) (w.setRow g (cur.toList.take 0 ++ cs ++ cur.toList.drop (0 + cs.length)).toArray) := by
  have hl : cs.length = Nat.min s.size dLen := by
    rw [← hcs, encs_length, List.length_take, numsOf_length]
    exact Nat.min_comm _ _
  have h1 : ∀ v ∈ cs, v.oneCell' = true := by
    intro v hv
    rw [← hcs] at hv
    unfold encs at hv
    obtain ⟨b, _, rfl⟩ := List.mem_map.1 hv
    rfl
  have hst := run_storeCells_at P g 0 t cs 0 cur w hg (by rw [hl]; have : Nat.min s.size dLen ≤ dLen := Nat.min_le_right _ _; omega) h1
  have htk : List.take (Nat.min s.size dLen) (List.map (fun b : UInt8 => Value.int IntKind.u8 (b.toNat : Int)) s.data.toList) = cs := by
    rw [← hcs, encs_take, encs_numsOf]
    by_cases hc : s.size ≤ dLen
    · rw [show Nat.min s.size dLen = s.size from Nat.min_eq_left hc, List.take_of_length_le (by rw [List.length_map]; exact Nat.le_refl _), List.take_of_length_le (by rw [List.length_map]; exact hc)]
    · rw [show Nat.min s.size dLen = dLen from Nat.min_eq_right (by omega)]
  simp only [Nat.add_zero] at hst
  cases hq : P.info? elem with
  | none => simp [hq] at hs
  | some i =>
    simp [Builtin.copy_, run_underlying hu, Builtin.lenOf, Builtin.firstCells, sizeOf, typeInfo, hq]
    rw [htk, hst]
    simp [Result.andThen]
theorem R_copyS {w0 W : World} (base : Nat) (hgd : o.guard = none) (d s : Operand) (dT sT e : TypeId)
    (ho : o.op = .call { callee := .builtin .copy, args := #[d, s], argTypes := #[dT, sT] }) (hu : P.underlying dT = some (.slice e)) (hsz : (P.info? e).map (·.size) = some 1)
    (v : Value) (xs : List Int) (t : ByteArray) (ok : Nat → Prop) (hd : a.eval d = v) (hs : a.eval s = .string t)
    (HO : Kd.R (Kd.int .u8) e W base ok v xs) (HB : Below base w0 W) (hbase : base ≤ W.heap.size)
    (h : ∀ w1, Kd.R (Kd.int .u8) e w1 base ok v (copyL xs (numsOf t)) → Below base w0 w1 → W.grownBy w1 v.ownBlock → wpList P ops Q rest (a.put o.dst (goInt (Nat.min t.size xs.length))) w1) : wpList P ops Q (o :: rest) a W := by
  have hown := Kd.own_of_R HO
  have fin : ∀ (w1 : World), (Builtin.copy_ #[dT, sT] o.type #[v, .string t]).run P W = .ok (goInt (Nat.min t.size xs.length)) w1 → w1.ownsRow base e 1 v xs.length (encs (Value.int .u8) (copyL xs (numsOf t))) → W.grownBy w1 v.ownBlock → wpList P ops Q (o :: rest) a W := by
    intro w1 hrun h1 hg
    refine wpList_plain hgd fun K hK => ?_
    unfold Oper.wp execOp
    simp only [ho, resolve, invoke, builtin, Sem.run_bind, Sem.run_pure, Result.andThen_ok, List.map_toArray, List.map_cons, List.map_nil, hd, hs, hrun]
    exact hK _ _ (h w1 (Kd.R_of_own (enc := Value.int .u8) (h1 := fun _ => rfl) (by rw [copyL_length]; exact h1) HO.1) (HB.grown hg hbase (own_base hown)) hg)
  have hcl : copyL xs (numsOf t) = (numsOf t).take xs.length ++ xs.drop (numsOf t).length := rfl
  rcases hown.2 with ⟨rfl, h0⟩ | ⟨g, cap, cur, rfl, hb, hh, hnc, hcm, hcs, htk⟩
  · have hx0 : xs = [] := List.eq_nil_of_length_eq_zero h0
    subst hx0
    refine fin W ?_ (by rw [hcl]; simpa [encs] using hown) (World.grownBy.refl W _)
    cases hq : P.info? e with
    | none => simp [hq] at hsz
    | some i => simp [Builtin.copy_, run_underlying hu, Builtin.lenOf, Builtin.firstCells, sizeOf, typeInfo, hq, storeCells]
  · have hrun := run_copy_text (P := P) W dT sT o.type e g xs.length cap t cur e hu hsz hh (by omega) _ rfl
    have hl : (encs (Value.int .u8) ((numsOf t).take xs.length)).length = Nat.min t.size xs.length := by
      rw [encs_length, List.length_take, numsOf_length]
      exact Nat.min_comm _ _
    have hk : encs (Value.int .u8) (copyL xs (numsOf t)) = encs (Value.int .u8) ((numsOf t).take xs.length) ++ (encs (Value.int .u8) xs).drop (encs (Value.int .u8) ((numsOf t).take xs.length)).length := by
      rw [hcl, encs_append, encs_drop, hl, numsOf_length]
      congr 1
      by_cases hc : t.size ≤ xs.length
      · rw [show Nat.min t.size xs.length = t.size from Nat.min_eq_left hc]
      · rw [show Nat.min t.size xs.length = xs.length from Nat.min_eq_right (by omega), List.drop_eq_nil_of_le (by rw [encs_length]; omega), List.drop_eq_nil_of_le (by rw [encs_length]; omega)]
    have hset := own_set hown cur hh (encs (Value.int .u8) ((numsOf t).take xs.length)) (by rw [hl]; exact Nat.min_le_right _ _)
    rw [← hk] at hset
    exact fin _ hrun hset (grown_set W g _)
end
end Go.Proofs.Ytomenklhgofjaaa.Xc
