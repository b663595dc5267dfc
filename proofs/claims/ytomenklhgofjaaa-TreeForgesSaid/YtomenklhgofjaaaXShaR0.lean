/- The reference's wide products: walked by hand. Conditions: none. -/
import Derived.Test.YtomenklhgofjaaaXSha2
set_option linter.unusedVariables false
set_option linter.unusedSimpArgs false
namespace Go.Proofs.Ytomenklhgofjaaa.Sh
open Go.RowKit Go.Proofs.YtomenklhgofjaaaW.PrintWords Go.Proofs.YtomenklhgofjaaaW.PrintLast Go.Proofs.YtomenklhgofjaaaW.PrintMore
def cells64 (xs : List Int) : Array Value := (nums .u64 xs).toArray
/-- An array of words in memory. -/
def Bq (w : World) (g : Nat) (t : TypeId) (xs : List Int) : Prop := w.heap[g]? = some (.cells (cells64 xs) t (0, 0))
theorem cells64_get (xs : List Int) (i : Nat) (h : i < xs.length) : (cells64 xs)[i]? = some (.int .u64 (xs.getD i 0)) := by
  unfold cells64 nums
  rw [List.getElem?_toArray, List.getElem?_map, List.getElem?_eq_getElem h, List.getD_eq_getElem?_getD, List.getElem?_eq_getElem h]
  rfl
theorem cells64_set (xs : List Int) (i : Nat) (x : Int) : (cells64 xs).setIfInBounds i (.int .u64 x) = cells64 (xs.set i x) := by
  unfold cells64 nums
  rw [List.setIfInBounds_toArray, List.map_set]
theorem Bq.cell {w : World} {g : Nat} {t : TypeId} {xs : List Int} (h : Bq w g t xs) (i : Nat) (hi : i < xs.length) : w.cell? ⟨g, i, none⟩ = some (.int .u64 (xs.getD i 0)) := (blk_cell h i).trans (cells64_get xs i hi)
theorem Bq.frozen {w : World} {g : Nat} {t : TypeId} {xs : List Int} (h : Bq w g t xs) (i : Nat) : w.frozen? ⟨g, i, none⟩ = false := blk_frozen h i
theorem Bq.set {w : World} {g : Nat} {t : TypeId} {xs : List Int} (h : Bq w g t xs) (i : Nat) (x : Int) : Bq (w.setCell ⟨g, i, none⟩ (.int .u64 x)) g t (xs.set i x) := blk_put h i _ (cells64_set xs i x)
theorem Bq.far {w : World} {g : Nat} {t : TypeId} {xs : List Int} (h : Bq w g t xs) {p : Addr} (hp : g ≠ p.block) (u : Value) : Bq (w.setCell p u) g t xs := blk_far h hp u
theorem Bq.below {w w1 : World} {g : Nat} {t : TypeId} {xs : List Int} (h : Bq w g t xs) (hb : Below w.heap.size w w1) : Bq w1 g t xs := blk_below h hb
theorem Bq.drewN {w : World} {g : Nat} {t : TypeId} {xs : List Int} (h : Bq w g t xs) (n : Nat) : Bq (w.drewN n) g t xs := h
theorem Bq.alloc {w : World} {g : Nat} {t : TypeId} {xs : List Int} (h : Bq w g t xs) (o : Obj) : Bq (w.alloc o) g t xs := blk_alloc h o
theorem Bq.lt {w : World} {g : Nat} {t : TypeId} {xs : List Int} (h : Bq w g t xs) : g < w.heap.size := blk_lt h
theorem cells64_size (xs : List Int) : (cells64 xs).size = xs.length := by unfold cells64 nums; simp
theorem cells64_one (xs : List Int) : (cells64 xs).all (·.oneCell') = true := by
  unfold cells64 nums
  rw [Array.all_eq_true_iff_forall_mem]
  intro v hv
  have hv' : v ∈ xs.map (Value.int .u64) := by simpa using hv
  obtain ⟨x, _, rfl⟩ := List.mem_map.1 hv'
  rfl
theorem Bq.row {w : World} {g g' : Nat} {t : TypeId} {xs : List Int} (h : Bq w g t xs) (hne : g ≠ g') (cs : Array Value) : Bq (w.setRow g' cs) g t xs := (setRow_other w g' g cs hne).trans h
theorem Bq.self {w : World} {g : Nat} {t : TypeId} {xs : List Int} (h : Bq w g t xs) (ys : List Int) : Bq (w.setRow g (cells64 ys)) g t ys := setRow_heap w g _ _ t _ h
theorem Bq.drew {w : World} {g : Nat} {t : TypeId} {xs : List Int} (h : Bq w g t xs) : Bq w.drew g t xs := h

theorem info95 : (Try.prog.info? 95).map (·.size) = some 4 := by kernel_rfl
theorem list4 {l : List Int} (h : l.length = 4) : ∃ a b c d, l = [a, b, c, d] := by
  match l, h with
  | [a, b, c, d], _ => exact ⟨a, b, c, d, rfl⟩
/-- What is there: the two numbers, and the product so far. -/
structure T4 (w wr : World) (a b o : List Int) : Prop where
  hb : Below w.heap.size w wr
  b0 : Bq wr w.heap.size 95 a
  b1 : Bq wr (w.heap.size + 1) 95 b
  b2 : Bq wr (w.heap.size + 1 + 1) 95 [0, 0, 0, 0]
  b3 : Bq wr (w.heap.size + 1 + 1 + 1) 95 o
section
variable {w wr : World} {a b o : List Int}
theorem T4.drew (m : T4 w wr a b o) (n : Nat) : T4 w (wr.drewN n) a b o := ⟨pw_below_drewN m.hb n, m.b0, m.b1, m.b2, m.b3⟩
theorem T4.drew1 (m : T4 w wr a b o) : T4 w wr.drew a b o := ⟨m.hb.drew, m.b0, m.b1, m.b2, m.b3⟩
theorem T4.put (m : T4 w wr a b o) (i : Nat) (x : Int) : T4 w (wr.setCell ⟨w.heap.size + 1 + 1 + 1, i, none⟩ (.int .u64 x)) a b (o.set i x) :=
  ⟨below_set m.hb (by omega), m.b0.far (show _ ≠ w.heap.size + 1 + 1 + 1 by omega) _, m.b1.far (show _ ≠ w.heap.size + 1 + 1 + 1 by omega) _, m.b2.far (show _ ≠ w.heap.size + 1 + 1 + 1 by omega) _, m.b3.set i x⟩
theorem T4.start (w : World) {c0 c1 c2 c3 : Array Value} (h0 : c0 = cells64 a) (h1 : c1 = cells64 b) (h2 : c2 = cells64 [0, 0, 0, 0]) (h3 : c3 = cells64 o) : T4 w ((((w.alloc (.cells c0 95)).alloc (.cells c1 95)).alloc (.cells c2 95)).alloc (.cells c3 95)) a b o := by
  subst h0; subst h1; subst h2; subst h3
  exact ⟨below_alloc (below_alloc (below_alloc (below_alloc (Below.refl _ _) _) _) _) _, blk_alloc (blk_alloc (blk_alloc (blk_new _ _) _) _) _, blk_alloc (blk_alloc (at_new (by simp) _) _) _, blk_alloc (at_new (by simp) _) _, at_new (by simp) _⟩
end
/-- A product's parts: the inner rounds from k on. -/
def X4 (o a b v : Int) : Int := IntKind.u64.wrap (IntKind.u64.wrap (o + IntKind.u64.wrap (a * b)) + v)
def tin (a b : List Int) (i : Nat) : Nat → Nat → List Int → Int → List Int
  | 0, _, o, _ => o
  | f + 1, k, o, v => tin a b i f (k + 1) (o.set (i + k) ((X4 (o.getD (i + k) 0) (a.getD i 0) (b.getD k 0) v).tmod 4294967296)) (IntKind.u64.wrap ((X4 (o.getD (i + k) 0) (a.getD i 0) (b.getD k 0) v).tdiv 4294967296))
def tout (a b : List Int) : Nat → List Int → List Int
  | 0, o => o
  | f + 1, o => tout a b f (tin a b (4 - (f + 1)) (f + 1) 0 o 0)
theorem tin_len (a b : List Int) (i f : Nat) : ∀ k o v, (tin a b i f k o v).length = o.length := by
  induction f with
  | zero => intro k o v; rfl
  | succ f ih => intro k o v; unfold tin; rw [ih, List.length_set]
set_option maxHeartbeats 8000000 in
set_option maxRecDepth 100000 in
theorem times_calls4 (a0 a1 a2 a3 b0 b1 b2 b3 : Int) (w : World) : Calls Try.prog 65 #[.agg #[.int .u64 a0, .int .u64 a1, .int .u64 a2, .int .u64 a3], .agg #[.int .u64 b0, .int .u64 b1, .int .u64 b2, .int .u64 b3]] w fun e w' => e = .returned (.agg (cells64 (tout [a0, a1, a2, a3] [b0, b1, b2, b3] 4 [0, 0, 0, 0]))) ∧ Below w.heap.size w w' := by
  obtain ⟨av, ea⟩ : ∃ av, av = [a0, a1, a2, a3] := ⟨_, rfl⟩
  obtain ⟨bv, eb⟩ : ∃ bv, bv = [b0, b1, b2, b3] := ⟨_, rfl⟩
  obtain ⟨R, hR⟩ : ∃ R, tout av bv 4 [0, 0, 0, 0] = R := ⟨_, rfl⟩
  rw [← ea, ← eb, hR]
  have HR := Aside0.mk hR
  have HA := Aside0.mk ea
  have HB := Aside0.mk eb
  have LA := Aside0.mk (show av.length = 4 by rw [ea]; rfl)
  have LB := Aside0.mk (show bv.length = 4 by rw [eb]; rfl)
  clear hR ea eb
  go_enter Try.func65, Try.ntmps65
  go_wp2
  go_loopg [6] 4 (fun kq v6 w' => ∃ (i : Nat) (o : List Int), kq + i = 4 ∧ o.length = 4 ∧ v6 = .int .i64 i ∧ Aside0 (tout av bv kq o = R) ∧ Aside0 (T4 w w' av bv o))
  case atStart => exact ⟨0, [0, 0, 0, 0], by omega, rfl, rfl, HR, ⟨T4.start w (by rw [HA.out]; rfl) (by rw [HB.out]; rfl) rfl rfl⟩⟩
  case round =>
    obtain ⟨i, o, hki, hol, rfl, HT, M⟩ := hrel
    cases gk with
    | zero =>
      have p1 : decide ((i : Int) < 4) = false := decide_eq_false (by omega)
      have HO := Aside0.mk (show o = R from HT.out)
      have HL := Aside0.mk hol
      clear HT hol
      go_wp2_with (first
        | (refine wpList_load_row rfl 95 (.tmp 5) rfl (w.heap.size + 1 + 1 + 1) rfl 95 (cells64 o) (0, 0) _ M.out.b3 Try.underlying95 rfl (by rw [cells64_size, HL.out]; exact info95) ?_)
        | (refine wpList_store_row rfl 95 (.tmp 4) (.tmp 44) rfl (w.heap.size + 1 + 1) (cells64 o) rfl rfl 95 (cells64 [0, 0, 0, 0]) M.out.b2 (by rw [cells64_size, HL.out]; exact info95) (by rw [cells64_size, cells64_size, HL.out]; rfl) (cells64_one o) ?_))
      refine bodyPost_ret (results_cell_row rfl _ _ (w.heap.size + 1 + 1) 95 (cells64 o) (0, 0) _ rfl (setRow_heap _ _ _ _ _ _ M.out.b2) Try.underlying95 rfl (by rw [cells64_size, HL.out]; exact info95)) rfl ?_
      exact ⟨by rw [HO.out], below_setRow M.out.hb (by omega) _⟩
    | succ g =>
      have p1 : decide ((i : Int) < 4) = true := decide_eq_true (by omega)
      have p2 := eq_true (show (i : Int) < 4 by omega)
      have HO := Aside0.mk hol
      clear hol
      go_wp2
      go_loopg [8, 7] (g + 1) (fun kq v8 v7 w' => ∃ (k : Nat) (o' : List Int) (v : Int), kq + k + i = 4 ∧ v8 = .int .i64 k ∧ v7 = .int .u64 v ∧ Aside0 (o'.length = 4) ∧ Aside0 (tout av bv g (tin av bv i kq k o' v) = R) ∧ Aside0 (T4 w w' av bv o'))
      case atStart => exact ⟨0, o, 0, by omega, rfl, rfl, HO, ⟨by have h := HT.out; unfold tout at h; rw [show i = 4 - (g + 1) by omega]; exact h⟩, M⟩
      case round =>
        obtain ⟨k, o', v, hk, rfl, rfl, HO', HT', M'⟩ := hrel
        cases gk with
        | zero =>
          have q1 : decide ((k : Int) + (i : Int) < 4) = false := decide_eq_false (by omega)
          have q2 : IntKind.i64.wrap ((k : Int) + (i : Int)) = (k : Int) + (i : Int) := by rw [IntKind.wrap_i64]; omega
          go_wp2
          go_roundg g
          case measure => omega
          case rel => exact ⟨i + 1, o', by omega, HO'.out, rfl, HT', M'⟩
        | succ f =>
          have q1 : decide ((k : Int) + (i : Int) < 4) = true := decide_eq_true (by omega)
          have q2 : IntKind.i64.wrap ((k : Int) + (i : Int)) = (k : Int) + (i : Int) := by rw [IntKind.wrap_i64]; omega
          have q3 : IntKind.i64.wrap ((i : Int) + (k : Int)) = (i : Int) + (k : Int) := by rw [IntKind.wrap_i64]; omega
          have q4 : ((i : Int) + (k : Int)).toNat = i + k := by omega
          have q5 := eq_true (show (i : Int) + (k : Int) < 4 by omega)
          have q6 := eq_true (show 0 ≤ (i : Int) + (k : Int) by omega)
          have q7 := eq_true (show (k : Int) < 4 by omega)
          have x0 := M'.out.b0.cell i (by rw [LA.out]; omega)
          have x1 := M'.out.b1.cell k (by rw [LB.out]; omega)
          have x3 := M'.out.b3.cell (i + k) (by rw [HO'.out]; omega)
          have z3 := M'.out.b3.frozen (i + k)
          obtain ⟨xa, ea⟩ : ∃ x, av.getD i 0 = x := ⟨_, rfl⟩
          obtain ⟨xb, eb⟩ : ∃ x, bv.getD k 0 = x := ⟨_, rfl⟩
          obtain ⟨xo, eo⟩ : ∃ x, o'.getD (i + k) 0 = x := ⟨_, rfl⟩
          rw [ea] at x0
          rw [eb] at x1
          rw [eo] at x3
          have EA := Aside0.mk ea
          have EB := Aside0.mk eb
          have EO := Aside0.mk eo
          clear ea eb eo
          go_wp2
          go_quiet (fail)
          go_wp2
          have M2 := Aside0.mk ((M'.out.drew nq).put (i + k) ((X4 xo xa xb v).tmod 4294967296))
          clear M'
          go_roundg f
          case measure => omega
          case rel => exact ⟨k + 1, o'.set (i + k) ((X4 xo xa xb v).tmod 4294967296), IntKind.u64.wrap ((X4 xo xa xb v).tdiv 4294967296), by omega, rfl, rfl, ⟨by rw [List.length_set]; exact HO'.out⟩, ⟨by have h := HT'.out; unfold tin at h; rw [EA.out, EB.out, EO.out] at h; exact h⟩, M2⟩
theorem times_calls (a b : List Int) (ha : a.length = 4) (hb : b.length = 4) (w : World) : Calls Try.prog 65 #[.agg (cells64 a), .agg (cells64 b)] w fun e w' => e = .returned (.agg (cells64 (tout a b 4 [0, 0, 0, 0]))) ∧ Below w.heap.size w w' := by
  obtain ⟨a0, a1, a2, a3, rfl⟩ := list4 ha
  obtain ⟨b0, b1, b2, b3, rfl⟩ := list4 hb
  exact times_calls4 a0 a1 a2 a3 b0 b1 b2 b3 w
theorem tout_len (a b : List Int) (f : Nat) : ∀ o, (tout a b f o).length = o.length := by
  induction f with
  | zero => intro o; rfl
  | succ f ih => intro o; unfold tout; rw [ih, tin_len]
/-- Is a number at most p times 2^32 to a part? -/
def mo (a : List Int) (p part : Int) : Nat → Bool
  | 0 => true
  | f + 1 => if (f : Int) = part then (if a.getD f 0 = p then mo a p part f else decide (a.getD f 0 < p)) else (if a.getD f 0 = 0 then mo a p part f else decide (a.getD f 0 < 0))
set_option maxHeartbeats 8000000 in
set_option maxRecDepth 100000 in
theorem most_calls4 (a0 a1 a2 a3 p part : Int) (w : World) : Calls Try.prog 66 #[.agg #[.int .u64 a0, .int .u64 a1, .int .u64 a2, .int .u64 a3], .int .u64 p, .int .i64 part] w fun e w' => e = .returned (.bool (mo [a0, a1, a2, a3] p part 4)) ∧ Below w.heap.size w w' := by
  obtain ⟨av, ea⟩ : ∃ av, av = [a0, a1, a2, a3] := ⟨_, rfl⟩
  obtain ⟨R, hR⟩ : ∃ R, mo av p part 4 = R := ⟨_, rfl⟩
  rw [← ea, hR]
  have HR := Aside0.mk hR
  have HA := Aside0.mk ea
  have LA := Aside0.mk (show av.length = 4 by rw [ea]; rfl)
  have B0 := Aside0.mk (show Bq (w.alloc (.cells #[.int .u64 a0, .int .u64 a1, .int .u64 a2, .int .u64 a3] 95)) w.heap.size 95 av by rw [ea]; exact blk_new _ _)
  clear hR ea
  go_enter Try.func66, Try.ntmps66
  go_wp2
  obtain ⟨W, hW⟩ : ∃ W, W = w.alloc (.cells #[.int .u64 a0, .int .u64 a1, .int .u64 a2, .int .u64 a3] 95) := ⟨_, rfl⟩
  rw [← hW] at B0 ⊢
  have HW := Aside0.mk (show Below w.heap.size w W by rw [hW]; exact below_alloc (Below.refl _ _) _)
  clear hW
  go_loopg [7] 4 (fun kq v7 w' => kq ≤ 4 ∧ v7 = .int .i64 ((kq : Int) - 1) ∧ Aside0 (mo av p part kq = R) ∧ w' = W)
  case atStart => exact ⟨by omega, rfl, HR, rfl⟩
  case round =>
    obtain ⟨hk, rfl, HM, rfl⟩ := hrel
    cases gk with
    | zero =>
      have hm : true = R := HM.out
      subst hm
      clear HR HM
      go_wp2
      go_ret
      exact ⟨rfl, HW.out⟩
    | succ f =>
      have e1 : ((f + 1 : Nat) : Int) - 1 = (f : Int) := by omega
      rw [e1]
      clear e1
      have x0 := B0.out.cell f (by rw [LA.out]; omega)
      have hm := HM.out
      unfold mo at hm
      obtain ⟨x, ex⟩ : ∃ x, av.getD f 0 = x := ⟨_, rfl⟩
      rw [ex] at x0 hm
      have HX := Aside0.mk hm
      clear hm ex HR HM
      have q1 : decide (0 ≤ (f : Int)) = true := decide_eq_true (by omega)
      have q2 := eq_true (show (f : Int) < 4 by omega)
      by_cases hp : (f : Int) = part
      · have c1 : ((f : Int) == part) = true := beq_iff_eq.mpr hp
        have HX1 := Aside0.mk ((if_pos hp).symm.trans HX.out)
        clear hp HX
        by_cases hx : x = p
        · have c2 : (x == p) = true := beq_iff_eq.mpr hx
          have c3 : (x != p) = false := bne_eq_false_iff_eq.mpr hx
          have HX2 := Aside0.mk ((if_pos hx).symm.trans HX1.out)
          clear hx HX1
          go_wp2
          go_roundg f
          case measure => omega
          case rel => exact ⟨by omega, by first | rfl | (congr 1; omega), HX2, rfl⟩
        · have c2 : (x == p) = false := beq_eq_false_iff_ne.mpr hx
          have c3 : (x != p) = true := bne_iff_ne.mpr hx
          have hz := (if_neg hx).symm.trans HX1.out
          clear hx HX1
          subst hz
          go_wp2
          go_ret
          exact ⟨rfl, HW.out⟩
      · have c1 : ((f : Int) == part) = false := beq_eq_false_iff_ne.mpr hp
        have HX1 := Aside0.mk ((if_neg hp).symm.trans HX.out)
        clear hp HX
        by_cases hx : x = 0
        · have c2 : (x == 0) = true := beq_iff_eq.mpr hx
          have c3 : (x != 0) = false := bne_eq_false_iff_eq.mpr hx
          have HX2 := Aside0.mk ((if_pos hx).symm.trans HX1.out)
          clear hx HX1
          go_wp2
          go_roundg f
          case measure => omega
          case rel => exact ⟨by omega, by first | rfl | (congr 1; omega), HX2, rfl⟩
        · have c2 : (x == 0) = false := beq_eq_false_iff_ne.mpr hx
          have c3 : (x != 0) = true := bne_iff_ne.mpr hx
          have hz := (if_neg hx).symm.trans HX1.out
          clear hx HX1
          subst hz
          go_wp2
          go_ret
          exact ⟨rfl, HW.out⟩
end Go.Proofs.Ytomenklhgofjaaa.Sh
