import Derived.Test.YtoiahmdibibceaaXTbB
import Derived.Test.YtoiahmdibibceaaXTableBytesx1
import Derived.Test.YtoiahmdibibceaaXTableBytesx2
import Derived.Test.YtoiahmdibibceaaXTableBytesx3
import Derived.Test.YtoiahmdibibceaaXTbA
import Derived.Test.YtoiahmdibibceaaXTbRget
import Derived.Test.YtoiahmdibibceaaXTbRput
set_option linter.unusedVariables false
set_option linter.unusedSimpArgs false
namespace Go.Proofs.Ytoiahmdibibceaa.Tb
open Go.RowKit Go.Proofs.YtoiahmdibibceaaW.PrintWords Go.Proofs.YtoiahmdibibceaaW.PrintLast Go.Proofs.YtoiahmdibibceaaW.PrintMore
open Go.Proofs.Ytoiahmdibibceaa.XTableBytes
abbrev Ret (f : Nat) (args : Array Value) (v : Value) : Prop := ∀ w : World, Calls Try.prog f args w fun e w' => e = .returned v ∧ Below w.heap.size w w'
theorem eq37 (e : Nat) (a b c d : Int) (w : World) : (Op.equalIn (e + 2) 37 (.agg #[.int .i64 a, .int .i64 b]) (.agg #[.int .i64 c, .int .i64 d])).run Try.prog w = .ok (a == c && b == d) w := by
  have u3 := Try.underlying3
  rw [Op.equalIn]
  simp only [Sem.run_bind, run_underlying Try.underlying37, Result.andThen_ok]
  simp only [Std.Legacy.Range.forIn_eq_forIn_range', Std.Legacy.Range.size, Nat.sub_zero, Nat.add_sub_cancel, Nat.div_one, List.range'_succ, List.range'_zero, List.forIn_cons, List.forIn_nil]
  go_simp
  by_cases h1 : a = c <;> by_cases h2 : b = d <;> simp [h1, h2]
theorem eq38 (e : Nat) (a b c d : Bool) (w : World) : (Op.equalIn (e + 2) 38 (.agg #[.bool a, .bool b]) (.agg #[.bool c, .bool d])).run Try.prog w = .ok (a == c && b == d) w := by
  have u3 := Try.underlying4
  rw [Op.equalIn]
  simp only [Sem.run_bind, run_underlying Try.underlying38, Result.andThen_ok]
  simp only [Std.Legacy.Range.forIn_eq_forIn_range', Std.Legacy.Range.size, Nat.sub_zero, Nat.add_sub_cancel, Nat.div_one, List.range'_succ, List.range'_zero, List.forIn_cons, List.forIn_nil]
  go_simp
  by_cases h1 : a = c <;> by_cases h2 : b = d <;> simp [h1, h2]
theorem eqA40 (e : Nat) (w : World) (a : Int) (tr : Bool) (ts ls v0 v1 : Int) (g0 g1 : Bool) (a' : Int) (tr' : Bool) (ts' ls' v0' v1' : Int) (g0' g1' : Bool) :
    (Op.equalIn (e + 3) 40 (.agg (bcells a tr ts ls v0 v1 g0 g1)) (.agg (bcells a' tr' ts' ls' v0' v1' g0' g1'))).run Try.prog w = .ok (a == a' && (tr == tr' && (ts == ts' && (ls == ls' && ((v0 == v0' && v1 == v1') && (g0 == g0' && g1 == g1')))))) w := by
  have e1 := eq37 e; have e2 := eq38 e
  refine eqA_of Try.underlying40 (by kernel_rfl) ?_
  refine eqf_cons (by rfl) (by go_simp; rfl) (by go_simp; rfl) (by go_simp) ?_
  refine eqf_cons (by rfl) (by go_simp; rfl) (by go_simp; rfl) (by go_simp) ?_
  refine eqf_cons (by rfl) (by go_simp; rfl) (by go_simp; rfl) (by go_simp) ?_
  refine eqf_cons (by rfl) (by go_simp; rfl) (by go_simp; rfl) (by go_simp) ?_
  refine eqf_cons (by rfl) (by go_simp) (by go_simp) (eq37 e _ _ _ _ w) ?_
  exact eqf_last (by rfl) (by go_simp) (by go_simp) (eq38 e _ _ _ _ w)
attribute [local go_sem high] eqA40
attribute [local go_sem] max2_int min2_int max_two min_two max_three min_three max_four min_four
set_option maxRecDepth 100000 in
set_option maxHeartbeats 16000000 in
theorem bytes_calls (a : Int) (tr : Bool) (ts ls v0 v1 : Int) (g0 g1 : Bool) (a0 t : ByteArray) (a1 : Int) (tr1 : Bool) (ts1 ls1 v01 v11 : Int) (g01 g11 : Bool) (c : Int) (P : ByteArray) (ht : a0.extract 0 (if (100 : Int) < (a0.size : Int) then 100 else (a0.size : Int)).toNat = t) (hz : a0.size ≤ 140737488351232) (g1_ : Ret 47 #[.string t] (.tuple #[.agg (bcells a1 tr1 ts1 ls1 v01 v11 g01 g11), .int .i64 c])) (g2_ : Ret 48 #[.string t] (.tuple #[.agg (bcells a1 tr1 ts1 ls1 v01 v11 g01 g11), .int .i64 c])) (g3_ : c = 0 → Ret 49 #[.agg (bcells a1 tr1 ts1 ls1 v01 v11 g01 g11)] (.string t)) (b1_ : chkB a tr ts ls v0 v1 g0 g1 = true → Ret 49 #[.agg (bcells a tr ts ls v0 v1 g0 g1)] (.string P)) (b2_ : chkB a tr ts ls v0 v1 g0 g1 = true → Ret 50 #[.agg (bcells a tr ts ls v0 v1 g0 g1)] (.string P)) (b3_ : chkB a tr ts ls v0 v1 g0 g1 = true → Ret 47 #[.string P] (.tuple #[.agg (bcells a tr ts ls v0 v1 g0 g1), .int .i64 0])) (w : World) : Calls Try.prog 12 #[.agg (bcells a tr ts ls v0 v1 g0 g1), .string a0] w fun e w' => e = .returned (.bool true) ∧ Below w.heap.size w w' := by
  have G1_ := Aside0.mk g1_
  have G2_ := Aside0.mk g2_
  have G3_ := Aside0.mk g3_
  have B1_ := Aside0.mk b1_
  have B2_ := Aside0.mk b2_
  have B3_ := Aside0.mk b3_
  clear g1_ g2_ g3_ b1_ b2_ b3_
  have q1 := eq_true (show (0 : Int) ≤ (if (100 : Int) < (a0.size : Int) then 100 else (a0.size : Int)) by split <;> omega)
  have q2 := eq_true (show (if (100 : Int) < (a0.size : Int) then 100 else (a0.size : Int)) ≤ (a0.size : Int) by split <;> omega)
  go_enter Try.func12, Try.ntmps12
  go_upto_region 1 with (fail)
  obtain ⟨W, hW⟩ : ∃ W : World, W = w.alloc (.cells (bcells a tr ts ls v0 v1 g0 g1) 40) := ⟨_, rfl⟩
  have bk : W.heap[w.heap.size]? = some (.cells (bcells a tr ts ls v0 v1 g0 g1) 40 (0, 0)) := by rw [hW]; exact blk_new _ _
  have hb : Below w.heap.size w W := by rw [hW]; exact below_alloc (Below.refl _ _) _
  rw [← hW]
  clear hW
  have HB := Aside0.mk hb
  have BK := Aside0.mk bk
  have c0 := (blk_cell bk 0).trans rfl
  have c1 := (blk_cell bk 1).trans rfl
  have c2 := (blk_cell bk 2).trans rfl
  have c3 := (blk_cell bk 3).trans rfl
  have c4 := (blk_cell bk 4).trans rfl
  have c5 := (blk_cell bk 5).trans rfl
  have c6 := (blk_cell bk 6).trans rfl
  have c7 := (blk_cell bk 7).trans rfl
  clear bk hb
  go_upto_region 2 with (fail)
  (try rw [ht])
  clear q1 q2 ht
  generalize (if (100 : Int) < (a0.size : Int) then 100 else (a0.size : Int)) = mn
  have Bc := BK
  clear BK
  go_upto_region 3 with (first | (go_at_call 47; (with_reducible refine (G1_.out _).mono ?_); rintro e w8 ⟨rfl, hb8⟩))
  obtain ⟨g6, hg6⟩ : ∃ g, g = w8.heap.size := ⟨_, rfl⟩
  simp only [← hg6]
  refine wp_gen (fun W => W.heap[w.heap.size]? = some (.cells (bcells a tr ts ls v0 v1 g0 g1) 40 (0, 0)) ∧ W.heap[g6]? = some (.cells (bcells a1 tr1 ts1 ls1 v01 v11 g01 g11) 40 (0, 0)) ∧ Below w.heap.size w W) ⟨blk_alloc (blk_keep Bc.out hb8) _, (by rw [hg6]; exact blk_new _ _), below_alloc (below_step HB.out hb8) _⟩ ?_
  clear hb8 hg6 HB Bc c0 c1 c2 c3 c4 c5 c6 c7
  rintro W ⟨bc, bn, hb⟩
  have HB := Aside0.mk hb
  have Bc := Aside0.mk bc
  have c0 := (blk_cell bc 0).trans rfl
  have c1 := (blk_cell bc 1).trans rfl
  have c2 := (blk_cell bc 2).trans rfl
  have c3 := (blk_cell bc 3).trans rfl
  have c4 := (blk_cell bc 4).trans rfl
  have c5 := (blk_cell bc 5).trans rfl
  have c6 := (blk_cell bc 6).trans rfl
  have c7 := (blk_cell bc 7).trans rfl
  have Bn := Aside0.mk bn
  have n0 := (blk_cell bn 0).trans rfl
  have n1 := (blk_cell bn 1).trans rfl
  have n2 := (blk_cell bn 2).trans rfl
  have n3 := (blk_cell bn 3).trans rfl
  have n4 := (blk_cell bn 4).trans rfl
  have n5 := (blk_cell bn 5).trans rfl
  have n6 := (blk_cell bn 6).trans rfl
  have n7 := (blk_cell bn 7).trans rfl
  clear hb bc bn
  go_upto_region 4 with (first | (go_at_call 48; (with_reducible refine (G2_.out _).mono ?_); rintro e w8 ⟨rfl, hb8⟩))
  obtain ⟨g8, hg8⟩ : ∃ g, g = w8.heap.size := ⟨_, rfl⟩
  simp only [← hg8]
  refine wp_gen (fun W => W.heap[w.heap.size]? = some (.cells (bcells a tr ts ls v0 v1 g0 g1) 40 (0, 0)) ∧ W.heap[g6]? = some (.cells (bcells a1 tr1 ts1 ls1 v01 v11 g01 g11) 40 (0, 0)) ∧ W.heap[g8]? = some (.cells (bcells a1 tr1 ts1 ls1 v01 v11 g01 g11) 40 (0, 0)) ∧ Below w.heap.size w W) ⟨blk_alloc (blk_keep Bc.out hb8) _, blk_alloc (blk_keep Bn.out hb8) _, (by rw [hg8]; exact blk_new _ _), below_alloc (below_step HB.out hb8) _⟩ ?_
  clear hb8 hg8 HB Bc c0 c1 c2 c3 c4 c5 c6 c7 Bn n0 n1 n2 n3 n4 n5 n6 n7
  rintro W ⟨bc, bn, bm, hb⟩
  have HB := Aside0.mk hb
  have Bc := Aside0.mk bc
  have c0 := (blk_cell bc 0).trans rfl
  have c1 := (blk_cell bc 1).trans rfl
  have c2 := (blk_cell bc 2).trans rfl
  have c3 := (blk_cell bc 3).trans rfl
  have c4 := (blk_cell bc 4).trans rfl
  have c5 := (blk_cell bc 5).trans rfl
  have c6 := (blk_cell bc 6).trans rfl
  have c7 := (blk_cell bc 7).trans rfl
  have Bn := Aside0.mk bn
  have n0 := (blk_cell bn 0).trans rfl
  have n1 := (blk_cell bn 1).trans rfl
  have n2 := (blk_cell bn 2).trans rfl
  have n3 := (blk_cell bn 3).trans rfl
  have n4 := (blk_cell bn 4).trans rfl
  have n5 := (blk_cell bn 5).trans rfl
  have n6 := (blk_cell bn 6).trans rfl
  have n7 := (blk_cell bn 7).trans rfl
  have Bm := Aside0.mk bm
  have m0 := (blk_cell bm 0).trans rfl
  have m1 := (blk_cell bm 1).trans rfl
  have m2 := (blk_cell bm 2).trans rfl
  have m3 := (blk_cell bm 3).trans rfl
  have m4 := (blk_cell bm 4).trans rfl
  have m5 := (blk_cell bm 5).trans rfl
  have m6 := (blk_cell bm 6).trans rfl
  have m7 := (blk_cell bm 7).trans rfl
  clear hb bc bn bm
  by_cases hc0 : c = 0
  · have G3 := Aside0.mk (G3_.out hc0)
    clear G3_
    subst hc0
    go_upto_region 6 with (first | (go_at_call 32; (with_reducible refine (awake_calls _).mono ?_); rintro e w8 ⟨rfl, hb8⟩; have bc := blk_keep Bc.out hb8; have Bc := Aside0.mk bc; have c0 := (blk_cell bc 0).trans rfl; have c1 := (blk_cell bc 1).trans rfl; have c2 := (blk_cell bc 2).trans rfl; have c3 := (blk_cell bc 3).trans rfl; have c4 := (blk_cell bc 4).trans rfl; have c5 := (blk_cell bc 5).trans rfl; have c6 := (blk_cell bc 6).trans rfl; have c7 := (blk_cell bc 7).trans rfl; clear bc; have bn := blk_keep Bn.out hb8; have Bn := Aside0.mk bn; have n0 := (blk_cell bn 0).trans rfl; have n1 := (blk_cell bn 1).trans rfl; have n2 := (blk_cell bn 2).trans rfl; have n3 := (blk_cell bn 3).trans rfl; have n4 := (blk_cell bn 4).trans rfl; have n5 := (blk_cell bn 5).trans rfl; have n6 := (blk_cell bn 6).trans rfl; have n7 := (blk_cell bn 7).trans rfl; clear bn; have bm := blk_keep Bm.out hb8; have Bm := Aside0.mk bm; have m0 := (blk_cell bm 0).trans rfl; have m1 := (blk_cell bm 1).trans rfl; have m2 := (blk_cell bm 2).trans rfl; have m3 := (blk_cell bm 3).trans rfl; have m4 := (blk_cell bm 4).trans rfl; have m5 := (blk_cell bm 5).trans rfl; have m6 := (blk_cell bm 6).trans rfl; have m7 := (blk_cell bm 7).trans rfl; clear bm; have HB := Aside0.mk (below_step HB.out hb8); clear hb8) | (go_at_call 49; (with_reducible refine (G3.out _).mono ?_); rintro e w8 ⟨rfl, hb8⟩; have bc := blk_keep Bc.out hb8; have Bc := Aside0.mk bc; have c0 := (blk_cell bc 0).trans rfl; have c1 := (blk_cell bc 1).trans rfl; have c2 := (blk_cell bc 2).trans rfl; have c3 := (blk_cell bc 3).trans rfl; have c4 := (blk_cell bc 4).trans rfl; have c5 := (blk_cell bc 5).trans rfl; have c6 := (blk_cell bc 6).trans rfl; have c7 := (blk_cell bc 7).trans rfl; clear bc; have bn := blk_keep Bn.out hb8; have Bn := Aside0.mk bn; have n0 := (blk_cell bn 0).trans rfl; have n1 := (blk_cell bn 1).trans rfl; have n2 := (blk_cell bn 2).trans rfl; have n3 := (blk_cell bn 3).trans rfl; have n4 := (blk_cell bn 4).trans rfl; have n5 := (blk_cell bn 5).trans rfl; have n6 := (blk_cell bn 6).trans rfl; have n7 := (blk_cell bn 7).trans rfl; clear bn; have bm := blk_keep Bm.out hb8; have Bm := Aside0.mk bm; have m0 := (blk_cell bm 0).trans rfl; have m1 := (blk_cell bm 1).trans rfl; have m2 := (blk_cell bm 2).trans rfl; have m3 := (blk_cell bm 3).trans rfl; have m4 := (blk_cell bm 4).trans rfl; have m5 := (blk_cell bm 5).trans rfl; have m6 := (blk_cell bm 6).trans rfl; have m7 := (blk_cell bm 7).trans rfl; clear bm; have HB := Aside0.mk (below_step HB.out hb8); clear hb8))
    refine wp_gen (fun W => W.heap[w.heap.size]? = some (.cells (bcells a tr ts ls v0 v1 g0 g1) 40 (0, 0)) ∧ Below w.heap.size w W) ⟨Bc.out, HB.out⟩ ?_
    clear G1_ G2_ HB Bc c0 c1 c2 c3 c4 c5 c6 c7 Bn n0 n1 n2 n3 n4 n5 n6 n7 Bm m0 m1 m2 m3 m4 m5 m6 m7
    rintro W ⟨bc, hb⟩
    have HB := Aside0.mk hb
    have Bc := Aside0.mk bc
    have c0 := (blk_cell bc 0).trans rfl
    have c1 := (blk_cell bc 1).trans rfl
    have c2 := (blk_cell bc 2).trans rfl
    have c3 := (blk_cell bc 3).trans rfl
    have c4 := (blk_cell bc 4).trans rfl
    have c5 := (blk_cell bc 5).trans rfl
    have c6 := (blk_cell bc 6).trans rfl
    have c7 := (blk_cell bc 7).trans rfl
    clear hb bc
    by_cases hk : chkB a tr ts ls v0 v1 g0 g1 = true
    · have b1 := Aside0.mk (B1_.out hk)
      have b2 := Aside0.mk (B2_.out hk)
      have b3 := Aside0.mk (B3_.out hk)
      clear B1_ B2_ B3_
      go_upto_region 8 with (first | (go_at_call 37; (with_reducible refine (rcheck_calls _ _ _ _ _ _ _ _ _).mono ?_); rintro e w8 ⟨rfl, hb8⟩; rw [hk]; have bc := blk_keep Bc.out hb8; have Bc := Aside0.mk bc; have c0 := (blk_cell bc 0).trans rfl; have c1 := (blk_cell bc 1).trans rfl; have c2 := (blk_cell bc 2).trans rfl; have c3 := (blk_cell bc 3).trans rfl; have c4 := (blk_cell bc 4).trans rfl; have c5 := (blk_cell bc 5).trans rfl; have c6 := (blk_cell bc 6).trans rfl; have c7 := (blk_cell bc 7).trans rfl; clear bc; have HB := Aside0.mk (below_step HB.out hb8); clear hb8))
      go_upto_region 9 with (first | (go_at_call 49; (with_reducible refine (b1.out _).mono ?_); rintro e w8 ⟨rfl, hb8⟩; have bc := blk_keep Bc.out hb8; have Bc := Aside0.mk bc; have c0 := (blk_cell bc 0).trans rfl; have c1 := (blk_cell bc 1).trans rfl; have c2 := (blk_cell bc 2).trans rfl; have c3 := (blk_cell bc 3).trans rfl; have c4 := (blk_cell bc 4).trans rfl; have c5 := (blk_cell bc 5).trans rfl; have c6 := (blk_cell bc 6).trans rfl; have c7 := (blk_cell bc 7).trans rfl; clear bc; have HB := Aside0.mk (below_step HB.out hb8); clear hb8) | (go_at_call 47; (with_reducible refine (b3.out _).mono ?_); rintro e w8 ⟨rfl, hb8⟩))
      obtain ⟨g10, hg10⟩ : ∃ g, g = w8.heap.size := ⟨_, rfl⟩
      simp only [← hg10]
      refine wp_gen (fun W => W.heap[w.heap.size]? = some (.cells (bcells a tr ts ls v0 v1 g0 g1) 40 (0, 0)) ∧ W.heap[g10]? = some (.cells (bcells a tr ts ls v0 v1 g0 g1) 40 (0, 0)) ∧ Below w.heap.size w W) ⟨blk_alloc (blk_keep Bc.out hb8) _, (by rw [hg10]; exact blk_new _ _), below_alloc (below_step HB.out hb8) _⟩ ?_
      clear hb8 hg10 HB Bc c0 c1 c2 c3 c4 c5 c6 c7
      rintro W ⟨bc, bp, hb⟩
      have HB := Aside0.mk hb
      have c0 := (blk_cell bc 0).trans rfl
      have c1 := (blk_cell bc 1).trans rfl
      have c2 := (blk_cell bc 2).trans rfl
      have c3 := (blk_cell bc 3).trans rfl
      have c4 := (blk_cell bc 4).trans rfl
      have c5 := (blk_cell bc 5).trans rfl
      have c6 := (blk_cell bc 6).trans rfl
      have c7 := (blk_cell bc 7).trans rfl
      have p0 := (blk_cell bp 0).trans rfl
      have p1 := (blk_cell bp 1).trans rfl
      have p2 := (blk_cell bp 2).trans rfl
      have p3 := (blk_cell bp 3).trans rfl
      have p4 := (blk_cell bp 4).trans rfl
      have p5 := (blk_cell bp 5).trans rfl
      have p6 := (blk_cell bp 6).trans rfl
      have p7 := (blk_cell bp 7).trans rfl
      clear bc bp hb
      have KS := Aside0.mk (show ∀ (A B : World), Below A.heap.size A B → (A.cell? ⟨w.heap.size, 0, none⟩ = some (.int .i64 a) ∧ A.cell? ⟨w.heap.size, 1, none⟩ = some (.bool tr) ∧ A.cell? ⟨w.heap.size, 2, none⟩ = some (.int .i64 ts) ∧ A.cell? ⟨w.heap.size, 3, none⟩ = some (.int .i64 ls) ∧ A.cell? ⟨w.heap.size, 4, none⟩ = some (.int .i64 v0) ∧ A.cell? ⟨w.heap.size, 5, none⟩ = some (.int .i64 v1) ∧ A.cell? ⟨w.heap.size, 6, none⟩ = some (.bool g0) ∧ A.cell? ⟨w.heap.size, 7, none⟩ = some (.bool g1) ∧ A.cell? ⟨g10, 0, none⟩ = some (.int .i64 a) ∧ A.cell? ⟨g10, 1, none⟩ = some (.bool tr) ∧ A.cell? ⟨g10, 2, none⟩ = some (.int .i64 ts) ∧ A.cell? ⟨g10, 3, none⟩ = some (.int .i64 ls) ∧ A.cell? ⟨g10, 4, none⟩ = some (.int .i64 v0) ∧ A.cell? ⟨g10, 5, none⟩ = some (.int .i64 v1) ∧ A.cell? ⟨g10, 6, none⟩ = some (.bool g0) ∧ A.cell? ⟨g10, 7, none⟩ = some (.bool g1) ∧ Below w.heap.size w A) → (B.cell? ⟨w.heap.size, 0, none⟩ = some (.int .i64 a) ∧ B.cell? ⟨w.heap.size, 1, none⟩ = some (.bool tr) ∧ B.cell? ⟨w.heap.size, 2, none⟩ = some (.int .i64 ts) ∧ B.cell? ⟨w.heap.size, 3, none⟩ = some (.int .i64 ls) ∧ B.cell? ⟨w.heap.size, 4, none⟩ = some (.int .i64 v0) ∧ B.cell? ⟨w.heap.size, 5, none⟩ = some (.int .i64 v1) ∧ B.cell? ⟨w.heap.size, 6, none⟩ = some (.bool g0) ∧ B.cell? ⟨w.heap.size, 7, none⟩ = some (.bool g1) ∧ B.cell? ⟨g10, 0, none⟩ = some (.int .i64 a) ∧ B.cell? ⟨g10, 1, none⟩ = some (.bool tr) ∧ B.cell? ⟨g10, 2, none⟩ = some (.int .i64 ts) ∧ B.cell? ⟨g10, 3, none⟩ = some (.int .i64 ls) ∧ B.cell? ⟨g10, 4, none⟩ = some (.int .i64 v0) ∧ B.cell? ⟨g10, 5, none⟩ = some (.int .i64 v1) ∧ B.cell? ⟨g10, 6, none⟩ = some (.bool g0) ∧ B.cell? ⟨g10, 7, none⟩ = some (.bool g1) ∧ Below w.heap.size w B) from fun A B hb ⟨h0, h1, h2, h3, h4, h5, h6, h7, h8, h9, h10, h11, h12, h13, h14, h15, h16⟩ => ⟨cell_keep hb h0, cell_keep hb h1, cell_keep hb h2, cell_keep hb h3, cell_keep hb h4, cell_keep hb h5, cell_keep hb h6, cell_keep hb h7, cell_keep hb h8, cell_keep hb h9, cell_keep hb h10, cell_keep hb h11, cell_keep hb h12, cell_keep hb h13, cell_keep hb h14, cell_keep hb h15, below_step h16 hb⟩)
      have HSD := Aside0.mk (show (W.cell? ⟨w.heap.size, 0, none⟩ = some (.int .i64 a) ∧ W.cell? ⟨w.heap.size, 1, none⟩ = some (.bool tr) ∧ W.cell? ⟨w.heap.size, 2, none⟩ = some (.int .i64 ts) ∧ W.cell? ⟨w.heap.size, 3, none⟩ = some (.int .i64 ls) ∧ W.cell? ⟨w.heap.size, 4, none⟩ = some (.int .i64 v0) ∧ W.cell? ⟨w.heap.size, 5, none⟩ = some (.int .i64 v1) ∧ W.cell? ⟨w.heap.size, 6, none⟩ = some (.bool g0) ∧ W.cell? ⟨w.heap.size, 7, none⟩ = some (.bool g1) ∧ W.cell? ⟨g10, 0, none⟩ = some (.int .i64 a) ∧ W.cell? ⟨g10, 1, none⟩ = some (.bool tr) ∧ W.cell? ⟨g10, 2, none⟩ = some (.int .i64 ts) ∧ W.cell? ⟨g10, 3, none⟩ = some (.int .i64 ls) ∧ W.cell? ⟨g10, 4, none⟩ = some (.int .i64 v0) ∧ W.cell? ⟨g10, 5, none⟩ = some (.int .i64 v1) ∧ W.cell? ⟨g10, 6, none⟩ = some (.bool g0) ∧ W.cell? ⟨g10, 7, none⟩ = some (.bool g1) ∧ Below w.heap.size w W) from ⟨c0, c1, c2, c3, c4, c5, c6, c7, p0, p1, p2, p3, p4, p5, p6, p7, HB.out⟩)
      first | (go_region_held3 (fun w' => w'.cell? ⟨w.heap.size, 0, none⟩ = some (.int .i64 a) ∧ w'.cell? ⟨w.heap.size, 1, none⟩ = some (.bool tr) ∧ w'.cell? ⟨w.heap.size, 2, none⟩ = some (.int .i64 ts) ∧ w'.cell? ⟨w.heap.size, 3, none⟩ = some (.int .i64 ls) ∧ w'.cell? ⟨w.heap.size, 4, none⟩ = some (.int .i64 v0) ∧ w'.cell? ⟨w.heap.size, 5, none⟩ = some (.int .i64 v1) ∧ w'.cell? ⟨w.heap.size, 6, none⟩ = some (.bool g0) ∧ w'.cell? ⟨w.heap.size, 7, none⟩ = some (.bool g1) ∧ w'.cell? ⟨g10, 0, none⟩ = some (.int .i64 a) ∧ w'.cell? ⟨g10, 1, none⟩ = some (.bool tr) ∧ w'.cell? ⟨g10, 2, none⟩ = some (.int .i64 ts) ∧ w'.cell? ⟨g10, 3, none⟩ = some (.int .i64 ls) ∧ w'.cell? ⟨g10, 4, none⟩ = some (.int .i64 v0) ∧ w'.cell? ⟨g10, 5, none⟩ = some (.int .i64 v1) ∧ w'.cell? ⟨g10, 6, none⟩ = some (.bool g0) ∧ w'.cell? ⟨g10, 7, none⟩ = some (.bool g1) ∧ Below w.heap.size w w') (first | with_reducible assumption | exact KS.out _ _ (by with_reducible assumption) (by with_reducible assumption) | exact KS.out W _ (below_drew1 (Below.refl _ _)) HSD.out) (first | (go_at_call 49; (with_reducible refine (b1.out _).mono ?_); rintro e w' ⟨rfl, hb⟩) | (go_at_call 50; (with_reducible refine (b2.out _).mono ?_); rintro e w' ⟨rfl, hb⟩))) | fail
      all_goals refine to_wp (fun w' => w'.cell? ⟨w.heap.size, 0, none⟩ = some (.int .i64 a) ∧ w'.cell? ⟨w.heap.size, 1, none⟩ = some (.bool tr) ∧ w'.cell? ⟨w.heap.size, 2, none⟩ = some (.int .i64 ts) ∧ w'.cell? ⟨w.heap.size, 3, none⟩ = some (.int .i64 ls) ∧ w'.cell? ⟨w.heap.size, 4, none⟩ = some (.int .i64 v0) ∧ w'.cell? ⟨w.heap.size, 5, none⟩ = some (.int .i64 v1) ∧ w'.cell? ⟨w.heap.size, 6, none⟩ = some (.bool g0) ∧ w'.cell? ⟨w.heap.size, 7, none⟩ = some (.bool g1) ∧ w'.cell? ⟨g10, 0, none⟩ = some (.int .i64 a) ∧ w'.cell? ⟨g10, 1, none⟩ = some (.bool tr) ∧ w'.cell? ⟨g10, 2, none⟩ = some (.int .i64 ts) ∧ w'.cell? ⟨g10, 3, none⟩ = some (.int .i64 ls) ∧ w'.cell? ⟨g10, 4, none⟩ = some (.int .i64 v0) ∧ w'.cell? ⟨g10, 5, none⟩ = some (.int .i64 v1) ∧ w'.cell? ⟨g10, 6, none⟩ = some (.bool g0) ∧ w'.cell? ⟨g10, 7, none⟩ = some (.bool g1) ∧ Below w.heap.size w w') (by with_reducible assumption) ?_
      all_goals rintro W ⟨h0, h1, h2, h3, h4, h5, h6, h7, h8, h9, h10, h11, h12, h13, h14, h15, hb⟩
      all_goals have HB2 := Aside0.mk hb
      all_goals clear hb
      all_goals go_wp2
      all_goals go_ret
      all_goals exact ⟨rfl, (by repeat (first | with_reducible exact HB2.out | with_reducible apply pw_below_drewN | with_reducible apply below_drew1))⟩
    · have hk0 : chkB a tr ts ls v0 v1 g0 g1 = false := by simpa using hk
      go_wp2_with (first | (go_at_call 37; (with_reducible refine (rcheck_calls _ _ _ _ _ _ _ _ _).mono ?_); rintro e w8 ⟨rfl, hb8⟩; rw [hk0]; have bc := blk_keep Bc.out hb8; have Bc := Aside0.mk bc; have c0 := (blk_cell bc 0).trans rfl; have c1 := (blk_cell bc 1).trans rfl; have c2 := (blk_cell bc 2).trans rfl; have c3 := (blk_cell bc 3).trans rfl; have c4 := (blk_cell bc 4).trans rfl; have c5 := (blk_cell bc 5).trans rfl; have c6 := (blk_cell bc 6).trans rfl; have c7 := (blk_cell bc 7).trans rfl; clear bc; have HB := Aside0.mk (below_step HB.out hb8); clear hb8))
      go_ret
      exact ⟨rfl, (by repeat (first | with_reducible exact HB.out | with_reducible apply pw_below_drewN | with_reducible apply below_drew1))⟩
  · have hc1 : (c == 0) = false := by simpa using hc0
    clear hc0
    go_upto_region 6 with (first | (go_at_call 32; (with_reducible refine (awake_calls _).mono ?_); rintro e w8 ⟨rfl, hb8⟩; have bc := blk_keep Bc.out hb8; have Bc := Aside0.mk bc; have c0 := (blk_cell bc 0).trans rfl; have c1 := (blk_cell bc 1).trans rfl; have c2 := (blk_cell bc 2).trans rfl; have c3 := (blk_cell bc 3).trans rfl; have c4 := (blk_cell bc 4).trans rfl; have c5 := (blk_cell bc 5).trans rfl; have c6 := (blk_cell bc 6).trans rfl; have c7 := (blk_cell bc 7).trans rfl; clear bc; have bn := blk_keep Bn.out hb8; have Bn := Aside0.mk bn; have n0 := (blk_cell bn 0).trans rfl; have n1 := (blk_cell bn 1).trans rfl; have n2 := (blk_cell bn 2).trans rfl; have n3 := (blk_cell bn 3).trans rfl; have n4 := (blk_cell bn 4).trans rfl; have n5 := (blk_cell bn 5).trans rfl; have n6 := (blk_cell bn 6).trans rfl; have n7 := (blk_cell bn 7).trans rfl; clear bn; have bm := blk_keep Bm.out hb8; have Bm := Aside0.mk bm; have m0 := (blk_cell bm 0).trans rfl; have m1 := (blk_cell bm 1).trans rfl; have m2 := (blk_cell bm 2).trans rfl; have m3 := (blk_cell bm 3).trans rfl; have m4 := (blk_cell bm 4).trans rfl; have m5 := (blk_cell bm 5).trans rfl; have m6 := (blk_cell bm 6).trans rfl; have m7 := (blk_cell bm 7).trans rfl; clear bm; have HB := Aside0.mk (below_step HB.out hb8); clear hb8))
    refine wp_gen (fun W => W.heap[w.heap.size]? = some (.cells (bcells a tr ts ls v0 v1 g0 g1) 40 (0, 0)) ∧ Below w.heap.size w W) ⟨Bc.out, HB.out⟩ ?_
    clear G1_ G2_ HB Bc c0 c1 c2 c3 c4 c5 c6 c7 Bn n0 n1 n2 n3 n4 n5 n6 n7 Bm m0 m1 m2 m3 m4 m5 m6 m7
    rintro W ⟨bc, hb⟩
    have HB := Aside0.mk hb
    have Bc := Aside0.mk bc
    have c0 := (blk_cell bc 0).trans rfl
    have c1 := (blk_cell bc 1).trans rfl
    have c2 := (blk_cell bc 2).trans rfl
    have c3 := (blk_cell bc 3).trans rfl
    have c4 := (blk_cell bc 4).trans rfl
    have c5 := (blk_cell bc 5).trans rfl
    have c6 := (blk_cell bc 6).trans rfl
    have c7 := (blk_cell bc 7).trans rfl
    clear hb bc
    by_cases hk : chkB a tr ts ls v0 v1 g0 g1 = true
    · have b1 := Aside0.mk (B1_.out hk)
      have b2 := Aside0.mk (B2_.out hk)
      have b3 := Aside0.mk (B3_.out hk)
      clear B1_ B2_ B3_
      go_upto_region 8 with (first | (go_at_call 37; (with_reducible refine (rcheck_calls _ _ _ _ _ _ _ _ _).mono ?_); rintro e w8 ⟨rfl, hb8⟩; rw [hk]; have bc := blk_keep Bc.out hb8; have Bc := Aside0.mk bc; have c0 := (blk_cell bc 0).trans rfl; have c1 := (blk_cell bc 1).trans rfl; have c2 := (blk_cell bc 2).trans rfl; have c3 := (blk_cell bc 3).trans rfl; have c4 := (blk_cell bc 4).trans rfl; have c5 := (blk_cell bc 5).trans rfl; have c6 := (blk_cell bc 6).trans rfl; have c7 := (blk_cell bc 7).trans rfl; clear bc; have HB := Aside0.mk (below_step HB.out hb8); clear hb8))
      go_upto_region 9 with (first | (go_at_call 49; (with_reducible refine (b1.out _).mono ?_); rintro e w8 ⟨rfl, hb8⟩; have bc := blk_keep Bc.out hb8; have Bc := Aside0.mk bc; have c0 := (blk_cell bc 0).trans rfl; have c1 := (blk_cell bc 1).trans rfl; have c2 := (blk_cell bc 2).trans rfl; have c3 := (blk_cell bc 3).trans rfl; have c4 := (blk_cell bc 4).trans rfl; have c5 := (blk_cell bc 5).trans rfl; have c6 := (blk_cell bc 6).trans rfl; have c7 := (blk_cell bc 7).trans rfl; clear bc; have HB := Aside0.mk (below_step HB.out hb8); clear hb8) | (go_at_call 47; (with_reducible refine (b3.out _).mono ?_); rintro e w8 ⟨rfl, hb8⟩))
      obtain ⟨g10, hg10⟩ : ∃ g, g = w8.heap.size := ⟨_, rfl⟩
      simp only [← hg10]
      refine wp_gen (fun W => W.heap[w.heap.size]? = some (.cells (bcells a tr ts ls v0 v1 g0 g1) 40 (0, 0)) ∧ W.heap[g10]? = some (.cells (bcells a tr ts ls v0 v1 g0 g1) 40 (0, 0)) ∧ Below w.heap.size w W) ⟨blk_alloc (blk_keep Bc.out hb8) _, (by rw [hg10]; exact blk_new _ _), below_alloc (below_step HB.out hb8) _⟩ ?_
      clear hb8 hg10 HB Bc c0 c1 c2 c3 c4 c5 c6 c7
      rintro W ⟨bc, bp, hb⟩
      have HB := Aside0.mk hb
      have c0 := (blk_cell bc 0).trans rfl
      have c1 := (blk_cell bc 1).trans rfl
      have c2 := (blk_cell bc 2).trans rfl
      have c3 := (blk_cell bc 3).trans rfl
      have c4 := (blk_cell bc 4).trans rfl
      have c5 := (blk_cell bc 5).trans rfl
      have c6 := (blk_cell bc 6).trans rfl
      have c7 := (blk_cell bc 7).trans rfl
      have p0 := (blk_cell bp 0).trans rfl
      have p1 := (blk_cell bp 1).trans rfl
      have p2 := (blk_cell bp 2).trans rfl
      have p3 := (blk_cell bp 3).trans rfl
      have p4 := (blk_cell bp 4).trans rfl
      have p5 := (blk_cell bp 5).trans rfl
      have p6 := (blk_cell bp 6).trans rfl
      have p7 := (blk_cell bp 7).trans rfl
      clear bc bp hb
      have KS := Aside0.mk (show ∀ (A B : World), Below A.heap.size A B → (A.cell? ⟨w.heap.size, 0, none⟩ = some (.int .i64 a) ∧ A.cell? ⟨w.heap.size, 1, none⟩ = some (.bool tr) ∧ A.cell? ⟨w.heap.size, 2, none⟩ = some (.int .i64 ts) ∧ A.cell? ⟨w.heap.size, 3, none⟩ = some (.int .i64 ls) ∧ A.cell? ⟨w.heap.size, 4, none⟩ = some (.int .i64 v0) ∧ A.cell? ⟨w.heap.size, 5, none⟩ = some (.int .i64 v1) ∧ A.cell? ⟨w.heap.size, 6, none⟩ = some (.bool g0) ∧ A.cell? ⟨w.heap.size, 7, none⟩ = some (.bool g1) ∧ A.cell? ⟨g10, 0, none⟩ = some (.int .i64 a) ∧ A.cell? ⟨g10, 1, none⟩ = some (.bool tr) ∧ A.cell? ⟨g10, 2, none⟩ = some (.int .i64 ts) ∧ A.cell? ⟨g10, 3, none⟩ = some (.int .i64 ls) ∧ A.cell? ⟨g10, 4, none⟩ = some (.int .i64 v0) ∧ A.cell? ⟨g10, 5, none⟩ = some (.int .i64 v1) ∧ A.cell? ⟨g10, 6, none⟩ = some (.bool g0) ∧ A.cell? ⟨g10, 7, none⟩ = some (.bool g1) ∧ Below w.heap.size w A) → (B.cell? ⟨w.heap.size, 0, none⟩ = some (.int .i64 a) ∧ B.cell? ⟨w.heap.size, 1, none⟩ = some (.bool tr) ∧ B.cell? ⟨w.heap.size, 2, none⟩ = some (.int .i64 ts) ∧ B.cell? ⟨w.heap.size, 3, none⟩ = some (.int .i64 ls) ∧ B.cell? ⟨w.heap.size, 4, none⟩ = some (.int .i64 v0) ∧ B.cell? ⟨w.heap.size, 5, none⟩ = some (.int .i64 v1) ∧ B.cell? ⟨w.heap.size, 6, none⟩ = some (.bool g0) ∧ B.cell? ⟨w.heap.size, 7, none⟩ = some (.bool g1) ∧ B.cell? ⟨g10, 0, none⟩ = some (.int .i64 a) ∧ B.cell? ⟨g10, 1, none⟩ = some (.bool tr) ∧ B.cell? ⟨g10, 2, none⟩ = some (.int .i64 ts) ∧ B.cell? ⟨g10, 3, none⟩ = some (.int .i64 ls) ∧ B.cell? ⟨g10, 4, none⟩ = some (.int .i64 v0) ∧ B.cell? ⟨g10, 5, none⟩ = some (.int .i64 v1) ∧ B.cell? ⟨g10, 6, none⟩ = some (.bool g0) ∧ B.cell? ⟨g10, 7, none⟩ = some (.bool g1) ∧ Below w.heap.size w B) from fun A B hb ⟨h0, h1, h2, h3, h4, h5, h6, h7, h8, h9, h10, h11, h12, h13, h14, h15, h16⟩ => ⟨cell_keep hb h0, cell_keep hb h1, cell_keep hb h2, cell_keep hb h3, cell_keep hb h4, cell_keep hb h5, cell_keep hb h6, cell_keep hb h7, cell_keep hb h8, cell_keep hb h9, cell_keep hb h10, cell_keep hb h11, cell_keep hb h12, cell_keep hb h13, cell_keep hb h14, cell_keep hb h15, below_step h16 hb⟩)
      have HSD := Aside0.mk (show (W.cell? ⟨w.heap.size, 0, none⟩ = some (.int .i64 a) ∧ W.cell? ⟨w.heap.size, 1, none⟩ = some (.bool tr) ∧ W.cell? ⟨w.heap.size, 2, none⟩ = some (.int .i64 ts) ∧ W.cell? ⟨w.heap.size, 3, none⟩ = some (.int .i64 ls) ∧ W.cell? ⟨w.heap.size, 4, none⟩ = some (.int .i64 v0) ∧ W.cell? ⟨w.heap.size, 5, none⟩ = some (.int .i64 v1) ∧ W.cell? ⟨w.heap.size, 6, none⟩ = some (.bool g0) ∧ W.cell? ⟨w.heap.size, 7, none⟩ = some (.bool g1) ∧ W.cell? ⟨g10, 0, none⟩ = some (.int .i64 a) ∧ W.cell? ⟨g10, 1, none⟩ = some (.bool tr) ∧ W.cell? ⟨g10, 2, none⟩ = some (.int .i64 ts) ∧ W.cell? ⟨g10, 3, none⟩ = some (.int .i64 ls) ∧ W.cell? ⟨g10, 4, none⟩ = some (.int .i64 v0) ∧ W.cell? ⟨g10, 5, none⟩ = some (.int .i64 v1) ∧ W.cell? ⟨g10, 6, none⟩ = some (.bool g0) ∧ W.cell? ⟨g10, 7, none⟩ = some (.bool g1) ∧ Below w.heap.size w W) from ⟨c0, c1, c2, c3, c4, c5, c6, c7, p0, p1, p2, p3, p4, p5, p6, p7, HB.out⟩)
      first | (go_region_held3 (fun w' => w'.cell? ⟨w.heap.size, 0, none⟩ = some (.int .i64 a) ∧ w'.cell? ⟨w.heap.size, 1, none⟩ = some (.bool tr) ∧ w'.cell? ⟨w.heap.size, 2, none⟩ = some (.int .i64 ts) ∧ w'.cell? ⟨w.heap.size, 3, none⟩ = some (.int .i64 ls) ∧ w'.cell? ⟨w.heap.size, 4, none⟩ = some (.int .i64 v0) ∧ w'.cell? ⟨w.heap.size, 5, none⟩ = some (.int .i64 v1) ∧ w'.cell? ⟨w.heap.size, 6, none⟩ = some (.bool g0) ∧ w'.cell? ⟨w.heap.size, 7, none⟩ = some (.bool g1) ∧ w'.cell? ⟨g10, 0, none⟩ = some (.int .i64 a) ∧ w'.cell? ⟨g10, 1, none⟩ = some (.bool tr) ∧ w'.cell? ⟨g10, 2, none⟩ = some (.int .i64 ts) ∧ w'.cell? ⟨g10, 3, none⟩ = some (.int .i64 ls) ∧ w'.cell? ⟨g10, 4, none⟩ = some (.int .i64 v0) ∧ w'.cell? ⟨g10, 5, none⟩ = some (.int .i64 v1) ∧ w'.cell? ⟨g10, 6, none⟩ = some (.bool g0) ∧ w'.cell? ⟨g10, 7, none⟩ = some (.bool g1) ∧ Below w.heap.size w w') (first | with_reducible assumption | exact KS.out _ _ (by with_reducible assumption) (by with_reducible assumption) | exact KS.out W _ (below_drew1 (Below.refl _ _)) HSD.out) (first | (go_at_call 49; (with_reducible refine (b1.out _).mono ?_); rintro e w' ⟨rfl, hb⟩) | (go_at_call 50; (with_reducible refine (b2.out _).mono ?_); rintro e w' ⟨rfl, hb⟩))) | fail
      all_goals refine to_wp (fun w' => w'.cell? ⟨w.heap.size, 0, none⟩ = some (.int .i64 a) ∧ w'.cell? ⟨w.heap.size, 1, none⟩ = some (.bool tr) ∧ w'.cell? ⟨w.heap.size, 2, none⟩ = some (.int .i64 ts) ∧ w'.cell? ⟨w.heap.size, 3, none⟩ = some (.int .i64 ls) ∧ w'.cell? ⟨w.heap.size, 4, none⟩ = some (.int .i64 v0) ∧ w'.cell? ⟨w.heap.size, 5, none⟩ = some (.int .i64 v1) ∧ w'.cell? ⟨w.heap.size, 6, none⟩ = some (.bool g0) ∧ w'.cell? ⟨w.heap.size, 7, none⟩ = some (.bool g1) ∧ w'.cell? ⟨g10, 0, none⟩ = some (.int .i64 a) ∧ w'.cell? ⟨g10, 1, none⟩ = some (.bool tr) ∧ w'.cell? ⟨g10, 2, none⟩ = some (.int .i64 ts) ∧ w'.cell? ⟨g10, 3, none⟩ = some (.int .i64 ls) ∧ w'.cell? ⟨g10, 4, none⟩ = some (.int .i64 v0) ∧ w'.cell? ⟨g10, 5, none⟩ = some (.int .i64 v1) ∧ w'.cell? ⟨g10, 6, none⟩ = some (.bool g0) ∧ w'.cell? ⟨g10, 7, none⟩ = some (.bool g1) ∧ Below w.heap.size w w') (by with_reducible assumption) ?_
      all_goals rintro W ⟨h0, h1, h2, h3, h4, h5, h6, h7, h8, h9, h10, h11, h12, h13, h14, h15, hb⟩
      all_goals have HB2 := Aside0.mk hb
      all_goals clear hb
      all_goals go_wp2
      all_goals go_ret
      all_goals exact ⟨rfl, (by repeat (first | with_reducible exact HB2.out | with_reducible apply pw_below_drewN | with_reducible apply below_drew1))⟩
    · have hk0 : chkB a tr ts ls v0 v1 g0 g1 = false := by simpa using hk
      go_wp2_with (first | (go_at_call 37; (with_reducible refine (rcheck_calls _ _ _ _ _ _ _ _ _).mono ?_); rintro e w8 ⟨rfl, hb8⟩; rw [hk0]; have bc := blk_keep Bc.out hb8; have Bc := Aside0.mk bc; have c0 := (blk_cell bc 0).trans rfl; have c1 := (blk_cell bc 1).trans rfl; have c2 := (blk_cell bc 2).trans rfl; have c3 := (blk_cell bc 3).trans rfl; have c4 := (blk_cell bc 4).trans rfl; have c5 := (blk_cell bc 5).trans rfl; have c6 := (blk_cell bc 6).trans rfl; have c7 := (blk_cell bc 7).trans rfl; clear bc; have HB := Aside0.mk (below_step HB.out hb8); clear hb8))
      go_ret
      exact ⟨rfl, (by repeat (first | with_reducible exact HB.out | with_reducible apply pw_below_drewN | with_reducible apply below_drew1))⟩
end Go.Proofs.Ytoiahmdibibceaa.Tb
