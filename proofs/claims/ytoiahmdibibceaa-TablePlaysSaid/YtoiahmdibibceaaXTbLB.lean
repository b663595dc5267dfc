import Derived.Test.YtoiahmdibibceaaXTbRC
import Derived.Test.YtoiahmdibibceaaXTbRS
import Derived.Test.YtoiahmdibibceaaXTbRA
import Derived.Test.YtoiahmdibibceaaXTbLA
import Derived.Test.YtoiahmdibibceaaXTbB
set_option linter.unusedVariables false
set_option linter.unusedSimpArgs false
namespace Go.Proofs.Ytoiahmdibibceaa.Tb
open Go.RowKit Go.Proofs.YtoiahmdibibceaaW.PrintWords Go.Proofs.YtoiahmdibibceaaW.PrintLast Go.Proofs.YtoiahmdibibceaaW.PrintMore
theorem eq37 (e : Nat) (a b c d : Int) (w : World) : (Op.equalIn (e + 2) 37 (.agg #[.int .i64 a, .int .i64 b]) (.agg #[.int .i64 c, .int .i64 d])).run Try.prog w = .ok (a == c && b == d) w := by
  have u3 := Try.underlying3
  rw [Op.equalIn]
  simp only [Sem.run_bind, run_underlying Try.underlying37, Result.andThen_ok]
  simp only [Std.Legacy.Range.forIn_eq_forIn_range', Std.Legacy.Range.size, Nat.sub_zero, Nat.add_sub_cancel, Nat.div_one, List.range'_succ, List.range'_zero, List.forIn_cons, List.forIn_nil]
  go_simp
  by_cases h1 : a = c <;> by_cases h2 : b = d <;> simp [h1, h2]
theorem eq38 (e : Nat) (a b c d : Bool) (w : World) : (Op.equalIn (e + 2) 38 (.agg #[.bool a, .bool b]) (.agg #[.bool c, .bool d])).run Try.prog w = .ok (a == c && b == d) w := by
  have u3 := Try.underlying4
  rw [Op.equalIn]
  simp only [Sem.run_bind, run_underlying Try.underlying38, Result.andThen_ok]
  simp only [Std.Legacy.Range.forIn_eq_forIn_range', Std.Legacy.Range.size, Nat.sub_zero, Nat.add_sub_cancel, Nat.div_one, List.range'_succ, List.range'_zero, List.forIn_cons, List.forIn_nil]
  go_simp
  by_cases h1 : a = c <;> by_cases h2 : b = d <;> simp [h1, h2]
theorem eqA40 (e : Nat) (w : World) (a : Int) (tr : Bool) (ts ls v0 v1 : Int) (g0 g1 : Bool) (a' : Int) (tr' : Bool) (ts' ls' v0' v1' : Int) (g0' g1' : Bool) :
    (Op.equalIn (e + 3) 40 (.agg (bcells a tr ts ls v0 v1 g0 g1)) (.agg (bcells a' tr' ts' ls' v0' v1' g0' g1'))).run Try.prog w = .ok (a == a' && (tr == tr' && (ts == ts' && (ls == ls' && ((v0 == v0' && v1 == v1') && (g0 == g0' && g1 == g1')))))) w := by
  have e1 := eq37 e; have e2 := eq38 e
  refine eqA_of Try.underlying40 (by kernel_rfl) ?_
  refine eqf_cons (by rfl) (by go_simp; rfl) (by go_simp; rfl) (by go_simp) ?_
  refine eqf_cons (by rfl) (by go_simp; rfl) (by go_simp; rfl) (by go_simp) ?_
  refine eqf_cons (by rfl) (by go_simp; rfl) (by go_simp; rfl) (by go_simp) ?_
  refine eqf_cons (by rfl) (by go_simp; rfl) (by go_simp; rfl) (by go_simp) ?_
  refine eqf_cons (by rfl) (by go_simp) (by go_simp) (eq37 e _ _ _ _ w) ?_
  exact eqf_last (by rfl) (by go_simp) (by go_simp) (eq38 e _ _ _ _ w)
attribute [local go_sem high] eqA40
theorem to_wp {Q : Exit → Act → World → Prop} {E : Exit} {A : Act} {W : World} (Good : World → Prop) (h : Good W) (k : ∀ W, Good W → Q E A W) : Q E A W := k W h
theorem cell_keep {w w1 : World} {p : Addr} {v : Value} (hb : Below w.heap.size w w1) (h : w.cell? p = some v) : w1.cell? p = some v := (hb.cell (World.block_lt_of_cell? w p h)).trans h
theorem start_a (x : Bt) : x.start.1 = x.start.2.1.a := by
  unfold Bt.start; split <;> rfl
theorem lact_y (x : Bt) (k n : Int) {a1 : Int} {tr1 : Bool} {ts1 ls1 v01 v11 : Int} {g01 g11 : Bool} {c : Int} (h : x.act k n = (⟨a1, tr1, ts1, ls1, v01, v11, g01, g11⟩, c)) (w : World) : Calls Try.prog 34 #[.agg (bcells x.a x.tr x.ts x.ls x.v0 x.v1 x.g0 x.g1), .agg #[.int .i64 k, .int .i64 n]] w fun e w' => e = .returned (.tuple #[.agg (bcells a1 tr1 ts1 ls1 v01 v11 g01 g11), .int .i64 c]) ∧ Below w.heap.size w w' := by
  have q := lact_calls x k n w; rw [h] at q; exact q
theorem ract_y (x : Bt) (k n : Int) {a1 : Int} {tr1 : Bool} {ts1 ls1 v01 v11 : Int} {g01 g11 : Bool} {c : Int} (h : x.act k n = (⟨a1, tr1, ts1, ls1, v01, v11, g01, g11⟩, c)) (w : World) : Calls Try.prog 35 #[.agg (bcells x.a x.tr x.ts x.ls x.v0 x.v1 x.g0 x.g1), .int .i64 k, .int .i64 n] w fun e w' => e = .returned (.tuple #[.agg (bcells a1 tr1 ts1 ls1 v01 v11 g01 g11), .int .i64 c]) ∧ Below w.heap.size w w' := by
  have q := ract_calls x k n w; rw [h] at q; exact q
set_option maxRecDepth 100000 in
set_option maxHeartbeats 32000000 in
theorem acts_calls (x : Bt) (k n : Int) (w : World) : Calls Try.prog 7 #[.agg x.c, .agg #[.int .i64 k, .int .i64 n]] w fun e w' => e = .returned (.bool true) ∧ Below w.heap.size w w' := by
  rcases hy : x.act k n with ⟨⟨a1, tr1, ts1, ls1, v01, v11, g01, g11⟩, c⟩
  rcases hs : x.start with ⟨s, ⟨a2, tr2, ts2, ls2, v02, v12, g02, g12⟩, q2⟩
  have hsa : s = a2 := by have h := start_a x; rw [hs] at h; exact h
  subst hsa
  have hka : k = 3 → s = a1 := fun h => by subst h; have h2 := hy; unfold Bt.act at h2; have h3 : x.start.2 = (⟨a1, tr1, ts1, ls1, v01, v11, g01, g11⟩, c) := h2; rw [hs] at h3; exact (congrArg (fun p : Bt × Int => p.1.a) h3)
  obtain ⟨a, tr, ts, ls, v0, v1, g0, g1⟩ := x
  show Calls Try.prog 7 #[.agg (bcells a tr ts ls v0 v1 g0 g1), .agg #[.int .i64 k, .int .i64 n]] w _
  have HY := Aside0.mk hy
  have HS := Aside0.mk hs
  have HK := Aside0.mk hka
  clear hy hs hka
  go_enter Try.func7, Try.ntmps7
  go_upto_region 1 with (fail)
  refine wp_gen (fun W => W.heap[w.heap.size]? = some (.cells (bcells a tr ts ls v0 v1 g0 g1) 40 (0, 0)) ∧ W.heap[w.heap.size + 1]? = some (.cells (#[.int .i64 k, .int .i64 n]) 49 (0, 0)) ∧ Below w.heap.size w W) ⟨blk_alloc (blk_new _ _) _, (by have h9 := blk_new (w.alloc (.cells (bcells a tr ts ls v0 v1 g0 g1) 40)) (.cells #[.int .i64 k, .int .i64 n] 49); simpa using h9), (by repeat (first | exact Below.refl _ _ | apply below_alloc))⟩ ?_
  rintro W ⟨bc, bd, hb⟩
  have HB := Aside0.mk hb
  have Bc := Aside0.mk bc
  have c0 := (blk_cell bc 0).trans rfl
  have c1 := (blk_cell bc 1).trans rfl
  have c2 := (blk_cell bc 2).trans rfl
  have c3 := (blk_cell bc 3).trans rfl
  have c4 := (blk_cell bc 4).trans rfl
  have c5 := (blk_cell bc 5).trans rfl
  have c6 := (blk_cell bc 6).trans rfl
  have c7 := (blk_cell bc 7).trans rfl
  have Bd := Aside0.mk bd
  have d0 := (blk_cell bd 0).trans rfl
  have d1 := (blk_cell bd 1).trans rfl
  clear hb bc bd
  go_upto_region 2 with (first | (go_at_call 34; (with_reducible refine (lact_y ⟨a, tr, ts, ls, v0, v1, g0, g1⟩ _ _ HY.out _).mono ?_); rintro e w8 ⟨rfl, hb8⟩))
  obtain ⟨g5, hg5⟩ : ∃ g, g = w8.heap.size := ⟨_, rfl⟩
  simp only [← hg5]
  refine wp_gen (fun W => W.heap[w.heap.size]? = some (.cells (bcells a tr ts ls v0 v1 g0 g1) 40 (0, 0)) ∧ W.heap[w.heap.size + 1]? = some (.cells (#[.int .i64 k, .int .i64 n]) 49 (0, 0)) ∧ W.heap[g5]? = some (.cells (bcells a1 tr1 ts1 ls1 v01 v11 g01 g11) 40 (0, 0)) ∧ Below w.heap.size w W) ⟨blk_alloc (blk_keep Bc.out hb8) _, blk_alloc (blk_keep Bd.out hb8) _, (by rw [hg5]; exact blk_new _ _), below_alloc (below_step HB.out hb8) _⟩ ?_
  clear hb8 hg5 HB Bc c0 c1 c2 c3 c4 c5 c6 c7 Bd d0 d1
  rintro W ⟨bc, bd, bn, hb⟩
  have HB := Aside0.mk hb
  have Bc := Aside0.mk bc
  have c0 := (blk_cell bc 0).trans rfl
  have c1 := (blk_cell bc 1).trans rfl
  have c2 := (blk_cell bc 2).trans rfl
  have c3 := (blk_cell bc 3).trans rfl
  have c4 := (blk_cell bc 4).trans rfl
  have c5 := (blk_cell bc 5).trans rfl
  have c6 := (blk_cell bc 6).trans rfl
  have c7 := (blk_cell bc 7).trans rfl
  have Bd := Aside0.mk bd
  have d0 := (blk_cell bd 0).trans rfl
  have d1 := (blk_cell bd 1).trans rfl
  have Bn := Aside0.mk bn
  have n0 := (blk_cell bn 0).trans rfl
  have n1 := (blk_cell bn 1).trans rfl
  have n2 := (blk_cell bn 2).trans rfl
  have n3 := (blk_cell bn 3).trans rfl
  have n4 := (blk_cell bn 4).trans rfl
  have n5 := (blk_cell bn 5).trans rfl
  have n6 := (blk_cell bn 6).trans rfl
  have n7 := (blk_cell bn 7).trans rfl
  clear hb bc bd bn
  go_upto_region 3 with (first | (go_at_call 35; (with_reducible refine (ract_y ⟨a, tr, ts, ls, v0, v1, g0, g1⟩ _ _ HY.out _).mono ?_); rintro e w8 ⟨rfl, hb8⟩))
  obtain ⟨g7, hg7⟩ : ∃ g, g = w8.heap.size := ⟨_, rfl⟩
  simp only [← hg7]
  refine wp_gen (fun W => W.heap[w.heap.size]? = some (.cells (bcells a tr ts ls v0 v1 g0 g1) 40 (0, 0)) ∧ W.heap[w.heap.size + 1]? = some (.cells (#[.int .i64 k, .int .i64 n]) 49 (0, 0)) ∧ W.heap[g5]? = some (.cells (bcells a1 tr1 ts1 ls1 v01 v11 g01 g11) 40 (0, 0)) ∧ W.heap[g7]? = some (.cells (bcells a1 tr1 ts1 ls1 v01 v11 g01 g11) 40 (0, 0)) ∧ Below w.heap.size w W) ⟨blk_alloc (blk_keep Bc.out hb8) _, blk_alloc (blk_keep Bd.out hb8) _, blk_alloc (blk_keep Bn.out hb8) _, (by rw [hg7]; exact blk_new _ _), below_alloc (below_step HB.out hb8) _⟩ ?_
  clear hb8 hg7 HB Bc c0 c1 c2 c3 c4 c5 c6 c7 Bd d0 d1 Bn n0 n1 n2 n3 n4 n5 n6 n7
  rintro W ⟨bc, bd, bn, bm, hb⟩
  have HB := Aside0.mk hb
  have Bc := Aside0.mk bc
  have c0 := (blk_cell bc 0).trans rfl
  have c1 := (blk_cell bc 1).trans rfl
  have c2 := (blk_cell bc 2).trans rfl
  have c3 := (blk_cell bc 3).trans rfl
  have c4 := (blk_cell bc 4).trans rfl
  have c5 := (blk_cell bc 5).trans rfl
  have c6 := (blk_cell bc 6).trans rfl
  have c7 := (blk_cell bc 7).trans rfl
  have Bd := Aside0.mk bd
  have d0 := (blk_cell bd 0).trans rfl
  have d1 := (blk_cell bd 1).trans rfl
  have Bn := Aside0.mk bn
  have n0 := (blk_cell bn 0).trans rfl
  have n1 := (blk_cell bn 1).trans rfl
  have n2 := (blk_cell bn 2).trans rfl
  have n3 := (blk_cell bn 3).trans rfl
  have n4 := (blk_cell bn 4).trans rfl
  have n5 := (blk_cell bn 5).trans rfl
  have n6 := (blk_cell bn 6).trans rfl
  have n7 := (blk_cell bn 7).trans rfl
  have Bm := Aside0.mk bm
  have m0 := (blk_cell bm 0).trans rfl
  have m1 := (blk_cell bm 1).trans rfl
  have m2 := (blk_cell bm 2).trans rfl
  have m3 := (blk_cell bm 3).trans rfl
  have m4 := (blk_cell bm 4).trans rfl
  have m5 := (blk_cell bm 5).trans rfl
  have m6 := (blk_cell bm 6).trans rfl
  have m7 := (blk_cell bm 7).trans rfl
  clear hb bc bd bn bm
  go_upto_region 4 with (first | (go_at_call 33; (with_reducible refine (start_y ⟨a, tr, ts, ls, v0, v1, g0, g1⟩ HS.out _).mono ?_); rintro e w8 ⟨rfl, hb8⟩))
  obtain ⟨g10, hg10⟩ : ∃ g, g = w8.heap.size := ⟨_, rfl⟩
  simp only [← hg10]
  refine wp_gen (fun W => W.heap[w.heap.size]? = some (.cells (bcells a tr ts ls v0 v1 g0 g1) 40 (0, 0)) ∧ W.heap[w.heap.size + 1]? = some (.cells (#[.int .i64 k, .int .i64 n]) 49 (0, 0)) ∧ W.heap[g5]? = some (.cells (bcells a1 tr1 ts1 ls1 v01 v11 g01 g11) 40 (0, 0)) ∧ W.heap[g7]? = some (.cells (bcells a1 tr1 ts1 ls1 v01 v11 g01 g11) 40 (0, 0)) ∧ W.heap[g10]? = some (.cells (bcells s tr2 ts2 ls2 v02 v12 g02 g12) 40 (0, 0)) ∧ Below w.heap.size w W) ⟨blk_alloc (blk_keep Bc.out hb8) _, blk_alloc (blk_keep Bd.out hb8) _, blk_alloc (blk_keep Bn.out hb8) _, blk_alloc (blk_keep Bm.out hb8) _, (by rw [hg10]; exact blk_new _ _), below_alloc (below_step HB.out hb8) _⟩ ?_
  clear hb8 hg10 HB Bc c0 c1 c2 c3 c4 c5 c6 c7 Bd d0 d1 Bn n0 n1 n2 n3 n4 n5 n6 n7 Bm m0 m1 m2 m3 m4 m5 m6 m7
  rintro W ⟨bc, bd, bn, bm, bs, hb⟩
  have HB := Aside0.mk hb
  have Bc := Aside0.mk bc
  have c0 := (blk_cell bc 0).trans rfl
  have c1 := (blk_cell bc 1).trans rfl
  have c2 := (blk_cell bc 2).trans rfl
  have c3 := (blk_cell bc 3).trans rfl
  have c4 := (blk_cell bc 4).trans rfl
  have c5 := (blk_cell bc 5).trans rfl
  have c6 := (blk_cell bc 6).trans rfl
  have c7 := (blk_cell bc 7).trans rfl
  have Bd := Aside0.mk bd
  have d0 := (blk_cell bd 0).trans rfl
  have d1 := (blk_cell bd 1).trans rfl
  have Bn := Aside0.mk bn
  have n0 := (blk_cell bn 0).trans rfl
  have n1 := (blk_cell bn 1).trans rfl
  have n2 := (blk_cell bn 2).trans rfl
  have n3 := (blk_cell bn 3).trans rfl
  have n4 := (blk_cell bn 4).trans rfl
  have n5 := (blk_cell bn 5).trans rfl
  have n6 := (blk_cell bn 6).trans rfl
  have n7 := (blk_cell bn 7).trans rfl
  have Bm := Aside0.mk bm
  have m0 := (blk_cell bm 0).trans rfl
  have m1 := (blk_cell bm 1).trans rfl
  have m2 := (blk_cell bm 2).trans rfl
  have m3 := (blk_cell bm 3).trans rfl
  have m4 := (blk_cell bm 4).trans rfl
  have m5 := (blk_cell bm 5).trans rfl
  have m6 := (blk_cell bm 6).trans rfl
  have m7 := (blk_cell bm 7).trans rfl
  have Bs := Aside0.mk bs
  have s0 := (blk_cell bs 0).trans rfl
  have s1 := (blk_cell bs 1).trans rfl
  have s2 := (blk_cell bs 2).trans rfl
  have s3 := (blk_cell bs 3).trans rfl
  have s4 := (blk_cell bs 4).trans rfl
  have s5 := (blk_cell bs 5).trans rfl
  have s6 := (blk_cell bs 6).trans rfl
  have s7 := (blk_cell bs 7).trans rfl
  clear hb bc bd bn bm bs
  obtain ⟨S0, hst⟩ : ∃ q, stF a tr ts g0 g1 = q := ⟨_, rfl⟩
  have KS := Aside0.mk (show ∀ (A B : World), Below A.heap.size A B → (A.cell? ⟨w.heap.size + 1, 0, none⟩ = some (.int .i64 k) ∧ A.cell? ⟨w.heap.size, 0, none⟩ = some (.int .i64 a) ∧ A.cell? ⟨w.heap.size, 1, none⟩ = some (.bool tr) ∧ A.cell? ⟨w.heap.size, 2, none⟩ = some (.int .i64 ts) ∧ A.cell? ⟨w.heap.size, 3, none⟩ = some (.int .i64 ls) ∧ A.cell? ⟨w.heap.size, 4, none⟩ = some (.int .i64 v0) ∧ A.cell? ⟨w.heap.size, 5, none⟩ = some (.int .i64 v1) ∧ A.cell? ⟨w.heap.size, 6, none⟩ = some (.bool g0) ∧ A.cell? ⟨w.heap.size, 7, none⟩ = some (.bool g1) ∧ A.cell? ⟨g5, 0, none⟩ = some (.int .i64 a1) ∧ A.cell? ⟨g5, 1, none⟩ = some (.bool tr1) ∧ A.cell? ⟨g5, 2, none⟩ = some (.int .i64 ts1) ∧ A.cell? ⟨g5, 3, none⟩ = some (.int .i64 ls1) ∧ A.cell? ⟨g5, 4, none⟩ = some (.int .i64 v01) ∧ A.cell? ⟨g5, 5, none⟩ = some (.int .i64 v11) ∧ A.cell? ⟨g5, 6, none⟩ = some (.bool g01) ∧ A.cell? ⟨g5, 7, none⟩ = some (.bool g11) ∧ A.cell? ⟨g7, 0, none⟩ = some (.int .i64 a1) ∧ A.cell? ⟨g7, 1, none⟩ = some (.bool tr1) ∧ A.cell? ⟨g7, 2, none⟩ = some (.int .i64 ts1) ∧ A.cell? ⟨g7, 3, none⟩ = some (.int .i64 ls1) ∧ A.cell? ⟨g7, 4, none⟩ = some (.int .i64 v01) ∧ A.cell? ⟨g7, 5, none⟩ = some (.int .i64 v11) ∧ A.cell? ⟨g7, 6, none⟩ = some (.bool g01) ∧ A.cell? ⟨g7, 7, none⟩ = some (.bool g11) ∧ Below w.heap.size w A) → (B.cell? ⟨w.heap.size + 1, 0, none⟩ = some (.int .i64 k) ∧ B.cell? ⟨w.heap.size, 0, none⟩ = some (.int .i64 a) ∧ B.cell? ⟨w.heap.size, 1, none⟩ = some (.bool tr) ∧ B.cell? ⟨w.heap.size, 2, none⟩ = some (.int .i64 ts) ∧ B.cell? ⟨w.heap.size, 3, none⟩ = some (.int .i64 ls) ∧ B.cell? ⟨w.heap.size, 4, none⟩ = some (.int .i64 v0) ∧ B.cell? ⟨w.heap.size, 5, none⟩ = some (.int .i64 v1) ∧ B.cell? ⟨w.heap.size, 6, none⟩ = some (.bool g0) ∧ B.cell? ⟨w.heap.size, 7, none⟩ = some (.bool g1) ∧ B.cell? ⟨g5, 0, none⟩ = some (.int .i64 a1) ∧ B.cell? ⟨g5, 1, none⟩ = some (.bool tr1) ∧ B.cell? ⟨g5, 2, none⟩ = some (.int .i64 ts1) ∧ B.cell? ⟨g5, 3, none⟩ = some (.int .i64 ls1) ∧ B.cell? ⟨g5, 4, none⟩ = some (.int .i64 v01) ∧ B.cell? ⟨g5, 5, none⟩ = some (.int .i64 v11) ∧ B.cell? ⟨g5, 6, none⟩ = some (.bool g01) ∧ B.cell? ⟨g5, 7, none⟩ = some (.bool g11) ∧ B.cell? ⟨g7, 0, none⟩ = some (.int .i64 a1) ∧ B.cell? ⟨g7, 1, none⟩ = some (.bool tr1) ∧ B.cell? ⟨g7, 2, none⟩ = some (.int .i64 ts1) ∧ B.cell? ⟨g7, 3, none⟩ = some (.int .i64 ls1) ∧ B.cell? ⟨g7, 4, none⟩ = some (.int .i64 v01) ∧ B.cell? ⟨g7, 5, none⟩ = some (.int .i64 v11) ∧ B.cell? ⟨g7, 6, none⟩ = some (.bool g01) ∧ B.cell? ⟨g7, 7, none⟩ = some (.bool g11) ∧ Below w.heap.size w B) from fun A B hb ⟨h0, h1, h2, h3, h4, h5, h6, h7, h8, h9, h10, h11, h12, h13, h14, h15, h16, h17, h18, h19, h20, h21, h22, h23, h24, h25⟩ => ⟨cell_keep hb h0, cell_keep hb h1, cell_keep hb h2, cell_keep hb h3, cell_keep hb h4, cell_keep hb h5, cell_keep hb h6, cell_keep hb h7, cell_keep hb h8, cell_keep hb h9, cell_keep hb h10, cell_keep hb h11, cell_keep hb h12, cell_keep hb h13, cell_keep hb h14, cell_keep hb h15, cell_keep hb h16, cell_keep hb h17, cell_keep hb h18, cell_keep hb h19, cell_keep hb h20, cell_keep hb h21, cell_keep hb h22, cell_keep hb h23, cell_keep hb h24, below_step h25 hb⟩)
  by_cases hc0 : chkB a tr ts ls v0 v1 g0 g1 = false
  · have hc := hc0
    go_region_with (first | (go_at_call 32; (with_reducible refine (awake_calls _).mono ?_); rintro e w' ⟨rfl, hb⟩; have c0 : w'.cell? ⟨w.heap.size, 0, none⟩ = some (.int .i64 a) := cell_keep hb (by first | assumption | exact c0); have c1 : w'.cell? ⟨w.heap.size, 1, none⟩ = some (.bool tr) := cell_keep hb (by first | assumption | exact c1); have c2 : w'.cell? ⟨w.heap.size, 2, none⟩ = some (.int .i64 ts) := cell_keep hb (by first | assumption | exact c2); have c3 : w'.cell? ⟨w.heap.size, 3, none⟩ = some (.int .i64 ls) := cell_keep hb (by first | assumption | exact c3); have c4 : w'.cell? ⟨w.heap.size, 4, none⟩ = some (.int .i64 v0) := cell_keep hb (by first | assumption | exact c4); have c5 : w'.cell? ⟨w.heap.size, 5, none⟩ = some (.int .i64 v1) := cell_keep hb (by first | assumption | exact c5); have c6 : w'.cell? ⟨w.heap.size, 6, none⟩ = some (.bool g0) := cell_keep hb (by first | assumption | exact c6); have c7 : w'.cell? ⟨w.heap.size, 7, none⟩ = some (.bool g1) := cell_keep hb (by first | assumption | exact c7); have d0 : w'.cell? ⟨w.heap.size + 1, 0, none⟩ = some (.int .i64 k) := cell_keep hb (by first | assumption | exact d0); have n0 : w'.cell? ⟨g5, 0, none⟩ = some (.int .i64 a1) := cell_keep hb (by first | assumption | exact n0); have n1 : w'.cell? ⟨g5, 1, none⟩ = some (.bool tr1) := cell_keep hb (by first | assumption | exact n1); have n2 : w'.cell? ⟨g5, 2, none⟩ = some (.int .i64 ts1) := cell_keep hb (by first | assumption | exact n2); have n3 : w'.cell? ⟨g5, 3, none⟩ = some (.int .i64 ls1) := cell_keep hb (by first | assumption | exact n3); have n4 : w'.cell? ⟨g5, 4, none⟩ = some (.int .i64 v01) := cell_keep hb (by first | assumption | exact n4); have n5 : w'.cell? ⟨g5, 5, none⟩ = some (.int .i64 v11) := cell_keep hb (by first | assumption | exact n5); have n6 : w'.cell? ⟨g5, 6, none⟩ = some (.bool g01) := cell_keep hb (by first | assumption | exact n6); have n7 : w'.cell? ⟨g5, 7, none⟩ = some (.bool g11) := cell_keep hb (by first | assumption | exact n7); have m0 : w'.cell? ⟨g7, 0, none⟩ = some (.int .i64 a1) := cell_keep hb (by first | assumption | exact m0); have m1 : w'.cell? ⟨g7, 1, none⟩ = some (.bool tr1) := cell_keep hb (by first | assumption | exact m1); have m2 : w'.cell? ⟨g7, 2, none⟩ = some (.int .i64 ts1) := cell_keep hb (by first | assumption | exact m2); have m3 : w'.cell? ⟨g7, 3, none⟩ = some (.int .i64 ls1) := cell_keep hb (by first | assumption | exact m3); have m4 : w'.cell? ⟨g7, 4, none⟩ = some (.int .i64 v01) := cell_keep hb (by first | assumption | exact m4); have m5 : w'.cell? ⟨g7, 5, none⟩ = some (.int .i64 v11) := cell_keep hb (by first | assumption | exact m5); have m6 : w'.cell? ⟨g7, 6, none⟩ = some (.bool g01) := cell_keep hb (by first | assumption | exact m6); have m7 : w'.cell? ⟨g7, 7, none⟩ = some (.bool g11) := cell_keep hb (by first | assumption | exact m7); have hw : Below w.heap.size w w' := below_step (by first | assumption | exact below_drew1 HB.out) hb; clear hb) | (go_at_call 36; (with_reducible refine (check_calls _ _ _ _ _ _ _ _ _).mono ?_); rintro e w' ⟨rfl, hb⟩; rw [hc]; have c0 : w'.cell? ⟨w.heap.size, 0, none⟩ = some (.int .i64 a) := cell_keep hb (by first | assumption | exact c0); have c1 : w'.cell? ⟨w.heap.size, 1, none⟩ = some (.bool tr) := cell_keep hb (by first | assumption | exact c1); have c2 : w'.cell? ⟨w.heap.size, 2, none⟩ = some (.int .i64 ts) := cell_keep hb (by first | assumption | exact c2); have c3 : w'.cell? ⟨w.heap.size, 3, none⟩ = some (.int .i64 ls) := cell_keep hb (by first | assumption | exact c3); have c4 : w'.cell? ⟨w.heap.size, 4, none⟩ = some (.int .i64 v0) := cell_keep hb (by first | assumption | exact c4); have c5 : w'.cell? ⟨w.heap.size, 5, none⟩ = some (.int .i64 v1) := cell_keep hb (by first | assumption | exact c5); have c6 : w'.cell? ⟨w.heap.size, 6, none⟩ = some (.bool g0) := cell_keep hb (by first | assumption | exact c6); have c7 : w'.cell? ⟨w.heap.size, 7, none⟩ = some (.bool g1) := cell_keep hb (by first | assumption | exact c7); have d0 : w'.cell? ⟨w.heap.size + 1, 0, none⟩ = some (.int .i64 k) := cell_keep hb (by first | assumption | exact d0); have n0 : w'.cell? ⟨g5, 0, none⟩ = some (.int .i64 a1) := cell_keep hb (by first | assumption | exact n0); have hw : Below w.heap.size w w' := below_step (by first | assumption | exact below_drew1 HB.out) hb; clear hb) | (go_at_call 37; (with_reducible refine (rcheck_calls _ _ _ _ _ _ _ _ _).mono ?_); rintro e w' ⟨rfl, hb⟩; rw [hc]; have c0 : w'.cell? ⟨w.heap.size, 0, none⟩ = some (.int .i64 a) := cell_keep hb (by first | assumption | exact c0); have c1 : w'.cell? ⟨w.heap.size, 1, none⟩ = some (.bool tr) := cell_keep hb (by first | assumption | exact c1); have c2 : w'.cell? ⟨w.heap.size, 2, none⟩ = some (.int .i64 ts) := cell_keep hb (by first | assumption | exact c2); have c3 : w'.cell? ⟨w.heap.size, 3, none⟩ = some (.int .i64 ls) := cell_keep hb (by first | assumption | exact c3); have c4 : w'.cell? ⟨w.heap.size, 4, none⟩ = some (.int .i64 v0) := cell_keep hb (by first | assumption | exact c4); have c5 : w'.cell? ⟨w.heap.size, 5, none⟩ = some (.int .i64 v1) := cell_keep hb (by first | assumption | exact c5); have c6 : w'.cell? ⟨w.heap.size, 6, none⟩ = some (.bool g0) := cell_keep hb (by first | assumption | exact c6); have c7 : w'.cell? ⟨w.heap.size, 7, none⟩ = some (.bool g1) := cell_keep hb (by first | assumption | exact c7); have d0 : w'.cell? ⟨w.heap.size + 1, 0, none⟩ = some (.int .i64 k) := cell_keep hb (by first | assumption | exact d0); have n0 : w'.cell? ⟨g5, 0, none⟩ = some (.int .i64 a1) := cell_keep hb (by first | assumption | exact n0); have hw : Below w.heap.size w w' := below_step (by first | assumption | exact below_drew1 HB.out) hb; clear hb))
    all_goals by_cases hq : q2 = 0
    all_goals first | (have hq0 : (q2 != 0) = true := (by simpa using hq); clear hq; go_wp2; go_ret; exact ⟨rfl, (by repeat (first | assumption | with_reducible apply pw_below_drewN | with_reducible apply below_drew1))⟩) | (subst hq; by_cases hk : k = 3 <;> first | (subst hk; obtain rfl := HK.out rfl; go_wp2; go_ret; exact ⟨rfl, (by repeat (first | assumption | with_reducible apply pw_below_drewN | with_reducible apply below_drew1))⟩) | (have hk0 : (k != 3) = true := (by simpa using hk); clear hk; go_wp2; go_ret; exact ⟨rfl, (by repeat (first | assumption | with_reducible apply pw_below_drewN | with_reducible apply below_drew1))⟩))
  have hc : chkB a tr ts ls v0 v1 g0 g1 = true := by simpa using hc0
  clear hc0
  have HA := Aside0.mk (chk_a hc)
  have HT := Aside0.mk (chk_ts hc)
  first | (go_region_held3 (fun w' => w'.cell? ⟨w.heap.size + 1, 0, none⟩ = some (.int .i64 k) ∧ w'.cell? ⟨w.heap.size, 0, none⟩ = some (.int .i64 a) ∧ w'.cell? ⟨w.heap.size, 1, none⟩ = some (.bool tr) ∧ w'.cell? ⟨w.heap.size, 2, none⟩ = some (.int .i64 ts) ∧ w'.cell? ⟨w.heap.size, 3, none⟩ = some (.int .i64 ls) ∧ w'.cell? ⟨w.heap.size, 4, none⟩ = some (.int .i64 v0) ∧ w'.cell? ⟨w.heap.size, 5, none⟩ = some (.int .i64 v1) ∧ w'.cell? ⟨w.heap.size, 6, none⟩ = some (.bool g0) ∧ w'.cell? ⟨w.heap.size, 7, none⟩ = some (.bool g1) ∧ w'.cell? ⟨g5, 0, none⟩ = some (.int .i64 a1) ∧ w'.cell? ⟨g5, 1, none⟩ = some (.bool tr1) ∧ w'.cell? ⟨g5, 2, none⟩ = some (.int .i64 ts1) ∧ w'.cell? ⟨g5, 3, none⟩ = some (.int .i64 ls1) ∧ w'.cell? ⟨g5, 4, none⟩ = some (.int .i64 v01) ∧ w'.cell? ⟨g5, 5, none⟩ = some (.int .i64 v11) ∧ w'.cell? ⟨g5, 6, none⟩ = some (.bool g01) ∧ w'.cell? ⟨g5, 7, none⟩ = some (.bool g11) ∧ w'.cell? ⟨g7, 0, none⟩ = some (.int .i64 a1) ∧ w'.cell? ⟨g7, 1, none⟩ = some (.bool tr1) ∧ w'.cell? ⟨g7, 2, none⟩ = some (.int .i64 ts1) ∧ w'.cell? ⟨g7, 3, none⟩ = some (.int .i64 ls1) ∧ w'.cell? ⟨g7, 4, none⟩ = some (.int .i64 v01) ∧ w'.cell? ⟨g7, 5, none⟩ = some (.int .i64 v11) ∧ w'.cell? ⟨g7, 6, none⟩ = some (.bool g01) ∧ w'.cell? ⟨g7, 7, none⟩ = some (.bool g11) ∧ Below w.heap.size w w') (first | assumption | exact ⟨d0, c0, c1, c2, c3, c4, c5, c6, c7, n0, n1, n2, n3, n4, n5, n6, n7, m0, m1, m2, m3, m4, m5, m6, m7, below_drew1 HB.out⟩ | exact KS.out _ _ (by assumption) (by assumption)) (first | (go_at_call 32; (with_reducible refine (awake_calls _).mono ?_); rintro e w' ⟨rfl, hb⟩) | (go_at_call 36; (with_reducible refine (check_calls _ _ _ _ _ _ _ _ _).mono ?_); rintro e w' ⟨rfl, hb⟩; rw [hc]) | (go_at_call 37; (with_reducible refine (rcheck_calls _ _ _ _ _ _ _ _ _).mono ?_); rintro e w' ⟨rfl, hb⟩; rw [hc]) | (go_at_call 38; (with_reducible refine (state_calls _ _ _ _ _ _ _ _ _ HA.out).mono ?_); rintro e w' ⟨rfl, hb⟩; rw [hst]) | (go_at_call 39; (with_reducible refine (rstate_calls _ _ _ _ _ _ _ _ _ HA.out HT.out.1).mono ?_); rintro e w' ⟨rfl, hb⟩; rw [hst]))) | fail
  all_goals refine to_wp (fun w' => w'.cell? ⟨w.heap.size + 1, 0, none⟩ = some (.int .i64 k) ∧ w'.cell? ⟨w.heap.size, 0, none⟩ = some (.int .i64 a) ∧ w'.cell? ⟨w.heap.size, 1, none⟩ = some (.bool tr) ∧ w'.cell? ⟨w.heap.size, 2, none⟩ = some (.int .i64 ts) ∧ w'.cell? ⟨w.heap.size, 3, none⟩ = some (.int .i64 ls) ∧ w'.cell? ⟨w.heap.size, 4, none⟩ = some (.int .i64 v0) ∧ w'.cell? ⟨w.heap.size, 5, none⟩ = some (.int .i64 v1) ∧ w'.cell? ⟨w.heap.size, 6, none⟩ = some (.bool g0) ∧ w'.cell? ⟨w.heap.size, 7, none⟩ = some (.bool g1) ∧ w'.cell? ⟨g5, 0, none⟩ = some (.int .i64 a1) ∧ w'.cell? ⟨g5, 1, none⟩ = some (.bool tr1) ∧ w'.cell? ⟨g5, 2, none⟩ = some (.int .i64 ts1) ∧ w'.cell? ⟨g5, 3, none⟩ = some (.int .i64 ls1) ∧ w'.cell? ⟨g5, 4, none⟩ = some (.int .i64 v01) ∧ w'.cell? ⟨g5, 5, none⟩ = some (.int .i64 v11) ∧ w'.cell? ⟨g5, 6, none⟩ = some (.bool g01) ∧ w'.cell? ⟨g5, 7, none⟩ = some (.bool g11) ∧ w'.cell? ⟨g7, 0, none⟩ = some (.int .i64 a1) ∧ w'.cell? ⟨g7, 1, none⟩ = some (.bool tr1) ∧ w'.cell? ⟨g7, 2, none⟩ = some (.int .i64 ts1) ∧ w'.cell? ⟨g7, 3, none⟩ = some (.int .i64 ls1) ∧ w'.cell? ⟨g7, 4, none⟩ = some (.int .i64 v01) ∧ w'.cell? ⟨g7, 5, none⟩ = some (.int .i64 v11) ∧ w'.cell? ⟨g7, 6, none⟩ = some (.bool g01) ∧ w'.cell? ⟨g7, 7, none⟩ = some (.bool g11) ∧ Below w.heap.size w w') (by assumption) ?_
  all_goals clear HB Bc Bd Bn Bm Bs KS c0 c1 c2 c3 c4 c5 c6 c7 n0 n1 n2 n3 n4 n5 n6 n7 m0 m1 m2 m3 m4 m5 m6 m7 s0 s1 s2 s3 s4 s5 s6 s7 d0 d1
  all_goals rintro W ⟨d0, c0, c1, c2, c3, c4, c5, c6, c7, n0, n1, n2, n3, n4, n5, n6, n7, m0, m1, m2, m3, m4, m5, m6, m7, hb⟩
  all_goals have HB := Aside0.mk hb
  all_goals clear hb
  all_goals by_cases hq : q2 = 0
  all_goals first | (have hq0 : (q2 != 0) = true := (by simpa using hq); clear hq; go_wp2; go_ret; exact ⟨rfl, (by repeat (first | with_reducible exact HB.out | with_reducible apply pw_below_drewN | with_reducible apply below_drew1))⟩) | (subst hq; by_cases hk : k = 3 <;> first | (subst hk; obtain rfl := HK.out rfl; go_wp2; go_ret; exact ⟨rfl, (by repeat (first | with_reducible exact HB.out | with_reducible apply pw_below_drewN | with_reducible apply below_drew1))⟩) | (have hk0 : (k != 3) = true := (by simpa using hk); clear hk; go_wp2; go_ret; exact ⟨rfl, (by repeat (first | with_reducible exact HB.out | with_reducible apply pw_below_drewN | with_reducible apply below_drew1))⟩))
end Go.Proofs.Ytoiahmdibibceaa.Tb
