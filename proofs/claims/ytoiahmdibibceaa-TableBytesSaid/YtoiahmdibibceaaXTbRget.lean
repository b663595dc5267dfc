import Derived.Test.YtoiahmdibibceaaXTableBytesx1
import Derived.Test.YtoiahmdibibceaaXTableBytesx2
import Derived.Test.YtoiahmdibibceaaXTableBytesx3
import Derived.Test.YtoiahmdibibceaaXTbA
import Derived.Test.YtoiahmdibibceaaXTbGet
import Derived.Test.YtoiahmdibibceaaXTbPut
import Derived.Test.YtoiahmdibibceaaXTbRC
set_option linter.unusedVariables false
set_option linter.unusedSimpArgs false
namespace Go.Proofs.Ytoiahmdibibceaa.Tb
open Go.RowKit Go.Proofs.YtoiahmdibibceaaW.PrintWords Go.Proofs.YtoiahmdibibceaaW.PrintLast Go.Proofs.YtoiahmdibibceaaW.PrintMore
open Go.Proofs.Ytoiahmdibibceaa.XTableBytes
/-- The states of the reader, and what was read, behind so many numbers. -/
structure Rd where
  s : Nat → ByteArray
  e : Nat → Int
  n : Nat → Int
def mostF (i : Nat) : Int := if i = 0 then 1 else if i = 1 then 1 else if i = 2 then 7 else if i = 3 then 1073741824 else if i = 4 then 1073741824 else if i = 5 then 1 else if i = 6 then 1073741824 else 1
def Rd.l (x : Rd) (i : Nat) : List Int := (List.range i).map x.n
theorem Rd.l_succ (x : Rd) (i : Nat) : x.l (i + 1) = x.l i ++ [x.n i] := by simp [Rd.l, List.range_succ]
theorem cell_far {w : World} {p q : Addr} {v u : Value} (h : w.cell? p = some v) (hne : p.block ≠ q.block) : (w.setCell q u).cell? p = some v := (World.cell?_of_block (w := w) (Below.heap_setCell w q u p.block hne)).trans h
theorem R_own_ge {α : Type} {d : Kd α} {e base : Nat} {ok : Nat → Prop} {W : World} {v : Value} {xs : List α} {q : Nat} (h : d.R e W base ok v xs) (hk : v.ownBlock = some q) : base ≤ q := by
  obtain ⟨_, inner, hown, _⟩ := h
  exact own_base hown q hk
open Go.Proofs.YtoiahmdibibceaaW.PrintWords.Kd in
theorem row_cell {W : World} {base : Nat} {ok : Nat → Prop} {v : Value} {xs : List Int} (h : Kd.R (Kd.int .u64) 22 W base ok v xs) (h0 : 0 < xs.length) :
    ∃ g c, v = .slice (some ⟨g, 0, none⟩) xs.length c ∧ base ≤ g ∧ g < W.heap.size ∧ ∀ (j : Nat), j < xs.length → W.cell? ⟨g, j, none⟩ = some (.int .u64 (xs.getD j 0)) := by
  obtain ⟨A, c, hv⟩ := Kd.R_slice h
  subst hv
  have hA : ∃ g, A = some ⟨g, 0, none⟩ ∧ base ≤ g ∧ g < W.heap.size := by
    obtain ⟨_, inner, ho, _⟩ := h
    have hb := own_base ho
    have hl := own_lt ho
    rcases ho.2 with ⟨hv, _⟩ | ⟨g, cap', cur, hv, _⟩
    · injection hv with _ e2 _
      omega
    · injection hv with ha _ _
      subst ha
      exact ⟨g, rfl, hb g rfl, hl g rfl⟩
  obtain ⟨g, rfl, hg, hgl⟩ := hA
  refine ⟨g, c, rfl, hg, hgl, fun j hj => ?_⟩
  obtain ⟨cs, hl, hM, hc⟩ := Kd.R_getA h (0 : Int) (j : Int) (by omega) (by omega)
  have hcs : cs = [.int .u64 (xs.getD (j : Int).toNat 0)] := hM
  have := hc 0 (.int .u64 (xs.getD j 0)) (by rw [hcs]; rfl)
  rcases Nat.eq_zero_or_pos j with rfl | hp
  · simpa [Addr.add, Kd.int, Kd.scalar] using this
  · have hp0 : j ≠ 0 := by omega
    simpa [Addr.add, Kd.int, Kd.scalar, hp0] using this
theorem Rd.l_len (x : Rd) (i : Nat) : (x.l i).length = i := by simp [Rd.l]
abbrev mostC : Array Value := #[.int .u64 1, .int .u64 1, .int .u64 7, .int .u64 1073741824, .int .u64 1073741824, .int .u64 1, .int .u64 1073741824, .int .u64 1]
theorem most_at {i : Nat} (hi : i < 8) : mostC[i]? = some (.int .u64 (mostF i)) := by
  have : i = 0 ∨ i = 1 ∨ i = 2 ∨ i = 3 ∨ i = 4 ∨ i = 5 ∨ i = 6 ∨ i = 7 := by omega
  rcases this with rfl | rfl | rfl | rfl | rfl | rfl | rfl | rfl <;> rfl
set_option maxRecDepth 100000 in
set_option maxHeartbeats 16000000 in
theorem rget_calls (k : Nat) (t : ByteArray) (x : Rd) (r : Int) (h0 : x.s 0 = t ∧ x.e 0 = 0) (h : ∀ i, i < 8 → tinderboxref04_At_Num.f k (x.s i) (x.e i) (mostF i) = some (x.s (i + 1), x.e (i + 1), x.n i)) (hE : tinderboxref04_At_End.f (x.s 8) (x.e 8) = some r) (b : ∀ i, i < 8 → 0 ≤ x.n i ∧ x.n i ≤ 1073741824) (w : World) : Calls Try.prog 48 #[.string t] w fun e w' => e = .returned (.tuple #[.agg (getR ⟨x.n 0, x.n 1 == 1, x.n 2, x.n 3, x.n 4, x.n 6, x.n 5 == 1, x.n 7 == 1⟩ r).1.c, .int .i64 (getR ⟨x.n 0, x.n 1 == 1, x.n 2, x.n 3, x.n 4, x.n 6, x.n 5 == 1, x.n 7 == 1⟩ r).2]) ∧ Below w.heap.size w w' := by
  have HH := Aside0.mk (And.intro h0 (And.intro h (And.intro hE b)))
  clear h0 h hE b
  go_enter Try.func48, Try.ntmps48
  go_upto_region 3 with (fail)
  refine wp_gen (fun W => W.heap[w.heap.size]? = some (.cells (bcells 0 false 0 0 0 0 false false) 40 (0, 0)) ∧ W.heap[w.heap.size + 1]? = some (.cells #[.string t, .int .i64 0] 66 (0, 0)) ∧ W.heap[w.heap.size + 1 + 1]? = some (.cells mostC 22 (0, 0)) ∧ Below w.heap.size w W) ⟨blk_alloc (blk_alloc (blk_new _ _) _) _, blk_alloc (by have h9 := blk_new (w.alloc (.cells (bcells 0 false 0 0 0 0 false false) 40)) (.cells #[.string t, .int .i64 0] 66); simpa using h9) _, (by have h9 := blk_new ((w.alloc (.cells (bcells 0 false 0 0 0 0 false false) 40)).alloc (.cells #[.string t, .int .i64 0] 66)) (.cells mostC 22); simpa using h9), below_alloc (below_alloc (below_alloc (Below.refl _ _) _) _) _⟩ ?_
  rintro W ⟨bz, ba, bm, hb⟩
  have HB := Aside0.mk hb
  have BZ := Aside0.mk bz
  have BA := Aside0.mk ba
  have BM := Aside0.mk bm
  clear bz ba bm hb
  obtain ⟨B0, hB0⟩ : ∃ q, q = W.heap.size := ⟨_, rfl⟩
  have HB0 := Aside0.mk (show w.heap.size + 1 + 1 < B0 from hB0 ▸ blk_lt BM.out)
  go_upto_region 4 with (first | ((with_reducible refine gate_dst (N := 14) rfl ?_); refine Kd.R_lit (Kd.int .u64) W.heap.size 22 ?hg (N := 14) ?hd (xs := ([] : List Int)) (inner := []) (ok := fun q => W.heap.size ≤ q) (okp := fun q => W.heap.size ≤ q) ?hr ?hp (fun _ hk => hk) (Nat.le_refl _) (Below.refl _ _) (Nat.le_refl _) (by simp) ?_; (case hd => rfl); (case hg => rfl); (case hr => first | (go_simp; done) | (go_simp; rfl)); (case hp => exact (Reps.none _ _)); intro v132 w2 ho3 hb hg_ hnew_))
  rw [← hB0] at ho3
  have H0' : x.s 0 = t ∧ x.e 0 = 0 := HH.out.1
  have HP := Aside0.mk (show w2.heap[w.heap.size]? = some (.cells (bcells 0 false 0 0 0 0 false false) 40 (0, 0)) ∧ w2.heap[w.heap.size + 1]? = some (.cells #[.string (x.s 0), .int .i64 (x.e 0)] 66 (0, 0)) ∧ w2.heap[w.heap.size + 1 + 1]? = some (.cells mostC 22 (0, 0)) ∧ Kd.R (Kd.int .u64) 22 w2 B0 (fun q => B0 ≤ q) v132 (x.l 0) ∧ B0 ≤ w2.heap.size ∧ Below w.heap.size w w2 from ⟨blk_keep BZ.out hb, by rw [H0'.1, H0'.2]; exact blk_keep BA.out hb, blk_keep BM.out hb, ho3, hB0 ▸ hb.size, below_step HB.out hb⟩)
  clear ho3 hb hg_ hnew_ HB BZ BA BM H0' hB0
  go_wp2
  go_loopg [6, 7] 8 (fun kq v6 v7 W => ∃ i : Nat, i ≤ 8 ∧ kq + i = 8 ∧ v7 = .int .i64 (i : Int) ∧ Aside0 (W.heap[w.heap.size]? = some (.cells (bcells 0 false 0 0 0 0 false false) 40 (0, 0)) ∧ W.heap[w.heap.size + 1]? = some (.cells #[.string (x.s i), .int .i64 (x.e i)] 66 (0, 0)) ∧ W.heap[w.heap.size + 1 + 1]? = some (.cells mostC 22 (0, 0)) ∧ Kd.R (Kd.int .u64) 22 W B0 (fun q => B0 ≤ q) v6 (x.l i) ∧ B0 ≤ W.heap.size ∧ Below w.heap.size w W))
  case atStart => exact ⟨0, by omega, by omega, rfl, HP⟩
  case round =>
    clear HP
    obtain ⟨i, hi, hki, rfl, HP⟩ := hrel
    rcases Nat.lt_or_ge i 8 with hlt | hge
    · obtain ⟨bz, ba, bm, hr, hs, hb⟩ := HP.out
      have HN := Aside0.mk (HH.out.2.1 i hlt)
      have HI := Aside0.mk (And.intro hlt hki)
      have dl : decide ((i : Int) < 8) = true := decide_eq_true (by omega)
      have dl2 : decide (i < 8) = true := decide_eq_true hlt
      have e0 : (0 : Int) ≤ (i : Int) := by omega
      have e1 : (i : Int) < 8 := by omega
      have ew : IntKind.i64.wrap ((i : Int) + 1) = ((i + 1 : Nat) : Int) := by rw [IntWalk.i64_in _ (by omega)]; omega
      have a0 := (blk_cell ba 0).trans rfl
      have a1 := (blk_cell ba 1).trans rfl
      have m0 : wr.cell? ⟨w.heap.size + 1 + 1, i, none⟩ = some (.int .u64 (mostF i)) := (blk_cell bm i).trans (most_at hlt)
      have BZ := Aside0.mk bz
      have BA := Aside0.mk ba
      have BM := Aside0.mk bm
      have HR := Aside0.mk hr
      have HS := Aside0.mk hs
      have HB := Aside0.mk hb
      clear bz ba bm hr hs hb HP hi hki hlt
      go_upto_region 7 with (fail)
      have KS := Aside0.mk (show ∀ (A B : World), Below A.heap.size A B → (A.cell? ⟨w.heap.size + 1, 0, none⟩ = some (.string (x.s i)) ∧ A.cell? ⟨w.heap.size + 1, 1, none⟩ = some (.int .i64 (x.e i)) ∧ A.cell? ⟨w.heap.size + 1 + 1, i, none⟩ = some (.int .u64 (mostF i)) ∧ Below w.heap.size w A) → (B.cell? ⟨w.heap.size + 1, 0, none⟩ = some (.string (x.s i)) ∧ B.cell? ⟨w.heap.size + 1, 1, none⟩ = some (.int .i64 (x.e i)) ∧ B.cell? ⟨w.heap.size + 1 + 1, i, none⟩ = some (.int .u64 (mostF i)) ∧ Below w.heap.size w B) from fun A B hb ⟨h0, h1, h2, h3⟩ => ⟨cell_keep hb h0, cell_keep hb h1, cell_keep hb h2, below_step h3 hb⟩)
      have HSD := Aside0.mk (show (wr.cell? ⟨w.heap.size + 1, 0, none⟩ = some (.string (x.s i)) ∧ wr.cell? ⟨w.heap.size + 1, 1, none⟩ = some (.int .i64 (x.e i)) ∧ wr.cell? ⟨w.heap.size + 1 + 1, i, none⟩ = some (.int .u64 (mostF i)) ∧ Below w.heap.size w wr) from ⟨a0, a1, m0, HB.out⟩)
      first | (go_region_held3 (fun w' => w'.cell? ⟨w.heap.size + 1, 0, none⟩ = some (.string (x.s i)) ∧ w'.cell? ⟨w.heap.size + 1, 1, none⟩ = some (.int .i64 (x.e i)) ∧ w'.cell? ⟨w.heap.size + 1 + 1, i, none⟩ = some (.int .u64 (mostF i)) ∧ Below w.heap.size w w') (first | with_reducible assumption | (have zz := fy0; refine KS.out wr _ ?_ HSD.out; refine below_set ?_ (Nat.le_refl wr.heap.size); refine below_set ?_ (Nat.le_refl wr.heap.size); with_reducible refine below_step ?_ hb8; with_reducible apply below_drew1; with_reducible refine below_alloc ?_ _; with_reducible exact Below.refl _ _) | exact KS.out wr _ (by (repeat (first | with_reducible exact Below.refl _ _ | with_reducible apply below_drew1 | with_reducible refine below_alloc ?_ _ | with_reducible refine below_step ?_ hb8 | refine below_set ?_ (Nat.le_refl wr.heap.size)))) HSD.out) (first | (go_at_call 67; (with_reducible refine (tinderboxref04_At_Num.calls k _ _ _ _ _ _ _ HN.out).mono ?_); rintro e w8 ⟨rfl, hb8⟩; (try (have hb7 : Below (World.drew (wr.alloc (.cells #[.string ⟨#[]⟩, .int .i64 0] 66))).heap.size (World.drew (wr.alloc (.cells #[.string ⟨#[]⟩, .int .i64 0] 66))) w8 := (by with_reducible exact hb8); have bn : w8.heap[wr.heap.size]? = some (.cells #[.string ⟨#[]⟩, .int .i64 0] 66 (0, 0)) := blk_keep (w := (World.drew (wr.alloc (.cells #[.string ⟨#[]⟩, .int .i64 0] 66)))) (blk_new wr _) hb7; clear hb7; have y0 := (blk_cell bn 0).trans rfl; have y1 := (blk_cell bn 1).trans rfl; have fy0 := blk_frozen bn 0; have fy1 := blk_frozen bn 1; clear bn))))) | fail
      · have hbb : Below wr.heap.size wr (w8.alloc (.cells #[.string (x.s (i + 1)), .int .i64 (x.e (i + 1))] 66)) := below_alloc (below_step (below_drew1 (Below.refl wr.heap.size wr)) hb8) _
        refine to_wp (fun W => W.heap[w.heap.size]? = some (.cells (bcells 0 false 0 0 0 0 false false) 40 (0, 0)) ∧ W.heap[w.heap.size + 1]? = some (.cells #[.string (x.s i), .int .i64 (x.e i)] 66 (0, 0)) ∧ W.heap[w.heap.size + 1 + 1]? = some (.cells mostC 22 (0, 0)) ∧ W.heap[w8.heap.size]? = some (.cells #[.string (x.s (i + 1)), .int .i64 (x.e (i + 1))] 66 (0, 0)) ∧ Kd.R (Kd.int .u64) 22 W B0 (fun q => B0 ≤ q) u6 (x.l i) ∧ B0 ≤ W.heap.size ∧ Below w.heap.size w W) ⟨blk_keep BZ.out hbb, blk_keep BA.out hbb, blk_keep BM.out hbb, blk_new _ _, Kd.R_below HR.out hbb, Nat.le_trans HS.out hbb.size, below_step HB.out hbb⟩ ?_
        obtain ⟨g8, hg8⟩ : ∃ q, q = w8.heap.size := ⟨_, rfl⟩
        have HG8 := Aside0.mk (show w.heap.size + 1 + 1 < g8 from hg8 ▸ Nat.lt_of_lt_of_le HB0.out (Nat.le_trans HS.out hb8.size))
        clear hb8
        clear HSD KS BZ BA BM HR HS HB a0 a1 m0 hbb
        simp only [← hg8]
        clear hg8
        rintro W ⟨bz, ba, bm, b8, hr, hs, hb⟩
        have d0 := (blk_cell b8 0).trans rfl
        have d1 := (blk_cell b8 1).trans rfl
        have BZ := Aside0.mk bz
        have BA := Aside0.mk ba
        have BM := Aside0.mk bm
        have B8 := Aside0.mk b8
        have HR := Aside0.mk hr
        have HS := Aside0.mk hs
        have HB := Aside0.mk hb
        clear bz ba bm b8 hr hs hb
        go_upto_region 8 with (fail)
        have NE8 := Aside0.mk (Kd.R_ne HR.out B8.out (by decide))
        have NEA := Aside0.mk (Kd.R_ne HR.out BA.out (by decide))
        have N8A := Aside0.mk (show g8 ≠ w.heap.size + 1 by have := HG8.out; omega)
        have info22 : (Try.prog.info? 22).map (fun i => (i.zero, i.size, i.bytes)) = some (some (.int .u64 0), 1, 8) := by kernel_rfl
        go_region_held3 (fun w' => w'.cell? ⟨g8, 0, none⟩ = some (.string (x.s (i + 1))) ∧ w'.cell? ⟨g8, 1, none⟩ = some (.int .i64 (x.e (i + 1)))) (first | with_reducible assumption | exact ⟨(blk_cell (blk_grown (w := World.drew W) B8.out hg1 NE8.out) 0).trans rfl, (blk_cell (blk_grown (w := World.drew W) B8.out hg1 NE8.out) 1).trans rfl⟩ | exact ⟨(blk_cell (blk_far (blk_far (blk_grown (w := World.drew W) B8.out hg1 NE8.out) N8A.out _) N8A.out _) 0).trans rfl, (blk_cell (blk_far (blk_far (blk_grown (w := World.drew W) B8.out hg1 NE8.out) N8A.out _) N8A.out _) 1).trans rfl⟩ | exact ⟨d0, d1⟩ | exact ⟨cell_keep (below_alloc (below_drew1 (Below.refl _ _)) _) d0, cell_keep (below_alloc (below_drew1 (Below.refl _ _)) _) d1⟩) (first | (refine Kd.R_append_step (Kd.int .u64) (w0 := W) (W := World.drew W) B0 rfl (.tmp 29) (.tmp 31) 101 22 (.int .u64 0) 8 rfl Try.underlying101 info22 rfl (by decide) (by decide) u6 (x.l i) (x.n i) [.int .u64 (x.n i)] (fun q => B0 ≤ q) (fun _ => False) rfl rfl ?aP (fun _ hk => hk.elim) ?aF ?aO ?aB ?aS ?aL ?_; (case aP => exact rfl); (case aF => exact fun q hq => Nat.le_trans HS.out hq); (case aO => exact HR.out); (case aB => exact below_drew (Below.refl _ _)); (case aS => exact HS.out); (case aL => rw [Rd.l_len]; have := HI.out.1; omega); intro v1 w1 hr1 hb1 hg1 hat1; have ba1 := blk_grown (w := World.drew W) BA.out hg1 NEA.out; have a0 := (blk_cell ba1 0).trans rfl; have a1 := (blk_cell ba1 1).trans rfl; have fa0 := blk_frozen ba1 0; have fa1 := blk_frozen ba1 1; clear ba1))
        have NEZ := Kd.R_ne HR.out BZ.out (by decide)
        have NEM : some (w.heap.size + 1 + 1) ≠ u6.ownBlock := fun hh => by have h1 := R_own_ge HR.out hh.symm; have := HB0.out; omega
        refine to_wp (fun W => W.heap[w.heap.size]? = some (.cells (bcells 0 false 0 0 0 0 false false) 40 (0, 0)) ∧ W.heap[w.heap.size + 1]? = some (.cells #[.string (x.s (i + 1)), .int .i64 (x.e (i + 1))] 66 (0, 0)) ∧ W.heap[w.heap.size + 1 + 1]? = some (.cells mostC 22 (0, 0)) ∧ Kd.R (Kd.int .u64) 22 W B0 (fun q => B0 ≤ q) v1 (x.l (i + 1)) ∧ B0 ≤ W.heap.size ∧ Below w.heap.size w W) ⟨blk_far (blk_far (blk_grown (w := World.drew W) BZ.out hg1 NEZ) (show w.heap.size ≠ w.heap.size + 1 by omega) _) (show w.heap.size ≠ w.heap.size + 1 by omega) _, blk_set (blk_set (blk_grown (w := World.drew W) BA.out hg1 NEA.out) 0 _) 1 _, blk_far (blk_far (blk_grown (w := World.drew W) BM.out hg1 NEM) (show w.heap.size + 1 + 1 ≠ w.heap.size + 1 by omega) _) (show w.heap.size + 1 + 1 ≠ w.heap.size + 1 by omega) _, ?_, ?_, ?_⟩ ?_
        · rw [Rd.l_succ]; exact Kd.R_far (Kd.R_far hr1 (fun q hq => by have h9 := HB0.out; show q ≠ w.heap.size + 1; have hq2 : B0 ≤ q := hq; omega) _) (fun q hq => by have h9 := HB0.out; show q ≠ w.heap.size + 1; have hq2 : B0 ≤ q := hq; omega) _
        · exact Nat.le_trans HS.out (by simpa using hb1.size)
        · exact ((HB.out.trans (hb1.mono (by have := HB0.out; omega))).setCell (Nat.le_succ _) _).setCell (Nat.le_succ _) _
        clear hr1 hb1 hg1 hat1 a0 a1 fa0 fa1 d0 d1 NE8 NEA N8A NEZ NEM BZ BA BM B8 HR HS HB info22
        rintro W HP2
        have HP := Aside0.mk HP2
        clear HP2
        go_wp2
        go_roundg (gk - 1)
        case measure => have := HI.out; omega
        case rel => exact ⟨i + 1, by have := HI.out; omega, by have := HI.out; omega, rfl, HP⟩
      · have hb7 : Below (World.drew (wr.alloc (.cells #[.string ⟨#[]⟩, .int .i64 0] 66))).heap.size (World.drew (wr.alloc (.cells #[.string ⟨#[]⟩, .int .i64 0] 66))) w8 := hb8
        have bn : w8.heap[wr.heap.size]? = some (.cells #[.string ⟨#[]⟩, .int .i64 0] 66 (0, 0)) := blk_keep (w := (World.drew (wr.alloc (.cells #[.string ⟨#[]⟩, .int .i64 0] 66)))) (blk_new wr _) hb7
        have hbb := below_set (below_set (below_step (below_drew1 (below_alloc (Below.refl wr.heap.size wr) _)) hb7) (Nat.le_refl wr.heap.size) (j := 0) (v := .string (x.s (i + 1)))) (Nat.le_refl wr.heap.size) (j := 1) (v := .int .i64 (x.e (i + 1)))
        refine to_wp (fun W => W.heap[w.heap.size]? = some (.cells (bcells 0 false 0 0 0 0 false false) 40 (0, 0)) ∧ W.heap[w.heap.size + 1]? = some (.cells #[.string (x.s i), .int .i64 (x.e i)] 66 (0, 0)) ∧ W.heap[w.heap.size + 1 + 1]? = some (.cells mostC 22 (0, 0)) ∧ W.heap[wr.heap.size]? = some (.cells #[.string (x.s (i + 1)), .int .i64 (x.e (i + 1))] 66 (0, 0)) ∧ Kd.R (Kd.int .u64) 22 W B0 (fun q => B0 ≤ q) u6 (x.l i) ∧ B0 ≤ W.heap.size ∧ Below w.heap.size w W) ⟨blk_keep BZ.out hbb, blk_keep BA.out hbb, blk_keep BM.out hbb, blk_set (blk_set bn 0 _) 1 _, Kd.R_below HR.out hbb, Nat.le_trans HS.out hbb.size, below_step HB.out hbb⟩ ?_
        obtain ⟨g8, hg8⟩ : ∃ q, q = wr.heap.size := ⟨_, rfl⟩
        have HG8 := Aside0.mk (show w.heap.size + 1 + 1 < g8 from hg8 ▸ Nat.lt_of_lt_of_le HB0.out HS.out)
        clear hb8 hb7 bn y0 y1 fy0 fy1
        clear HSD KS BZ BA BM HR HS HB a0 a1 m0 hbb
        simp only [← hg8]
        clear hg8
        rintro W ⟨bz, ba, bm, b8, hr, hs, hb⟩
        have d0 := (blk_cell b8 0).trans rfl
        have d1 := (blk_cell b8 1).trans rfl
        have BZ := Aside0.mk bz
        have BA := Aside0.mk ba
        have BM := Aside0.mk bm
        have B8 := Aside0.mk b8
        have HR := Aside0.mk hr
        have HS := Aside0.mk hs
        have HB := Aside0.mk hb
        clear bz ba bm b8 hr hs hb
        go_upto_region 8 with (fail)
        have NE8 := Aside0.mk (Kd.R_ne HR.out B8.out (by decide))
        have NEA := Aside0.mk (Kd.R_ne HR.out BA.out (by decide))
        have N8A := Aside0.mk (show g8 ≠ w.heap.size + 1 by have := HG8.out; omega)
        have info22 : (Try.prog.info? 22).map (fun i => (i.zero, i.size, i.bytes)) = some (some (.int .u64 0), 1, 8) := by kernel_rfl
        go_region_held3 (fun w' => w'.cell? ⟨g8, 0, none⟩ = some (.string (x.s (i + 1))) ∧ w'.cell? ⟨g8, 1, none⟩ = some (.int .i64 (x.e (i + 1)))) (first | with_reducible assumption | exact ⟨(blk_cell (blk_grown (w := World.drew W) B8.out hg1 NE8.out) 0).trans rfl, (blk_cell (blk_grown (w := World.drew W) B8.out hg1 NE8.out) 1).trans rfl⟩ | exact ⟨(blk_cell (blk_far (blk_far (blk_grown (w := World.drew W) B8.out hg1 NE8.out) N8A.out _) N8A.out _) 0).trans rfl, (blk_cell (blk_far (blk_far (blk_grown (w := World.drew W) B8.out hg1 NE8.out) N8A.out _) N8A.out _) 1).trans rfl⟩ | exact ⟨d0, d1⟩ | exact ⟨cell_keep (below_alloc (below_drew1 (Below.refl _ _)) _) d0, cell_keep (below_alloc (below_drew1 (Below.refl _ _)) _) d1⟩) (first | (refine Kd.R_append_step (Kd.int .u64) (w0 := W) (W := World.drew W) B0 rfl (.tmp 29) (.tmp 31) 101 22 (.int .u64 0) 8 rfl Try.underlying101 info22 rfl (by decide) (by decide) u6 (x.l i) (x.n i) [.int .u64 (x.n i)] (fun q => B0 ≤ q) (fun _ => False) rfl rfl ?aP (fun _ hk => hk.elim) ?aF ?aO ?aB ?aS ?aL ?_; (case aP => exact rfl); (case aF => exact fun q hq => Nat.le_trans HS.out hq); (case aO => exact HR.out); (case aB => exact below_drew (Below.refl _ _)); (case aS => exact HS.out); (case aL => rw [Rd.l_len]; have := HI.out.1; omega); intro v1 w1 hr1 hb1 hg1 hat1; have ba1 := blk_grown (w := World.drew W) BA.out hg1 NEA.out; have a0 := (blk_cell ba1 0).trans rfl; have a1 := (blk_cell ba1 1).trans rfl; have fa0 := blk_frozen ba1 0; have fa1 := blk_frozen ba1 1; clear ba1))
        have NEZ := Kd.R_ne HR.out BZ.out (by decide)
        have NEM : some (w.heap.size + 1 + 1) ≠ u6.ownBlock := fun hh => by have h1 := R_own_ge HR.out hh.symm; have := HB0.out; omega
        refine to_wp (fun W => W.heap[w.heap.size]? = some (.cells (bcells 0 false 0 0 0 0 false false) 40 (0, 0)) ∧ W.heap[w.heap.size + 1]? = some (.cells #[.string (x.s (i + 1)), .int .i64 (x.e (i + 1))] 66 (0, 0)) ∧ W.heap[w.heap.size + 1 + 1]? = some (.cells mostC 22 (0, 0)) ∧ Kd.R (Kd.int .u64) 22 W B0 (fun q => B0 ≤ q) v1 (x.l (i + 1)) ∧ B0 ≤ W.heap.size ∧ Below w.heap.size w W) ⟨blk_far (blk_far (blk_grown (w := World.drew W) BZ.out hg1 NEZ) (show w.heap.size ≠ w.heap.size + 1 by omega) _) (show w.heap.size ≠ w.heap.size + 1 by omega) _, blk_set (blk_set (blk_grown (w := World.drew W) BA.out hg1 NEA.out) 0 _) 1 _, blk_far (blk_far (blk_grown (w := World.drew W) BM.out hg1 NEM) (show w.heap.size + 1 + 1 ≠ w.heap.size + 1 by omega) _) (show w.heap.size + 1 + 1 ≠ w.heap.size + 1 by omega) _, ?_, ?_, ?_⟩ ?_
        · rw [Rd.l_succ]; exact Kd.R_far (Kd.R_far hr1 (fun q hq => by have h9 := HB0.out; show q ≠ w.heap.size + 1; have hq2 : B0 ≤ q := hq; omega) _) (fun q hq => by have h9 := HB0.out; show q ≠ w.heap.size + 1; have hq2 : B0 ≤ q := hq; omega) _
        · exact Nat.le_trans HS.out (by simpa using hb1.size)
        · exact ((HB.out.trans (hb1.mono (by have := HB0.out; omega))).setCell (Nat.le_succ _) _).setCell (Nat.le_succ _) _
        clear hr1 hb1 hg1 hat1 a0 a1 fa0 fa1 d0 d1 NE8 NEA N8A NEZ NEM BZ BA BM B8 HR HS HB info22
        rintro W HP2
        have HP := Aside0.mk HP2
        clear HP2
        go_wp2
        go_roundg (gk - 1)
        case measure => have := HI.out; omega
        case rel => exact ⟨i + 1, by have := HI.out; omega, by have := HI.out; omega, rfl, HP⟩
    · obtain rfl : i = 8 := by omega
      obtain ⟨bz, ba, bm, hr, hs, hb⟩ := HP.out
      obtain ⟨gl, cl, hv6, hgl, hgw, hcell⟩ := row_cell hr (by rw [Rd.l_len]; decide)
      rw [Rd.l_len] at hv6 hcell
      subst hv6
      have r0 : wr.cell? ⟨gl, 0, none⟩ = some (.int .u64 (x.n 0)) := (hcell 0 (by decide)).trans (by simp [Rd.l])
      have r1 : wr.cell? ⟨gl, 1, none⟩ = some (.int .u64 (x.n 1)) := (hcell 1 (by decide)).trans (by simp [Rd.l])
      have r2 : wr.cell? ⟨gl, 2, none⟩ = some (.int .u64 (x.n 2)) := (hcell 2 (by decide)).trans (by simp [Rd.l])
      have r3 : wr.cell? ⟨gl, 3, none⟩ = some (.int .u64 (x.n 3)) := (hcell 3 (by decide)).trans (by simp [Rd.l])
      have r4 : wr.cell? ⟨gl, 4, none⟩ = some (.int .u64 (x.n 4)) := (hcell 4 (by decide)).trans (by simp [Rd.l])
      have r5 : wr.cell? ⟨gl, 5, none⟩ = some (.int .u64 (x.n 5)) := (hcell 5 (by decide)).trans (by simp [Rd.l])
      have r6 : wr.cell? ⟨gl, 6, none⟩ = some (.int .u64 (x.n 6)) := (hcell 6 (by decide)).trans (by simp [Rd.l])
      have r7 : wr.cell? ⟨gl, 7, none⟩ = some (.int .u64 (x.n 7)) := (hcell 7 (by decide)).trans (by simp [Rd.l])
      have a0 := (blk_cell ba 0).trans rfl
      have a1 := (blk_cell ba 1).trans rfl
      have BZ := Aside0.mk bz
      have BA := Aside0.mk ba
      have HB := Aside0.mk hb
      have HG := Aside0.mk (show w.heap.size + 1 + 1 < gl from Nat.lt_of_lt_of_le HB0.out hgl)
      have HGW := Aside0.mk hgw
      clear bz ba bm hr hs hb hgl hgw hcell HP hi hki hge
      have i0 : IntKind.i64.wrap (x.n 0) = x.n 0 := IntWalk.i64_in _ (by have := HH.out.2.2.2 0 (by decide); omega)
      have i1 : IntKind.i64.wrap (x.n 1) = x.n 1 := IntWalk.i64_in _ (by have := HH.out.2.2.2 1 (by decide); omega)
      have i2 : IntKind.i64.wrap (x.n 2) = x.n 2 := IntWalk.i64_in _ (by have := HH.out.2.2.2 2 (by decide); omega)
      have i3 : IntKind.i64.wrap (x.n 3) = x.n 3 := IntWalk.i64_in _ (by have := HH.out.2.2.2 3 (by decide); omega)
      have i4 : IntKind.i64.wrap (x.n 4) = x.n 4 := IntWalk.i64_in _ (by have := HH.out.2.2.2 4 (by decide); omega)
      have i5 : IntKind.i64.wrap (x.n 5) = x.n 5 := IntWalk.i64_in _ (by have := HH.out.2.2.2 5 (by decide); omega)
      have i6 : IntKind.i64.wrap (x.n 6) = x.n 6 := IntWalk.i64_in _ (by have := HH.out.2.2.2 6 (by decide); omega)
      have i7 : IntKind.i64.wrap (x.n 7) = x.n 7 := IntWalk.i64_in _ (by have := HH.out.2.2.2 7 (by decide); omega)
      go_upto_region 9 with (fail)
      have KS := Aside0.mk (show ∀ (A B : World), Below A.heap.size A B → (A.cell? ⟨gl, 0, none⟩ = some (.int .u64 (x.n 0)) ∧ A.cell? ⟨gl, 1, none⟩ = some (.int .u64 (x.n 1)) ∧ A.cell? ⟨gl, 2, none⟩ = some (.int .u64 (x.n 2)) ∧ A.cell? ⟨gl, 3, none⟩ = some (.int .u64 (x.n 3)) ∧ A.cell? ⟨gl, 4, none⟩ = some (.int .u64 (x.n 4)) ∧ A.cell? ⟨gl, 5, none⟩ = some (.int .u64 (x.n 5)) ∧ A.cell? ⟨gl, 6, none⟩ = some (.int .u64 (x.n 6)) ∧ A.cell? ⟨gl, 7, none⟩ = some (.int .u64 (x.n 7)) ∧ Below w.heap.size w A) → (B.cell? ⟨gl, 0, none⟩ = some (.int .u64 (x.n 0)) ∧ B.cell? ⟨gl, 1, none⟩ = some (.int .u64 (x.n 1)) ∧ B.cell? ⟨gl, 2, none⟩ = some (.int .u64 (x.n 2)) ∧ B.cell? ⟨gl, 3, none⟩ = some (.int .u64 (x.n 3)) ∧ B.cell? ⟨gl, 4, none⟩ = some (.int .u64 (x.n 4)) ∧ B.cell? ⟨gl, 5, none⟩ = some (.int .u64 (x.n 5)) ∧ B.cell? ⟨gl, 6, none⟩ = some (.int .u64 (x.n 6)) ∧ B.cell? ⟨gl, 7, none⟩ = some (.int .u64 (x.n 7)) ∧ Below w.heap.size w B) from fun A B hb ⟨h0, h1, h2, h3, h4, h5, h6, h7, h8⟩ => ⟨cell_keep hb h0, cell_keep hb h1, cell_keep hb h2, cell_keep hb h3, cell_keep hb h4, cell_keep hb h5, cell_keep hb h6, cell_keep hb h7, below_step h8 hb⟩)
      have HSD := Aside0.mk (show (wr.cell? ⟨gl, 0, none⟩ = some (.int .u64 (x.n 0)) ∧ wr.cell? ⟨gl, 1, none⟩ = some (.int .u64 (x.n 1)) ∧ wr.cell? ⟨gl, 2, none⟩ = some (.int .u64 (x.n 2)) ∧ wr.cell? ⟨gl, 3, none⟩ = some (.int .u64 (x.n 3)) ∧ wr.cell? ⟨gl, 4, none⟩ = some (.int .u64 (x.n 4)) ∧ wr.cell? ⟨gl, 5, none⟩ = some (.int .u64 (x.n 5)) ∧ wr.cell? ⟨gl, 6, none⟩ = some (.int .u64 (x.n 6)) ∧ wr.cell? ⟨gl, 7, none⟩ = some (.int .u64 (x.n 7)) ∧ Below w.heap.size w wr) from ⟨r0, r1, r2, r3, r4, r5, r6, r7, HB.out⟩)
      first | (go_region_held3 (fun w' => w'.cell? ⟨gl, 0, none⟩ = some (.int .u64 (x.n 0)) ∧ w'.cell? ⟨gl, 1, none⟩ = some (.int .u64 (x.n 1)) ∧ w'.cell? ⟨gl, 2, none⟩ = some (.int .u64 (x.n 2)) ∧ w'.cell? ⟨gl, 3, none⟩ = some (.int .u64 (x.n 3)) ∧ w'.cell? ⟨gl, 4, none⟩ = some (.int .u64 (x.n 4)) ∧ w'.cell? ⟨gl, 5, none⟩ = some (.int .u64 (x.n 5)) ∧ w'.cell? ⟨gl, 6, none⟩ = some (.int .u64 (x.n 6)) ∧ w'.cell? ⟨gl, 7, none⟩ = some (.int .u64 (x.n 7)) ∧ Below w.heap.size w w') (first | with_reducible assumption | exact KS.out wr _ (by (repeat (first | with_reducible exact Below.refl _ _ | with_reducible apply below_drew1 | with_reducible refine below_alloc ?_ _ | refine below_set ?_ (Nat.le_refl wr.heap.size)))) HSD.out) (fail)) | fail
      have hbb : Below wr.heap.size wr (World.drew (wr.alloc (.cells (bcells (x.n 0) (x.n 1 == 1) (x.n 2) (x.n 3) 0 0 false false) 40))) := below_drew1 (below_alloc (Below.refl _ _) _)
      refine to_wp (fun W => (W.cell? ⟨gl, 0, none⟩ = some (.int .u64 (x.n 0)) ∧ W.cell? ⟨gl, 1, none⟩ = some (.int .u64 (x.n 1)) ∧ W.cell? ⟨gl, 2, none⟩ = some (.int .u64 (x.n 2)) ∧ W.cell? ⟨gl, 3, none⟩ = some (.int .u64 (x.n 3)) ∧ W.cell? ⟨gl, 4, none⟩ = some (.int .u64 (x.n 4)) ∧ W.cell? ⟨gl, 5, none⟩ = some (.int .u64 (x.n 5)) ∧ W.cell? ⟨gl, 6, none⟩ = some (.int .u64 (x.n 6)) ∧ W.cell? ⟨gl, 7, none⟩ = some (.int .u64 (x.n 7))) ∧ W.heap[w.heap.size]? = some (.cells (bcells 0 false 0 0 0 0 false false) 40 (0, 0)) ∧ W.heap[w.heap.size + 1]? = some (.cells #[.string (x.s 8), .int .i64 (x.e 8)] 66 (0, 0)) ∧ W.heap[wr.heap.size]? = some (.cells (bcells (x.n 0) (x.n 1 == 1) (x.n 2) (x.n 3) 0 0 false false) 40 (0, 0)) ∧ Below w.heap.size w W) ⟨⟨cell_keep hbb r0, cell_keep hbb r1, cell_keep hbb r2, cell_keep hbb r3, cell_keep hbb r4, cell_keep hbb r5, cell_keep hbb r6, cell_keep hbb r7⟩, blk_keep BZ.out hbb, blk_keep BA.out hbb, blk_drew1 (blk_new _ _), below_step HB.out hbb⟩ ?_
      obtain ⟨g10, hg10⟩ : ∃ q, q = wr.heap.size := ⟨_, rfl⟩
      have HG2 := Aside0.mk (show w.heap.size + 1 < g10 from hg10 ▸ blk_lt BA.out)
      have HGN := Aside0.mk (show gl ≠ g10 from hg10 ▸ Nat.ne_of_lt HGW.out)
      simp only [← hg10]
      clear hbb hg10 KS HSD BZ BA HB HGW a0 a1 r0 r1 r2 r3 r4 r5 r6 r7
      rintro W ⟨⟨r0, r1, r2, r3, r4, r5, r6, r7⟩, bz, ba, bx, hb⟩
      have a0 := (blk_cell ba 0).trans rfl
      have a1 := (blk_cell ba 1).trans rfl
      have c0 := (blk_cell bx 0).trans rfl
      have c1 := (blk_cell bx 1).trans rfl
      have c2 := (blk_cell bx 2).trans rfl
      have c3 := (blk_cell bx 3).trans rfl
      have c4 := (blk_cell bx 4).trans rfl
      have c5 := (blk_cell bx 5).trans rfl
      have c6 := (blk_cell bx 6).trans rfl
      have c7 := (blk_cell bx 7).trans rfl
      have fc0 := blk_frozen bx 0
      have fc1 := blk_frozen bx 1
      have fc2 := blk_frozen bx 2
      have fc3 := blk_frozen bx 3
      have fc4 := blk_frozen bx 4
      have fc5 := blk_frozen bx 5
      have fc6 := blk_frozen bx 6
      have fc7 := blk_frozen bx 7
      have z0 := (blk_cell bz 0).trans rfl
      have z1 := (blk_cell bz 1).trans rfl
      have z2 := (blk_cell bz 2).trans rfl
      have z3 := (blk_cell bz 3).trans rfl
      have z4 := (blk_cell bz 4).trans rfl
      have z5 := (blk_cell bz 5).trans rfl
      have z6 := (blk_cell bz 6).trans rfl
      have z7 := (blk_cell bz 7).trans rfl
      have fz0 := blk_frozen bz 0
      have fz1 := blk_frozen bz 1
      have fz2 := blk_frozen bz 2
      have fz3 := blk_frozen bz 3
      have fz4 := blk_frozen bz 4
      have fz5 := blk_frozen bz 5
      have fz6 := blk_frozen bz 6
      have fz7 := blk_frozen bz 7
      have BZ := Aside0.mk bz
      have BA := Aside0.mk ba
      have BX := Aside0.mk bx
      have HB := Aside0.mk hb
      clear bz ba bx hb
      go_upto_region 10 with (fail)
      go_region
      refine to_wp (fun W => (W.cell? ⟨gl, 0, none⟩ = some (.int .u64 (x.n 0)) ∧ W.cell? ⟨gl, 1, none⟩ = some (.int .u64 (x.n 1)) ∧ W.cell? ⟨gl, 2, none⟩ = some (.int .u64 (x.n 2)) ∧ W.cell? ⟨gl, 3, none⟩ = some (.int .u64 (x.n 3)) ∧ W.cell? ⟨gl, 4, none⟩ = some (.int .u64 (x.n 4)) ∧ W.cell? ⟨gl, 5, none⟩ = some (.int .u64 (x.n 5)) ∧ W.cell? ⟨gl, 6, none⟩ = some (.int .u64 (x.n 6)) ∧ W.cell? ⟨gl, 7, none⟩ = some (.int .u64 (x.n 7))) ∧ W.heap[w.heap.size]? = some (.cells (bcells 0 false 0 0 0 0 false false) 40 (0, 0)) ∧ W.heap[w.heap.size + 1]? = some (.cells #[.string (x.s 8), .int .i64 (x.e 8)] 66 (0, 0)) ∧ W.heap[g10]? = some (.cells (bcells (x.n 0) (x.n 1 == 1) (x.n 2) (x.n 3) (x.n 4) (x.n 6) false false) 40 (0, 0)) ∧ Below w.heap.size w W) ⟨⟨cell_far (cell_far r0 HGN.out) HGN.out, cell_far (cell_far r1 HGN.out) HGN.out, cell_far (cell_far r2 HGN.out) HGN.out, cell_far (cell_far r3 HGN.out) HGN.out, cell_far (cell_far r4 HGN.out) HGN.out, cell_far (cell_far r5 HGN.out) HGN.out, cell_far (cell_far r6 HGN.out) HGN.out, cell_far (cell_far r7 HGN.out) HGN.out⟩, blk_drew1 (blk_far (blk_far BZ.out (show w.heap.size ≠ g10 by have := HG2.out; omega) _) (show w.heap.size ≠ g10 by have := HG2.out; omega) _), blk_drew1 (blk_far (blk_far BA.out (show w.heap.size + 1 ≠ g10 by have := HG2.out; omega) _) (show w.heap.size + 1 ≠ g10 by have := HG2.out; omega) _), blk_drew1 (blk_set (blk_set BX.out 4 _) 5 _), below_drew1 ((HB.out.setCell (show w.heap.size ≤ g10 by have := HG2.out; omega) _).setCell (show w.heap.size ≤ g10 by have := HG2.out; omega) _)⟩ ?_
      clear BZ BA BX HB a0 a1 r0 c0 fc0 z0 fz0 r1 c1 fc1 z1 fz1 r2 c2 fc2 z2 fz2 r3 c3 fc3 z3 fz3 r4 c4 fc4 z4 fz4 r5 c5 fc5 z5 fz5 r6 c6 fc6 z6 fz6 r7 c7 fc7 z7 fz7
      rintro W ⟨⟨r0, r1, r2, r3, r4, r5, r6, r7⟩, bz, ba, bx, hb⟩
      have a0 := (blk_cell ba 0).trans rfl
      have a1 := (blk_cell ba 1).trans rfl
      have c0 := (blk_cell bx 0).trans rfl
      have c1 := (blk_cell bx 1).trans rfl
      have c2 := (blk_cell bx 2).trans rfl
      have c3 := (blk_cell bx 3).trans rfl
      have c4 := (blk_cell bx 4).trans rfl
      have c5 := (blk_cell bx 5).trans rfl
      have c6 := (blk_cell bx 6).trans rfl
      have c7 := (blk_cell bx 7).trans rfl
      have fc0 := blk_frozen bx 0
      have fc1 := blk_frozen bx 1
      have fc2 := blk_frozen bx 2
      have fc3 := blk_frozen bx 3
      have fc4 := blk_frozen bx 4
      have fc5 := blk_frozen bx 5
      have fc6 := blk_frozen bx 6
      have fc7 := blk_frozen bx 7
      have z0 := (blk_cell bz 0).trans rfl
      have z1 := (blk_cell bz 1).trans rfl
      have z2 := (blk_cell bz 2).trans rfl
      have z3 := (blk_cell bz 3).trans rfl
      have z4 := (blk_cell bz 4).trans rfl
      have z5 := (blk_cell bz 5).trans rfl
      have z6 := (blk_cell bz 6).trans rfl
      have z7 := (blk_cell bz 7).trans rfl
      have fz0 := blk_frozen bz 0
      have fz1 := blk_frozen bz 1
      have fz2 := blk_frozen bz 2
      have fz3 := blk_frozen bz 3
      have fz4 := blk_frozen bz 4
      have fz5 := blk_frozen bz 5
      have fz6 := blk_frozen bz 6
      have fz7 := blk_frozen bz 7
      have BZ := Aside0.mk bz
      have BA := Aside0.mk ba
      have BX := Aside0.mk bx
      have HB := Aside0.mk hb
      clear bz ba bx hb
      go_upto_region 11 with (fail)
      go_region
      refine to_wp (fun W => (W.cell? ⟨gl, 0, none⟩ = some (.int .u64 (x.n 0)) ∧ W.cell? ⟨gl, 1, none⟩ = some (.int .u64 (x.n 1)) ∧ W.cell? ⟨gl, 2, none⟩ = some (.int .u64 (x.n 2)) ∧ W.cell? ⟨gl, 3, none⟩ = some (.int .u64 (x.n 3)) ∧ W.cell? ⟨gl, 4, none⟩ = some (.int .u64 (x.n 4)) ∧ W.cell? ⟨gl, 5, none⟩ = some (.int .u64 (x.n 5)) ∧ W.cell? ⟨gl, 6, none⟩ = some (.int .u64 (x.n 6)) ∧ W.cell? ⟨gl, 7, none⟩ = some (.int .u64 (x.n 7))) ∧ W.heap[w.heap.size]? = some (.cells (bcells 0 false 0 0 0 0 false false) 40 (0, 0)) ∧ W.heap[w.heap.size + 1]? = some (.cells #[.string (x.s 8), .int .i64 (x.e 8)] 66 (0, 0)) ∧ W.heap[g10]? = some (.cells (bcells (x.n 0) (x.n 1 == 1) (x.n 2) (x.n 3) (x.n 4) (x.n 6) (x.n 5 == 1) (x.n 7 == 1)) 40 (0, 0)) ∧ Below w.heap.size w W) ⟨⟨cell_far (cell_far r0 HGN.out) HGN.out, cell_far (cell_far r1 HGN.out) HGN.out, cell_far (cell_far r2 HGN.out) HGN.out, cell_far (cell_far r3 HGN.out) HGN.out, cell_far (cell_far r4 HGN.out) HGN.out, cell_far (cell_far r5 HGN.out) HGN.out, cell_far (cell_far r6 HGN.out) HGN.out, cell_far (cell_far r7 HGN.out) HGN.out⟩, blk_drew1 (blk_far (blk_far BZ.out (show w.heap.size ≠ g10 by have := HG2.out; omega) _) (show w.heap.size ≠ g10 by have := HG2.out; omega) _), blk_drew1 (blk_far (blk_far BA.out (show w.heap.size + 1 ≠ g10 by have := HG2.out; omega) _) (show w.heap.size + 1 ≠ g10 by have := HG2.out; omega) _), blk_drew1 (blk_set (blk_set BX.out 6 _) 7 _), below_drew1 ((HB.out.setCell (show w.heap.size ≤ g10 by have := HG2.out; omega) _).setCell (show w.heap.size ≤ g10 by have := HG2.out; omega) _)⟩ ?_
      clear BZ BA BX HB a0 a1 r0 c0 fc0 z0 fz0 r1 c1 fc1 z1 fz1 r2 c2 fc2 z2 fz2 r3 c3 fc3 z3 fz3 r4 c4 fc4 z4 fz4 r5 c5 fc5 z5 fz5 r6 c6 fc6 z6 fz6 r7 c7 fc7 z7 fz7
      rintro W ⟨⟨r0, r1, r2, r3, r4, r5, r6, r7⟩, bz, ba, bx, hb⟩
      have a0 := (blk_cell ba 0).trans rfl
      have a1 := (blk_cell ba 1).trans rfl
      have c0 := (blk_cell bx 0).trans rfl
      have c1 := (blk_cell bx 1).trans rfl
      have c2 := (blk_cell bx 2).trans rfl
      have c3 := (blk_cell bx 3).trans rfl
      have c4 := (blk_cell bx 4).trans rfl
      have c5 := (blk_cell bx 5).trans rfl
      have c6 := (blk_cell bx 6).trans rfl
      have c7 := (blk_cell bx 7).trans rfl
      have fc0 := blk_frozen bx 0
      have fc1 := blk_frozen bx 1
      have fc2 := blk_frozen bx 2
      have fc3 := blk_frozen bx 3
      have fc4 := blk_frozen bx 4
      have fc5 := blk_frozen bx 5
      have fc6 := blk_frozen bx 6
      have fc7 := blk_frozen bx 7
      have z0 := (blk_cell bz 0).trans rfl
      have z1 := (blk_cell bz 1).trans rfl
      have z2 := (blk_cell bz 2).trans rfl
      have z3 := (blk_cell bz 3).trans rfl
      have z4 := (blk_cell bz 4).trans rfl
      have z5 := (blk_cell bz 5).trans rfl
      have z6 := (blk_cell bz 6).trans rfl
      have z7 := (blk_cell bz 7).trans rfl
      have fz0 := blk_frozen bz 0
      have fz1 := blk_frozen bz 1
      have fz2 := blk_frozen bz 2
      have fz3 := blk_frozen bz 3
      have fz4 := blk_frozen bz 4
      have fz5 := blk_frozen bz 5
      have fz6 := blk_frozen bz 6
      have fz7 := blk_frozen bz 7
      have BZ := Aside0.mk bz
      have BA := Aside0.mk ba
      have BX := Aside0.mk bx
      have HB := Aside0.mk hb
      clear bz ba bx hb
      clear r0 i0 r1 i1 r2 i2 r3 i3 r4 i4 r5 i5 r6 i6 r7 i7
      by_cases hr : r = 0
      · have hr0 : (r != 0) = false := by simpa using hr
        by_cases hc0 : chkB (x.n 0) (x.n 1 == 1) (x.n 2) (x.n 3) (x.n 4) (x.n 6) (x.n 5 == 1) (x.n 7 == 1) = false
        · have hc := hc0
          go_wp2_with (first | (go_at_call 69; (with_reducible refine (tinderboxref04_At_End.calls _ _ _ _ HH.out.2.2.1).mono ?_); rintro e w8 ⟨rfl, hb8⟩; have HB := Aside0.mk (below_step HB.out hb8); have bz := blk_keep BZ.out hb8; have BZ := Aside0.mk bz; have ba := blk_keep BA.out hb8; have BA := Aside0.mk ba; have bx := blk_keep BX.out hb8; have BX := Aside0.mk bx; have z0 := (blk_cell bz 0).trans rfl; have fz0 := blk_frozen bz 0; have z1 := (blk_cell bz 1).trans rfl; have fz1 := blk_frozen bz 1; have z2 := (blk_cell bz 2).trans rfl; have fz2 := blk_frozen bz 2; have z3 := (blk_cell bz 3).trans rfl; have fz3 := blk_frozen bz 3; have z4 := (blk_cell bz 4).trans rfl; have fz4 := blk_frozen bz 4; have z5 := (blk_cell bz 5).trans rfl; have fz5 := blk_frozen bz 5; have z6 := (blk_cell bz 6).trans rfl; have fz6 := blk_frozen bz 6; have z7 := (blk_cell bz 7).trans rfl; have fz7 := blk_frozen bz 7; have c0 := (blk_cell bx 0).trans rfl; have c1 := (blk_cell bx 1).trans rfl; have c2 := (blk_cell bx 2).trans rfl; have c3 := (blk_cell bx 3).trans rfl; have c4 := (blk_cell bx 4).trans rfl; have c5 := (blk_cell bx 5).trans rfl; have c6 := (blk_cell bx 6).trans rfl; have c7 := (blk_cell bx 7).trans rfl; have a0 := (blk_cell ba 0).trans rfl; have a1 := (blk_cell ba 1).trans rfl; clear ba bz bx hb8) | (go_at_call 37; (with_reducible refine (rcheck_calls _ _ _ _ _ _ _ _ _).mono ?_); rintro e w8 ⟨rfl, hb8⟩; rw [hc]; have HB := Aside0.mk (below_step HB.out hb8); have bz := blk_keep BZ.out hb8; have BZ := Aside0.mk bz; have bx := blk_keep BX.out hb8; have BX := Aside0.mk bx; have z0 := (blk_cell bz 0).trans rfl; have fz0 := blk_frozen bz 0; have z1 := (blk_cell bz 1).trans rfl; have fz1 := blk_frozen bz 1; have z2 := (blk_cell bz 2).trans rfl; have fz2 := blk_frozen bz 2; have z3 := (blk_cell bz 3).trans rfl; have fz3 := blk_frozen bz 3; have z4 := (blk_cell bz 4).trans rfl; have fz4 := blk_frozen bz 4; have z5 := (blk_cell bz 5).trans rfl; have fz5 := blk_frozen bz 5; have z6 := (blk_cell bz 6).trans rfl; have fz6 := blk_frozen bz 6; have z7 := (blk_cell bz 7).trans rfl; have fz7 := blk_frozen bz 7; have c0 := (blk_cell bx 0).trans rfl; have c1 := (blk_cell bx 1).trans rfl; have c2 := (blk_cell bx 2).trans rfl; have c3 := (blk_cell bx 3).trans rfl; have c4 := (blk_cell bx 4).trans rfl; have c5 := (blk_cell bx 5).trans rfl; have c6 := (blk_cell bx 6).trans rfl; have c7 := (blk_cell bx 7).trans rfl; clear bz bx hb8))
          refine bodyPost_ret (ret2_row rfl _ _ _ w.heap.size 40 #[_, _, _, _, _, _, _, _] (0, 0) _ (.int .i64 3) rfl rfl (by first | exact blk_all8 (t := 40) BZ.out rfl _ _ _ _ _ _ _ _ | exact blk_drew1 (blk_all8 (t := 40) BZ.out rfl _ _ _ _ _ _ _ _) | exact blk_drewN (blk_all8 (t := 40) BZ.out rfl _ _ _ _ _ _ _ _) _) Try.underlying40 rfl info40) rfl ?_
          exact ⟨by rw [show getR ⟨x.n 0, x.n 1 == 1, x.n 2, x.n 3, x.n 4, x.n 6, x.n 5 == 1, x.n 7 == 1⟩ r = (Bt.zero, 3) from by unfold getR Bt.chk; simp [hr, hc]]; rfl, (by repeat (first | with_reducible exact HB.out | with_reducible apply pw_below_drewN | with_reducible apply below_drew1 | refine below_set ?_ (Nat.le_refl _)))⟩
        · have hc : chkB (x.n 0) (x.n 1 == 1) (x.n 2) (x.n 3) (x.n 4) (x.n 6) (x.n 5 == 1) (x.n 7 == 1) = true := by simpa using hc0
          clear hc0
          go_wp2_with (first | (go_at_call 69; (with_reducible refine (tinderboxref04_At_End.calls _ _ _ _ HH.out.2.2.1).mono ?_); rintro e w8 ⟨rfl, hb8⟩; have HB := Aside0.mk (below_step HB.out hb8); have bz := blk_keep BZ.out hb8; have BZ := Aside0.mk bz; have ba := blk_keep BA.out hb8; have BA := Aside0.mk ba; have bx := blk_keep BX.out hb8; have BX := Aside0.mk bx; have z0 := (blk_cell bz 0).trans rfl; have fz0 := blk_frozen bz 0; have z1 := (blk_cell bz 1).trans rfl; have fz1 := blk_frozen bz 1; have z2 := (blk_cell bz 2).trans rfl; have fz2 := blk_frozen bz 2; have z3 := (blk_cell bz 3).trans rfl; have fz3 := blk_frozen bz 3; have z4 := (blk_cell bz 4).trans rfl; have fz4 := blk_frozen bz 4; have z5 := (blk_cell bz 5).trans rfl; have fz5 := blk_frozen bz 5; have z6 := (blk_cell bz 6).trans rfl; have fz6 := blk_frozen bz 6; have z7 := (blk_cell bz 7).trans rfl; have fz7 := blk_frozen bz 7; have c0 := (blk_cell bx 0).trans rfl; have c1 := (blk_cell bx 1).trans rfl; have c2 := (blk_cell bx 2).trans rfl; have c3 := (blk_cell bx 3).trans rfl; have c4 := (blk_cell bx 4).trans rfl; have c5 := (blk_cell bx 5).trans rfl; have c6 := (blk_cell bx 6).trans rfl; have c7 := (blk_cell bx 7).trans rfl; have a0 := (blk_cell ba 0).trans rfl; have a1 := (blk_cell ba 1).trans rfl; clear ba bz bx hb8) | (go_at_call 37; (with_reducible refine (rcheck_calls _ _ _ _ _ _ _ _ _).mono ?_); rintro e w8 ⟨rfl, hb8⟩; rw [hc]; have HB := Aside0.mk (below_step HB.out hb8); have bz := blk_keep BZ.out hb8; have BZ := Aside0.mk bz; have bx := blk_keep BX.out hb8; have BX := Aside0.mk bx; have z0 := (blk_cell bz 0).trans rfl; have fz0 := blk_frozen bz 0; have z1 := (blk_cell bz 1).trans rfl; have fz1 := blk_frozen bz 1; have z2 := (blk_cell bz 2).trans rfl; have fz2 := blk_frozen bz 2; have z3 := (blk_cell bz 3).trans rfl; have fz3 := blk_frozen bz 3; have z4 := (blk_cell bz 4).trans rfl; have fz4 := blk_frozen bz 4; have z5 := (blk_cell bz 5).trans rfl; have fz5 := blk_frozen bz 5; have z6 := (blk_cell bz 6).trans rfl; have fz6 := blk_frozen bz 6; have z7 := (blk_cell bz 7).trans rfl; have fz7 := blk_frozen bz 7; have c0 := (blk_cell bx 0).trans rfl; have c1 := (blk_cell bx 1).trans rfl; have c2 := (blk_cell bx 2).trans rfl; have c3 := (blk_cell bx 3).trans rfl; have c4 := (blk_cell bx 4).trans rfl; have c5 := (blk_cell bx 5).trans rfl; have c6 := (blk_cell bx 6).trans rfl; have c7 := (blk_cell bx 7).trans rfl; clear bz bx hb8))
          refine bodyPost_ret (ret2_row rfl _ _ _ w.heap.size 40 #[_, _, _, _, _, _, _, _] (0, 0) _ (.int .i64 0) rfl rfl (by first | exact blk_all8 (t := 40) BZ.out rfl _ _ _ _ _ _ _ _ | exact blk_drew1 (blk_all8 (t := 40) BZ.out rfl _ _ _ _ _ _ _ _) | exact blk_drewN (blk_all8 (t := 40) BZ.out rfl _ _ _ _ _ _ _ _) _) Try.underlying40 rfl info40) rfl ?_
          exact ⟨by rw [show getR ⟨x.n 0, x.n 1 == 1, x.n 2, x.n 3, x.n 4, x.n 6, x.n 5 == 1, x.n 7 == 1⟩ r = (⟨x.n 0, x.n 1 == 1, x.n 2, x.n 3, x.n 4, x.n 6, x.n 5 == 1, x.n 7 == 1⟩, 0) from by unfold getR Bt.chk; simp [hr, hc]]; rfl, (by repeat (first | with_reducible exact HB.out | with_reducible apply pw_below_drewN | with_reducible apply below_drew1 | refine below_set ?_ (Nat.le_refl _)))⟩
      · have hr0 : (r != 0) = true := by simpa using hr
        go_wp2_with (first | (go_at_call 69; (with_reducible refine (tinderboxref04_At_End.calls _ _ _ _ HH.out.2.2.1).mono ?_); rintro e w8 ⟨rfl, hb8⟩; have HB := Aside0.mk (below_step HB.out hb8); have bz := blk_keep BZ.out hb8; have BZ := Aside0.mk bz; have ba := blk_keep BA.out hb8; have BA := Aside0.mk ba; have bx := blk_keep BX.out hb8; have BX := Aside0.mk bx; have z0 := (blk_cell bz 0).trans rfl; have fz0 := blk_frozen bz 0; have z1 := (blk_cell bz 1).trans rfl; have fz1 := blk_frozen bz 1; have z2 := (blk_cell bz 2).trans rfl; have fz2 := blk_frozen bz 2; have z3 := (blk_cell bz 3).trans rfl; have fz3 := blk_frozen bz 3; have z4 := (blk_cell bz 4).trans rfl; have fz4 := blk_frozen bz 4; have z5 := (blk_cell bz 5).trans rfl; have fz5 := blk_frozen bz 5; have z6 := (blk_cell bz 6).trans rfl; have fz6 := blk_frozen bz 6; have z7 := (blk_cell bz 7).trans rfl; have fz7 := blk_frozen bz 7; have c0 := (blk_cell bx 0).trans rfl; have c1 := (blk_cell bx 1).trans rfl; have c2 := (blk_cell bx 2).trans rfl; have c3 := (blk_cell bx 3).trans rfl; have c4 := (blk_cell bx 4).trans rfl; have c5 := (blk_cell bx 5).trans rfl; have c6 := (blk_cell bx 6).trans rfl; have c7 := (blk_cell bx 7).trans rfl; have a0 := (blk_cell ba 0).trans rfl; have a1 := (blk_cell ba 1).trans rfl; clear ba bz bx hb8) | (go_at_call 37; (with_reducible refine (rcheck_calls _ _ _ _ _ _ _ _ _).mono ?_); rintro e w8 ⟨rfl, hb8⟩; rw [hc]; have HB := Aside0.mk (below_step HB.out hb8); have bz := blk_keep BZ.out hb8; have BZ := Aside0.mk bz; have bx := blk_keep BX.out hb8; have BX := Aside0.mk bx; have z0 := (blk_cell bz 0).trans rfl; have fz0 := blk_frozen bz 0; have z1 := (blk_cell bz 1).trans rfl; have fz1 := blk_frozen bz 1; have z2 := (blk_cell bz 2).trans rfl; have fz2 := blk_frozen bz 2; have z3 := (blk_cell bz 3).trans rfl; have fz3 := blk_frozen bz 3; have z4 := (blk_cell bz 4).trans rfl; have fz4 := blk_frozen bz 4; have z5 := (blk_cell bz 5).trans rfl; have fz5 := blk_frozen bz 5; have z6 := (blk_cell bz 6).trans rfl; have fz6 := blk_frozen bz 6; have z7 := (blk_cell bz 7).trans rfl; have fz7 := blk_frozen bz 7; have c0 := (blk_cell bx 0).trans rfl; have c1 := (blk_cell bx 1).trans rfl; have c2 := (blk_cell bx 2).trans rfl; have c3 := (blk_cell bx 3).trans rfl; have c4 := (blk_cell bx 4).trans rfl; have c5 := (blk_cell bx 5).trans rfl; have c6 := (blk_cell bx 6).trans rfl; have c7 := (blk_cell bx 7).trans rfl; clear bz bx hb8))
        refine bodyPost_ret (ret2_row rfl _ _ _ w.heap.size 40 #[_, _, _, _, _, _, _, _] (0, 0) _ (.int .i64 r) rfl rfl (by first | exact blk_all8 (t := 40) BZ.out rfl _ _ _ _ _ _ _ _ | exact blk_drew1 (blk_all8 (t := 40) BZ.out rfl _ _ _ _ _ _ _ _) | exact blk_drewN (blk_all8 (t := 40) BZ.out rfl _ _ _ _ _ _ _ _) _) Try.underlying40 rfl info40) rfl ?_
        exact ⟨by rw [show getR ⟨x.n 0, x.n 1 == 1, x.n 2, x.n 3, x.n 4, x.n 6, x.n 5 == 1, x.n 7 == 1⟩ r = (Bt.zero, r) from by unfold getR Bt.chk; simp [hr]]; rfl, (by repeat (first | with_reducible exact HB.out | with_reducible apply pw_below_drewN | with_reducible apply below_drew1 | refine below_set ?_ (Nat.le_refl _)))⟩
end Go.Proofs.Ytoiahmdibibceaa.Tb
