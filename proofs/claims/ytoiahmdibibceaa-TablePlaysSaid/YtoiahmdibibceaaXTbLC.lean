import Derived.Test.YtoiahmdibibceaaXTbLB
import Derived.Test.YtoiahmdibibceaaXTbP
import Derived.Test.YtoiahmdibibceaaMBits
set_option linter.unusedVariables false
set_option linter.unusedSimpArgs false
namespace Go.Proofs.Ytoiahmdibibceaa.Tb
open Go.RowKit Go.Proofs.YtoiahmdibibceaaW.PrintWords Go.Proofs.YtoiahmdibibceaaW.PrintLast Go.Proofs.YtoiahmdibibceaaW.PrintMore
attribute [local go_sem high] eqA40
theorem check_y {x : Bt} (h : x.chk = true) (w : World) : Calls Try.prog 36 #[.agg (bcells x.a x.tr x.ts x.ls x.v0 x.v1 x.g0 x.g1)] w fun e w' => e = .returned (.bool true) ∧ Below w.heap.size w w' := by
  have q := check_calls x.a x.tr x.ts x.ls x.v0 x.v1 x.g0 x.g1 w; rw [show chkB x.a x.tr x.ts x.ls x.v0 x.v1 x.g0 x.g1 = true from h] at q; exact q
theorem first_ok {v : Int} (hv : 1 ≤ v) (hv' : v ≤ 65536) : Bt.chk ⟨0, false, 0, v, v, 0, true, false⟩ = true := (chk_iff 0 false 0 v v 0 true false).2 ⟨Or.inl rfl, by omega, by omega, fun _ => rfl, by omega, by omega, fun _ => ⟨rfl, Int.le_refl _⟩, fun q => by simp at q⟩
/-- The acts, as they lie in memory. -/
def ActsAt (w : World) (A : Option Addr) (l : List (Int × Int)) : Prop := 0 < l.length → ∃ ad, A = some ad ∧ ∀ (j : Nat) k n, l[j]? = some (k, n) → w.cell? (ad.add (j * 2)) = some (.int .i64 k) ∧ w.cell? (ad.add (j * 2 + 1)) = some (.int .i64 n)
set_option maxRecDepth 100000 in
set_option maxHeartbeats 32000000 in
theorem plays_calls (a0 : Int) (A : Option Addr) (c : Nat) (l : List (Int × Int)) (w : World) (hl : l.length ≤ 9223372036854775807) (hA : ActsAt w A l) : Calls Try.prog 8 #[.int .i64 a0, .slice A l.length c] w fun e w' => e = .returned (.bool true) ∧ Below w.heap.size w w' := by
  have m0 : Go.bits .and .i64 a0 65535 = a0 % 65536 := Go.Proofs.Ytoiahmdibibceaa.Bt.mask64 a0 16 (by decide)
  obtain ⟨v, hv⟩ : ∃ v : Int, IntKind.i64.wrap (1 + Go.bits .and .i64 a0 65535) = v := ⟨_, rfl⟩
  have V := by have h := hv; rw [m0, IntWalk.i64_in _ (by omega)] at h; exact (show 1 ≤ v ∧ v ≤ 65536 by omega)
  clear m0
  have VV := Aside0.mk V
  have HX := Aside0.mk hA
  have HL := Aside0.mk hl
  clear V hA hl
  go_enter Try.func8, Try.ntmps8
  go_upto_region 2 with (fail)
  clear hv
  have HB := Aside0.mk (Below.refl w.heap.size w)
  go_upto_region 3 with (go_at_call 28; (with_reducible refine (first_calls _ _).mono ?_); rintro e w8 ⟨rfl, hb8⟩; have HB8 := Aside0.mk (below_step HB.out hb8); clear hb8)
  obtain ⟨g, hg⟩ : ∃ g, g = w8.heap.size := ⟨_, rfl⟩
  have HG := Aside0.mk (show w.heap.size ≤ g from hg ▸ HB8.out.size)
  simp only [← hg]
  refine wp_gen (fun W => W.heap[g]? = some (.cells (bcells 0 false 0 v v 0 true false) 40 (0, 0)) ∧ Below w.heap.size w W) ⟨(by rw [hg]; exact blk_new _ _), (by repeat (first | with_reducible exact HB8.out | with_reducible apply pw_below_drewN | with_reducible apply below_drew1 | with_reducible refine below_alloc ?_ _ | refine below_set ?_ HG.out))⟩ ?_
  clear HB HB8 hg
  rintro W ⟨bk, hb⟩
  have HB := Aside0.mk hb
  have BK := Aside0.mk bk
  have c0 := (blk_cell bk 0).trans rfl
  have c1 := (blk_cell bk 1).trans rfl
  have c2 := (blk_cell bk 2).trans rfl
  have c3 := (blk_cell bk 3).trans rfl
  have c4 := (blk_cell bk 4).trans rfl
  have c5 := (blk_cell bk 5).trans rfl
  have c6 := (blk_cell bk 6).trans rfl
  have c7 := (blk_cell bk 7).trans rfl
  have fc0 := blk_frozen bk 0
  have fc1 := blk_frozen bk 1
  have fc2 := blk_frozen bk 2
  have fc3 := blk_frozen bk 3
  have fc4 := blk_frozen bk 4
  have fc5 := blk_frozen bk 5
  have fc6 := blk_frozen bk 6
  have fc7 := blk_frozen bk 7
  clear bk hb
  go_upto_region 5 with (first | (go_at_call 32; (with_reducible refine (awake_calls _).mono ?_); rintro e w8 ⟨rfl, hb8⟩; have HB8 := Aside0.mk (below_step HB.out hb8); have bk8 := blk_keep BK.out hb8; have c80 := (blk_cell bk8 0).trans rfl; have c81 := (blk_cell bk8 1).trans rfl; have c82 := (blk_cell bk8 2).trans rfl; have c83 := (blk_cell bk8 3).trans rfl; have c84 := (blk_cell bk8 4).trans rfl; have c85 := (blk_cell bk8 5).trans rfl; have c86 := (blk_cell bk8 6).trans rfl; have c87 := (blk_cell bk8 7).trans rfl; have fc80 := blk_frozen bk8 0; have fc81 := blk_frozen bk8 1; have fc82 := blk_frozen bk8 2; have fc83 := blk_frozen bk8 3; have fc84 := blk_frozen bk8 4; have fc85 := blk_frozen bk8 5; have fc86 := blk_frozen bk8 6; have fc87 := blk_frozen bk8 7; have BK8 := Aside0.mk bk8; clear bk8; clear hb8) | (go_at_call 36; (with_reducible refine (check_y (first_ok VV.out.1 VV.out.2) _).mono ?_); rintro e w9 ⟨rfl, hb9⟩; have HB9 := Aside0.mk (below_step HB8.out hb9); have bk9 := blk_keep BK8.out hb9; have c90 := (blk_cell bk9 0).trans rfl; have c91 := (blk_cell bk9 1).trans rfl; have c92 := (blk_cell bk9 2).trans rfl; have c93 := (blk_cell bk9 3).trans rfl; have c94 := (blk_cell bk9 4).trans rfl; have c95 := (blk_cell bk9 5).trans rfl; have c96 := (blk_cell bk9 6).trans rfl; have c97 := (blk_cell bk9 7).trans rfl; have fc90 := blk_frozen bk9 0; have fc91 := blk_frozen bk9 1; have fc92 := blk_frozen bk9 2; have fc93 := blk_frozen bk9 3; have fc94 := blk_frozen bk9 4; have fc95 := blk_frozen bk9 5; have fc96 := blk_frozen bk9 6; have fc97 := blk_frozen bk9 7; have BK9 := Aside0.mk bk9; clear bk9; clear hb9))
  refine wp_gen (fun W => W.heap[g]? = some (.cells (bcells 0 false 0 v v 0 true false) 40 (0, 0)) ∧ Below w.heap.size w W) ⟨BK9.out, HB9.out⟩ ?_
  clear HB BK HB8 BK8 HB9 BK9 c0 fc0 c1 fc1 c2 fc2 c3 fc3 c4 fc4 c5 fc5 c6 fc6 c7 fc7 c80 fc80 c81 fc81 c82 fc82 c83 fc83 c84 fc84 c85 fc85 c86 fc86 c87 fc87 c90 fc90 c91 fc91 c92 fc92 c93 fc93 c94 fc94 c95 fc95 c96 fc96 c97 fc97
  rintro W ⟨bk, hb⟩
  have HB := Aside0.mk hb
  have BK := Aside0.mk bk
  clear bk hb
  go_wp2
  go_loopg [7] (min l.length 60) (fun kq v7 w' => ∃ (i : Nat) (x : Bt), i ≤ min l.length 60 ∧ kq + i = min l.length 60 ∧ v7 = .int .i64 (i : Int) ∧ Aside0 (x.chk = true) ∧ Aside0 (w'.heap[g]? = some (.cells (bcells x.a x.tr x.ts x.ls x.v0 x.v1 x.g0 x.g1) 40 (0, 0))) ∧ Aside0 (Below w.heap.size w w'))
  case atStart => exact ⟨0, ⟨0, false, 0, v, v, 0, true, false⟩, by omega, by omega, rfl, ⟨first_ok VV.out.1 VV.out.2⟩, BK, HB⟩
  case round =>
    clear HB BK
    obtain ⟨i, ⟨a, tr, ts, ls, v0, v1, g0, g1⟩, hi, hki, rfl, HC, BK, HB⟩ := hrel
    have bk := BK.out
    dsimp only at bk
    have BK := Aside0.mk bk
    have c0 := (blk_cell bk 0).trans rfl
    have c1 := (blk_cell bk 1).trans rfl
    have c2 := (blk_cell bk 2).trans rfl
    have c3 := (blk_cell bk 3).trans rfl
    have c4 := (blk_cell bk 4).trans rfl
    have c5 := (blk_cell bk 5).trans rfl
    have c6 := (blk_cell bk 6).trans rfl
    have c7 := (blk_cell bk 7).trans rfl
    have fc0 := blk_frozen bk 0
    have fc1 := blk_frozen bk 1
    have fc2 := blk_frozen bk 2
    have fc3 := blk_frozen bk 3
    have fc4 := blk_frozen bk 4
    have fc5 := blk_frozen bk 5
    have fc6 := blk_frozen bk 6
    have fc7 := blk_frozen bk 7
    clear bk
    rcases Nat.lt_or_ge i (min l.length 60) with hlt | hge
    · have h1 : i < l.length := by omega
      have h2 : i < 60 := by omega
      obtain ⟨ad, hAd, hcell⟩ := HX.out (by omega)
      subst hAd
      obtain ⟨⟨k, n⟩, hkn⟩ : ∃ p, l[i]? = some p := ⟨l[i], List.getElem?_eq_getElem h1⟩
      have hck := hcell i k n hkn
      have HCE := Aside0.mk hck
      clear hcell hck hkn
      have d1 : decide ((i : Int) < (l.length : Int)) = true := decide_eq_true (by omega)
      have d1b : decide (i < l.length) = true := decide_eq_true h1
      have d2 : decide ((i : Int) < 60) = true := decide_eq_true (by omega)
      have d2b : decide (i < 60) = true := decide_eq_true h2
      have e0 : (0 : Int) ≤ (i : Int) := by omega
      have e1 : (i : Int) < (l.length : Int) := by omega
      have HI := Aside0.mk (And.intro hi (And.intro hki (And.intro h1 h2)))
      clear hi hki hlt h1 h2
      rcases hy : Bt.act ⟨a, tr, ts, ls, v0, v1, g0, g1⟩ k n with ⟨⟨a1, tr1, ts1, ls1, v01, v11, g01, g11⟩, q⟩
      have HY := Aside0.mk hy
      clear hy
      go_upto_region 9 with (fail)
      have d0 : wr.cell? (ad.add (i * 2)) = some (.int .i64 k) := cell_keep HB.out HCE.out.1
      have d1c : wr.cell? ⟨(ad.add (i * 2)).block, (ad.add (i * 2)).off + 1, none⟩ = some (.int .i64 n) := by rw [← add_field ad (i * 2) 1 (by decide)]; exact cell_keep HB.out HCE.out.2
      have KS := Aside0.mk (show ∀ (A B : World), Below A.heap.size A B → (A.cell? ⟨g, 0, none⟩ = some (.int .i64 a) ∧ A.cell? ⟨g, 1, none⟩ = some (.bool tr) ∧ A.cell? ⟨g, 2, none⟩ = some (.int .i64 ts) ∧ A.cell? ⟨g, 3, none⟩ = some (.int .i64 ls) ∧ A.cell? ⟨g, 4, none⟩ = some (.int .i64 v0) ∧ A.cell? ⟨g, 5, none⟩ = some (.int .i64 v1) ∧ A.cell? ⟨g, 6, none⟩ = some (.bool g0) ∧ A.cell? ⟨g, 7, none⟩ = some (.bool g1) ∧ A.cell? (ad.add (i * 2)) = some (.int .i64 k) ∧ A.cell? ⟨(ad.add (i * 2)).block, (ad.add (i * 2)).off + 1, none⟩ = some (.int .i64 n) ∧ Below w.heap.size w A) → (B.cell? ⟨g, 0, none⟩ = some (.int .i64 a) ∧ B.cell? ⟨g, 1, none⟩ = some (.bool tr) ∧ B.cell? ⟨g, 2, none⟩ = some (.int .i64 ts) ∧ B.cell? ⟨g, 3, none⟩ = some (.int .i64 ls) ∧ B.cell? ⟨g, 4, none⟩ = some (.int .i64 v0) ∧ B.cell? ⟨g, 5, none⟩ = some (.int .i64 v1) ∧ B.cell? ⟨g, 6, none⟩ = some (.bool g0) ∧ B.cell? ⟨g, 7, none⟩ = some (.bool g1) ∧ B.cell? (ad.add (i * 2)) = some (.int .i64 k) ∧ B.cell? ⟨(ad.add (i * 2)).block, (ad.add (i * 2)).off + 1, none⟩ = some (.int .i64 n) ∧ Below w.heap.size w B) from fun A B hb ⟨h0, h1, h2, h3, h4, h5, h6, h7, h8, h9, h10⟩ => ⟨cell_keep hb h0, cell_keep hb h1, cell_keep hb h2, cell_keep hb h3, cell_keep hb h4, cell_keep hb h5, cell_keep hb h6, cell_keep hb h7, cell_keep hb h8, cell_keep hb h9, below_step h10 hb⟩)
      have HSD := Aside0.mk (show (wr.cell? ⟨g, 0, none⟩ = some (.int .i64 a) ∧ wr.cell? ⟨g, 1, none⟩ = some (.bool tr) ∧ wr.cell? ⟨g, 2, none⟩ = some (.int .i64 ts) ∧ wr.cell? ⟨g, 3, none⟩ = some (.int .i64 ls) ∧ wr.cell? ⟨g, 4, none⟩ = some (.int .i64 v0) ∧ wr.cell? ⟨g, 5, none⟩ = some (.int .i64 v1) ∧ wr.cell? ⟨g, 6, none⟩ = some (.bool g0) ∧ wr.cell? ⟨g, 7, none⟩ = some (.bool g1) ∧ wr.cell? (ad.add (i * 2)) = some (.int .i64 k) ∧ wr.cell? ⟨(ad.add (i * 2)).block, (ad.add (i * 2)).off + 1, none⟩ = some (.int .i64 n) ∧ Below w.heap.size w wr) from ⟨c0, c1, c2, c3, c4, c5, c6, c7, d0, d1c, HB.out⟩)
      first | (go_region_held3 (fun w' => w'.cell? ⟨g, 0, none⟩ = some (.int .i64 a) ∧ w'.cell? ⟨g, 1, none⟩ = some (.bool tr) ∧ w'.cell? ⟨g, 2, none⟩ = some (.int .i64 ts) ∧ w'.cell? ⟨g, 3, none⟩ = some (.int .i64 ls) ∧ w'.cell? ⟨g, 4, none⟩ = some (.int .i64 v0) ∧ w'.cell? ⟨g, 5, none⟩ = some (.int .i64 v1) ∧ w'.cell? ⟨g, 6, none⟩ = some (.bool g0) ∧ w'.cell? ⟨g, 7, none⟩ = some (.bool g1) ∧ w'.cell? (ad.add (i * 2)) = some (.int .i64 k) ∧ w'.cell? ⟨(ad.add (i * 2)).block, (ad.add (i * 2)).off + 1, none⟩ = some (.int .i64 n) ∧ Below w.heap.size w w') (first | with_reducible assumption | (have zz := fy0; refine KS.out wr _ ?_ HSD.out; refine below_set ?_ (Nat.le_refl wr.heap.size); refine below_set ?_ (Nat.le_refl wr.heap.size); refine below_set ?_ (Nat.le_refl wr.heap.size); refine below_set ?_ (Nat.le_refl wr.heap.size); refine below_set ?_ (Nat.le_refl wr.heap.size); refine below_set ?_ (Nat.le_refl wr.heap.size); refine below_set ?_ (Nat.le_refl wr.heap.size); refine below_set ?_ (Nat.le_refl wr.heap.size); with_reducible refine below_step ?_ hb8; with_reducible apply below_drew1; with_reducible refine below_alloc ?_ _; with_reducible exact Below.refl _ _) | exact KS.out wr _ (by (repeat (first | with_reducible exact Below.refl _ _ | with_reducible apply below_drew1 | with_reducible refine below_alloc ?_ _ | with_reducible refine below_step ?_ hb8 | refine below_set ?_ (Nat.le_refl wr.heap.size)))) HSD.out) (first | (go_at_call 34; (with_reducible refine (lact_y ⟨a, tr, ts, ls, v0, v1, g0, g1⟩ _ _ HY.out _).mono ?_); rintro e w8 ⟨rfl, hb8⟩; (try (have hb7 : Below (World.drew (wr.alloc (.cells (bcells 0 false 0 0 0 0 false false) 40))).heap.size (World.drew (wr.alloc (.cells (bcells 0 false 0 0 0 0 false false) 40))) w8 := (by with_reducible exact hb8); have bn : w8.heap[wr.heap.size]? = some (.cells (bcells 0 false 0 0 0 0 false false) 40 (0, 0)) := blk_keep (w := (World.drew (wr.alloc (.cells (bcells 0 false 0 0 0 0 false false) 40)))) (blk_new wr _) hb7; clear hb7; have y0 := (blk_cell bn 0).trans rfl; have y1 := (blk_cell bn 1).trans rfl; have y2 := (blk_cell bn 2).trans rfl; have y3 := (blk_cell bn 3).trans rfl; have y4 := (blk_cell bn 4).trans rfl; have y5 := (blk_cell bn 5).trans rfl; have y6 := (blk_cell bn 6).trans rfl; have y7 := (blk_cell bn 7).trans rfl; have fy0 := blk_frozen bn 0; have fy1 := blk_frozen bn 1; have fy2 := blk_frozen bn 2; have fy3 := blk_frozen bn 3; have fy4 := blk_frozen bn 4; have fy5 := blk_frozen bn 5; have fy6 := blk_frozen bn 6; have fy7 := blk_frozen bn 7; clear bn))))) | fail
      · skip
        refine to_wp (fun W => W.heap[g]? = some (.cells (bcells a tr ts ls v0 v1 g0 g1) 40 (0, 0)) ∧ W.heap[w8.heap.size]? = some (.cells (bcells a1 tr1 ts1 ls1 v01 v11 g01 g11) 40 (0, 0)) ∧ W.cell? (ad.add (i * 2)) = some (.int .i64 k) ∧ W.cell? ⟨(ad.add (i * 2)).block, (ad.add (i * 2)).off + 1, none⟩ = some (.int .i64 n) ∧ Below w.heap.size w W) ⟨blk_alloc (blk_keep (w := World.drew wr) BK.out hb8) _, blk_new _ _, cell_keep (below_alloc (below_step (below_drew1 (Below.refl wr.heap.size wr)) hb8) _) d0, cell_keep (below_alloc (below_step (below_drew1 (Below.refl wr.heap.size wr)) hb8) _) d1c, below_alloc (below_step (below_drew1 HB.out) hb8) _⟩ ?_
        have HN := Aside0.mk (show g ≠ w8.heap.size from Nat.ne_of_lt (Nat.lt_of_lt_of_le (blk_lt BK.out) hb8.size))
        clear hb8 HSD KS HCE HB BK d0 d1c c0 fc0 c1 fc1 c2 fc2 c3 fc3 c4 fc4 c5 fc5 c6 fc6 c7 fc7
        obtain ⟨g9, hg9⟩ : ∃ q, q = w8.heap.size := ⟨_, rfl⟩
        rw [← hg9] at HN
        simp only [← hg9]
        clear hg9
        rintro W ⟨bk, by_, d0, d1c, hb⟩
        have HB := Aside0.mk hb
        have BK := Aside0.mk bk
        have BY := Aside0.mk by_
        have c0 := (blk_cell bk 0).trans rfl
        have c1 := (blk_cell bk 1).trans rfl
        have c2 := (blk_cell bk 2).trans rfl
        have c3 := (blk_cell bk 3).trans rfl
        have c4 := (blk_cell bk 4).trans rfl
        have c5 := (blk_cell bk 5).trans rfl
        have c6 := (blk_cell bk 6).trans rfl
        have c7 := (blk_cell bk 7).trans rfl
        have fc0 := blk_frozen bk 0
        have fc1 := blk_frozen bk 1
        have fc2 := blk_frozen bk 2
        have fc3 := blk_frozen bk 3
        have fc4 := blk_frozen bk 4
        have fc5 := blk_frozen bk 5
        have fc6 := blk_frozen bk 6
        have fc7 := blk_frozen bk 7
        have y0 := (blk_cell by_ 0).trans rfl
        have y1 := (blk_cell by_ 1).trans rfl
        have y2 := (blk_cell by_ 2).trans rfl
        have y3 := (blk_cell by_ 3).trans rfl
        have y4 := (blk_cell by_ 4).trans rfl
        have y5 := (blk_cell by_ 5).trans rfl
        have y6 := (blk_cell by_ 6).trans rfl
        have y7 := (blk_cell by_ 7).trans rfl
        clear bk by_ hb
        have ew : IntKind.i64.wrap ((i : Int) + 1) = ((i + 1 : Nat) : Int) := by have h2 := HI.out; rw [IntWalk.i64_in _ (by omega)]; omega
        rcases act_ok HC.out HY.out with ⟨hq, hz⟩ | ⟨hq, hcy, hls⟩
        · unfold Bt.zero at hz
          injection hz with z0 z1 z2 z3 z4 z5 z6 z7
          subst z0 z1 z2 z3 z4 z5 z6 z7
          have hq0 : (q != 0) = true := by simpa using hq
          clear hq
          go_wp2
          go_roundg (gk - 1)
          case measure => have h2 := HI.out; omega
          case rel => exact ⟨i + 1, ⟨a, tr, ts, ls, v0, v1, g0, g1⟩, by have h2 := HI.out; omega, by have h2 := HI.out; omega, rfl, HC, ⟨by first | exact BK.out | exact blk_drewN BK.out _ | exact blk_drew1 BK.out⟩, ⟨(by repeat (first | with_reducible exact HB.out | with_reducible apply pw_below_drewN | with_reducible apply below_drew1 | refine below_set ?_ HG.out))⟩⟩
        · subst hq
          have HQ := Aside0.mk hcy
          have dls : decide (ls1 < ls) = false := decide_eq_false (by have h : ls ≤ ls1 := hls; omega)
          clear hls hcy
          go_upto_region 15 with (first | (go_at_call 36; (with_reducible refine (check_y HQ.out _).mono ?_); rintro e w8 ⟨rfl, hb8⟩; have bk8 := blk_keep BK.out hb8; have by8 := blk_keep BY.out hb8; have d08 := cell_keep hb8 d0; have d18 := cell_keep hb8 d1c; have HB8 := Aside0.mk (below_step HB.out hb8); have BK8 := Aside0.mk bk8; have BY8 := Aside0.mk by8; have c80 := (blk_cell bk8 0).trans rfl; have c81 := (blk_cell bk8 1).trans rfl; have c82 := (blk_cell bk8 2).trans rfl; have c83 := (blk_cell bk8 3).trans rfl; have c84 := (blk_cell bk8 4).trans rfl; have c85 := (blk_cell bk8 5).trans rfl; have c86 := (blk_cell bk8 6).trans rfl; have c87 := (blk_cell bk8 7).trans rfl; have fc80 := blk_frozen bk8 0; have fc81 := blk_frozen bk8 1; have fc82 := blk_frozen bk8 2; have fc83 := blk_frozen bk8 3; have fc84 := blk_frozen bk8 4; have fc85 := blk_frozen bk8 5; have fc86 := blk_frozen bk8 6; have fc87 := blk_frozen bk8 7; have y80 := (blk_cell by8 0).trans rfl; have y81 := (blk_cell by8 1).trans rfl; have y82 := (blk_cell by8 2).trans rfl; have y83 := (blk_cell by8 3).trans rfl; have y84 := (blk_cell by8 4).trans rfl; have y85 := (blk_cell by8 5).trans rfl; have y86 := (blk_cell by8 6).trans rfl; have y87 := (blk_cell by8 7).trans rfl; clear bk8 by8 hb8))
          refine wp_gen (fun W => W.heap[g]? = some (.cells (bcells a tr ts ls v0 v1 g0 g1) 40 (0, 0)) ∧ W.heap[g9]? = some (.cells (bcells a1 tr1 ts1 ls1 v01 v11 g01 g11) 40 (0, 0)) ∧ W.cell? (ad.add (i * 2)) = some (.int .i64 k) ∧ W.cell? ⟨(ad.add (i * 2)).block, (ad.add (i * 2)).off + 1, none⟩ = some (.int .i64 n) ∧ Below w.heap.size w W) ⟨BK8.out, BY8.out, d08, d18, HB8.out⟩ ?_
          clear BK BY HB c0 fc0 y0 c1 fc1 y1 c2 fc2 y2 c3 fc3 y3 c4 fc4 y4 c5 fc5 y5 c6 fc6 y6 c7 fc7 y7 d0 d1c HB8 BK8 BY8 d08 d18 c80 fc80 y80 c81 fc81 y81 c82 fc82 y82 c83 fc83 y83 c84 fc84 y84 c85 fc85 y85 c86 fc86 y86 c87 fc87 y87
          rintro W ⟨bk, by_, d0, d1c, hb⟩
          have HB := Aside0.mk hb
          have BK := Aside0.mk bk
          have BY := Aside0.mk by_
          have c0 := (blk_cell bk 0).trans rfl
          have c1 := (blk_cell bk 1).trans rfl
          have c2 := (blk_cell bk 2).trans rfl
          have c3 := (blk_cell bk 3).trans rfl
          have c4 := (blk_cell bk 4).trans rfl
          have c5 := (blk_cell bk 5).trans rfl
          have c6 := (blk_cell bk 6).trans rfl
          have c7 := (blk_cell bk 7).trans rfl
          have fc0 := blk_frozen bk 0
          have fc1 := blk_frozen bk 1
          have fc2 := blk_frozen bk 2
          have fc3 := blk_frozen bk 3
          have fc4 := blk_frozen bk 4
          have fc5 := blk_frozen bk 5
          have fc6 := blk_frozen bk 6
          have fc7 := blk_frozen bk 7
          have y0 := (blk_cell by_ 0).trans rfl
          have y1 := (blk_cell by_ 1).trans rfl
          have y2 := (blk_cell by_ 2).trans rfl
          have y3 := (blk_cell by_ 3).trans rfl
          have y4 := (blk_cell by_ 4).trans rfl
          have y5 := (blk_cell by_ 5).trans rfl
          have y6 := (blk_cell by_ 6).trans rfl
          have y7 := (blk_cell by_ 7).trans rfl
          clear bk by_ hb
          by_cases hk : k = 3
          · subst hk
            rcases hs : Bt.start ⟨a, tr, ts, ls, v0, v1, g0, g1⟩ with ⟨s, ⟨a2, tr2, ts2, ls2, v02, v12, g02, g12⟩, f⟩
            have so := start_ok HC.out hs
            have HS := Aside0.mk hs
            clear hs
            obtain ⟨rfl, so⟩ := so
            go_upto_region 17 with (first | (go_at_call 33; (with_reducible refine (start_y ⟨a, tr, ts, ls, v0, v1, g0, g1⟩ HS.out _).mono ?_); rintro e w8 ⟨rfl, hb8⟩; have bk8 := blk_keep BK.out hb8; have by8 := blk_keep BY.out hb8; have d08 := cell_keep hb8 d0; have d18 := cell_keep hb8 d1c; have HB8 := Aside0.mk (below_step HB.out hb8); have BK8 := Aside0.mk bk8; have BY8 := Aside0.mk by8; have c80 := (blk_cell bk8 0).trans rfl; have c81 := (blk_cell bk8 1).trans rfl; have c82 := (blk_cell bk8 2).trans rfl; have c83 := (blk_cell bk8 3).trans rfl; have c84 := (blk_cell bk8 4).trans rfl; have c85 := (blk_cell bk8 5).trans rfl; have c86 := (blk_cell bk8 6).trans rfl; have c87 := (blk_cell bk8 7).trans rfl; have fc80 := blk_frozen bk8 0; have fc81 := blk_frozen bk8 1; have fc82 := blk_frozen bk8 2; have fc83 := blk_frozen bk8 3; have fc84 := blk_frozen bk8 4; have fc85 := blk_frozen bk8 5; have fc86 := blk_frozen bk8 6; have fc87 := blk_frozen bk8 7; have y80 := (blk_cell by8 0).trans rfl; have y81 := (blk_cell by8 1).trans rfl; have y82 := (blk_cell by8 2).trans rfl; have y83 := (blk_cell by8 3).trans rfl; have y84 := (blk_cell by8 4).trans rfl; have y85 := (blk_cell by8 5).trans rfl; have y86 := (blk_cell by8 6).trans rfl; have y87 := (blk_cell by8 7).trans rfl; clear bk8 by8 hb8))
            refine wp_gen (fun W => W.heap[g]? = some (.cells (bcells a tr ts ls v0 v1 g0 g1) 40 (0, 0)) ∧ W.heap[g9]? = some (.cells (bcells a1 tr1 ts1 ls1 v01 v11 g01 g11) 40 (0, 0)) ∧ W.cell? (ad.add (i * 2)) = some (.int .i64 3) ∧ W.cell? ⟨(ad.add (i * 2)).block, (ad.add (i * 2)).off + 1, none⟩ = some (.int .i64 n) ∧ Below w.heap.size w W) ⟨blk_alloc BK8.out _, blk_alloc BY8.out _, cell_keep (below_alloc (Below.refl _ _) _) d08, cell_keep (below_alloc (Below.refl _ _) _) d18, below_alloc HB8.out _⟩ ?_
            clear BK BY HB c0 fc0 y0 c1 fc1 y1 c2 fc2 y2 c3 fc3 y3 c4 fc4 y4 c5 fc5 y5 c6 fc6 y6 c7 fc7 y7 d0 d1c HB8 BK8 BY8 d08 d18 c80 fc80 y80 c81 fc81 y81 c82 fc82 y82 c83 fc83 y83 c84 fc84 y84 c85 fc85 y85 c86 fc86 y86 c87 fc87 y87
            rintro W ⟨bk, by_, d0, d1c, hb⟩
            have HB := Aside0.mk hb
            have BK := Aside0.mk bk
            have BY := Aside0.mk by_
            have c0 := (blk_cell bk 0).trans rfl
            have c1 := (blk_cell bk 1).trans rfl
            have c2 := (blk_cell bk 2).trans rfl
            have c3 := (blk_cell bk 3).trans rfl
            have c4 := (blk_cell bk 4).trans rfl
            have c5 := (blk_cell bk 5).trans rfl
            have c6 := (blk_cell bk 6).trans rfl
            have c7 := (blk_cell bk 7).trans rfl
            have fc0 := blk_frozen bk 0
            have fc1 := blk_frozen bk 1
            have fc2 := blk_frozen bk 2
            have fc3 := blk_frozen bk 3
            have fc4 := blk_frozen bk 4
            have fc5 := blk_frozen bk 5
            have fc6 := blk_frozen bk 6
            have fc7 := blk_frozen bk 7
            have y0 := (blk_cell by_ 0).trans rfl
            have y1 := (blk_cell by_ 1).trans rfl
            have y2 := (blk_cell by_ 2).trans rfl
            have y3 := (blk_cell by_ 3).trans rfl
            have y4 := (blk_cell by_ 4).trans rfl
            have y5 := (blk_cell by_ 5).trans rfl
            have y6 := (blk_cell by_ 6).trans rfl
            have y7 := (blk_cell by_ 7).trans rfl
            clear bk by_ hb
            (try (dsimp only at so))
            rcases so with ⟨rfl, rfl, hv⟩ | ⟨rfl, rfl, hv⟩
            · have dv : decide (v0 < ls) = false := decide_eq_false (by omega)
              clear hv
              (try go_wp2)
              (try (go_quiet (fail)))
              go_wp2
              go_roundg (gk - 1)
              case measure => have h2 := HI.out; omega
              case rel => exact ⟨i + 1, ⟨a1, tr1, ts1, ls1, v01, v11, g01, g11⟩, by have h2 := HI.out; omega, by have h2 := HI.out; omega, rfl, ⟨HQ.out⟩, ⟨by first | exact blk_all8 (t := 40) BK.out rfl _ _ _ _ _ _ _ _ | exact blk_drewN (blk_all8 (t := 40) BK.out rfl _ _ _ _ _ _ _ _) _ | exact blk_drew1 (blk_all8 (t := 40) BK.out rfl _ _ _ _ _ _ _ _)⟩, ⟨(by repeat (first | with_reducible exact HB.out | with_reducible apply pw_below_drewN | with_reducible apply below_drew1 | refine below_set ?_ HG.out))⟩⟩
            · have dv : decide (v1 < ls) = false := decide_eq_false (by omega)
              clear hv
              (try go_wp2)
              (try (go_quiet (fail)))
              go_wp2
              go_roundg (gk - 1)
              case measure => have h2 := HI.out; omega
              case rel => exact ⟨i + 1, ⟨a1, tr1, ts1, ls1, v01, v11, g01, g11⟩, by have h2 := HI.out; omega, by have h2 := HI.out; omega, rfl, ⟨HQ.out⟩, ⟨by first | exact blk_all8 (t := 40) BK.out rfl _ _ _ _ _ _ _ _ | exact blk_drewN (blk_all8 (t := 40) BK.out rfl _ _ _ _ _ _ _ _) _ | exact blk_drew1 (blk_all8 (t := 40) BK.out rfl _ _ _ _ _ _ _ _)⟩, ⟨(by repeat (first | with_reducible exact HB.out | with_reducible apply pw_below_drewN | with_reducible apply below_drew1 | refine below_set ?_ HG.out))⟩⟩
          · have hk0 : (k == 3) = false := by simpa using hk
            clear hk
            go_wp2
            go_roundg (gk - 1)
            case measure => have h2 := HI.out; omega
            case rel => exact ⟨i + 1, ⟨a1, tr1, ts1, ls1, v01, v11, g01, g11⟩, by have h2 := HI.out; omega, by have h2 := HI.out; omega, rfl, ⟨HQ.out⟩, ⟨by first | exact blk_all8 (t := 40) BK.out rfl _ _ _ _ _ _ _ _ | exact blk_drewN (blk_all8 (t := 40) BK.out rfl _ _ _ _ _ _ _ _) _ | exact blk_drew1 (blk_all8 (t := 40) BK.out rfl _ _ _ _ _ _ _ _)⟩, ⟨(by repeat (first | with_reducible exact HB.out | with_reducible apply pw_below_drewN | with_reducible apply below_drew1 | refine below_set ?_ HG.out))⟩⟩
      · skip
        have hb7 : Below (World.drew (wr.alloc (.cells (bcells 0 false 0 0 0 0 false false) 40))).heap.size (World.drew (wr.alloc (.cells (bcells 0 false 0 0 0 0 false false) 40))) w8 := hb8
        have bo : w8.heap[g]? = some (.cells (bcells a tr ts ls v0 v1 g0 g1) 40 (0, 0)) := blk_keep (w := (World.drew (wr.alloc (.cells (bcells 0 false 0 0 0 0 false false) 40)))) (blk_alloc BK.out _) hb7
        have bn : w8.heap[wr.heap.size]? = some (.cells (bcells 0 false 0 0 0 0 false false) 40 (0, 0)) := blk_keep (w := (World.drew (wr.alloc (.cells (bcells 0 false 0 0 0 0 false false) 40)))) (blk_new wr _) hb7
        have hne : g ≠ wr.heap.size := Nat.ne_of_lt (blk_lt BK.out)
        have hbb : Below wr.heap.size wr w8 := below_step (below_drew1 (below_alloc (Below.refl _ _) _)) hb7
        refine to_wp (fun W => W.heap[g]? = some (.cells (bcells a tr ts ls v0 v1 g0 g1) 40 (0, 0)) ∧ W.heap[wr.heap.size]? = some (.cells (bcells a1 tr1 ts1 ls1 v01 v11 g01 g11) 40 (0, 0)) ∧ W.cell? (ad.add (i * 2)) = some (.int .i64 k) ∧ W.cell? ⟨(ad.add (i * 2)).block, (ad.add (i * 2)).off + 1, none⟩ = some (.int .i64 n) ∧ Below w.heap.size w W) ⟨blk_far (blk_far (blk_far (blk_far (blk_far (blk_far (blk_far (blk_far (bo) hne _) hne _) hne _) hne _) hne _) hne _) hne _) hne _, blk_all8 (t := 40) bn rfl _ _ _ _ _ _ _ _, cell_keep (below_set (below_set (below_set (below_set (below_set (below_set (below_set (below_set (hbb) (Nat.le_refl wr.heap.size)) (Nat.le_refl wr.heap.size)) (Nat.le_refl wr.heap.size)) (Nat.le_refl wr.heap.size)) (Nat.le_refl wr.heap.size)) (Nat.le_refl wr.heap.size)) (Nat.le_refl wr.heap.size)) (Nat.le_refl wr.heap.size)) d0, cell_keep (below_set (below_set (below_set (below_set (below_set (below_set (below_set (below_set (hbb) (Nat.le_refl wr.heap.size)) (Nat.le_refl wr.heap.size)) (Nat.le_refl wr.heap.size)) (Nat.le_refl wr.heap.size)) (Nat.le_refl wr.heap.size)) (Nat.le_refl wr.heap.size)) (Nat.le_refl wr.heap.size)) (Nat.le_refl wr.heap.size)) d1c, below_set (below_set (below_set (below_set (below_set (below_set (below_set (below_set ((below_step HB.out hbb)) HB.out.size) HB.out.size) HB.out.size) HB.out.size) HB.out.size) HB.out.size) HB.out.size) HB.out.size⟩ ?_
        have HN := Aside0.mk hne
        clear hb8 hb7 bo bn hne hbb HSD KS HCE HB BK d0 d1c c0 fc0 c1 fc1 c2 fc2 c3 fc3 c4 fc4 c5 fc5 c6 fc6 c7 fc7 y0 fy0 y1 fy1 y2 fy2 y3 fy3 y4 fy4 y5 fy5 y6 fy6 y7 fy7
        obtain ⟨g9, hg9⟩ : ∃ q, q = wr.heap.size := ⟨_, rfl⟩
        rw [← hg9] at HN
        simp only [← hg9]
        clear hg9
        rintro W ⟨bk, by_, d0, d1c, hb⟩
        have HB := Aside0.mk hb
        have BK := Aside0.mk bk
        have BY := Aside0.mk by_
        have c0 := (blk_cell bk 0).trans rfl
        have c1 := (blk_cell bk 1).trans rfl
        have c2 := (blk_cell bk 2).trans rfl
        have c3 := (blk_cell bk 3).trans rfl
        have c4 := (blk_cell bk 4).trans rfl
        have c5 := (blk_cell bk 5).trans rfl
        have c6 := (blk_cell bk 6).trans rfl
        have c7 := (blk_cell bk 7).trans rfl
        have fc0 := blk_frozen bk 0
        have fc1 := blk_frozen bk 1
        have fc2 := blk_frozen bk 2
        have fc3 := blk_frozen bk 3
        have fc4 := blk_frozen bk 4
        have fc5 := blk_frozen bk 5
        have fc6 := blk_frozen bk 6
        have fc7 := blk_frozen bk 7
        have y0 := (blk_cell by_ 0).trans rfl
        have y1 := (blk_cell by_ 1).trans rfl
        have y2 := (blk_cell by_ 2).trans rfl
        have y3 := (blk_cell by_ 3).trans rfl
        have y4 := (blk_cell by_ 4).trans rfl
        have y5 := (blk_cell by_ 5).trans rfl
        have y6 := (blk_cell by_ 6).trans rfl
        have y7 := (blk_cell by_ 7).trans rfl
        clear bk by_ hb
        have ew : IntKind.i64.wrap ((i : Int) + 1) = ((i + 1 : Nat) : Int) := by have h2 := HI.out; rw [IntWalk.i64_in _ (by omega)]; omega
        rcases act_ok HC.out HY.out with ⟨hq, hz⟩ | ⟨hq, hcy, hls⟩
        · unfold Bt.zero at hz
          injection hz with z0 z1 z2 z3 z4 z5 z6 z7
          subst z0 z1 z2 z3 z4 z5 z6 z7
          have hq0 : (q != 0) = true := by simpa using hq
          clear hq
          go_wp2
          go_roundg (gk - 1)
          case measure => have h2 := HI.out; omega
          case rel => exact ⟨i + 1, ⟨a, tr, ts, ls, v0, v1, g0, g1⟩, by have h2 := HI.out; omega, by have h2 := HI.out; omega, rfl, HC, ⟨by first | exact BK.out | exact blk_drewN BK.out _ | exact blk_drew1 BK.out⟩, ⟨(by repeat (first | with_reducible exact HB.out | with_reducible apply pw_below_drewN | with_reducible apply below_drew1 | refine below_set ?_ HG.out))⟩⟩
        · subst hq
          have HQ := Aside0.mk hcy
          have dls : decide (ls1 < ls) = false := decide_eq_false (by have h : ls ≤ ls1 := hls; omega)
          clear hls hcy
          go_upto_region 15 with (first | (go_at_call 36; (with_reducible refine (check_y HQ.out _).mono ?_); rintro e w8 ⟨rfl, hb8⟩; have bk8 := blk_keep BK.out hb8; have by8 := blk_keep BY.out hb8; have d08 := cell_keep hb8 d0; have d18 := cell_keep hb8 d1c; have HB8 := Aside0.mk (below_step HB.out hb8); have BK8 := Aside0.mk bk8; have BY8 := Aside0.mk by8; have c80 := (blk_cell bk8 0).trans rfl; have c81 := (blk_cell bk8 1).trans rfl; have c82 := (blk_cell bk8 2).trans rfl; have c83 := (blk_cell bk8 3).trans rfl; have c84 := (blk_cell bk8 4).trans rfl; have c85 := (blk_cell bk8 5).trans rfl; have c86 := (blk_cell bk8 6).trans rfl; have c87 := (blk_cell bk8 7).trans rfl; have fc80 := blk_frozen bk8 0; have fc81 := blk_frozen bk8 1; have fc82 := blk_frozen bk8 2; have fc83 := blk_frozen bk8 3; have fc84 := blk_frozen bk8 4; have fc85 := blk_frozen bk8 5; have fc86 := blk_frozen bk8 6; have fc87 := blk_frozen bk8 7; have y80 := (blk_cell by8 0).trans rfl; have y81 := (blk_cell by8 1).trans rfl; have y82 := (blk_cell by8 2).trans rfl; have y83 := (blk_cell by8 3).trans rfl; have y84 := (blk_cell by8 4).trans rfl; have y85 := (blk_cell by8 5).trans rfl; have y86 := (blk_cell by8 6).trans rfl; have y87 := (blk_cell by8 7).trans rfl; clear bk8 by8 hb8))
          refine wp_gen (fun W => W.heap[g]? = some (.cells (bcells a tr ts ls v0 v1 g0 g1) 40 (0, 0)) ∧ W.heap[g9]? = some (.cells (bcells a1 tr1 ts1 ls1 v01 v11 g01 g11) 40 (0, 0)) ∧ W.cell? (ad.add (i * 2)) = some (.int .i64 k) ∧ W.cell? ⟨(ad.add (i * 2)).block, (ad.add (i * 2)).off + 1, none⟩ = some (.int .i64 n) ∧ Below w.heap.size w W) ⟨BK8.out, BY8.out, d08, d18, HB8.out⟩ ?_
          clear BK BY HB c0 fc0 y0 c1 fc1 y1 c2 fc2 y2 c3 fc3 y3 c4 fc4 y4 c5 fc5 y5 c6 fc6 y6 c7 fc7 y7 d0 d1c HB8 BK8 BY8 d08 d18 c80 fc80 y80 c81 fc81 y81 c82 fc82 y82 c83 fc83 y83 c84 fc84 y84 c85 fc85 y85 c86 fc86 y86 c87 fc87 y87
          rintro W ⟨bk, by_, d0, d1c, hb⟩
          have HB := Aside0.mk hb
          have BK := Aside0.mk bk
          have BY := Aside0.mk by_
          have c0 := (blk_cell bk 0).trans rfl
          have c1 := (blk_cell bk 1).trans rfl
          have c2 := (blk_cell bk 2).trans rfl
          have c3 := (blk_cell bk 3).trans rfl
          have c4 := (blk_cell bk 4).trans rfl
          have c5 := (blk_cell bk 5).trans rfl
          have c6 := (blk_cell bk 6).trans rfl
          have c7 := (blk_cell bk 7).trans rfl
          have fc0 := blk_frozen bk 0
          have fc1 := blk_frozen bk 1
          have fc2 := blk_frozen bk 2
          have fc3 := blk_frozen bk 3
          have fc4 := blk_frozen bk 4
          have fc5 := blk_frozen bk 5
          have fc6 := blk_frozen bk 6
          have fc7 := blk_frozen bk 7
          have y0 := (blk_cell by_ 0).trans rfl
          have y1 := (blk_cell by_ 1).trans rfl
          have y2 := (blk_cell by_ 2).trans rfl
          have y3 := (blk_cell by_ 3).trans rfl
          have y4 := (blk_cell by_ 4).trans rfl
          have y5 := (blk_cell by_ 5).trans rfl
          have y6 := (blk_cell by_ 6).trans rfl
          have y7 := (blk_cell by_ 7).trans rfl
          clear bk by_ hb
          by_cases hk : k = 3
          · subst hk
            rcases hs : Bt.start ⟨a, tr, ts, ls, v0, v1, g0, g1⟩ with ⟨s, ⟨a2, tr2, ts2, ls2, v02, v12, g02, g12⟩, f⟩
            have so := start_ok HC.out hs
            have HS := Aside0.mk hs
            clear hs
            obtain ⟨rfl, so⟩ := so
            go_upto_region 17 with (first | (go_at_call 33; (with_reducible refine (start_y ⟨a, tr, ts, ls, v0, v1, g0, g1⟩ HS.out _).mono ?_); rintro e w8 ⟨rfl, hb8⟩; have bk8 := blk_keep BK.out hb8; have by8 := blk_keep BY.out hb8; have d08 := cell_keep hb8 d0; have d18 := cell_keep hb8 d1c; have HB8 := Aside0.mk (below_step HB.out hb8); have BK8 := Aside0.mk bk8; have BY8 := Aside0.mk by8; have c80 := (blk_cell bk8 0).trans rfl; have c81 := (blk_cell bk8 1).trans rfl; have c82 := (blk_cell bk8 2).trans rfl; have c83 := (blk_cell bk8 3).trans rfl; have c84 := (blk_cell bk8 4).trans rfl; have c85 := (blk_cell bk8 5).trans rfl; have c86 := (blk_cell bk8 6).trans rfl; have c87 := (blk_cell bk8 7).trans rfl; have fc80 := blk_frozen bk8 0; have fc81 := blk_frozen bk8 1; have fc82 := blk_frozen bk8 2; have fc83 := blk_frozen bk8 3; have fc84 := blk_frozen bk8 4; have fc85 := blk_frozen bk8 5; have fc86 := blk_frozen bk8 6; have fc87 := blk_frozen bk8 7; have y80 := (blk_cell by8 0).trans rfl; have y81 := (blk_cell by8 1).trans rfl; have y82 := (blk_cell by8 2).trans rfl; have y83 := (blk_cell by8 3).trans rfl; have y84 := (blk_cell by8 4).trans rfl; have y85 := (blk_cell by8 5).trans rfl; have y86 := (blk_cell by8 6).trans rfl; have y87 := (blk_cell by8 7).trans rfl; clear bk8 by8 hb8))
            refine wp_gen (fun W => W.heap[g]? = some (.cells (bcells a tr ts ls v0 v1 g0 g1) 40 (0, 0)) ∧ W.heap[g9]? = some (.cells (bcells a1 tr1 ts1 ls1 v01 v11 g01 g11) 40 (0, 0)) ∧ W.cell? (ad.add (i * 2)) = some (.int .i64 3) ∧ W.cell? ⟨(ad.add (i * 2)).block, (ad.add (i * 2)).off + 1, none⟩ = some (.int .i64 n) ∧ Below w.heap.size w W) ⟨blk_alloc BK8.out _, blk_alloc BY8.out _, cell_keep (below_alloc (Below.refl _ _) _) d08, cell_keep (below_alloc (Below.refl _ _) _) d18, below_alloc HB8.out _⟩ ?_
            clear BK BY HB c0 fc0 y0 c1 fc1 y1 c2 fc2 y2 c3 fc3 y3 c4 fc4 y4 c5 fc5 y5 c6 fc6 y6 c7 fc7 y7 d0 d1c HB8 BK8 BY8 d08 d18 c80 fc80 y80 c81 fc81 y81 c82 fc82 y82 c83 fc83 y83 c84 fc84 y84 c85 fc85 y85 c86 fc86 y86 c87 fc87 y87
            rintro W ⟨bk, by_, d0, d1c, hb⟩
            have HB := Aside0.mk hb
            have BK := Aside0.mk bk
            have BY := Aside0.mk by_
            have c0 := (blk_cell bk 0).trans rfl
            have c1 := (blk_cell bk 1).trans rfl
            have c2 := (blk_cell bk 2).trans rfl
            have c3 := (blk_cell bk 3).trans rfl
            have c4 := (blk_cell bk 4).trans rfl
            have c5 := (blk_cell bk 5).trans rfl
            have c6 := (blk_cell bk 6).trans rfl
            have c7 := (blk_cell bk 7).trans rfl
            have fc0 := blk_frozen bk 0
            have fc1 := blk_frozen bk 1
            have fc2 := blk_frozen bk 2
            have fc3 := blk_frozen bk 3
            have fc4 := blk_frozen bk 4
            have fc5 := blk_frozen bk 5
            have fc6 := blk_frozen bk 6
            have fc7 := blk_frozen bk 7
            have y0 := (blk_cell by_ 0).trans rfl
            have y1 := (blk_cell by_ 1).trans rfl
            have y2 := (blk_cell by_ 2).trans rfl
            have y3 := (blk_cell by_ 3).trans rfl
            have y4 := (blk_cell by_ 4).trans rfl
            have y5 := (blk_cell by_ 5).trans rfl
            have y6 := (blk_cell by_ 6).trans rfl
            have y7 := (blk_cell by_ 7).trans rfl
            clear bk by_ hb
            (try (dsimp only at so))
            rcases so with ⟨rfl, rfl, hv⟩ | ⟨rfl, rfl, hv⟩
            · have dv : decide (v0 < ls) = false := decide_eq_false (by omega)
              clear hv
              (try go_wp2)
              (try (go_quiet (fail)))
              go_wp2
              go_roundg (gk - 1)
              case measure => have h2 := HI.out; omega
              case rel => exact ⟨i + 1, ⟨a1, tr1, ts1, ls1, v01, v11, g01, g11⟩, by have h2 := HI.out; omega, by have h2 := HI.out; omega, rfl, ⟨HQ.out⟩, ⟨by first | exact blk_all8 (t := 40) BK.out rfl _ _ _ _ _ _ _ _ | exact blk_drewN (blk_all8 (t := 40) BK.out rfl _ _ _ _ _ _ _ _) _ | exact blk_drew1 (blk_all8 (t := 40) BK.out rfl _ _ _ _ _ _ _ _)⟩, ⟨(by repeat (first | with_reducible exact HB.out | with_reducible apply pw_below_drewN | with_reducible apply below_drew1 | refine below_set ?_ HG.out))⟩⟩
            · have dv : decide (v1 < ls) = false := decide_eq_false (by omega)
              clear hv
              (try go_wp2)
              (try (go_quiet (fail)))
              go_wp2
              go_roundg (gk - 1)
              case measure => have h2 := HI.out; omega
              case rel => exact ⟨i + 1, ⟨a1, tr1, ts1, ls1, v01, v11, g01, g11⟩, by have h2 := HI.out; omega, by have h2 := HI.out; omega, rfl, ⟨HQ.out⟩, ⟨by first | exact blk_all8 (t := 40) BK.out rfl _ _ _ _ _ _ _ _ | exact blk_drewN (blk_all8 (t := 40) BK.out rfl _ _ _ _ _ _ _ _) _ | exact blk_drew1 (blk_all8 (t := 40) BK.out rfl _ _ _ _ _ _ _ _)⟩, ⟨(by repeat (first | with_reducible exact HB.out | with_reducible apply pw_below_drewN | with_reducible apply below_drew1 | refine below_set ?_ HG.out))⟩⟩
          · have hk0 : (k == 3) = false := by simpa using hk
            clear hk
            go_wp2
            go_roundg (gk - 1)
            case measure => have h2 := HI.out; omega
            case rel => exact ⟨i + 1, ⟨a1, tr1, ts1, ls1, v01, v11, g01, g11⟩, by have h2 := HI.out; omega, by have h2 := HI.out; omega, rfl, ⟨HQ.out⟩, ⟨by first | exact blk_all8 (t := 40) BK.out rfl _ _ _ _ _ _ _ _ | exact blk_drewN (blk_all8 (t := 40) BK.out rfl _ _ _ _ _ _ _ _) _ | exact blk_drew1 (blk_all8 (t := 40) BK.out rfl _ _ _ _ _ _ _ _)⟩, ⟨(by repeat (first | with_reducible exact HB.out | with_reducible apply pw_below_drewN | with_reducible apply below_drew1 | refine below_set ?_ HG.out))⟩⟩
    · by_cases q : i < l.length
      · have e1 : decide ((i : Int) < (l.length : Int)) = true := decide_eq_true (by omega)
        have e2 : decide (i < l.length) = true := decide_eq_true q
        have e3 : decide ((i : Int) < 60) = false := decide_eq_false (by omega)
        have e4 : decide (i < 60) = false := decide_eq_false (by omega)
        clear hi hki hge q
        go_wp2; go_ret; exact ⟨rfl, (by repeat (first | with_reducible exact HB.out | with_reducible apply pw_below_drewN | with_reducible apply below_drew1))⟩
      · have e1 : decide ((i : Int) < (l.length : Int)) = false := decide_eq_false (by omega)
        have e2 : decide (i < l.length) = false := decide_eq_false q
        clear hi hki hge q
        go_wp2; go_ret; exact ⟨rfl, (by repeat (first | with_reducible exact HB.out | with_reducible apply pw_below_drewN | with_reducible apply below_drew1))⟩
end Go.Proofs.Ytoiahmdibibceaa.Tb
