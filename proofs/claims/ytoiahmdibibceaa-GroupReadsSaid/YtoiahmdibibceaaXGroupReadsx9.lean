-- Written by xprint.py of this repo (the kit's print with turns of our own) out of the translation.
import Derived.Test.YtoiahmdibibceaaXGroupReadsx0
import Derived.Test.YtoiahmdibibceaaXGroupReadsx7
import Derived.Test.YtoiahmdibibceaaXGroupReadsx8
namespace Go.Proofs.Ytoiahmdibibceaa.XGroupReads
open Go.RowKit Go.Proofs.YtoiahmdibibceaaW.PrintWords Go.Proofs.YtoiahmdibibceaaW.PrintLast Go.Proofs.YtoiahmdibibceaaW.PrintMore
attribute [local go_sem] max2_int min2_int max_two min_two max_three min_three max_four min_four   -- for this text's walks alone
set_option linter.unusedVariables false
set_option linter.unusedSimpArgs false

/-! ### group_Unpack: function 51 -/
mutual
def group_Unpack.l0 : Nat → List (S58) → List ByteArray → Int → Int → Option ((List (S58)) × Int)
  | 0, _, _, _, _ => none
  | k + 1, x4, x10, x11, x12 => if x12 < x11 then (if 0 ≤ x12 then (if x12 < (x10.length : Int) then ((code_New.f (rdOf ByteArray.empty x10 x12)).bind fun bt212 => (group_Unpack.l1 k x4 x10 x11 x12 bt212.1 bt212.2)) else (none)) else (none)) else (some (x4, 0))
def group_Unpack.l1 : Nat → List (S58) → List ByteArray → Int → Int → ByteArray → Int → Option ((List (S58)) × Int)
  | 0, _, _, _, _, _, _ => none
  | k + 1, x4, x10, x11, x12, x215000, x215001 => (code_Reader_Left.f x215000 x215001).bind fun bt215 => (if bt215.1 > 0 then ((rec_Take.f k bt215.2.1 bt215.2.2).bind fun bt218 => (if bt218.2.2.2.2.2.2.1 = 0 then (if x4.length < 2932031007402 then (group_Unpack.l1 k (x4 ++ [(⟨bt218.1, bt218.2.1, bt218.2.2.1, bt218.2.2.2.1, bt218.2.2.2.2.1, bt218.2.2.2.2.2.1⟩ : S58)]) x10 x11 x12 bt218.2.2.2.2.2.2.2.1 bt218.2.2.2.2.2.2.2.2) else (none)) else (some (([] : List (S58)), bt218.2.2.2.2.2.2.1)))) else (group_Unpack.l0 k x4 x10 x11 (wrap64 (x12 + 1))))
end
def group_Unpack.f (k : Nat) (l0 : List ByteArray) : Option ((List (S58)) × Int) := group_Unpack.l0 k ([] : List (S58)) l0 (l0.length : Int) 0
theorem group_Unpack.mono_l : ∀ k, (∀ y0 y1 y2 y3, LeO (group_Unpack.l0 k y0 y1 y2 y3) (group_Unpack.l0 (k + 1) y0 y1 y2 y3)) ∧ (∀ y0 y1 y2 y3 y4 y5, LeO (group_Unpack.l1 k y0 y1 y2 y3 y4 y5) (group_Unpack.l1 (k + 1) y0 y1 y2 y3 y4 y5))
  | 0 => ⟨fun _ _ _ _ r h => by simp [group_Unpack.l0] at h, fun _ _ _ _ _ _ r h => by simp [group_Unpack.l1] at h⟩
  | k + 1 => by
    obtain ⟨ih0, ih1⟩ := group_Unpack.mono_l k
    refine ⟨?_, ?_⟩
    · intro y0 y1 y2 y3
      unfold group_Unpack.l0
      repeat' first
      | (with_reducible exact ih0 _ _ _ _)
      | (with_reducible exact ih1 _ _ _ _ _ _)
      | (with_reducible exact rec_Take.mono _ _ _)
      | (with_reducible exact LeO.refl _)
      | (with_reducible exact LeO.none _)
      | (with_reducible refine LeO.ite ?_ ?_)
      | (with_reducible refine LeO.bind ?_ (fun _ => ?_))
      | exact ih0 _ _ _ _
      | exact ih1 _ _ _ _ _ _
      | exact rec_Take.mono _ _ _
      | exact LeO.none _
      | refine LeO.ite ?_ ?_
      | refine LeO.bind ?_ (fun _ => ?_)
    · intro y0 y1 y2 y3 y4 y5
      unfold group_Unpack.l1
      repeat' first
      | (with_reducible exact ih0 _ _ _ _)
      | (with_reducible exact ih1 _ _ _ _ _ _)
      | (with_reducible exact rec_Take.mono _ _ _)
      | (with_reducible exact LeO.refl _)
      | (with_reducible exact LeO.none _)
      | (with_reducible refine LeO.ite ?_ ?_)
      | (with_reducible refine LeO.bind ?_ (fun _ => ?_))
      | exact ih0 _ _ _ _
      | exact ih1 _ _ _ _ _ _
      | exact rec_Take.mono _ _ _
      | exact LeO.none _
      | refine LeO.ite ?_ ?_
      | refine LeO.bind ?_ (fun _ => ?_)
theorem group_Unpack.mono : ∀ a0 k, LeO (group_Unpack.f k a0) (group_Unpack.f (k + 1) a0) := by
  intro a0 k
  obtain ⟨ih0, ih1⟩ := group_Unpack.mono_l k
  unfold group_Unpack.f
  repeat' first
      | (with_reducible exact ih0 _ _ _ _)
      | (with_reducible exact ih1 _ _ _ _ _ _)
      | (with_reducible exact rec_Take.mono _ _ _)
      | (with_reducible exact LeO.refl _)
      | (with_reducible exact LeO.none _)
      | (with_reducible refine LeO.ite ?_ ?_)
      | (with_reducible refine LeO.bind ?_ (fun _ => ?_))
      | exact ih0 _ _ _ _
      | exact ih1 _ _ _ _ _ _
      | exact rec_Take.mono _ _ _
      | exact LeO.none _
      | refine LeO.ite ?_ ?_
      | refine LeO.bind ?_ (fun _ => ?_)
set_option maxHeartbeats 8000000 in
set_option maxRecDepth 100000 in
theorem group_Unpack.calls (k : Nat) (A0 : Option Addr) (c0 : Nat) (l0 : List ByteArray) (r1 : List (S58)) (r2 : Int) (w : World) (hr0 : Kd.C Kd.string w A0 l0.length l0) (hc0 : l0.length ≤ c0) (h : group_Unpack.f k l0 = some (r1, r2)) :
    Calls Try.prog 51 #[.slice A0 l0.length c0] w fun e w' => ∃ v0_ : Value, e = .returned (.tuple #[v0_, .int .i64 r2]) ∧ Kd.R k58 58 w' w.heap.size (fun _ => True) v0_ r1 ∧ Below w.heap.size w w' := by
  have hu58 := Try.underlying58
  have HR0 := Aside0.mk hr0
  have HC0 := Aside0.mk hc0
  clear hr0 hc0
  have HB := Aside0.mk (Below.refl w.heap.size w)
  have H : (group_Unpack.l0 k ([] : List (S58)) l0 (l0.length : Int) 0) = some (r1, r2) := h
  clear h
  have H' := Aside0.mk H
  clear H
  go_enter Try.func51, Try.ntmps51
  go_wp2
  go_loopg [4, 12] k (fun kq v4 v12 w' => ∃ (x4_1 : List (S58)) (x12_1 : Int), v12 = .int .i64 x12_1 ∧ Aside0 (group_Unpack.l0 kq x4_1 l0 (l0.length : Int) x12_1 = some (r1, r2)) ∧ Aside0 (kq ≤ k) ∧ Aside0 (Kd.R k58 58 w' w.heap.size (fun _ => True) v4 x4_1) ∧ Aside0 (Below w.heap.size w w'))
  case atStart => exact ⟨(([] : List (S58))), (0), (by first | rfl | (simp; done) | (simp [*]; done)), H', ⟨Nat.le_refl _⟩, ⟨by first | exact Kd.R_nil _ _ _ _ _ | exact Kd.N_nil _ _ _ _ _ | exact Kd.V_nil _ _ _ _ _ | exact Kd.Q_nil _ _ _ _ _ | exact Kd.S_nil _ _ _ _ _⟩, ⟨by repeat (first | (with_reducible first | exact HB.out | apply below_alloc | apply pw_below_drewN | apply below_drew1) | exact HB.out)⟩⟩
  case round =>
    clear H'
    obtain ⟨x4_1, x12_1, rfl, HA, HK1, HO_4, HB⟩ := hrel
    cases gk with
    | zero => exact absurd HA.out (by simp [group_Unpack.l0])
    | succ k1 =>
      have H := HA.out
      clear HA
      simp only [group_Unpack.l0] at H
      by_cases c2 : x12_1 < (l0.length : Int)
      · rw [if_pos c2] at H
        have c2b0 : decide (x12_1 < (l0.length : Int)) = true := decide_eq_true c2
        clear c2
        by_cases c3 : 0 ≤ x12_1
        · rw [if_pos c3] at H
          have c3b0 : decide (0 ≤ x12_1) = true := decide_eq_true c3
          clear c3
          by_cases c4 : x12_1 < (l0.length : Int)
          · rw [if_pos c4] at H
            have c4b0 : decide (x12_1 < (l0.length : Int)) = true := decide_eq_true c4
            clear c4
            replace H := Option.bind_eq_some_iff.mp H
            obtain ⟨⟨t212, t213⟩, A50, H⟩ := H
            replace H : (group_Unpack.l1 k1 x4_1 l0 (l0.length : Int) x12_1 t212 t213) = some (r1, r2) := H
            have A5 := Aside0.mk A50
            clear A50
            have H' := Aside0.mk H
            clear H
            have p211 : 0 ≤ (x12_1 : Int) := of_decide_eq_true (by first | (with_reducible assumption) | assumption)
            have q211 : x12_1 < (l0.length : Int) := of_decide_eq_true (by first | (with_reducible assumption) | assumption)
            obtain ⟨ad211, e211, hx211_0⟩ := Kd.at_string HR0.out x12_1 p211 q211
            cases e211
            replace hx211_0 := (HB.out.cell (World.block_lt_of_cell? w _ hx211_0)).trans hx211_0
            replace p211 := eq_true p211
            replace q211 := eq_true q211
            go_wp2_with (first | ((with_reducible refine gate_callee (f := 18) rfl ?_); refine goesL_ (some 17) rfl rfl Try.func18 (by kernel_rfl) rfl #[.string (rdOf ByteArray.empty l0 x12_1)] rfl (by (try simp only [List.map_toArray, List.map_cons, List.map_nil]); first | done | rfl | (simp only [List.length_drop, List.length_take]; rfl)) ?_; (with_reducible refine (code_New.calls (rdOf ByteArray.empty l0 x12_1) t212 t213 w _ ?side1 A5.out).mono ?_); (case side1 => repeat (first | (with_reducible first | exact HB.out | apply below_alloc | apply pw_below_drewN | apply below_drew1) | exact HB.out)); rintro e w6 ⟨g214, rfl, hi, hb, hb2⟩; refine ⟨_, rfl, ?_⟩; have n0_ := Aside0.mk (Kd.R_below (by (with_reducible repeat (first | apply Kd.R_alloc | apply Kd.R_drewN | apply Kd.R_drew)); exact HO_4.out) hb2); have n1_ := Aside0.mk (hb); have n2_ := Aside0.mk (hi); clear HO_4; clear HB; have HO_4 := n0_; have HB := n1_; have HI214 := n2_; clear n0_ n1_ n2_; (try clear hb); (try clear hb2); (try clear hk); (try clear hi)))
            go_loopg [4] k1 (fun kq v4 w' => ∃ (x4_2 : List (S58)) (x215000_2 : ByteArray) (x215001_2 : Int), Aside0 (group_Unpack.l1 kq x4_2 l0 (l0.length : Int) x12_1 x215000_2 x215001_2 = some (r1, r2)) ∧ Aside0 (kq ≤ k1) ∧ Aside0 (Kd.R k58 58 w' w.heap.size (fun _ => True) v4 x4_2) ∧ Aside0 (IsS84 w w' g214 x215000_2 x215001_2) ∧ Aside0 (Below w.heap.size w w'))
            case atStart => exact ⟨(x4_1), (t212), (t213), H', ⟨Nat.le_refl _⟩, ⟨by (with_reducible repeat (first | apply Kd.R_alloc | apply Kd.R_drewN | apply Kd.R_drew)); exact HO_4.out⟩, ⟨by repeat (first | (with_reducible first | exact HI214.out | apply IsS84.alloc | apply IsS84.drewN | apply IsS84.drew | apply IsS84.set_0 | apply IsS84.set_1) | exact HI214.out)⟩, ⟨by repeat (first | (with_reducible first | exact HB.out | apply below_alloc | apply pw_below_drewN | apply below_drew1 | refine below_set ?_ (IsS84.ge HI214.out)) | exact HB.out)⟩⟩
            case round =>
              clear H'
              try clear c1
              try clear c2
              try clear c2b0
              try clear p2
              try clear q2
              try clear hx2
              try clear c3
              try clear c3b0
              try clear c4
              try clear c4b0
              try clear c5
              try clear hx211_0
              try clear p211
              try clear q211
              obtain ⟨x4_2, x215000_2, x215001_2, HA, HK2, HO_4, HI214, HB⟩ := hrel
              cases gk with
              | zero => exact absurd HA.out (by simp [group_Unpack.l1])
              | succ k2 =>
                have H := HA.out
                clear HA
                simp only [group_Unpack.l1] at H
                replace H := Option.bind_eq_some_iff.mp H
                obtain ⟨⟨t215, t216, t217⟩, A70, H⟩ := H
                replace H : (if t215 > 0 then ((rec_Take.f k2 t216 t217).bind fun bt218 => (if bt218.2.2.2.2.2.2.1 = 0 then (if x4_2.length < 2932031007402 then (group_Unpack.l1 k2 (x4_2 ++ [(⟨bt218.1, bt218.2.1, bt218.2.2.1, bt218.2.2.2.1, bt218.2.2.2.2.1, bt218.2.2.2.2.2.1⟩ : S58)]) l0 (l0.length : Int) x12_1 bt218.2.2.2.2.2.2.2.1 bt218.2.2.2.2.2.2.2.2) else (none)) else (some (([] : List (S58)), bt218.2.2.2.2.2.2.1)))) else (group_Unpack.l0 k2 x4_2 l0 (l0.length : Int) (wrap64 (x12_1 + 1)))) = some (r1, r2) := H
                have A7 := Aside0.mk A70
                clear A70
                by_cases c8 : t215 > 0
                · rw [if_pos c8] at H
                  have c8b0 : decide (0 < t215) = true := decide_eq_true c8
                  clear c8
                  replace H := Option.bind_eq_some_iff.mp H
                  obtain ⟨⟨t218, t219, t220, t221, t222, t223, t224, t225, t226⟩, A90, H⟩ := H
                  replace H : (if t224 = 0 then (if x4_2.length < 2932031007402 then (group_Unpack.l1 k2 (x4_2 ++ [(⟨t218, t219, t220, t221, t222, t223⟩ : S58)]) l0 (l0.length : Int) x12_1 t225 t226) else (none)) else (some (([] : List (S58)), t224))) = some (r1, r2) := H
                  have A9 := Aside0.mk A90
                  clear A90
                  by_cases c10 : t224 = 0
                  · rw [if_pos c10] at H
                    have c10b0 : (t224 == 0) = true := beq_iff_eq.mpr c10
                    have c10b1 : (t224 != 0) = false := bne_eq_false_iff_eq.mpr c10
                    clear c10
                    by_cases c11 : x4_2.length < 2932031007402
                    · rw [if_pos c11] at H
                      have LMc11 := Aside0.mk c11
                      clear c11
                      obtain ⟨y228, hy228⟩ : ∃ y_ : List (S58), y_ = (x4_2 ++ [(⟨t218, t219, t220, t221, t222, t223⟩ : S58)]) := ⟨_, rfl⟩
                      replace H : (group_Unpack.l1 k2 y228 l0 (l0.length : Int) x12_1 t225 t226) = some (r1, r2) := by first | (rw [hy228]; with_reducible exact H) | (have H2_ := (Option.bind_some _ _).symm.trans H; rw [hy228]; with_reducible exact H2_) | (have H2_ := (Option.bind_some _ _).symm.trans H; with_reducible exact H2_) | with_reducible exact H | (rw [hy228]; exact H) | exact H
                      have Ny228 := Aside0.mk hy228
                      clear hy228
                      have H' := Aside0.mk H
                      clear H
                      go_upto_region 10 with (first | ((with_reducible refine gate_callee (f := 25) rfl ?_); refine goesL_ (some 19) rfl rfl Try.func25 (by kernel_rfl) rfl #[.pointer (some ⟨g214, 0, none⟩)] rfl (by (try simp only [List.map_toArray, List.map_cons, List.map_nil]); first | done | rfl | (simp only [List.length_drop, List.length_take]; rfl)) ?_; (with_reducible refine (code_Reader_Left.calls g214 x215000_2 x215001_2 t215 t216 t217 w _ ?side1 ?side2 A7.out).mono ?_); (case side1 => repeat (first | (with_reducible first | exact HI214.out | apply IsS84.alloc | apply IsS84.drewN | apply IsS84.drew | apply IsS84.set_0 | apply IsS84.set_1) | exact HI214.out)); (case side2 => repeat (first | (with_reducible first | exact HB.out | apply below_alloc | apply pw_below_drewN | apply below_drew1 | refine below_set ?_ (IsS84.ge HI214.out)) | exact HB.out)); rintro e w12 ⟨rfl, hi, hb, hk⟩; refine ⟨_, rfl, ?_⟩; have n0_ := Aside0.mk (Kd.R_mono (Kd.R_keep (IsS84.apart (show IsS84 w _ g214 x215000_2 x215001_2 from by repeat (first | (with_reducible first | exact HI214.out | apply IsS84.alloc | apply IsS84.drewN | apply IsS84.drew | apply IsS84.set_0 | apply IsS84.set_1) | exact HI214.out)) (by (with_reducible repeat (first | apply Kd.R_alloc | apply Kd.R_drewN | apply Kd.R_drew)); exact HO_4.out) (by decide)) hk (fun _ h => h.2)) (fun _ h => h.1)); have n1_ := Aside0.mk (hb); have n2_ := Aside0.mk (hi); clear HO_4; clear HB; clear HI214; have HO_4 := n0_; have HB := n1_; have HI214 := n2_; clear n0_ n1_ n2_; (try clear hb); (try clear hb2); (try clear hk); (try clear hi)) | ((with_reducible refine gate_callee (f := 44) rfl ?_); refine goesL_ (some 23) rfl rfl Try.func44 (by kernel_rfl) rfl #[.pointer (some ⟨g214, 0, none⟩)] rfl (by (try simp only [List.map_toArray, List.map_cons, List.map_nil]); first | done | rfl | (simp only [List.length_drop, List.length_take]; rfl)) ?_; (with_reducible refine (rec_Take.calls k2 g214 t216 t217 t218 t219 t220 t221 t222 t223 t224 t225 t226 w _ ?side1 ?side2 A9.out).mono ?_); (case side1 => repeat (first | (with_reducible first | exact HI214.out | apply IsS84.alloc | apply IsS84.drewN | apply IsS84.drew | apply IsS84.set_0 | apply IsS84.set_1) | exact HI214.out)); (case side2 => repeat (first | (with_reducible first | exact HB.out | apply below_alloc | apply pw_below_drewN | apply below_drew1 | refine below_set ?_ (IsS84.ge HI214.out)) | exact HB.out)); rintro e w13 ⟨rfl, hi, hb, hk⟩; refine ⟨_, rfl, ?_⟩; have n0_ := Aside0.mk (Kd.R_mono (Kd.R_keep (IsS84.apart (show IsS84 w _ g214 t216 t217 from by repeat (first | (with_reducible first | exact HI214.out | apply IsS84.alloc | apply IsS84.drewN | apply IsS84.drew | apply IsS84.set_0 | apply IsS84.set_1) | exact HI214.out)) (by (with_reducible repeat (first | apply Kd.R_alloc | apply Kd.R_drewN | apply Kd.R_drew)); exact HO_4.out) (by decide)) hk (fun _ h => h.2)) (fun _ h => h.1)); have n1_ := Aside0.mk (hb); have n2_ := Aside0.mk (hi); clear HO_4; clear HB; clear HI214; have HO_4 := n0_; have HB := n1_; have HI214 := n2_; clear n0_ n1_ n2_; (try clear hb); (try clear hb2); (try clear hk); (try clear hi)) | ((with_reducible refine gate_dst (N := 8) rfl ?_); refine box_event ?hg (N := 8) ?hd (cs := #[.int .i64 0, .int .i64 0, .int .i64 0, .int .i64 0, .int .i64 0, .int .i64 0]) (t := 58) ?hr ?_; (case hd => rfl); (case hg => rfl); (case hr => first | (go_simp; done) | (go_simp; rfl)); intro gb227 hg w14 hbox hb; have n0_ := Aside0.mk (Kd.R_below (Kd.R_elderB (by (with_reducible repeat (first | apply Kd.R_alloc | apply Kd.R_drewN | apply Kd.R_drew)); exact HO_4.out) gb227 (Nat.le_of_eq hg.symm)) hb); have n1_ := Aside0.mk (IsS84.below (by repeat (first | (with_reducible first | exact HI214.out | apply IsS84.alloc | apply IsS84.drewN | apply IsS84.drew | apply IsS84.set_0 | apply IsS84.set_1) | exact HI214.out)) hb); have n2_ := Aside0.mk (below_step (by repeat (first | (with_reducible first | exact HB.out | apply below_alloc | apply pw_below_drewN | apply below_drew1 | refine below_set ?_ (IsS84.ge HI214.out)) | exact HB.out)) hb); have n3_ := Aside0.mk (hbox); have n4_ := Aside0.mk ((by rw [hg]; exact (below_size (by repeat (first | (with_reducible first | exact HB.out | apply below_alloc | apply pw_below_drewN | apply below_drew1 | refine below_set ?_ (IsS84.ge HI214.out)) | exact HB.out))) : w.heap.size ≤ gb227)); have n5_ := Aside0.mk ((by rw [hg]; exact (below_size (by repeat (first | (with_reducible first | exact HB.out | apply below_alloc | apply pw_below_drewN | apply below_drew1 | refine below_set ?_ (IsS84.ge HI214.out)) | exact HB.out))) : w.heap.size ≤ gb227)); have n6_ := Aside0.mk ((by rw [hg]; exact Nat.ne_of_lt (IsS84.lt (show IsS84 w _ g214 t225 t226 from by repeat (first | (with_reducible first | exact HI214.out | apply IsS84.alloc | apply IsS84.drewN | apply IsS84.drew | apply IsS84.set_0 | apply IsS84.set_1) | exact HI214.out))) : g214 ≠ gb227)); have n7_ := Aside0.mk ((by rw [hg]; exact Nat.ne_of_gt (IsS84.lt (show IsS84 w _ g214 t225 t226 from by repeat (first | (with_reducible first | exact HI214.out | apply IsS84.alloc | apply IsS84.drewN | apply IsS84.drew | apply IsS84.set_0 | apply IsS84.set_1) | exact HI214.out))) : gb227 ≠ g214)); clear HO_4; clear HI214; clear HB; have HO_4 := n0_; have HI214 := n1_; have HB := n2_; have BK227 := n3_; have GW227 := n4_; have GE227 := n5_; have NB214_227 := n6_; have NB227_214 := n7_; clear n0_ n1_ n2_ n3_ n4_ n5_ n6_ n7_; clear hb hbox hg; have hnb15 := NB227_214.out; have hnc15 := NB214_227.out; have hcz16_0 : w14.cell? ⟨gb227, 0, none⟩ = some (.int .i64 0) := (blk_cell BK227.out 0).trans rfl; have hcz16_1 : w14.cell? ⟨gb227, 1, none⟩ = some (.int .i64 0) := (blk_cell BK227.out 1).trans rfl; have hcz16_2 : w14.cell? ⟨gb227, 2, none⟩ = some (.int .i64 0) := (blk_cell BK227.out 2).trans rfl; have hcz16_3 : w14.cell? ⟨gb227, 3, none⟩ = some (.int .i64 0) := (blk_cell BK227.out 3).trans rfl; have hcz16_4 : w14.cell? ⟨gb227, 4, none⟩ = some (.int .i64 0) := (blk_cell BK227.out 4).trans rfl; have hcz16_5 : w14.cell? ⟨gb227, 5, none⟩ = some (.int .i64 0) := (blk_cell BK227.out 5).trans rfl; have hfz16_0 := blk_frozen BK227.out 0; have hfz16_1 := blk_frozen BK227.out 1; have hfz16_2 := blk_frozen BK227.out 2; have hfz16_3 := blk_frozen BK227.out 3; have hfz16_4 := blk_frozen BK227.out 4; have hfz16_5 := blk_frozen BK227.out 5))
                      have b9_ := (blk_set (blk_set (blk_set (blk_set (blk_set (blk_set BK227.out 0 (.int .i64 t218)) 1 (.int .i64 t219)) 2 (.int .i64 t220)) 3 (.int .i64 t221)) 4 (.int .i64 t222)) 5 (.int .i64 t223))
                      have o9_ := (Kd.R_far (p := ⟨gb227, 5, none⟩) (Kd.R_far (p := ⟨gb227, 4, none⟩) (Kd.R_far (p := ⟨gb227, 3, none⟩) (Kd.R_far (p := ⟨gb227, 2, none⟩) (Kd.R_far (p := ⟨gb227, 1, none⟩) (Kd.R_far (p := ⟨gb227, 0, none⟩) (Kd.R_mono HO_4.out (fun k_ hk => (⟨hk, hk.2⟩ : _ ∧ k_ ≠ gb227))) (fun _ hk => hk.2) (.int .i64 t218)) (fun _ hk => hk.2) (.int .i64 t219)) (fun _ hk => hk.2) (.int .i64 t220)) (fun _ hk => hk.2) (.int .i64 t221)) (fun _ hk => hk.2) (.int .i64 t222)) (fun _ hk => hk.2) (.int .i64 t223))
                      have i9_ := (IsS84.far (p := ⟨gb227, 5, none⟩) (IsS84.far (p := ⟨gb227, 4, none⟩) (IsS84.far (p := ⟨gb227, 3, none⟩) (IsS84.far (p := ⟨gb227, 2, none⟩) (IsS84.far (p := ⟨gb227, 1, none⟩) (IsS84.far (p := ⟨gb227, 0, none⟩) HI214.out NB214_227.out (.int .i64 t218)) NB214_227.out (.int .i64 t219)) NB214_227.out (.int .i64 t220)) NB214_227.out (.int .i64 t221)) NB214_227.out (.int .i64 t222)) NB214_227.out (.int .i64 t223))
                      have l9_ := (below_set (j := 5) (v := .int .i64 t223) (below_set (j := 4) (v := .int .i64 t222) (below_set (j := 3) (v := .int .i64 t221) (below_set (j := 2) (v := .int .i64 t220) (below_set (j := 1) (v := .int .i64 t219) (below_set (j := 0) (v := .int .i64 t218) HB.out GE227.out) GE227.out) GE227.out) GE227.out) GE227.out) GE227.out)
                      generalize World.setCell (World.setCell (World.setCell (World.setCell (World.setCell (World.setCell _ _ _) _ _) _ _) _ _) _ _) _ _ = wq_ at b9_ o9_ i9_ l9_ ⊢
                      clear BK227 HO_4 HI214 HB
                      try clear hcz16_0
                      try clear hcz16_1
                      try clear hcz16_2
                      try clear hcz16_3
                      try clear hcz16_4
                      try clear hcz16_5
                      try clear hfz16_0
                      try clear hfz16_1
                      try clear hfz16_2
                      try clear hfz16_3
                      try clear hfz16_4
                      try clear hfz16_5
                      have BK227 : Aside0 (wq_.heap[gb227]? = some (.cells #[.int .i64 t218, .int .i64 t219, .int .i64 t220, .int .i64 t221, .int .i64 t222, .int .i64 t223] 58 (0, 0))) := Aside0.mk b9_
                      have HO_4 := Aside0.mk (Kd.R_mono o9_ (fun _ hk => hk.1))
                      have HI214 := Aside0.mk i9_
                      have HB := Aside0.mk l9_
                      clear b9_ o9_ i9_ l9_
                      have hc9_0 := (blk_cell BK227.out 0).trans rfl
                      have hc9_1 := (blk_cell BK227.out 1).trans rfl
                      have hc9_2 := (blk_cell BK227.out 2).trans rfl
                      have hc9_3 := (blk_cell BK227.out 3).trans rfl
                      have hc9_4 := (blk_cell BK227.out 4).trans rfl
                      have hc9_5 := (blk_cell BK227.out 5).trans rfl
                      go_wp2_with (first | ((with_reducible refine gate_builtin (b := .append) (xs := #[.tmp 29, .tmp 31]) rfl ?_); at_builtin; refine Kd.R_append k58 (w0 := w) w.heap.size rfl (.tmp 29) (.tmp 31) 63 58 (.agg #[(.int .i64 0), (.int .i64 0), (.int .i64 0), (.int .i64 0), (.int .i64 0), (.int .i64 0)]) 48 rfl Try.underlying63 info58 rfl (by decide) (by omega) u4 x4_2 (⟨t218, t219, t220, t221, t222, t223⟩ : S58) [.int .i64 t218, .int .i64 t219, .int .i64 t220, .int .i64 t221, .int .i64 t222, .int .i64 t223] (fun k_ => k_ ≠ gb227) (fun _ => False) rfl (by first | (go_simp; done) | (go_simp; rfl)) ?aP (fun _ hk => hk.elim) ?aF ?aO ?aB ?aS ?aL ?_; (case aP => exact k58_mkM _ _ _ (⟨t218, t219, t220, t221, t222, t223⟩ : S58)); (case aB => exact (by repeat (first | (with_reducible first | exact HB.out | apply below_alloc | apply pw_below_drewN | apply below_drew1 | refine below_set ?_ (IsS84.ge HI214.out) | refine below_set ?_ GE227.out) | exact HB.out))); (case aF => exact (fun k_ hk => Kd.freshB (g := gb227) (o := .cells #[.int .i64 t218, .int .i64 t219, .int .i64 t220, .int .i64 t221, .int .i64 t222, .int .i64 t223] 58 (0, 0)) (by (with_reducible repeat (first | refine blk_drewN ?_ _ | refine blk_drew ?_ | refine blk_alloc ?_ _)); exact BK227.out) k_ hk)); (case aO => exact (by (with_reducible repeat (first | apply Kd.R_alloc | apply Kd.R_drewN | apply Kd.R_drew)); exact Kd.R_mono HO_4.out (fun _ hk => hk.2))); (case aS => exact (below_size (by repeat (first | (with_reducible first | exact HB.out | apply below_alloc | apply pw_below_drewN | apply below_drew1 | refine below_set ?_ (IsS84.ge HI214.out) | refine below_set ?_ GE227.out) | exact HB.out)))); (case aL => have := LMc11.out; omega); intro v229 w17 ho hb hg hat; rw [← Ny228.out] at ho; have n0_ := Aside0.mk (IsS84.grown (by repeat (first | (with_reducible first | exact HI214.out | apply IsS84.alloc | apply IsS84.drewN | apply IsS84.drew | apply IsS84.set_0 | apply IsS84.set_1 | refine IsS84.far ?_ NB214_227.out _) | exact HI214.out)) hg (IsS84.own_ne HI214.out HO_4.out (by decide))); have n1_ := Aside0.mk (blk_grown (g := gb227) (o := .cells #[.int .i64 t218, .int .i64 t219, .int .i64 t220, .int .i64 t221, .int .i64 t222, .int .i64 t223] 58 (0, 0)) (by (with_reducible repeat (first | refine blk_drewN ?_ _ | refine blk_drew ?_ | refine blk_alloc ?_ _)); exact BK227.out) hg (Kd.R_away HO_4.out (fun _ hk => hk.2))); have n2_ := Aside0.mk (hb); have n3_ := Aside0.mk (ho); clear HI214; clear BK227; clear HB; clear HO_4; have HI214 := n0_; have BK227 := n1_; have HB := n2_; have HO230 := n3_; clear n0_ n1_ n2_ n3_; clear ho hb hg hat))
                      go_roundg k2
                      case measure => have := HK1.out; have := HK2.out; omega
                      case rel => exact ⟨(y228), (t225), (t226), H', ⟨by have := HK1.out; have := HK2.out; omega⟩, ⟨by (with_reducible repeat (first | apply Kd.R_alloc | apply Kd.R_drewN | apply Kd.R_drew)); exact Kd.R_mono HO230.out (fun _ hk => trivial)⟩, ⟨by repeat (first | (with_reducible first | exact HI214.out | apply IsS84.alloc | apply IsS84.drewN | apply IsS84.drew | apply IsS84.set_0 | apply IsS84.set_1 | refine IsS84.far ?_ NB214_227.out _) | exact HI214.out)⟩, ⟨by repeat (first | (with_reducible first | exact HB.out | apply below_alloc | apply pw_below_drewN | apply below_drew1 | refine below_set ?_ (IsS84.ge HI214.out) | refine below_set ?_ GE227.out) | exact HB.out)⟩⟩
                    · rw [if_neg c11] at H
                      exact absurd H (by simp)
                  · rw [if_neg c10] at H
                    have c10b0 : (t224 == 0) = false := beq_eq_false_iff_ne.mpr c10
                    have c10b1 : (t224 != 0) = true := bne_iff_ne.mpr c10
                    simp only [Option.some.injEq, Prod.mk.injEq] at H
                    obtain ⟨rfl, rfl⟩ := H
                    go_wp2_with (first | ((with_reducible refine gate_callee (f := 25) rfl ?_); refine goesL_ (some 19) rfl rfl Try.func25 (by kernel_rfl) rfl #[.pointer (some ⟨g214, 0, none⟩)] rfl (by (try simp only [List.map_toArray, List.map_cons, List.map_nil]); first | done | rfl | (simp only [List.length_drop, List.length_take]; rfl)) ?_; (with_reducible refine (code_Reader_Left.calls g214 x215000_2 x215001_2 t215 t216 t217 w _ ?side1 ?side2 A7.out).mono ?_); (case side1 => repeat (first | (with_reducible first | exact HI214.out | apply IsS84.alloc | apply IsS84.drewN | apply IsS84.drew | apply IsS84.set_0 | apply IsS84.set_1) | exact HI214.out)); (case side2 => repeat (first | (with_reducible first | exact HB.out | apply below_alloc | apply pw_below_drewN | apply below_drew1 | refine below_set ?_ (IsS84.ge HI214.out)) | exact HB.out)); rintro e w18 ⟨rfl, hi, hb, hk⟩; refine ⟨_, rfl, ?_⟩; have n0_ := Aside0.mk (Kd.R_mono (Kd.R_keep (IsS84.apart (show IsS84 w _ g214 x215000_2 x215001_2 from by repeat (first | (with_reducible first | exact HI214.out | apply IsS84.alloc | apply IsS84.drewN | apply IsS84.drew | apply IsS84.set_0 | apply IsS84.set_1) | exact HI214.out)) (by (with_reducible repeat (first | apply Kd.R_alloc | apply Kd.R_drewN | apply Kd.R_drew)); exact HO_4.out) (by decide)) hk (fun _ h => h.2)) (fun _ h => h.1)); have n1_ := Aside0.mk (hb); have n2_ := Aside0.mk (hi); clear HO_4; clear HB; clear HI214; have HO_4 := n0_; have HB := n1_; have HI214 := n2_; clear n0_ n1_ n2_; (try clear hb); (try clear hb2); (try clear hk); (try clear hi)) | ((with_reducible refine gate_callee (f := 44) rfl ?_); refine goesL_ (some 23) rfl rfl Try.func44 (by kernel_rfl) rfl #[.pointer (some ⟨g214, 0, none⟩)] rfl (by (try simp only [List.map_toArray, List.map_cons, List.map_nil]); first | done | rfl | (simp only [List.length_drop, List.length_take]; rfl)) ?_; (with_reducible refine (rec_Take.calls k2 g214 t216 t217 t218 t219 t220 t221 t222 t223 t224 t225 t226 w _ ?side1 ?side2 A9.out).mono ?_); (case side1 => repeat (first | (with_reducible first | exact HI214.out | apply IsS84.alloc | apply IsS84.drewN | apply IsS84.drew | apply IsS84.set_0 | apply IsS84.set_1) | exact HI214.out)); (case side2 => repeat (first | (with_reducible first | exact HB.out | apply below_alloc | apply pw_below_drewN | apply below_drew1 | refine below_set ?_ (IsS84.ge HI214.out)) | exact HB.out)); rintro e w19 ⟨rfl, hi, hb, hk⟩; refine ⟨_, rfl, ?_⟩; have n0_ := Aside0.mk (Kd.R_mono (Kd.R_keep (IsS84.apart (show IsS84 w _ g214 t216 t217 from by repeat (first | (with_reducible first | exact HI214.out | apply IsS84.alloc | apply IsS84.drewN | apply IsS84.drew | apply IsS84.set_0 | apply IsS84.set_1) | exact HI214.out)) (by (with_reducible repeat (first | apply Kd.R_alloc | apply Kd.R_drewN | apply Kd.R_drew)); exact HO_4.out) (by decide)) hk (fun _ h => h.2)) (fun _ h => h.1)); have n1_ := Aside0.mk (hb); have n2_ := Aside0.mk (hi); clear HO_4; clear HB; clear HI214; have HO_4 := n0_; have HB := n1_; have HI214 := n2_; clear n0_ n1_ n2_; (try clear hb); (try clear hb2); (try clear hk); (try clear hi)) | ((with_reducible refine gate_dst (N := 8) rfl ?_); refine box_event ?hg (N := 8) ?hd (cs := #[.int .i64 0, .int .i64 0, .int .i64 0, .int .i64 0, .int .i64 0, .int .i64 0]) (t := 58) ?hr ?_; (case hd => rfl); (case hg => rfl); (case hr => first | (go_simp; done) | (go_simp; rfl)); intro gb227 hg w20 hbox hb; have n0_ := Aside0.mk (Kd.R_below (Kd.R_elderB (by (with_reducible repeat (first | apply Kd.R_alloc | apply Kd.R_drewN | apply Kd.R_drew)); exact HO_4.out) gb227 (Nat.le_of_eq hg.symm)) hb); have n1_ := Aside0.mk (IsS84.below (by repeat (first | (with_reducible first | exact HI214.out | apply IsS84.alloc | apply IsS84.drewN | apply IsS84.drew | apply IsS84.set_0 | apply IsS84.set_1) | exact HI214.out)) hb); have n2_ := Aside0.mk (below_step (by repeat (first | (with_reducible first | exact HB.out | apply below_alloc | apply pw_below_drewN | apply below_drew1 | refine below_set ?_ (IsS84.ge HI214.out)) | exact HB.out)) hb); have n3_ := Aside0.mk (hbox); have n4_ := Aside0.mk ((by rw [hg]; exact (below_size (by repeat (first | (with_reducible first | exact HB.out | apply below_alloc | apply pw_below_drewN | apply below_drew1 | refine below_set ?_ (IsS84.ge HI214.out)) | exact HB.out))) : w.heap.size ≤ gb227)); have n5_ := Aside0.mk ((by rw [hg]; exact (below_size (by repeat (first | (with_reducible first | exact HB.out | apply below_alloc | apply pw_below_drewN | apply below_drew1 | refine below_set ?_ (IsS84.ge HI214.out)) | exact HB.out))) : w.heap.size ≤ gb227)); have n6_ := Aside0.mk ((by rw [hg]; exact Nat.ne_of_lt (IsS84.lt (show IsS84 w _ g214 t225 t226 from by repeat (first | (with_reducible first | exact HI214.out | apply IsS84.alloc | apply IsS84.drewN | apply IsS84.drew | apply IsS84.set_0 | apply IsS84.set_1) | exact HI214.out))) : g214 ≠ gb227)); have n7_ := Aside0.mk ((by rw [hg]; exact Nat.ne_of_gt (IsS84.lt (show IsS84 w _ g214 t225 t226 from by repeat (first | (with_reducible first | exact HI214.out | apply IsS84.alloc | apply IsS84.drewN | apply IsS84.drew | apply IsS84.set_0 | apply IsS84.set_1) | exact HI214.out))) : gb227 ≠ g214)); clear HO_4; clear HI214; clear HB; have HO_4 := n0_; have HI214 := n1_; have HB := n2_; have BK227 := n3_; have GW227 := n4_; have GE227 := n5_; have NB214_227 := n6_; have NB227_214 := n7_; clear n0_ n1_ n2_ n3_ n4_ n5_ n6_ n7_; clear hb hbox hg; have hnb21 := NB227_214.out; have hnc21 := NB214_227.out; have hcz22_0 : w20.cell? ⟨gb227, 0, none⟩ = some (.int .i64 0) := (blk_cell BK227.out 0).trans rfl; have hcz22_1 : w20.cell? ⟨gb227, 1, none⟩ = some (.int .i64 0) := (blk_cell BK227.out 1).trans rfl; have hcz22_2 : w20.cell? ⟨gb227, 2, none⟩ = some (.int .i64 0) := (blk_cell BK227.out 2).trans rfl; have hcz22_3 : w20.cell? ⟨gb227, 3, none⟩ = some (.int .i64 0) := (blk_cell BK227.out 3).trans rfl; have hcz22_4 : w20.cell? ⟨gb227, 4, none⟩ = some (.int .i64 0) := (blk_cell BK227.out 4).trans rfl; have hcz22_5 : w20.cell? ⟨gb227, 5, none⟩ = some (.int .i64 0) := (blk_cell BK227.out 5).trans rfl; have hfz22_0 := blk_frozen BK227.out 0; have hfz22_1 := blk_frozen BK227.out 1; have hfz22_2 := blk_frozen BK227.out 2; have hfz22_3 := blk_frozen BK227.out 3; have hfz22_4 := blk_frozen BK227.out 4; have hfz22_5 := blk_frozen BK227.out 5))
                    go_ret2
                    exact ⟨_, by first | rfl | (simp [errW_none, errW_some] <;> rfl) | (simp [*, errW_none, errW_some] <;> rfl), by first | exact Kd.R_nil _ _ _ _ _ | exact Kd.N_nil _ _ _ _ _ | exact Kd.V_nil _ _ _ _ _ | exact Kd.Q_nil _ _ _ _ _ | exact Kd.S_nil _ _ _ _ _, by repeat (first | (with_reducible first | exact HB.out | apply below_alloc | apply pw_below_drewN | apply below_drew1 | refine below_set ?_ (IsS84.ge HI214.out) | refine below_set ?_ GE227.out) | exact HB.out)⟩
                · rw [if_neg c8] at H
                  have c8b0 : decide (0 < t215) = false := decide_eq_false c8
                  clear c8
                  have H' := Aside0.mk H
                  clear H
                  go_wp2_with (first | ((with_reducible refine gate_callee (f := 25) rfl ?_); refine goesL_ (some 19) rfl rfl Try.func25 (by kernel_rfl) rfl #[.pointer (some ⟨g214, 0, none⟩)] rfl (by (try simp only [List.map_toArray, List.map_cons, List.map_nil]); first | done | rfl | (simp only [List.length_drop, List.length_take]; rfl)) ?_; (with_reducible refine (code_Reader_Left.calls g214 x215000_2 x215001_2 t215 t216 t217 w _ ?side1 ?side2 A7.out).mono ?_); (case side1 => repeat (first | (with_reducible first | exact HI214.out | apply IsS84.alloc | apply IsS84.drewN | apply IsS84.drew | apply IsS84.set_0 | apply IsS84.set_1) | exact HI214.out)); (case side2 => repeat (first | (with_reducible first | exact HB.out | apply below_alloc | apply pw_below_drewN | apply below_drew1 | refine below_set ?_ (IsS84.ge HI214.out)) | exact HB.out)); rintro e w23 ⟨rfl, hi, hb, hk⟩; refine ⟨_, rfl, ?_⟩; have n0_ := Aside0.mk (Kd.R_mono (Kd.R_keep (IsS84.apart (show IsS84 w _ g214 x215000_2 x215001_2 from by repeat (first | (with_reducible first | exact HI214.out | apply IsS84.alloc | apply IsS84.drewN | apply IsS84.drew | apply IsS84.set_0 | apply IsS84.set_1) | exact HI214.out)) (by (with_reducible repeat (first | apply Kd.R_alloc | apply Kd.R_drewN | apply Kd.R_drew)); exact HO_4.out) (by decide)) hk (fun _ h => h.2)) (fun _ h => h.1)); have n1_ := Aside0.mk (hb); have n2_ := Aside0.mk (hi); clear HO_4; clear HB; clear HI214; have HO_4 := n0_; have HB := n1_; have HI214 := n2_; clear n0_ n1_ n2_; (try clear hb); (try clear hb2); (try clear hk); (try clear hi)))
                  go_roundg k2
                  case measure => have := HK1.out; have := HK2.out; omega
                  case rel => exact ⟨(x4_2), (wrap64 (x12_1 + 1)), (by first | rfl | (simp; done) | (simp [*]; done)), H', ⟨by have := HK1.out; have := HK2.out; omega⟩, ⟨by (with_reducible repeat (first | apply Kd.R_alloc | apply Kd.R_drewN | apply Kd.R_drew)); exact HO_4.out⟩, ⟨by repeat (first | (with_reducible first | exact HB.out | apply below_alloc | apply pw_below_drewN | apply below_drew1 | refine below_set ?_ (IsS84.ge HI214.out)) | exact HB.out)⟩⟩
          · rw [if_neg c4] at H
            exact absurd H (by simp)
        · rw [if_neg c3] at H
          exact absurd H (by simp)
      · rw [if_neg c2] at H
        have c2b0 : decide (x12_1 < (l0.length : Int)) = false := decide_eq_false c2
        clear c2
        simp only [Option.some.injEq, Prod.mk.injEq] at H
        obtain ⟨rfl, rfl⟩ := H
        go_wp2
        go_ret2
        exact ⟨_, by first | rfl | (simp [errW_none, errW_some] <;> rfl) | (simp [*, errW_none, errW_some] <;> rfl), by (with_reducible repeat (first | apply Kd.R_alloc | apply Kd.R_drewN | apply Kd.R_drew)); exact HO_4.out, by repeat (first | (with_reducible first | exact HB.out | apply below_alloc | apply pw_below_drewN | apply below_drew1) | exact HB.out)⟩

/-! ### code_Num: function 17 -/
def code_Num.l0 : Nat → Int → List Int → Option (ByteArray)
  | 0, _, _ => none
  | k + 1, x0, x3 => if x0 > 0 then (if x3.length < 140737488355328 then ((some (x3 ++ [(x0) % 256] : List Int)).bind fun y234 => (if 0 < (y234.length : Int) then (code_Num.l0 k (x0 / 256) (y234.set (0 : Int).toNat (((rd y234 0) + 1) % 256))) else (none))) else (none)) else (some (strOfNums x3))
def code_Num.f (k : Nat) (a0 : Int) : Option (ByteArray) := code_Num.l0 k a0 (([0] : List Int))
theorem code_Num.mono_l : ∀ k, (∀ y0 y1, LeO (code_Num.l0 k y0 y1) (code_Num.l0 (k + 1) y0 y1))
  | 0 => fun _ _ r h => by simp [code_Num.l0] at h
  | k + 1 => by
    have ih0 := code_Num.mono_l k
    · intro y0 y1
      unfold code_Num.l0
      repeat' first
      | (with_reducible exact ih0 _ _)
      | (with_reducible exact LeO.refl _)
      | (with_reducible exact LeO.none _)
      | (with_reducible refine LeO.ite ?_ ?_)
      | (with_reducible refine LeO.bind ?_ (fun _ => ?_))
      | exact ih0 _ _
      | exact LeO.none _
      | refine LeO.ite ?_ ?_
      | refine LeO.bind ?_ (fun _ => ?_)
theorem code_Num.mono : ∀ a0 k, LeO (code_Num.f k a0) (code_Num.f (k + 1) a0) := by
  intro a0 k
  have ih0 := code_Num.mono_l k
  unfold code_Num.f
  repeat' first
      | (with_reducible exact ih0 _ _)
      | (with_reducible exact LeO.refl _)
      | (with_reducible exact LeO.none _)
      | (with_reducible refine LeO.ite ?_ ?_)
      | (with_reducible refine LeO.bind ?_ (fun _ => ?_))
      | exact ih0 _ _
      | exact LeO.none _
      | refine LeO.ite ?_ ?_
      | refine LeO.bind ?_ (fun _ => ?_)
set_option maxHeartbeats 8000000 in
set_option maxRecDepth 100000 in
theorem code_Num.calls (k : Nat) (a0 : Int) (r : ByteArray) (w : World) (h : code_Num.f k a0 = some r) :
    Calls Try.prog 17 #[.int .u64 a0] w fun e w' => e = .returned (.string r) ∧ Below w.heap.size w w' := by
  have HB := Aside0.mk (Below.refl w.heap.size w)
  have H : (code_Num.l0 k a0 (([0] : List Int))) = some r := h
  clear h
  obtain ⟨y231, hy231⟩ : ∃ y_ : List Int, y_ = (([0] : List Int)) := ⟨_, rfl⟩
  replace H : (code_Num.l0 k a0 y231) = some r := by first | (rw [hy231]; with_reducible exact H) | (have H2_ := (Option.bind_some _ _).symm.trans H; rw [hy231]; with_reducible exact H2_) | (have H2_ := (Option.bind_some _ _).symm.trans H; with_reducible exact H2_) | with_reducible exact H | (rw [hy231]; exact H) | exact H
  have Ny231 := Aside0.mk hy231
  clear hy231
  have H' := Aside0.mk H
  clear H
  go_enter Try.func17, Try.ntmps17
  go_wp2_with (first | ((with_reducible refine gate_dst (N := 4) rfl ?_); refine Kd.R_lit (Kd.int .u8) _ 5 ?hg (N := 4) ?hd (xs := ([0] : List Int)) (inner := [.int .u8 0]) (ok := fun _ => True) (okp := fun _ => True) ?hr ?hp (fun _ hk => hk) trivial (Below.refl _ _) (Nat.le_refl _) (by simp) ?_; (case hd => rfl); (case hg => rfl); (case hr => first | (go_simp; done) | (go_simp; rfl)); (case hp => exact (Reps.one (show Kd.M (Kd.int .u8) _ _ _ 0 [.int .u8 0] from rfl) (Reps.none _ _))); intro v232 w2 ho3 hb hg_ hnew_; clear hg_ hnew_; (first | rw [← Ny231.out] at ho3 | (simp only [Int.reduceToNat] at ho3; rw [← Ny231.out] at ho3)); have n0_ := Aside0.mk (Kd.R_lower ho3 (below_size (by repeat (first | (with_reducible first | exact HB.out | apply below_alloc | apply pw_below_drewN | apply below_drew1) | exact HB.out)))); have n1_ := Aside0.mk (below_step (by repeat (first | (with_reducible first | exact HB.out | apply below_alloc | apply pw_below_drewN | apply below_drew1) | exact HB.out)) hb); clear HB; have HO233 := n0_; have HB := n1_; clear n0_ n1_; clear hb ho3))
  go_loopg [0, 3] k (fun kq v0 v3 w' => ∃ (x0_1 : Int) (x3_1 : List Int), v0 = .int .u64 x0_1 ∧ Aside0 (code_Num.l0 kq x0_1 x3_1 = some r) ∧ Aside0 (kq ≤ k) ∧ Aside0 (Kd.R (Kd.int .u8) 5 w' w.heap.size (fun _ => True) v3 x3_1) ∧ Aside0 (Below w.heap.size w w'))
  case atStart => exact ⟨(a0), (y231), (by first | rfl | (simp; done) | (simp [*]; done)), H', ⟨Nat.le_refl _⟩, ⟨by (with_reducible repeat (first | apply Kd.R_alloc | apply Kd.R_drewN | apply Kd.R_drew)); exact HO233.out⟩, ⟨by repeat (first | (with_reducible first | exact HB.out | apply below_alloc | apply pw_below_drewN | apply below_drew1) | exact HB.out)⟩⟩
  case round =>
    clear H'
    try clear c1
    try clear p2
    obtain ⟨x0_1, x3_1, rfl, HA, HK1, HO_3, HB⟩ := hrel
    cases gk with
    | zero => exact absurd HA.out (by simp [code_Num.l0])
    | succ k1 =>
      have H := HA.out
      clear HA
      simp only [code_Num.l0] at H
      by_cases c4 : x0_1 > 0
      · rw [if_pos c4] at H
        have c4b0 : decide (0 < x0_1) = true := decide_eq_true c4
        clear c4
        by_cases c5 : x3_1.length < 140737488355328
        · rw [if_pos c5] at H
          have LMc5 := Aside0.mk c5
          clear c5
          obtain ⟨y234, hy234⟩ : ∃ y_ : List Int, y_ = (x3_1 ++ [(x0_1) % 256]) := ⟨_, rfl⟩
          replace H : (if 0 < (y234.length : Int) then (code_Num.l0 k1 (x0_1 / 256) (y234.set (0 : Int).toNat (((rd y234 0) + 1) % 256))) else (none)) = some r := by first | (rw [hy234]; with_reducible exact H) | (have H2_ := (Option.bind_some _ _).symm.trans H; rw [hy234]; with_reducible exact H2_) | (have H2_ := (Option.bind_some _ _).symm.trans H; with_reducible exact H2_) | with_reducible exact H | (rw [hy234]; exact H) | exact H
          have Ny234 := Aside0.mk hy234
          clear hy234
          by_cases c6 : 0 < (y234.length : Int)
          · rw [if_pos c6] at H
            have c6b0 : decide (0 < (y234.length : Int)) = true := decide_eq_true c6
            have c6b1 : decide (0 < y234.length) = true := decide_eq_true (by omega)
            clear c6
            obtain ⟨y238, hy238⟩ : ∃ y_ : List Int, y_ = (y234.set (0 : Int).toNat (((rd y234 0) + 1) % 256)) := ⟨_, rfl⟩
            replace H : (code_Num.l0 k1 (x0_1 / 256) y238) = some r := by first | (rw [hy238]; with_reducible exact H) | (have H2_ := (Option.bind_some _ _).symm.trans H; rw [hy238]; with_reducible exact H2_) | (have H2_ := (Option.bind_some _ _).symm.trans H; with_reducible exact H2_) | with_reducible exact H | (rw [hy238]; exact H) | exact H
            have Ny238 := Aside0.mk hy238
            clear hy238
            have H' := Aside0.mk H
            clear H
            go_wp2_with (first | ((with_reducible refine gate_builtin (b := .append) (xs := #[.tmp 9, .tmp 12]) rfl ?_); at_builtin; refine Kd.R_append (Kd.int .u8) (w0 := w) w.heap.size rfl (.tmp 9) (.tmp 12) 81 5 (.int .u8 0) 1 rfl Try.underlying81 info5 rfl (by decide) (by omega) u3 x3_1 ((x0_1) % 256) [.int .u8 ((x0_1) % 256)] (fun _ => True) (fun _ => False) rfl rfl ?aP (fun _ hk => hk.elim) ?aF ?aO ?aB ?aS ?aL ?_; (case aP => exact rfl); (case aB => exact (by repeat (first | (with_reducible first | exact HB.out | apply below_alloc | apply pw_below_drewN | apply below_drew1) | exact HB.out))); (case aF => exact (fun _ _ => trivial)); (case aO => exact (by (with_reducible repeat (first | apply Kd.R_alloc | apply Kd.R_drewN | apply Kd.R_drew)); exact HO_3.out)); (case aS => exact (below_size (by repeat (first | (with_reducible first | exact HB.out | apply below_alloc | apply pw_below_drewN | apply below_drew1) | exact HB.out)))); (case aL => have := LMc5.out; omega); intro v235 w8 ho hb hg hat; rw [← Ny234.out] at ho; have n0_ := Aside0.mk (hb); have n1_ := Aside0.mk (ho); clear HB; clear HO_3; have HB := n0_; have HO236 := n1_; clear n0_ n1_; clear ho hb hg hat; obtain ⟨Ao9, co9, eo9⟩ := Kd.R_slice HO236.out; subst eo9; have p237 : 0 ≤ (0 : Int) := (by omega); have q237 : 0 < (y234.length : Int) := of_decide_eq_true (by first | (with_reducible assumption) | assumption); obtain ⟨ad237, e237, hx237_0⟩ := Kd.at_int (Kd.R_reads' HO236.out).2.2 0 p237 q237; cases e237; have qi237 : (0 < y234.length) = True := eq_true (by omega); (try rw [show ((0 : Int)).toNat = 0 from rfl] at hx237_0); (try rw [Addr.add_zero'] at hx237_0); replace p237 := eq_true p237; replace q237 := eq_true q237; have p7 : 0 ≤ (0 : Int) := (by omega); have q7 : (0 : Int) < ((y234.length : Int) : Int) := of_decide_eq_true (by first | (with_reducible assumption) | assumption); have qi7 : (0 < y234.length) = True := eq_true (by omega); obtain ⟨go7, co7, eo7, gb7, gl7, cl7, HG7⟩ := Kd.R_form HO236.out (by omega); (first | cases eo7 | (injection eo7 with ea_ en_ ec_; (first | subst ea_ | (injection ea_ with ea_; subst ea_)); subst ec_; clear en_)); have GB7 := Aside0.mk gb7; have GG7 := Aside0.mk HG7; clear gb7 gl7 HG7; (first | simp only [add_plain] at hx237_0 | skip); obtain ⟨hx7_0, hf7_0⟩ := Kd.R_celln 0 HO236.out (0 : Int) p7 q7; (try rw [show ((0 : Int)).toNat = 0 from rfl] at hx7_0); (try simp only [Nat.reduceMul, Nat.zero_mul, Nat.zero_add, Nat.reduceAdd] at hx7_0); (try rw [show ((0 : Int)).toNat = 0 from rfl] at hf7_0); (try simp only [Nat.reduceMul, Nat.zero_mul, Nat.zero_add, Nat.reduceAdd] at hf7_0); replace p7 := eq_true p7; replace q7 := eq_true q7; obtain ⟨hy10_, hz10_⟩ := Kd.R_celln 0 HO236.out (0 : Int) (by omega) (of_decide_eq_true (by first | (with_reducible assumption) | assumption)); (try simp only [Int.reduceToNat, Int.toNat_zero, Int.toNat_ofNat, Nat.reduceMul, Nat.zero_mul, Nat.zero_add] at hy10_ hz10_); (try rw [show ((0 : Int)).toNat = 0 from rfl] at hy10_); (try rw [show ((0 : Int)).toNat = 0 from rfl] at hz10_); have HP10 := Kd.R_putg HO236.out (0 : Int) (((rd y234 0) + 1) % 256)) | ((with_reducible refine gate_store (t := 5) (p := 18) rfl ?_); refine store_event (t := 5) (p := 18) (v := ?vo_w11) (w1 := (w8.setCell ⟨go7, (0 : Int).toNat, none⟩ (.int .u8 (((rd y234 0) + 1) % 256)))) ?hg ?ho ?hn ?hr ?_; (case ho => rfl); (case hg => rfl); (case hn => rfl); (case hr => first | (go_simp; done) | (go_simp; rfl)); intro w11 hw; have hg : w8.grownBy w11 (some go7) := (by rw [hw]; exact HP10.2); have hp_ : Kd.R (Kd.int .u8) 5 w11 w.heap.size (fun _ => True) (.slice (some ⟨go7, 0, none⟩) y234.length co9) y238 := (by rw [hw, Ny238.out]; exact HP10.1); clear HP10; have n0_ := Aside0.mk (hp_); have n1_ := Aside0.mk ((by rw [hw]; exact below_set (HB.out) GB7.out : Below w.heap.size w w11)); clear HO236; clear HB; have HO236 := n0_; have HB := n1_; clear n0_ n1_; clear hg hw hp_))
            go_roundg k1
            case measure => have := HK1.out; omega
            case rel => exact ⟨(x0_1 / 256), (y238), (by first | rfl | (simp; done) | (simp [*]; done)), H', ⟨by have := HK1.out; omega⟩, ⟨by (with_reducible repeat (first | apply Kd.R_alloc | apply Kd.R_drewN | apply Kd.R_drew)); exact HO236.out⟩, ⟨by repeat (first | (with_reducible first | exact HB.out | apply below_alloc | apply pw_below_drewN | apply below_drew1) | exact HB.out)⟩⟩
          · rw [if_neg c6] at H
            exact absurd H (by simp)
        · rw [if_neg c5] at H
          exact absurd H (by simp)
      · rw [if_neg c4] at H
        have c4b0 : decide (0 < x0_1) = false := decide_eq_false c4
        clear c4
        obtain rfl := Option.some.inj H
        have hcv12 := own_string (P := Try.prog) Try.underlying81 Try.underlying5 Try.underlying9 (Kd.own_of_R HO_3.out)
        go_wp2
        go_ret
        exact ⟨by first | rfl | (simp [errW_none, errW_some] <;> rfl) | (simp [*, errW_none, errW_some] <;> rfl), by repeat (first | (with_reducible first | exact HB.out | apply below_alloc | apply pw_below_drewN | apply below_drew1) | exact HB.out)⟩

/-! ### code_Fixed: function 64 -/
def code_Fixed.l0 : Nat → Int → List Int → Int → Int → Option (ByteArray)
  | 0, _, _, _, _ => none
  | k + 1, x0, x5, x9, x10 => if x10 < x9 then (if 0 ≤ (wrap64 (8 * x10)) then (if x5.length < 140737488355328 then (code_Fixed.l0 k x0 (x5 ++ [(shr .u64 x0 (wrap64 (8 * x10))) % 256]) x9 (wrap64 (x10 + 1))) else (none)) else (none)) else (some (strOfNums x5))
def code_Fixed.f (k : Nat) (a0 : Int) (a1 : Int) : Option (ByteArray) := code_Fixed.l0 k a0 ([] : List Int) (mn (mx a1 0) 8) 0
theorem code_Fixed.mono_l : ∀ k, (∀ y0 y1 y2 y3, LeO (code_Fixed.l0 k y0 y1 y2 y3) (code_Fixed.l0 (k + 1) y0 y1 y2 y3))
  | 0 => fun _ _ _ _ r h => by simp [code_Fixed.l0] at h
  | k + 1 => by
    have ih0 := code_Fixed.mono_l k
    · intro y0 y1 y2 y3
      unfold code_Fixed.l0
      repeat' first
      | (with_reducible exact ih0 _ _ _ _)
      | (with_reducible exact LeO.refl _)
      | (with_reducible exact LeO.none _)
      | (with_reducible refine LeO.ite ?_ ?_)
      | (with_reducible refine LeO.bind ?_ (fun _ => ?_))
      | exact ih0 _ _ _ _
      | exact LeO.none _
      | refine LeO.ite ?_ ?_
      | refine LeO.bind ?_ (fun _ => ?_)
theorem code_Fixed.mono : ∀ a0 a1 k, LeO (code_Fixed.f k a0 a1) (code_Fixed.f (k + 1) a0 a1) := by
  intro a0 a1 k
  have ih0 := code_Fixed.mono_l k
  unfold code_Fixed.f
  repeat' first
      | (with_reducible exact ih0 _ _ _ _)
      | (with_reducible exact LeO.refl _)
      | (with_reducible exact LeO.none _)
      | (with_reducible refine LeO.ite ?_ ?_)
      | (with_reducible refine LeO.bind ?_ (fun _ => ?_))
      | exact ih0 _ _ _ _
      | exact LeO.none _
      | refine LeO.ite ?_ ?_
      | refine LeO.bind ?_ (fun _ => ?_)
set_option maxHeartbeats 8000000 in
set_option maxRecDepth 100000 in
theorem code_Fixed.calls (k : Nat) (a0 : Int) (a1 : Int) (r : ByteArray) (w : World) (h : code_Fixed.f k a0 a1 = some r) :
    Calls Try.prog 64 #[.int .u64 a0, .int .i64 a1] w fun e w' => e = .returned (.string r) ∧ Below w.heap.size w w' := by
  have HB := Aside0.mk (Below.refl w.heap.size w)
  have H : (code_Fixed.l0 k a0 ([] : List Int) (mn (mx a1 0) 8) 0) = some r := h
  clear h
  obtain ⟨ji3, hji3⟩ : ∃ j_ : Int, (mx a1 0) = j_ := ⟨_, rfl⟩
  replace H : (code_Fixed.l0 k a0 ([] : List Int) (mn (ji3) 8) 0) = some r := by first | (rw [hji3] at H; exact H) | (simp only [hji3] at H ⊢; exact H)
  (try (have hji3l : 0 ≤ ji3 := by (rw [← hji3]; unfold mx; (repeat' split) <;> omega)))
  (try (have hji3m : 0 ≤ ji3 := by omega))
  have hji3_ : (if a1 < 0 then 0 else a1) = ji3 := hji3
  obtain ⟨ji4, hji4⟩ : ∃ j_ : Int, (mn (ji3) 8) = j_ := ⟨_, rfl⟩
  replace H : (code_Fixed.l0 k a0 ([] : List Int) ji4 0) = some r := by first | (rw [hji4] at H; exact H) | (simp only [hji4] at H ⊢; exact H)
  have hji4_ : (if 8 < (ji3) then 8 else (ji3)) = ji4 := hji4
  have H' := Aside0.mk H
  clear H
  go_enter Try.func64, Try.ntmps64
  go_wp2
  go_loopg [5, 10] k (fun kq v5 v10 w' => ∃ (x5_1 : List Int) (x10_1 : Int), v10 = .int .i64 x10_1 ∧ Aside0 (code_Fixed.l0 kq a0 x5_1 ji4 x10_1 = some r) ∧ Aside0 (kq ≤ k) ∧ Aside0 (Kd.R (Kd.int .u8) 5 w' w.heap.size (fun _ => True) v5 x5_1) ∧ Aside0 (Below w.heap.size w w'))
  case atStart => exact ⟨(([] : List Int)), (0), (by first | rfl | (simp; done) | (simp [*]; done)), H', ⟨Nat.le_refl _⟩, ⟨by first | exact Kd.R_nil _ _ _ _ _ | exact Kd.N_nil _ _ _ _ _ | exact Kd.V_nil _ _ _ _ _ | exact Kd.Q_nil _ _ _ _ _ | exact Kd.S_nil _ _ _ _ _⟩, ⟨by repeat (first | (with_reducible first | exact HB.out | apply below_alloc | apply pw_below_drewN | apply below_drew1) | exact HB.out)⟩⟩
  case round =>
    clear H'
    try clear p2
    obtain ⟨x5_1, x10_1, rfl, HA, HK1, HO_5, HB⟩ := hrel
    cases gk with
    | zero => exact absurd HA.out (by simp [code_Fixed.l0])
    | succ k1 =>
      have H := HA.out
      clear HA
      simp only [code_Fixed.l0] at H
      by_cases c5 : x10_1 < ji4
      · rw [if_pos c5] at H
        have c5b0 : decide (x10_1 < ji4) = true := decide_eq_true c5
        clear c5
        obtain ⟨ji6, hji6⟩ : ∃ j_ : Int, (wrap64 (8 * x10_1)) = j_ := ⟨_, rfl⟩
        replace H : (if 0 ≤ (ji6) then (if x5_1.length < 140737488355328 then (code_Fixed.l0 k1 a0 (x5_1 ++ [(shr .u64 a0 (ji6)) % 256]) ji4 (wrap64 (x10_1 + 1))) else (none)) else (none)) = some r := by first | (rw [hji6] at H; exact H) | (simp only [hji6] at H ⊢; exact H)
        have hji6w : (IntKind.i64.wrap (8 * x10_1)) = ji6 := (i64_w _).trans hji6
        by_cases c7 : 0 ≤ (ji6)
        · rw [if_pos c7] at H
          have c7b0 := eq_true c7
          have c7b1 : decide (0 ≤ (ji6)) = true := decide_eq_true c7
          clear c7
          obtain ⟨ji8, hji8⟩ : ∃ j_ : Int, (shr .u64 a0 (ji6)) = j_ := ⟨_, rfl⟩
          replace H : (if x5_1.length < 140737488355328 then (code_Fixed.l0 k1 a0 (x5_1 ++ [(ji8) % 256]) ji4 (wrap64 (x10_1 + 1))) else (none)) = some r := by first | (rw [hji8] at H; exact H) | (simp only [hji8] at H ⊢; exact H)
          have hji8_ : (a0 / 2 ^ min (ji6).toNat 64) = ji8 := hji8
          have hji8z : (ji6) ≤ 64 → (a0 / 2 ^ (ji6).toNat) = ji8 := shr_small hji8
          by_cases c9 : x5_1.length < 140737488355328
          · rw [if_pos c9] at H
            have LMc9 := Aside0.mk c9
            clear c9
            obtain ⟨y239, hy239⟩ : ∃ y_ : List Int, y_ = (x5_1 ++ [(ji8) % 256]) := ⟨_, rfl⟩
            replace H : (code_Fixed.l0 k1 a0 y239 ji4 (wrap64 (x10_1 + 1))) = some r := by first | (rw [hy239]; with_reducible exact H) | (have H2_ := (Option.bind_some _ _).symm.trans H; rw [hy239]; with_reducible exact H2_) | (have H2_ := (Option.bind_some _ _).symm.trans H; with_reducible exact H2_) | with_reducible exact H | (rw [hy239]; exact H) | exact H
            have Ny239 := Aside0.mk hy239
            clear hy239
            have H' := Aside0.mk H
            clear H
            go_wp2_with (first | ((with_reducible refine gate_builtin (b := .append) (xs := #[.tmp 13, .tmp 19]) rfl ?_); at_builtin; refine Kd.R_append (Kd.int .u8) (w0 := w) w.heap.size rfl (.tmp 13) (.tmp 19) 81 5 (.int .u8 0) 1 rfl Try.underlying81 info5 rfl (by decide) (by omega) u5 x5_1 ((ji8) % 256) [.int .u8 ((ji8) % 256)] (fun _ => True) (fun _ => False) rfl rfl ?aP (fun _ hk => hk.elim) ?aF ?aO ?aB ?aS ?aL ?_; (case aP => exact rfl); (case aB => exact (by repeat (first | (with_reducible first | exact HB.out | apply below_alloc | apply pw_below_drewN | apply below_drew1) | exact HB.out))); (case aF => exact (fun _ _ => trivial)); (case aO => exact (by (with_reducible repeat (first | apply Kd.R_alloc | apply Kd.R_drewN | apply Kd.R_drew)); exact HO_5.out)); (case aS => exact (below_size (by repeat (first | (with_reducible first | exact HB.out | apply below_alloc | apply pw_below_drewN | apply below_drew1) | exact HB.out)))); (case aL => have := LMc9.out; omega); intro v240 w10 ho hb hg hat; rw [← Ny239.out] at ho; have n0_ := Aside0.mk (hb); have n1_ := Aside0.mk (ho); clear HB; clear HO_5; have HB := n0_; have HO241 := n1_; clear n0_ n1_; clear ho hb hg hat))
            go_roundg k1
            case measure => have := HK1.out; omega
            case rel => exact ⟨(y239), (wrap64 (x10_1 + 1)), (by first | rfl | (simp; done) | (simp [*]; done)), H', ⟨by have := HK1.out; omega⟩, ⟨by (with_reducible repeat (first | apply Kd.R_alloc | apply Kd.R_drewN | apply Kd.R_drew)); exact HO241.out⟩, ⟨by repeat (first | (with_reducible first | exact HB.out | apply below_alloc | apply pw_below_drewN | apply below_drew1) | exact HB.out)⟩⟩
          · rw [if_neg c9] at H
            exact absurd H (by simp)
        · rw [if_neg c7] at H
          exact absurd H (by simp)
      · rw [if_neg c5] at H
        have c5b0 : decide (x10_1 < ji4) = false := decide_eq_false c5
        clear c5
        obtain rfl := Option.some.inj H
        have hcv11 := own_string (P := Try.prog) Try.underlying81 Try.underlying5 Try.underlying9 (Kd.own_of_R HO_5.out)
        go_wp2
        go_ret
        exact ⟨by first | rfl | (simp [errW_none, errW_some] <;> rfl) | (simp only [← hji3, ← hji4]; first | rfl | (simp [errW_none, errW_some] <;> rfl)) | (simp [*, errW_none, errW_some] <;> rfl), by repeat (first | (with_reducible first | exact HB.out | apply below_alloc | apply pw_below_drewN | apply below_drew1) | exact HB.out)⟩

/-! ### rec_Put: function 43 -/
def rec_Put.add (k : Nat) (s : ByteArray) (c : Int) : Option ByteArray := (code_Num.f k (IntKind.u64.wrap c)).bind fun t => if s.size + t.size ≤ 9223372036854775807 then some (s ++ t) else none
def rec_Put.f (k : Nat) (a0_0 a0_1 a0_2 a0_3 a0_4 a0_5 : Int) : Option ByteArray := (code_Fixed.f k (IntKind.u64.wrap a0_0) 1).bind fun s => (Rc.flds a0_0 a0_1 a0_2 a0_3 a0_4 a0_5).foldlM (fun s c => rec_Put.add k s c) s
theorem rec_Put.mono_a (s : ByteArray) (c : Int) (k : Nat) : LeO (rec_Put.add k s c) (rec_Put.add (k + 1) s c) := LeO.bind (code_Num.mono _ _) (fun _ => LeO.refl _)
theorem rec_Put.mono_l (k : Nat) : ∀ (l : List Int) (s : ByteArray), LeO (l.foldlM (fun s c => rec_Put.add k s c) s) (l.foldlM (fun s c => rec_Put.add (k + 1) s c) s)
  | [], s => LeO.refl _
  | c :: l, s => by
    rw [List.foldlM_cons, List.foldlM_cons]
    exact LeO.bind (rec_Put.mono_a s c k) (fun _ => rec_Put.mono_l k l _)
theorem rec_Put.mono : ∀ a0 a1 a2 a3 a4 a5 k, LeO (rec_Put.f k a0 a1 a2 a3 a4 a5) (rec_Put.f (k + 1) a0 a1 a2 a3 a4 a5) := by
  intro a0 a1 a2 a3 a4 a5 k
  exact LeO.bind (code_Fixed.mono _ _ _) (fun _ => rec_Put.mono_l k _ _)
theorem rec_Put.step {k : Nat} {s r : ByteArray} {c : Int} {l : List Int} (h : (c :: l).foldlM (fun s c => rec_Put.add k s c) s = some r) :
    ∃ t, code_Num.f k (IntKind.u64.wrap c) = some t ∧ s.size + t.size ≤ 9223372036854775807 ∧ l.foldlM (fun s c => rec_Put.add k s c) (s ++ t) = some r := by
  rw [List.foldlM_cons] at h
  obtain ⟨s1, h1, h⟩ := Option.bind_eq_some_iff.mp h
  obtain ⟨t, h2, h3⟩ := Option.bind_eq_some_iff.mp h1
  split at h3
  · obtain rfl := Option.some.inj h3
    exact ⟨t, h2, by assumption, h⟩
  · cases h3
set_option maxHeartbeats 8000000 in
set_option maxRecDepth 100000 in
theorem rec_Put.c1 (k : Nat) (c1 c2 c3 c4 c5 : Int) (r : ByteArray) (w : World) (h : rec_Put.f k 1 c1 c2 c3 c4 c5 = some r) : Calls Try.prog 43 #[.agg #[.int .i64 1, .int .i64 c1, .int .i64 c2, .int .i64 c3, .int .i64 c4, .int .i64 c5]] w fun e w' => e = .returned (.string r) ∧ Below w.heap.size w w' := by
  obtain ⟨s0, hs0, h⟩ := Option.bind_eq_some_iff.mp h
  have A0 := Aside0.mk (show code_Fixed.f k 1 1 = some s0 from hs0)
  have h : ([c1, c2, c3] : List Int).foldlM (fun s c => rec_Put.add k s c) s0 = some r := h
  obtain ⟨t1, ha1, z1, h⟩ := rec_Put.step h
  have A1 := Aside0.mk ha1
  clear ha1
  have y1 := eq_true z1
  obtain ⟨t2, ha2, z2, h⟩ := rec_Put.step h
  have A2 := Aside0.mk ha2
  clear ha2
  have y2 := eq_true z2
  obtain ⟨t3, ha3, z3, h⟩ := rec_Put.step h
  have A3 := Aside0.mk ha3
  clear ha3
  have y3 := eq_true z3
  obtain rfl : _ = r := Option.some.inj h
  clear hs0 h
  have hw0 : w.heap.size = w.heap.size := rfl
  have hk0 : (w.alloc (.cells #[.int .i64 1, .int .i64 c1, .int .i64 c2, .int .i64 c3, .int .i64 c4, .int .i64 c5] 58)).cell? ⟨w.heap.size, 0, none⟩ = some (.int .i64 1) := (blk_cell (Rc.rec_new w 1 c1 c2 c3 c4 c5) 0).trans rfl
  go_enter Try.func43, Try.ntmps43
  go_wp2_with (first | (go_at_call 64; (with_reducible refine (code_Fixed.calls k 1 1 s0 _ A0.out).mono ?_); rintro e w1 ⟨rfl, hb⟩; have hr1 : Rc.IsRec w1 w.heap.size 1 c1 c2 c3 c4 c5 := ((hb.block _ (by rw [Rc.size_alloc]; omega)).trans (Rc.rec_new w 1 c1 c2 c3 c4 c5)); have HB1 : Below w.heap.size w w1 := (below_step (below_alloc (Below.refl _ _) _) hb); clear hb) | (go_at_call 60; refine (Rc.fields_1 w.heap.size c1 c2 c3 c4 c5 _ hr1).mono ?_; rintro e w2 ⟨vl, vm, rfl, ⟨bl, rfl, hl, gl⟩, ⟨bm, rfl, hm, gm⟩, hb⟩; clear gl gm hm; have hr : Rc.IsRec w2 w.heap.size 1 c1 c2 c3 c4 c5 := ((hb.block _ (blk_lt hr1)).trans hr1); have HB : Below w.heap.size w w2 := (below_step HB1 hb); clear hb))
  clear hw0 hk0 hr1 HB1
  have p0 : w2.cell? ⟨bl, 0, none⟩ = some (.pointer (some ⟨w.heap.size, 1, none⟩)) := (blk_cell hl 0).trans rfl
  have q0 : w2.cell? ⟨w.heap.size, 1, none⟩ = some (.int .i64 c1) := (blk_cell hr 1).trans rfl
  refine wp_loop_rounds 4 ?_
  rw [rounds_succ]
  go_wp2_with (go_at_call 17; (with_reducible refine (code_Num.calls k (IntKind.u64.wrap c1) t1 _ A1.out).mono ?_); rintro e w3 ⟨rfl, hb⟩; have hl_ := ((hb.block _ (blk_lt hl)).trans hl); have hr_ : Rc.IsRec w3 w.heap.size 1 c1 c2 c3 c4 c5 := ((hb.block _ (blk_lt hr)).trans hr); have HB_ := below_step HB hb; clear hb hl hr HB p0 q0; have hl := hl_; have hr := hr_; have HB := HB_; clear hl_ hr_ HB_)
  have p1 : w3.cell? ⟨bl, 1, none⟩ = some (.pointer (some ⟨w.heap.size, 2, none⟩)) := (blk_cell hl 1).trans rfl
  have q1 : w3.cell? ⟨w.heap.size, 2, none⟩ = some (.int .i64 c2) := (blk_cell hr 2).trans rfl
  rw [rounds_succ]
  go_wp2_with (go_at_call 17; (with_reducible refine (code_Num.calls k (IntKind.u64.wrap c2) t2 _ A2.out).mono ?_); rintro e w4 ⟨rfl, hb⟩; have hl_ := ((hb.block _ (blk_lt hl)).trans hl); have hr_ : Rc.IsRec w4 w.heap.size 1 c1 c2 c3 c4 c5 := ((hb.block _ (blk_lt hr)).trans hr); have HB_ := below_step HB hb; clear hb hl hr HB p1 q1; have hl := hl_; have hr := hr_; have HB := HB_; clear hl_ hr_ HB_)
  have p2 : w4.cell? ⟨bl, 2, none⟩ = some (.pointer (some ⟨w.heap.size, 3, none⟩)) := (blk_cell hl 2).trans rfl
  have q2 : w4.cell? ⟨w.heap.size, 3, none⟩ = some (.int .i64 c3) := (blk_cell hr 3).trans rfl
  rw [rounds_succ]
  go_wp2_with (go_at_call 17; (with_reducible refine (code_Num.calls k (IntKind.u64.wrap c3) t3 _ A3.out).mono ?_); rintro e w5 ⟨rfl, hb⟩; have hl_ := ((hb.block _ (blk_lt hl)).trans hl); have hr_ : Rc.IsRec w5 w.heap.size 1 c1 c2 c3 c4 c5 := ((hb.block _ (blk_lt hr)).trans hr); have HB_ := below_step HB hb; clear hb hl hr HB p2 q2; have hl := hl_; have hr := hr_; have HB := HB_; clear hl_ hr_ HB_)
  rw [rounds_succ]
  go_wp2
  go_ret
  exact ⟨by first | rfl | (simp; done), by repeat (first | exact HB | apply pw_below_drewN | apply below_drew1)⟩
set_option maxHeartbeats 8000000 in
set_option maxRecDepth 100000 in
theorem rec_Put.c2 (k : Nat) (c1 c2 c3 c4 c5 : Int) (r : ByteArray) (w : World) (h : rec_Put.f k 2 c1 c2 c3 c4 c5 = some r) : Calls Try.prog 43 #[.agg #[.int .i64 2, .int .i64 c1, .int .i64 c2, .int .i64 c3, .int .i64 c4, .int .i64 c5]] w fun e w' => e = .returned (.string r) ∧ Below w.heap.size w w' := by
  obtain ⟨s0, hs0, h⟩ := Option.bind_eq_some_iff.mp h
  have A0 := Aside0.mk (show code_Fixed.f k 2 1 = some s0 from hs0)
  have h : ([c1, c2] : List Int).foldlM (fun s c => rec_Put.add k s c) s0 = some r := h
  obtain ⟨t1, ha1, z1, h⟩ := rec_Put.step h
  have A1 := Aside0.mk ha1
  clear ha1
  have y1 := eq_true z1
  obtain ⟨t2, ha2, z2, h⟩ := rec_Put.step h
  have A2 := Aside0.mk ha2
  clear ha2
  have y2 := eq_true z2
  obtain rfl : _ = r := Option.some.inj h
  clear hs0 h
  have hw0 : w.heap.size = w.heap.size := rfl
  have hk0 : (w.alloc (.cells #[.int .i64 2, .int .i64 c1, .int .i64 c2, .int .i64 c3, .int .i64 c4, .int .i64 c5] 58)).cell? ⟨w.heap.size, 0, none⟩ = some (.int .i64 2) := (blk_cell (Rc.rec_new w 2 c1 c2 c3 c4 c5) 0).trans rfl
  go_enter Try.func43, Try.ntmps43
  go_wp2_with (first | (go_at_call 64; (with_reducible refine (code_Fixed.calls k 2 1 s0 _ A0.out).mono ?_); rintro e w1 ⟨rfl, hb⟩; have hr1 : Rc.IsRec w1 w.heap.size 2 c1 c2 c3 c4 c5 := ((hb.block _ (by rw [Rc.size_alloc]; omega)).trans (Rc.rec_new w 2 c1 c2 c3 c4 c5)); have HB1 : Below w.heap.size w w1 := (below_step (below_alloc (Below.refl _ _) _) hb); clear hb) | (go_at_call 60; refine (Rc.fields_2 w.heap.size c1 c2 c3 c4 c5 _ hr1).mono ?_; rintro e w2 ⟨vl, vm, rfl, ⟨bl, rfl, hl, gl⟩, ⟨bm, rfl, hm, gm⟩, hb⟩; clear gl gm hm; have hr : Rc.IsRec w2 w.heap.size 2 c1 c2 c3 c4 c5 := ((hb.block _ (blk_lt hr1)).trans hr1); have HB : Below w.heap.size w w2 := (below_step HB1 hb); clear hb))
  clear hw0 hk0 hr1 HB1
  have p0 : w2.cell? ⟨bl, 0, none⟩ = some (.pointer (some ⟨w.heap.size, 1, none⟩)) := (blk_cell hl 0).trans rfl
  have q0 : w2.cell? ⟨w.heap.size, 1, none⟩ = some (.int .i64 c1) := (blk_cell hr 1).trans rfl
  refine wp_loop_rounds 3 ?_
  rw [rounds_succ]
  go_wp2_with (go_at_call 17; (with_reducible refine (code_Num.calls k (IntKind.u64.wrap c1) t1 _ A1.out).mono ?_); rintro e w3 ⟨rfl, hb⟩; have hl_ := ((hb.block _ (blk_lt hl)).trans hl); have hr_ : Rc.IsRec w3 w.heap.size 2 c1 c2 c3 c4 c5 := ((hb.block _ (blk_lt hr)).trans hr); have HB_ := below_step HB hb; clear hb hl hr HB p0 q0; have hl := hl_; have hr := hr_; have HB := HB_; clear hl_ hr_ HB_)
  have p1 : w3.cell? ⟨bl, 1, none⟩ = some (.pointer (some ⟨w.heap.size, 2, none⟩)) := (blk_cell hl 1).trans rfl
  have q1 : w3.cell? ⟨w.heap.size, 2, none⟩ = some (.int .i64 c2) := (blk_cell hr 2).trans rfl
  rw [rounds_succ]
  go_wp2_with (go_at_call 17; (with_reducible refine (code_Num.calls k (IntKind.u64.wrap c2) t2 _ A2.out).mono ?_); rintro e w4 ⟨rfl, hb⟩; have hl_ := ((hb.block _ (blk_lt hl)).trans hl); have hr_ : Rc.IsRec w4 w.heap.size 2 c1 c2 c3 c4 c5 := ((hb.block _ (blk_lt hr)).trans hr); have HB_ := below_step HB hb; clear hb hl hr HB p1 q1; have hl := hl_; have hr := hr_; have HB := HB_; clear hl_ hr_ HB_)
  rw [rounds_succ]
  go_wp2
  go_ret
  exact ⟨by first | rfl | (simp; done), by repeat (first | exact HB | apply pw_below_drewN | apply below_drew1)⟩
set_option maxHeartbeats 8000000 in
set_option maxRecDepth 100000 in
theorem rec_Put.c3 (k : Nat) (c1 c2 c3 c4 c5 : Int) (r : ByteArray) (w : World) (h : rec_Put.f k 3 c1 c2 c3 c4 c5 = some r) : Calls Try.prog 43 #[.agg #[.int .i64 3, .int .i64 c1, .int .i64 c2, .int .i64 c3, .int .i64 c4, .int .i64 c5]] w fun e w' => e = .returned (.string r) ∧ Below w.heap.size w w' := by
  obtain ⟨s0, hs0, h⟩ := Option.bind_eq_some_iff.mp h
  have A0 := Aside0.mk (show code_Fixed.f k 3 1 = some s0 from hs0)
  have h : ([c3, c4] : List Int).foldlM (fun s c => rec_Put.add k s c) s0 = some r := h
  obtain ⟨t1, ha1, z1, h⟩ := rec_Put.step h
  have A1 := Aside0.mk ha1
  clear ha1
  have y1 := eq_true z1
  obtain ⟨t2, ha2, z2, h⟩ := rec_Put.step h
  have A2 := Aside0.mk ha2
  clear ha2
  have y2 := eq_true z2
  obtain rfl : _ = r := Option.some.inj h
  clear hs0 h
  have hw0 : w.heap.size = w.heap.size := rfl
  have hk0 : (w.alloc (.cells #[.int .i64 3, .int .i64 c1, .int .i64 c2, .int .i64 c3, .int .i64 c4, .int .i64 c5] 58)).cell? ⟨w.heap.size, 0, none⟩ = some (.int .i64 3) := (blk_cell (Rc.rec_new w 3 c1 c2 c3 c4 c5) 0).trans rfl
  go_enter Try.func43, Try.ntmps43
  go_wp2_with (first | (go_at_call 64; (with_reducible refine (code_Fixed.calls k 3 1 s0 _ A0.out).mono ?_); rintro e w1 ⟨rfl, hb⟩; have hr1 : Rc.IsRec w1 w.heap.size 3 c1 c2 c3 c4 c5 := ((hb.block _ (by rw [Rc.size_alloc]; omega)).trans (Rc.rec_new w 3 c1 c2 c3 c4 c5)); have HB1 : Below w.heap.size w w1 := (below_step (below_alloc (Below.refl _ _) _) hb); clear hb) | (go_at_call 60; refine (Rc.fields_3 w.heap.size c1 c2 c3 c4 c5 _ hr1).mono ?_; rintro e w2 ⟨vl, vm, rfl, ⟨bl, rfl, hl, gl⟩, ⟨bm, rfl, hm, gm⟩, hb⟩; clear gl gm hm; have hr : Rc.IsRec w2 w.heap.size 3 c1 c2 c3 c4 c5 := ((hb.block _ (blk_lt hr1)).trans hr1); have HB : Below w.heap.size w w2 := (below_step HB1 hb); clear hb))
  clear hw0 hk0 hr1 HB1
  have p0 : w2.cell? ⟨bl, 0, none⟩ = some (.pointer (some ⟨w.heap.size, 3, none⟩)) := (blk_cell hl 0).trans rfl
  have q0 : w2.cell? ⟨w.heap.size, 3, none⟩ = some (.int .i64 c3) := (blk_cell hr 3).trans rfl
  refine wp_loop_rounds 3 ?_
  rw [rounds_succ]
  go_wp2_with (go_at_call 17; (with_reducible refine (code_Num.calls k (IntKind.u64.wrap c3) t1 _ A1.out).mono ?_); rintro e w3 ⟨rfl, hb⟩; have hl_ := ((hb.block _ (blk_lt hl)).trans hl); have hr_ : Rc.IsRec w3 w.heap.size 3 c1 c2 c3 c4 c5 := ((hb.block _ (blk_lt hr)).trans hr); have HB_ := below_step HB hb; clear hb hl hr HB p0 q0; have hl := hl_; have hr := hr_; have HB := HB_; clear hl_ hr_ HB_)
  have p1 : w3.cell? ⟨bl, 1, none⟩ = some (.pointer (some ⟨w.heap.size, 4, none⟩)) := (blk_cell hl 1).trans rfl
  have q1 : w3.cell? ⟨w.heap.size, 4, none⟩ = some (.int .i64 c4) := (blk_cell hr 4).trans rfl
  rw [rounds_succ]
  go_wp2_with (go_at_call 17; (with_reducible refine (code_Num.calls k (IntKind.u64.wrap c4) t2 _ A2.out).mono ?_); rintro e w4 ⟨rfl, hb⟩; have hl_ := ((hb.block _ (blk_lt hl)).trans hl); have hr_ : Rc.IsRec w4 w.heap.size 3 c1 c2 c3 c4 c5 := ((hb.block _ (blk_lt hr)).trans hr); have HB_ := below_step HB hb; clear hb hl hr HB p1 q1; have hl := hl_; have hr := hr_; have HB := HB_; clear hl_ hr_ HB_)
  rw [rounds_succ]
  go_wp2
  go_ret
  exact ⟨by first | rfl | (simp; done), by repeat (first | exact HB | apply pw_below_drewN | apply below_drew1)⟩
set_option maxHeartbeats 8000000 in
set_option maxRecDepth 100000 in
theorem rec_Put.c4 (k : Nat) (c1 c2 c3 c4 c5 : Int) (r : ByteArray) (w : World) (h : rec_Put.f k 4 c1 c2 c3 c4 c5 = some r) : Calls Try.prog 43 #[.agg #[.int .i64 4, .int .i64 c1, .int .i64 c2, .int .i64 c3, .int .i64 c4, .int .i64 c5]] w fun e w' => e = .returned (.string r) ∧ Below w.heap.size w w' := by
  obtain ⟨s0, hs0, h⟩ := Option.bind_eq_some_iff.mp h
  have A0 := Aside0.mk (show code_Fixed.f k 4 1 = some s0 from hs0)
  have h : ([c1, c5] : List Int).foldlM (fun s c => rec_Put.add k s c) s0 = some r := h
  obtain ⟨t1, ha1, z1, h⟩ := rec_Put.step h
  have A1 := Aside0.mk ha1
  clear ha1
  have y1 := eq_true z1
  obtain ⟨t2, ha2, z2, h⟩ := rec_Put.step h
  have A2 := Aside0.mk ha2
  clear ha2
  have y2 := eq_true z2
  obtain rfl : _ = r := Option.some.inj h
  clear hs0 h
  have hw0 : w.heap.size = w.heap.size := rfl
  have hk0 : (w.alloc (.cells #[.int .i64 4, .int .i64 c1, .int .i64 c2, .int .i64 c3, .int .i64 c4, .int .i64 c5] 58)).cell? ⟨w.heap.size, 0, none⟩ = some (.int .i64 4) := (blk_cell (Rc.rec_new w 4 c1 c2 c3 c4 c5) 0).trans rfl
  go_enter Try.func43, Try.ntmps43
  go_wp2_with (first | (go_at_call 64; (with_reducible refine (code_Fixed.calls k 4 1 s0 _ A0.out).mono ?_); rintro e w1 ⟨rfl, hb⟩; have hr1 : Rc.IsRec w1 w.heap.size 4 c1 c2 c3 c4 c5 := ((hb.block _ (by rw [Rc.size_alloc]; omega)).trans (Rc.rec_new w 4 c1 c2 c3 c4 c5)); have HB1 : Below w.heap.size w w1 := (below_step (below_alloc (Below.refl _ _) _) hb); clear hb) | (go_at_call 60; refine (Rc.fields_4 w.heap.size c1 c2 c3 c4 c5 _ hr1).mono ?_; rintro e w2 ⟨vl, vm, rfl, ⟨bl, rfl, hl, gl⟩, ⟨bm, rfl, hm, gm⟩, hb⟩; clear gl gm hm; have hr : Rc.IsRec w2 w.heap.size 4 c1 c2 c3 c4 c5 := ((hb.block _ (blk_lt hr1)).trans hr1); have HB : Below w.heap.size w w2 := (below_step HB1 hb); clear hb))
  clear hw0 hk0 hr1 HB1
  have p0 : w2.cell? ⟨bl, 0, none⟩ = some (.pointer (some ⟨w.heap.size, 1, none⟩)) := (blk_cell hl 0).trans rfl
  have q0 : w2.cell? ⟨w.heap.size, 1, none⟩ = some (.int .i64 c1) := (blk_cell hr 1).trans rfl
  refine wp_loop_rounds 3 ?_
  rw [rounds_succ]
  go_wp2_with (go_at_call 17; (with_reducible refine (code_Num.calls k (IntKind.u64.wrap c1) t1 _ A1.out).mono ?_); rintro e w3 ⟨rfl, hb⟩; have hl_ := ((hb.block _ (blk_lt hl)).trans hl); have hr_ : Rc.IsRec w3 w.heap.size 4 c1 c2 c3 c4 c5 := ((hb.block _ (blk_lt hr)).trans hr); have HB_ := below_step HB hb; clear hb hl hr HB p0 q0; have hl := hl_; have hr := hr_; have HB := HB_; clear hl_ hr_ HB_)
  have p1 : w3.cell? ⟨bl, 1, none⟩ = some (.pointer (some ⟨w.heap.size, 5, none⟩)) := (blk_cell hl 1).trans rfl
  have q1 : w3.cell? ⟨w.heap.size, 5, none⟩ = some (.int .i64 c5) := (blk_cell hr 5).trans rfl
  rw [rounds_succ]
  go_wp2_with (go_at_call 17; (with_reducible refine (code_Num.calls k (IntKind.u64.wrap c5) t2 _ A2.out).mono ?_); rintro e w4 ⟨rfl, hb⟩; have hl_ := ((hb.block _ (blk_lt hl)).trans hl); have hr_ : Rc.IsRec w4 w.heap.size 4 c1 c2 c3 c4 c5 := ((hb.block _ (blk_lt hr)).trans hr); have HB_ := below_step HB hb; clear hb hl hr HB p1 q1; have hl := hl_; have hr := hr_; have HB := HB_; clear hl_ hr_ HB_)
  rw [rounds_succ]
  go_wp2
  go_ret
  exact ⟨by first | rfl | (simp; done), by repeat (first | exact HB | apply pw_below_drewN | apply below_drew1)⟩
set_option maxHeartbeats 8000000 in
set_option maxRecDepth 100000 in
theorem rec_Put.c5 (k : Nat) (c1 c2 c3 c4 c5 : Int) (r : ByteArray) (w : World) (h : rec_Put.f k 5 c1 c2 c3 c4 c5 = some r) : Calls Try.prog 43 #[.agg #[.int .i64 5, .int .i64 c1, .int .i64 c2, .int .i64 c3, .int .i64 c4, .int .i64 c5]] w fun e w' => e = .returned (.string r) ∧ Below w.heap.size w w' := by
  obtain ⟨s0, hs0, h⟩ := Option.bind_eq_some_iff.mp h
  have A0 := Aside0.mk (show code_Fixed.f k 5 1 = some s0 from hs0)
  have h : ([c1] : List Int).foldlM (fun s c => rec_Put.add k s c) s0 = some r := h
  obtain ⟨t1, ha1, z1, h⟩ := rec_Put.step h
  have A1 := Aside0.mk ha1
  clear ha1
  have y1 := eq_true z1
  obtain rfl : _ = r := Option.some.inj h
  clear hs0 h
  have hw0 : w.heap.size = w.heap.size := rfl
  have hk0 : (w.alloc (.cells #[.int .i64 5, .int .i64 c1, .int .i64 c2, .int .i64 c3, .int .i64 c4, .int .i64 c5] 58)).cell? ⟨w.heap.size, 0, none⟩ = some (.int .i64 5) := (blk_cell (Rc.rec_new w 5 c1 c2 c3 c4 c5) 0).trans rfl
  go_enter Try.func43, Try.ntmps43
  go_wp2_with (first | (go_at_call 64; (with_reducible refine (code_Fixed.calls k 5 1 s0 _ A0.out).mono ?_); rintro e w1 ⟨rfl, hb⟩; have hr1 : Rc.IsRec w1 w.heap.size 5 c1 c2 c3 c4 c5 := ((hb.block _ (by rw [Rc.size_alloc]; omega)).trans (Rc.rec_new w 5 c1 c2 c3 c4 c5)); have HB1 : Below w.heap.size w w1 := (below_step (below_alloc (Below.refl _ _) _) hb); clear hb) | (go_at_call 60; refine (Rc.fields_5 w.heap.size c1 c2 c3 c4 c5 _ hr1).mono ?_; rintro e w2 ⟨vl, vm, rfl, ⟨bl, rfl, hl, gl⟩, ⟨bm, rfl, hm, gm⟩, hb⟩; clear gl gm hm; have hr : Rc.IsRec w2 w.heap.size 5 c1 c2 c3 c4 c5 := ((hb.block _ (blk_lt hr1)).trans hr1); have HB : Below w.heap.size w w2 := (below_step HB1 hb); clear hb))
  clear hw0 hk0 hr1 HB1
  have p0 : w2.cell? ⟨bl, 0, none⟩ = some (.pointer (some ⟨w.heap.size, 1, none⟩)) := (blk_cell hl 0).trans rfl
  have q0 : w2.cell? ⟨w.heap.size, 1, none⟩ = some (.int .i64 c1) := (blk_cell hr 1).trans rfl
  refine wp_loop_rounds 2 ?_
  rw [rounds_succ]
  go_wp2_with (go_at_call 17; (with_reducible refine (code_Num.calls k (IntKind.u64.wrap c1) t1 _ A1.out).mono ?_); rintro e w3 ⟨rfl, hb⟩; have hl_ := ((hb.block _ (blk_lt hl)).trans hl); have hr_ : Rc.IsRec w3 w.heap.size 5 c1 c2 c3 c4 c5 := ((hb.block _ (blk_lt hr)).trans hr); have HB_ := below_step HB hb; clear hb hl hr HB p0 q0; have hl := hl_; have hr := hr_; have HB := HB_; clear hl_ hr_ HB_)
  rw [rounds_succ]
  go_wp2
  go_ret
  exact ⟨by first | rfl | (simp; done), by repeat (first | exact HB | apply pw_below_drewN | apply below_drew1)⟩
set_option maxHeartbeats 8000000 in
set_option maxRecDepth 100000 in
theorem rec_Put.c6 (k : Nat) (c1 c2 c3 c4 c5 : Int) (r : ByteArray) (w : World) (h : rec_Put.f k 6 c1 c2 c3 c4 c5 = some r) : Calls Try.prog 43 #[.agg #[.int .i64 6, .int .i64 c1, .int .i64 c2, .int .i64 c3, .int .i64 c4, .int .i64 c5]] w fun e w' => e = .returned (.string r) ∧ Below w.heap.size w w' := by
  obtain ⟨s0, hs0, h⟩ := Option.bind_eq_some_iff.mp h
  have A0 := Aside0.mk (show code_Fixed.f k 6 1 = some s0 from hs0)
  have h : ([c1, c4] : List Int).foldlM (fun s c => rec_Put.add k s c) s0 = some r := h
  obtain ⟨t1, ha1, z1, h⟩ := rec_Put.step h
  have A1 := Aside0.mk ha1
  clear ha1
  have y1 := eq_true z1
  obtain ⟨t2, ha2, z2, h⟩ := rec_Put.step h
  have A2 := Aside0.mk ha2
  clear ha2
  have y2 := eq_true z2
  obtain rfl : _ = r := Option.some.inj h
  clear hs0 h
  have hw0 : w.heap.size = w.heap.size := rfl
  have hk0 : (w.alloc (.cells #[.int .i64 6, .int .i64 c1, .int .i64 c2, .int .i64 c3, .int .i64 c4, .int .i64 c5] 58)).cell? ⟨w.heap.size, 0, none⟩ = some (.int .i64 6) := (blk_cell (Rc.rec_new w 6 c1 c2 c3 c4 c5) 0).trans rfl
  go_enter Try.func43, Try.ntmps43
  go_wp2_with (first | (go_at_call 64; (with_reducible refine (code_Fixed.calls k 6 1 s0 _ A0.out).mono ?_); rintro e w1 ⟨rfl, hb⟩; have hr1 : Rc.IsRec w1 w.heap.size 6 c1 c2 c3 c4 c5 := ((hb.block _ (by rw [Rc.size_alloc]; omega)).trans (Rc.rec_new w 6 c1 c2 c3 c4 c5)); have HB1 : Below w.heap.size w w1 := (below_step (below_alloc (Below.refl _ _) _) hb); clear hb) | (go_at_call 60; refine (Rc.fields_6 w.heap.size c1 c2 c3 c4 c5 _ hr1).mono ?_; rintro e w2 ⟨vl, vm, rfl, ⟨bl, rfl, hl, gl⟩, ⟨bm, rfl, hm, gm⟩, hb⟩; clear gl gm hm; have hr : Rc.IsRec w2 w.heap.size 6 c1 c2 c3 c4 c5 := ((hb.block _ (blk_lt hr1)).trans hr1); have HB : Below w.heap.size w w2 := (below_step HB1 hb); clear hb))
  clear hw0 hk0 hr1 HB1
  have p0 : w2.cell? ⟨bl, 0, none⟩ = some (.pointer (some ⟨w.heap.size, 1, none⟩)) := (blk_cell hl 0).trans rfl
  have q0 : w2.cell? ⟨w.heap.size, 1, none⟩ = some (.int .i64 c1) := (blk_cell hr 1).trans rfl
  refine wp_loop_rounds 3 ?_
  rw [rounds_succ]
  go_wp2_with (go_at_call 17; (with_reducible refine (code_Num.calls k (IntKind.u64.wrap c1) t1 _ A1.out).mono ?_); rintro e w3 ⟨rfl, hb⟩; have hl_ := ((hb.block _ (blk_lt hl)).trans hl); have hr_ : Rc.IsRec w3 w.heap.size 6 c1 c2 c3 c4 c5 := ((hb.block _ (blk_lt hr)).trans hr); have HB_ := below_step HB hb; clear hb hl hr HB p0 q0; have hl := hl_; have hr := hr_; have HB := HB_; clear hl_ hr_ HB_)
  have p1 : w3.cell? ⟨bl, 1, none⟩ = some (.pointer (some ⟨w.heap.size, 4, none⟩)) := (blk_cell hl 1).trans rfl
  have q1 : w3.cell? ⟨w.heap.size, 4, none⟩ = some (.int .i64 c4) := (blk_cell hr 4).trans rfl
  rw [rounds_succ]
  go_wp2_with (go_at_call 17; (with_reducible refine (code_Num.calls k (IntKind.u64.wrap c4) t2 _ A2.out).mono ?_); rintro e w4 ⟨rfl, hb⟩; have hl_ := ((hb.block _ (blk_lt hl)).trans hl); have hr_ : Rc.IsRec w4 w.heap.size 6 c1 c2 c3 c4 c5 := ((hb.block _ (blk_lt hr)).trans hr); have HB_ := below_step HB hb; clear hb hl hr HB p1 q1; have hl := hl_; have hr := hr_; have HB := HB_; clear hl_ hr_ HB_)
  rw [rounds_succ]
  go_wp2
  go_ret
  exact ⟨by first | rfl | (simp; done), by repeat (first | exact HB | apply pw_below_drewN | apply below_drew1)⟩
set_option maxHeartbeats 8000000 in
set_option maxRecDepth 100000 in
theorem rec_Put.c7 (k : Nat) (c1 c2 c3 c4 c5 : Int) (r : ByteArray) (w : World) (h : rec_Put.f k 7 c1 c2 c3 c4 c5 = some r) : Calls Try.prog 43 #[.agg #[.int .i64 7, .int .i64 c1, .int .i64 c2, .int .i64 c3, .int .i64 c4, .int .i64 c5]] w fun e w' => e = .returned (.string r) ∧ Below w.heap.size w w' := by
  obtain ⟨s0, hs0, h⟩ := Option.bind_eq_some_iff.mp h
  have A0 := Aside0.mk (show code_Fixed.f k 7 1 = some s0 from hs0)
  have h : ([c1] : List Int).foldlM (fun s c => rec_Put.add k s c) s0 = some r := h
  obtain ⟨t1, ha1, z1, h⟩ := rec_Put.step h
  have A1 := Aside0.mk ha1
  clear ha1
  have y1 := eq_true z1
  obtain rfl : _ = r := Option.some.inj h
  clear hs0 h
  have hw0 : w.heap.size = w.heap.size := rfl
  have hk0 : (w.alloc (.cells #[.int .i64 7, .int .i64 c1, .int .i64 c2, .int .i64 c3, .int .i64 c4, .int .i64 c5] 58)).cell? ⟨w.heap.size, 0, none⟩ = some (.int .i64 7) := (blk_cell (Rc.rec_new w 7 c1 c2 c3 c4 c5) 0).trans rfl
  go_enter Try.func43, Try.ntmps43
  go_wp2_with (first | (go_at_call 64; (with_reducible refine (code_Fixed.calls k 7 1 s0 _ A0.out).mono ?_); rintro e w1 ⟨rfl, hb⟩; have hr1 : Rc.IsRec w1 w.heap.size 7 c1 c2 c3 c4 c5 := ((hb.block _ (by rw [Rc.size_alloc]; omega)).trans (Rc.rec_new w 7 c1 c2 c3 c4 c5)); have HB1 : Below w.heap.size w w1 := (below_step (below_alloc (Below.refl _ _) _) hb); clear hb) | (go_at_call 60; refine (Rc.fields_7 w.heap.size c1 c2 c3 c4 c5 _ hr1).mono ?_; rintro e w2 ⟨vl, vm, rfl, ⟨bl, rfl, hl, gl⟩, ⟨bm, rfl, hm, gm⟩, hb⟩; clear gl gm hm; have hr : Rc.IsRec w2 w.heap.size 7 c1 c2 c3 c4 c5 := ((hb.block _ (blk_lt hr1)).trans hr1); have HB : Below w.heap.size w w2 := (below_step HB1 hb); clear hb))
  clear hw0 hk0 hr1 HB1
  have p0 : w2.cell? ⟨bl, 0, none⟩ = some (.pointer (some ⟨w.heap.size, 1, none⟩)) := (blk_cell hl 0).trans rfl
  have q0 : w2.cell? ⟨w.heap.size, 1, none⟩ = some (.int .i64 c1) := (blk_cell hr 1).trans rfl
  refine wp_loop_rounds 2 ?_
  rw [rounds_succ]
  go_wp2_with (go_at_call 17; (with_reducible refine (code_Num.calls k (IntKind.u64.wrap c1) t1 _ A1.out).mono ?_); rintro e w3 ⟨rfl, hb⟩; have hl_ := ((hb.block _ (blk_lt hl)).trans hl); have hr_ : Rc.IsRec w3 w.heap.size 7 c1 c2 c3 c4 c5 := ((hb.block _ (blk_lt hr)).trans hr); have HB_ := below_step HB hb; clear hb hl hr HB p0 q0; have hl := hl_; have hr := hr_; have HB := HB_; clear hl_ hr_ HB_)
  rw [rounds_succ]
  go_wp2
  go_ret
  exact ⟨by first | rfl | (simp; done), by repeat (first | exact HB | apply pw_below_drewN | apply below_drew1)⟩
set_option maxHeartbeats 8000000 in
set_option maxRecDepth 100000 in
theorem rec_Put.c8 (k : Nat) (c1 c2 c3 c4 c5 : Int) (r : ByteArray) (w : World) (h : rec_Put.f k 8 c1 c2 c3 c4 c5 = some r) : Calls Try.prog 43 #[.agg #[.int .i64 8, .int .i64 c1, .int .i64 c2, .int .i64 c3, .int .i64 c4, .int .i64 c5]] w fun e w' => e = .returned (.string r) ∧ Below w.heap.size w w' := by
  obtain ⟨s0, hs0, h⟩ := Option.bind_eq_some_iff.mp h
  have A0 := Aside0.mk (show code_Fixed.f k 8 1 = some s0 from hs0)
  have h : ([c3] : List Int).foldlM (fun s c => rec_Put.add k s c) s0 = some r := h
  obtain ⟨t1, ha1, z1, h⟩ := rec_Put.step h
  have A1 := Aside0.mk ha1
  clear ha1
  have y1 := eq_true z1
  obtain rfl : _ = r := Option.some.inj h
  clear hs0 h
  have hw0 : w.heap.size = w.heap.size := rfl
  have hk0 : (w.alloc (.cells #[.int .i64 8, .int .i64 c1, .int .i64 c2, .int .i64 c3, .int .i64 c4, .int .i64 c5] 58)).cell? ⟨w.heap.size, 0, none⟩ = some (.int .i64 8) := (blk_cell (Rc.rec_new w 8 c1 c2 c3 c4 c5) 0).trans rfl
  go_enter Try.func43, Try.ntmps43
  go_wp2_with (first | (go_at_call 64; (with_reducible refine (code_Fixed.calls k 8 1 s0 _ A0.out).mono ?_); rintro e w1 ⟨rfl, hb⟩; have hr1 : Rc.IsRec w1 w.heap.size 8 c1 c2 c3 c4 c5 := ((hb.block _ (by rw [Rc.size_alloc]; omega)).trans (Rc.rec_new w 8 c1 c2 c3 c4 c5)); have HB1 : Below w.heap.size w w1 := (below_step (below_alloc (Below.refl _ _) _) hb); clear hb) | (go_at_call 60; refine (Rc.fields_8 w.heap.size c1 c2 c3 c4 c5 _ hr1).mono ?_; rintro e w2 ⟨vl, vm, rfl, ⟨bl, rfl, hl, gl⟩, ⟨bm, rfl, hm, gm⟩, hb⟩; clear gl gm hm; have hr : Rc.IsRec w2 w.heap.size 8 c1 c2 c3 c4 c5 := ((hb.block _ (blk_lt hr1)).trans hr1); have HB : Below w.heap.size w w2 := (below_step HB1 hb); clear hb))
  clear hw0 hk0 hr1 HB1
  have p0 : w2.cell? ⟨bl, 0, none⟩ = some (.pointer (some ⟨w.heap.size, 3, none⟩)) := (blk_cell hl 0).trans rfl
  have q0 : w2.cell? ⟨w.heap.size, 3, none⟩ = some (.int .i64 c3) := (blk_cell hr 3).trans rfl
  refine wp_loop_rounds 2 ?_
  rw [rounds_succ]
  go_wp2_with (go_at_call 17; (with_reducible refine (code_Num.calls k (IntKind.u64.wrap c3) t1 _ A1.out).mono ?_); rintro e w3 ⟨rfl, hb⟩; have hl_ := ((hb.block _ (blk_lt hl)).trans hl); have hr_ : Rc.IsRec w3 w.heap.size 8 c1 c2 c3 c4 c5 := ((hb.block _ (blk_lt hr)).trans hr); have HB_ := below_step HB hb; clear hb hl hr HB p0 q0; have hl := hl_; have hr := hr_; have HB := HB_; clear hl_ hr_ HB_)
  rw [rounds_succ]
  go_wp2
  go_ret
  exact ⟨by first | rfl | (simp; done), by repeat (first | exact HB | apply pw_below_drewN | apply below_drew1)⟩
set_option maxHeartbeats 8000000 in
set_option maxRecDepth 100000 in
theorem rec_Put.c9 (k : Nat) (c1 c2 c3 c4 c5 : Int) (r : ByteArray) (w : World) (h : rec_Put.f k 9 c1 c2 c3 c4 c5 = some r) : Calls Try.prog 43 #[.agg #[.int .i64 9, .int .i64 c1, .int .i64 c2, .int .i64 c3, .int .i64 c4, .int .i64 c5]] w fun e w' => e = .returned (.string r) ∧ Below w.heap.size w w' := by
  obtain ⟨s0, hs0, h⟩ := Option.bind_eq_some_iff.mp h
  have A0 := Aside0.mk (show code_Fixed.f k 9 1 = some s0 from hs0)
  have h : ([c3, c5] : List Int).foldlM (fun s c => rec_Put.add k s c) s0 = some r := h
  obtain ⟨t1, ha1, z1, h⟩ := rec_Put.step h
  have A1 := Aside0.mk ha1
  clear ha1
  have y1 := eq_true z1
  obtain ⟨t2, ha2, z2, h⟩ := rec_Put.step h
  have A2 := Aside0.mk ha2
  clear ha2
  have y2 := eq_true z2
  obtain rfl : _ = r := Option.some.inj h
  clear hs0 h
  have hw0 : w.heap.size = w.heap.size := rfl
  have hk0 : (w.alloc (.cells #[.int .i64 9, .int .i64 c1, .int .i64 c2, .int .i64 c3, .int .i64 c4, .int .i64 c5] 58)).cell? ⟨w.heap.size, 0, none⟩ = some (.int .i64 9) := (blk_cell (Rc.rec_new w 9 c1 c2 c3 c4 c5) 0).trans rfl
  go_enter Try.func43, Try.ntmps43
  go_wp2_with (first | (go_at_call 64; (with_reducible refine (code_Fixed.calls k 9 1 s0 _ A0.out).mono ?_); rintro e w1 ⟨rfl, hb⟩; have hr1 : Rc.IsRec w1 w.heap.size 9 c1 c2 c3 c4 c5 := ((hb.block _ (by rw [Rc.size_alloc]; omega)).trans (Rc.rec_new w 9 c1 c2 c3 c4 c5)); have HB1 : Below w.heap.size w w1 := (below_step (below_alloc (Below.refl _ _) _) hb); clear hb) | (go_at_call 60; refine (Rc.fields_9 w.heap.size c1 c2 c3 c4 c5 _ hr1).mono ?_; rintro e w2 ⟨vl, vm, rfl, ⟨bl, rfl, hl, gl⟩, ⟨bm, rfl, hm, gm⟩, hb⟩; clear gl gm hm; have hr : Rc.IsRec w2 w.heap.size 9 c1 c2 c3 c4 c5 := ((hb.block _ (blk_lt hr1)).trans hr1); have HB : Below w.heap.size w w2 := (below_step HB1 hb); clear hb))
  clear hw0 hk0 hr1 HB1
  have p0 : w2.cell? ⟨bl, 0, none⟩ = some (.pointer (some ⟨w.heap.size, 3, none⟩)) := (blk_cell hl 0).trans rfl
  have q0 : w2.cell? ⟨w.heap.size, 3, none⟩ = some (.int .i64 c3) := (blk_cell hr 3).trans rfl
  refine wp_loop_rounds 3 ?_
  rw [rounds_succ]
  go_wp2_with (go_at_call 17; (with_reducible refine (code_Num.calls k (IntKind.u64.wrap c3) t1 _ A1.out).mono ?_); rintro e w3 ⟨rfl, hb⟩; have hl_ := ((hb.block _ (blk_lt hl)).trans hl); have hr_ : Rc.IsRec w3 w.heap.size 9 c1 c2 c3 c4 c5 := ((hb.block _ (blk_lt hr)).trans hr); have HB_ := below_step HB hb; clear hb hl hr HB p0 q0; have hl := hl_; have hr := hr_; have HB := HB_; clear hl_ hr_ HB_)
  have p1 : w3.cell? ⟨bl, 1, none⟩ = some (.pointer (some ⟨w.heap.size, 5, none⟩)) := (blk_cell hl 1).trans rfl
  have q1 : w3.cell? ⟨w.heap.size, 5, none⟩ = some (.int .i64 c5) := (blk_cell hr 5).trans rfl
  rw [rounds_succ]
  go_wp2_with (go_at_call 17; (with_reducible refine (code_Num.calls k (IntKind.u64.wrap c5) t2 _ A2.out).mono ?_); rintro e w4 ⟨rfl, hb⟩; have hl_ := ((hb.block _ (blk_lt hl)).trans hl); have hr_ : Rc.IsRec w4 w.heap.size 9 c1 c2 c3 c4 c5 := ((hb.block _ (blk_lt hr)).trans hr); have HB_ := below_step HB hb; clear hb hl hr HB p1 q1; have hl := hl_; have hr := hr_; have HB := HB_; clear hl_ hr_ HB_)
  rw [rounds_succ]
  go_wp2
  go_ret
  exact ⟨by first | rfl | (simp; done), by repeat (first | exact HB | apply pw_below_drewN | apply below_drew1)⟩
set_option maxHeartbeats 8000000 in
set_option maxRecDepth 100000 in
theorem rec_Put.c0 (k : Nat) (a c1 c2 c3 c4 c5 : Int) (r : ByteArray) (w : World) (n1 : a ≠ 1) (n2 : a ≠ 2) (n3 : a ≠ 3) (n4 : a ≠ 4) (n5 : a ≠ 5) (n6 : a ≠ 6) (n7 : a ≠ 7) (n8 : a ≠ 8) (n9 : a ≠ 9) (h : rec_Put.f k a c1 c2 c3 c4 c5 = some r) : Calls Try.prog 43 #[.agg #[.int .i64 a, .int .i64 c1, .int .i64 c2, .int .i64 c3, .int .i64 c4, .int .i64 c5]] w fun e w' => e = .returned (.string r) ∧ Below w.heap.size w w' := by
  obtain ⟨s0, hs0, h⟩ := Option.bind_eq_some_iff.mp h
  have A0 := Aside0.mk hs0
  have h : ([] : List Int).foldlM (fun s c => rec_Put.add k s c) s0 = some r := by rw [Rc.flds_none n1 n2 n3 n4 n5 n6 n7 n8 n9] at h; exact h
  obtain rfl : _ = r := Option.some.inj h
  clear hs0 h
  have hw0 : w.heap.size = w.heap.size := rfl
  have hk0 : (w.alloc (.cells #[.int .i64 a, .int .i64 c1, .int .i64 c2, .int .i64 c3, .int .i64 c4, .int .i64 c5] 58)).cell? ⟨w.heap.size, 0, none⟩ = some (.int .i64 a) := (blk_cell (Rc.rec_new w a c1 c2 c3 c4 c5) 0).trans rfl
  go_enter Try.func43, Try.ntmps43
  go_wp2_with (first | (go_at_call 64; (with_reducible refine (code_Fixed.calls k (IntKind.u64.wrap a) 1 s0 _ A0.out).mono ?_); rintro e w1 ⟨rfl, hb⟩; have hr1 : Rc.IsRec w1 w.heap.size a c1 c2 c3 c4 c5 := ((hb.block _ (by rw [Rc.size_alloc]; omega)).trans (Rc.rec_new w a c1 c2 c3 c4 c5)); have HB1 : Below w.heap.size w w1 := (below_step (below_alloc (Below.refl _ _) _) hb); clear hb) | (go_at_call 60; refine (Rc.fields_0 w.heap.size a c1 c2 c3 c4 c5 _ hr1 n1 n2 n3 n4 n5 n6 n7 n8 n9).mono ?_; rintro e w2 ⟨rfl, hb⟩; have hr : Rc.IsRec w2 w.heap.size a c1 c2 c3 c4 c5 := ((hb.block _ (blk_lt hr1)).trans hr1); have HB : Below w.heap.size w w2 := (below_step HB1 hb); clear hb))
  clear hw0 hk0 hr1 HB1
  refine wp_loop_rounds 1 ?_
  rw [rounds_succ]
  go_wp2
  go_ret
  exact ⟨by first | rfl | (simp; done), by repeat (first | exact HB | apply pw_below_drewN | apply below_drew1)⟩
theorem rec_Put.calls (k : Nat) (a0_0 : Int) (a0_1 : Int) (a0_2 : Int) (a0_3 : Int) (a0_4 : Int) (a0_5 : Int) (r : ByteArray) (w : World) (h : rec_Put.f k a0_0 a0_1 a0_2 a0_3 a0_4 a0_5 = some r) :
    Calls Try.prog 43 #[.agg #[.int .i64 a0_0, .int .i64 a0_1, .int .i64 a0_2, .int .i64 a0_3, .int .i64 a0_4, .int .i64 a0_5]] w fun e w' => e = .returned (.string r) ∧ Below w.heap.size w w' := by
  by_cases n1 : a0_0 = 1
  · subst n1; exact rec_Put.c1 k a0_1 a0_2 a0_3 a0_4 a0_5 r w h
  by_cases n2 : a0_0 = 2
  · subst n2; exact rec_Put.c2 k a0_1 a0_2 a0_3 a0_4 a0_5 r w h
  by_cases n3 : a0_0 = 3
  · subst n3; exact rec_Put.c3 k a0_1 a0_2 a0_3 a0_4 a0_5 r w h
  by_cases n4 : a0_0 = 4
  · subst n4; exact rec_Put.c4 k a0_1 a0_2 a0_3 a0_4 a0_5 r w h
  by_cases n5 : a0_0 = 5
  · subst n5; exact rec_Put.c5 k a0_1 a0_2 a0_3 a0_4 a0_5 r w h
  by_cases n6 : a0_0 = 6
  · subst n6; exact rec_Put.c6 k a0_1 a0_2 a0_3 a0_4 a0_5 r w h
  by_cases n7 : a0_0 = 7
  · subst n7; exact rec_Put.c7 k a0_1 a0_2 a0_3 a0_4 a0_5 r w h
  by_cases n8 : a0_0 = 8
  · subst n8; exact rec_Put.c8 k a0_1 a0_2 a0_3 a0_4 a0_5 r w h
  by_cases n9 : a0_0 = 9
  · subst n9; exact rec_Put.c9 k a0_1 a0_2 a0_3 a0_4 a0_5 r w h
  exact rec_Put.c0 k a0_0 a0_1 a0_2 a0_3 a0_4 a0_5 r w n1 n2 n3 n4 n5 n6 n7 n8 n9 h

end Go.Proofs.Ytoiahmdibibceaa.XGroupReads
