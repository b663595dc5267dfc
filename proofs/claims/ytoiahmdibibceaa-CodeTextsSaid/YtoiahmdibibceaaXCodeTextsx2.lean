-- Written by xprint.py of this repo (the kit's print with turns of our own) out of the translation.
import Derived.Test.YtoiahmdibibceaaXCodeTextsx0
import Derived.Test.YtoiahmdibibceaaXCodeTextsx1
namespace Go.Proofs.Ytoiahmdibibceaa.XCodeTexts
open Go.RowKit Go.Proofs.YtoiahmdibibceaaW.PrintWords Go.Proofs.YtoiahmdibibceaaW.PrintLast Go.Proofs.YtoiahmdibibceaaW.PrintMore
attribute [local go_sem] max2_int min2_int max_two min_two max_three min_three max_four min_four   -- for this text's walks alone
set_option linter.unusedVariables false
set_option linter.unusedSimpArgs false

/-! ### code_Reader_End: function 23 -/
def code_Reader_End.f (s0_0 : ByteArray) (s0_1 : Int) : Option (Int × ByteArray × Int) := (code_Reader_Err.f s0_0 s0_1).bind fun bt137 => (if bt137.1 = 0 then (if bt137.2.1.toList = ([] : List UInt8) then ((code_Reader_Err.f bt137.2.1 bt137.2.2).bind fun bt140 => (some (bt140.1, bt140.2.1, bt140.2.2))) else (some (4, bt137.2.1, bt137.2.2))) else ((code_Reader_Err.f bt137.2.1 bt137.2.2).bind fun bt143 => (some (bt143.1, bt143.2.1, bt143.2.2))))
set_option maxHeartbeats 8000000 in
set_option maxRecDepth 100000 in
theorem code_Reader_End.calls (g : Nat) (s0_0 : ByteArray) (s0_1 : Int) (r1 : Int) (r2 : ByteArray) (r3 : Int) (w0 w : World) (hI : IsS84 w0 w g s0_0 s0_1) (hB : Below w0.heap.size w0 w) (h : code_Reader_End.f s0_0 s0_1 = some (r1, r2, r3)) :
    Calls Try.prog 23 #[.pointer (some ⟨g, 0, none⟩)] w fun e w' => e = .returned (.int .i64 r1) ∧ IsS84 w0 w' g r2 r3 ∧ Below w0.heap.size w0 w' ∧ KeepBut w w' g none := by
  have HI0 := Aside0.mk hI
  have HK := Aside0.mk (KeepBut.refl w g none)
  have HL := Aside0.mk hB.size
  clear hI
  have HW0 := Aside0.mk hB.size
  have HB := Aside0.mk hB
  clear hB
  have H : ((code_Reader_Err.f s0_0 s0_1).bind fun bt137 => (if bt137.1 = 0 then (if bt137.2.1.toList = ([] : List UInt8) then ((code_Reader_Err.f bt137.2.1 bt137.2.2).bind fun bt140 => (some (bt140.1, bt140.2.1, bt140.2.2))) else (some (4, bt137.2.1, bt137.2.2))) else ((code_Reader_Err.f bt137.2.1 bt137.2.2).bind fun bt143 => (some (bt143.1, bt143.2.1, bt143.2.2))))) = some (r1, r2, r3) := h
  clear h
  replace H := Option.bind_eq_some_iff.mp H
  obtain ⟨⟨t137, t138, t139⟩, A20, H⟩ := H
  replace H : (if t137 = 0 then (if t138.toList = ([] : List UInt8) then ((code_Reader_Err.f t138 t139).bind fun bt140 => (some (bt140.1, bt140.2.1, bt140.2.2))) else (some (4, t138, t139))) else ((code_Reader_Err.f t138 t139).bind fun bt143 => (some (bt143.1, bt143.2.1, bt143.2.2)))) = some (r1, r2, r3) := H
  have A2 := Aside0.mk A20
  clear A20
  by_cases c3 : t137 = 0
  · rw [if_pos c3] at H
    have c3b0 : (t137 == 0) = true := beq_iff_eq.mpr c3
    have c3b1 : (t137 != 0) = false := bne_eq_false_iff_eq.mpr c3
    clear c3
    by_cases c4 : t138.toList = ([] : List UInt8)
    · rw [if_pos c4] at H
      have c4b0 : (t138.toList == ([] : List UInt8)) = true := beq_iff_eq.mpr c4
      have c4b1 : (t138.toList != ([] : List UInt8)) = false := bne_eq_false_iff_eq.mpr c4
      clear c4
      replace H := Option.bind_eq_some_iff.mp H
      obtain ⟨⟨t140, t141, t142⟩, A50, H⟩ := H
      replace H : (some (t140, t141, t142)) = some (r1, r2, r3) := H
      have A5 := Aside0.mk A50
      clear A50
      simp only [Option.some.injEq, Prod.mk.injEq] at H
      obtain ⟨rfl, rfl, rfl⟩ := H
      go_enter Try.func23, Try.ntmps23
      go_wp2_with (first | ((with_reducible refine gate_callee (f := 24) rfl ?_); refine goesL_ (some 4) rfl rfl Try.func24 (by kernel_rfl) rfl #[.pointer (some ⟨g, 0, none⟩)] rfl (by (try simp only [List.map_toArray, List.map_cons, List.map_nil]); first | done | rfl | (simp only [List.length_drop, List.length_take]; rfl)) ?_; (with_reducible refine (code_Reader_Err.calls g s0_0 s0_1 t137 t138 t139 w0 _ ?side1 ?side2 A2.out).mono ?_); (case side1 => repeat (first | (with_reducible first | exact HI0.out | apply IsS84.alloc | apply IsS84.drewN | apply IsS84.drew | apply IsS84.set_0 | apply IsS84.set_1) | exact HI0.out)); (case side2 => repeat (first | (with_reducible first | exact HB.out | apply below_alloc | apply pw_below_drewN | apply below_drew1 | refine below_set ?_ (IsS84.ge HI0.out)) | exact HB.out)); rintro e w6 ⟨rfl, hi, hb, hk⟩; refine ⟨_, rfl, ?_⟩; have n0_ := Aside0.mk (KeepBut.trans (by repeat (first | (with_reducible first | exact HK.out | apply KeepBut.set_ | apply keep_drewN | apply keep_drew | apply keep_alloc) | exact HK.out)) hk (.inl rfl)); have n1_ := Aside0.mk (hb); have n2_ := Aside0.mk (hi); clear HK; clear HB; clear HI0; have HK := n0_; have HB := n1_; have HI0 := n2_; clear n0_ n1_ n2_; (try clear hb); (try clear hb2); (try clear hk); (try clear hi); obtain ⟨HGz7, hgz7⟩ := HI0.out; have hcz7_0 := cellS84_0 HGz7; have hcz7_1 := cellS84_1 HGz7; have hfz7_0 := blk_frozen HGz7 0; have hfz7_1 := blk_frozen HGz7 1; clear HGz7 hgz7) | ((with_reducible refine gate_callee (f := 24) rfl ?_); refine goesL_ (some 14) rfl rfl Try.func24 (by kernel_rfl) rfl #[.pointer (some ⟨g, 0, none⟩)] rfl (by (try simp only [List.map_toArray, List.map_cons, List.map_nil]); first | done | rfl | (simp only [List.length_drop, List.length_take]; rfl)) ?_; (with_reducible refine (code_Reader_Err.calls g t138 t139 t140 t141 t142 w0 _ ?side1 ?side2 A5.out).mono ?_); (case side1 => repeat (first | (with_reducible first | exact HI0.out | apply IsS84.alloc | apply IsS84.drewN | apply IsS84.drew | apply IsS84.set_0 | apply IsS84.set_1) | exact HI0.out)); (case side2 => repeat (first | (with_reducible first | exact HB.out | apply below_alloc | apply pw_below_drewN | apply below_drew1 | refine below_set ?_ (IsS84.ge HI0.out)) | exact HB.out)); rintro e w8 ⟨rfl, hi, hb, hk⟩; refine ⟨_, rfl, ?_⟩; have n0_ := Aside0.mk (KeepBut.trans (by repeat (first | (with_reducible first | exact HK.out | apply KeepBut.set_ | apply keep_drewN | apply keep_drew | apply keep_alloc) | exact HK.out)) hk (.inl rfl)); have n1_ := Aside0.mk (hb); have n2_ := Aside0.mk (hi); clear HK; clear HB; clear HI0; have HK := n0_; have HB := n1_; have HI0 := n2_; clear n0_ n1_ n2_; (try clear hb); (try clear hb2); (try clear hk); (try clear hi)))
      go_ret
      exact ⟨by first | rfl | (simp [errW_none, errW_some] <;> rfl) | (simp [*, errW_none, errW_some] <;> rfl), by repeat (first | (with_reducible first | exact HI0.out | apply IsS84.alloc | apply IsS84.drewN | apply IsS84.drew | apply IsS84.set_0 | apply IsS84.set_1) | exact HI0.out), by repeat (first | (with_reducible first | exact HB.out | apply below_alloc | apply pw_below_drewN | apply below_drew1 | refine below_set ?_ (IsS84.ge HI0.out)) | exact HB.out), by repeat (first | (with_reducible first | exact HK.out | apply KeepBut.set_ | apply keep_drewN | apply keep_drew | apply keep_alloc) | exact HK.out)⟩
    · rw [if_neg c4] at H
      have c4b0 : (t138.toList == ([] : List UInt8)) = false := beq_eq_false_iff_ne.mpr c4
      have c4b1 : (t138.toList != ([] : List UInt8)) = true := bne_iff_ne.mpr c4
      simp only [Option.some.injEq, Prod.mk.injEq] at H
      obtain ⟨rfl, rfl, rfl⟩ := H
      go_enter Try.func23, Try.ntmps23
      go_wp2_with (first | ((with_reducible refine gate_callee (f := 24) rfl ?_); refine goesL_ (some 4) rfl rfl Try.func24 (by kernel_rfl) rfl #[.pointer (some ⟨g, 0, none⟩)] rfl (by (try simp only [List.map_toArray, List.map_cons, List.map_nil]); first | done | rfl | (simp only [List.length_drop, List.length_take]; rfl)) ?_; (with_reducible refine (code_Reader_Err.calls g s0_0 s0_1 t137 t138 t139 w0 _ ?side1 ?side2 A2.out).mono ?_); (case side1 => repeat (first | (with_reducible first | exact HI0.out | apply IsS84.alloc | apply IsS84.drewN | apply IsS84.drew | apply IsS84.set_0 | apply IsS84.set_1) | exact HI0.out)); (case side2 => repeat (first | (with_reducible first | exact HB.out | apply below_alloc | apply pw_below_drewN | apply below_drew1 | refine below_set ?_ (IsS84.ge HI0.out)) | exact HB.out)); rintro e w9 ⟨rfl, hi, hb, hk⟩; refine ⟨_, rfl, ?_⟩; have n0_ := Aside0.mk (KeepBut.trans (by repeat (first | (with_reducible first | exact HK.out | apply KeepBut.set_ | apply keep_drewN | apply keep_drew | apply keep_alloc) | exact HK.out)) hk (.inl rfl)); have n1_ := Aside0.mk (hb); have n2_ := Aside0.mk (hi); clear HK; clear HB; clear HI0; have HK := n0_; have HB := n1_; have HI0 := n2_; clear n0_ n1_ n2_; (try clear hb); (try clear hb2); (try clear hk); (try clear hi); obtain ⟨HGz10, hgz10⟩ := HI0.out; have hcz10_0 := cellS84_0 HGz10; have hcz10_1 := cellS84_1 HGz10; have hfz10_0 := blk_frozen HGz10 0; have hfz10_1 := blk_frozen HGz10 1; clear HGz10 hgz10))
      go_ret
      exact ⟨by first | rfl | (simp [errW_none, errW_some] <;> rfl) | (simp [*, errW_none, errW_some] <;> rfl), by repeat (first | (with_reducible first | exact HI0.out | apply IsS84.alloc | apply IsS84.drewN | apply IsS84.drew | apply IsS84.set_0 | apply IsS84.set_1) | exact HI0.out), by repeat (first | (with_reducible first | exact HB.out | apply below_alloc | apply pw_below_drewN | apply below_drew1 | refine below_set ?_ (IsS84.ge HI0.out)) | exact HB.out), by repeat (first | (with_reducible first | exact HK.out | apply KeepBut.set_ | apply keep_drewN | apply keep_drew | apply keep_alloc) | exact HK.out)⟩
  · rw [if_neg c3] at H
    have c3b0 : (t137 == 0) = false := beq_eq_false_iff_ne.mpr c3
    have c3b1 : (t137 != 0) = true := bne_iff_ne.mpr c3
    replace H := Option.bind_eq_some_iff.mp H
    obtain ⟨⟨t143, t144, t145⟩, A110, H⟩ := H
    replace H : (some (t143, t144, t145)) = some (r1, r2, r3) := H
    have A11 := Aside0.mk A110
    clear A110
    simp only [Option.some.injEq, Prod.mk.injEq] at H
    obtain ⟨rfl, rfl, rfl⟩ := H
    go_enter Try.func23, Try.ntmps23
    go_wp2_with (first | ((with_reducible refine gate_callee (f := 24) rfl ?_); refine goesL_ (some 4) rfl rfl Try.func24 (by kernel_rfl) rfl #[.pointer (some ⟨g, 0, none⟩)] rfl (by (try simp only [List.map_toArray, List.map_cons, List.map_nil]); first | done | rfl | (simp only [List.length_drop, List.length_take]; rfl)) ?_; (with_reducible refine (code_Reader_Err.calls g s0_0 s0_1 t137 t138 t139 w0 _ ?side1 ?side2 A2.out).mono ?_); (case side1 => repeat (first | (with_reducible first | exact HI0.out | apply IsS84.alloc | apply IsS84.drewN | apply IsS84.drew | apply IsS84.set_0 | apply IsS84.set_1) | exact HI0.out)); (case side2 => repeat (first | (with_reducible first | exact HB.out | apply below_alloc | apply pw_below_drewN | apply below_drew1 | refine below_set ?_ (IsS84.ge HI0.out)) | exact HB.out)); rintro e w12 ⟨rfl, hi, hb, hk⟩; refine ⟨_, rfl, ?_⟩; have n0_ := Aside0.mk (KeepBut.trans (by repeat (first | (with_reducible first | exact HK.out | apply KeepBut.set_ | apply keep_drewN | apply keep_drew | apply keep_alloc) | exact HK.out)) hk (.inl rfl)); have n1_ := Aside0.mk (hb); have n2_ := Aside0.mk (hi); clear HK; clear HB; clear HI0; have HK := n0_; have HB := n1_; have HI0 := n2_; clear n0_ n1_ n2_; (try clear hb); (try clear hb2); (try clear hk); (try clear hi)) | ((with_reducible refine gate_callee (f := 24) rfl ?_); refine goesL_ (some 14) rfl rfl Try.func24 (by kernel_rfl) rfl #[.pointer (some ⟨g, 0, none⟩)] rfl (by (try simp only [List.map_toArray, List.map_cons, List.map_nil]); first | done | rfl | (simp only [List.length_drop, List.length_take]; rfl)) ?_; (with_reducible refine (code_Reader_Err.calls g t138 t139 t143 t144 t145 w0 _ ?side1 ?side2 A11.out).mono ?_); (case side1 => repeat (first | (with_reducible first | exact HI0.out | apply IsS84.alloc | apply IsS84.drewN | apply IsS84.drew | apply IsS84.set_0 | apply IsS84.set_1) | exact HI0.out)); (case side2 => repeat (first | (with_reducible first | exact HB.out | apply below_alloc | apply pw_below_drewN | apply below_drew1 | refine below_set ?_ (IsS84.ge HI0.out)) | exact HB.out)); rintro e w13 ⟨rfl, hi, hb, hk⟩; refine ⟨_, rfl, ?_⟩; have n0_ := Aside0.mk (KeepBut.trans (by repeat (first | (with_reducible first | exact HK.out | apply KeepBut.set_ | apply keep_drewN | apply keep_drew | apply keep_alloc) | exact HK.out)) hk (.inl rfl)); have n1_ := Aside0.mk (hb); have n2_ := Aside0.mk (hi); clear HK; clear HB; clear HI0; have HK := n0_; have HB := n1_; have HI0 := n2_; clear n0_ n1_ n2_; (try clear hb); (try clear hb2); (try clear hk); (try clear hi)))
    go_ret
    exact ⟨by first | rfl | (simp [errW_none, errW_some] <;> rfl) | (simp [*, errW_none, errW_some] <;> rfl), by repeat (first | (with_reducible first | exact HI0.out | apply IsS84.alloc | apply IsS84.drewN | apply IsS84.drew | apply IsS84.set_0 | apply IsS84.set_1) | exact HI0.out), by repeat (first | (with_reducible first | exact HB.out | apply below_alloc | apply pw_below_drewN | apply below_drew1 | refine below_set ?_ (IsS84.ge HI0.out)) | exact HB.out), by repeat (first | (with_reducible first | exact HK.out | apply KeepBut.set_ | apply keep_drewN | apply keep_drew | apply keep_alloc) | exact HK.out)⟩

/-! ### tinderboxlaw04_awake: function 21 -/
def tinderboxlaw04_awake.f (k : Nat)  : Option (Bool) := (code_Num.f k 300).bind fun t146 => ((code_New.f t146).bind fun bt147 => ((code_Reader_Num.f k bt147.1 bt147.2 1000).bind fun bt150 => (if bt150.1 = 300 then ((code_Reader_End.f bt150.2.1 bt150.2.2).bind fun bt153 => (if bt153.1 = 0 then ((code_Num.f k 300).bind fun t156 => (if t156.toList = ([2, 44, 1] : List UInt8) then ((code_Text.f k (⟨#[97, 98]⟩ : ByteArray)).bind fun t157 => (some (t157.toList == ([1, 2, 97, 98] : List UInt8)))) else (some false))) else (some false))) else (some false))))
theorem tinderboxlaw04_awake.mono : ∀ k, LeO (tinderboxlaw04_awake.f k ) (tinderboxlaw04_awake.f (k + 1) ) := by
  intro  k
  unfold tinderboxlaw04_awake.f
  repeat' first
      | (with_reducible exact code_Num.mono _ _)
      | (with_reducible exact code_Reader_Num.mono _ _ _ _)
      | (with_reducible exact code_Text.mono _ _)
      | (with_reducible exact LeO.refl _)
      | (with_reducible exact LeO.none _)
      | (with_reducible refine LeO.ite ?_ ?_)
      | (with_reducible refine LeO.bind ?_ (fun _ => ?_))
      | exact code_Num.mono _ _
      | exact code_Reader_Num.mono _ _ _ _
      | exact code_Text.mono _ _
      | exact LeO.none _
      | refine LeO.ite ?_ ?_
      | refine LeO.bind ?_ (fun _ => ?_)
set_option maxHeartbeats 8000000 in
set_option maxRecDepth 100000 in
theorem tinderboxlaw04_awake.calls (k : Nat)  (r : Bool) (w : World) (h : tinderboxlaw04_awake.f k  = some r) :
    Calls Try.prog 21 #[] w fun e w' => e = .returned (.bool r) ∧ Below w.heap.size w w' := by
  have HB := Aside0.mk (Below.refl w.heap.size w)
  have H : ((code_Num.f k 300).bind fun t146 => ((code_New.f t146).bind fun bt147 => ((code_Reader_Num.f k bt147.1 bt147.2 1000).bind fun bt150 => (if bt150.1 = 300 then ((code_Reader_End.f bt150.2.1 bt150.2.2).bind fun bt153 => (if bt153.1 = 0 then ((code_Num.f k 300).bind fun t156 => (if t156.toList = ([2, 44, 1] : List UInt8) then ((code_Text.f k (⟨#[97, 98]⟩ : ByteArray)).bind fun t157 => (some (t157.toList == ([1, 2, 97, 98] : List UInt8)))) else (some false))) else (some false))) else (some false))))) = some r := h
  clear h
  replace H := Option.bind_eq_some_iff.mp H
  obtain ⟨t146, A10, H⟩ := H
  replace H : ((code_New.f t146).bind fun bt147 => ((code_Reader_Num.f k bt147.1 bt147.2 1000).bind fun bt150 => (if bt150.1 = 300 then ((code_Reader_End.f bt150.2.1 bt150.2.2).bind fun bt153 => (if bt153.1 = 0 then ((code_Num.f k 300).bind fun t156 => (if t156.toList = ([2, 44, 1] : List UInt8) then ((code_Text.f k (⟨#[97, 98]⟩ : ByteArray)).bind fun t157 => (some (t157.toList == ([1, 2, 97, 98] : List UInt8)))) else (some false))) else (some false))) else (some false)))) = some r := H
  have A1 := Aside0.mk A10
  clear A10
  replace H := Option.bind_eq_some_iff.mp H
  obtain ⟨⟨t147, t148⟩, A20, H⟩ := H
  replace H : ((code_Reader_Num.f k t147 t148 1000).bind fun bt150 => (if bt150.1 = 300 then ((code_Reader_End.f bt150.2.1 bt150.2.2).bind fun bt153 => (if bt153.1 = 0 then ((code_Num.f k 300).bind fun t156 => (if t156.toList = ([2, 44, 1] : List UInt8) then ((code_Text.f k (⟨#[97, 98]⟩ : ByteArray)).bind fun t157 => (some (t157.toList == ([1, 2, 97, 98] : List UInt8)))) else (some false))) else (some false))) else (some false))) = some r := H
  have A2 := Aside0.mk A20
  clear A20
  replace H := Option.bind_eq_some_iff.mp H
  obtain ⟨⟨t150, t151, t152⟩, A30, H⟩ := H
  replace H : (if t150 = 300 then ((code_Reader_End.f t151 t152).bind fun bt153 => (if bt153.1 = 0 then ((code_Num.f k 300).bind fun t156 => (if t156.toList = ([2, 44, 1] : List UInt8) then ((code_Text.f k (⟨#[97, 98]⟩ : ByteArray)).bind fun t157 => (some (t157.toList == ([1, 2, 97, 98] : List UInt8)))) else (some false))) else (some false))) else (some false)) = some r := H
  have A3 := Aside0.mk A30
  clear A30
  by_cases c4 : t150 = 300
  · rw [if_pos c4] at H
    have c4b0 : (t150 == 300) = true := beq_iff_eq.mpr c4
    have c4b1 : (t150 != 300) = false := bne_eq_false_iff_eq.mpr c4
    clear c4
    replace H := Option.bind_eq_some_iff.mp H
    obtain ⟨⟨t153, t154, t155⟩, A50, H⟩ := H
    replace H : (if t153 = 0 then ((code_Num.f k 300).bind fun t156 => (if t156.toList = ([2, 44, 1] : List UInt8) then ((code_Text.f k (⟨#[97, 98]⟩ : ByteArray)).bind fun t157 => (some (t157.toList == ([1, 2, 97, 98] : List UInt8)))) else (some false))) else (some false)) = some r := H
    have A5 := Aside0.mk A50
    clear A50
    by_cases c6 : t153 = 0
    · rw [if_pos c6] at H
      have c6b0 : (t153 == 0) = true := beq_iff_eq.mpr c6
      have c6b1 : (t153 != 0) = false := bne_eq_false_iff_eq.mpr c6
      clear c6
      replace H := Option.bind_eq_some_iff.mp H
      obtain ⟨t156, A70, H⟩ := H
      replace H : (if t156.toList = ([2, 44, 1] : List UInt8) then ((code_Text.f k (⟨#[97, 98]⟩ : ByteArray)).bind fun t157 => (some (t157.toList == ([1, 2, 97, 98] : List UInt8)))) else (some false)) = some r := H
      have A7 := Aside0.mk A70
      clear A70
      by_cases c8 : t156.toList = ([2, 44, 1] : List UInt8)
      · rw [if_pos c8] at H
        have c8b0 : (t156.toList == ([2, 44, 1] : List UInt8)) = true := beq_iff_eq.mpr c8
        have c8b1 : (t156.toList != ([2, 44, 1] : List UInt8)) = false := bne_eq_false_iff_eq.mpr c8
        clear c8
        replace H := Option.bind_eq_some_iff.mp H
        obtain ⟨t157, A90, H⟩ := H
        replace H : (some (t157.toList == ([1, 2, 97, 98] : List UInt8))) = some r := H
        have A9 := Aside0.mk A90
        clear A90
        obtain rfl := Option.some.inj H
        go_enter Try.func21, Try.ntmps21
        go_wp2_with (first | ((with_reducible refine gate_callee (f := 17) rfl ?_); refine goesL_ (some 3) rfl rfl Try.func17 (by kernel_rfl) rfl #[.int .u64 300] rfl (by (try simp only [List.map_toArray, List.map_cons, List.map_nil]); first | done | rfl | (simp only [List.length_drop, List.length_take]; rfl)) ?_; (with_reducible refine (code_Num.calls k 300 t146 _ A1.out).mono ?_); rintro e w10 ⟨rfl, hb⟩; refine ⟨_, rfl, ?_⟩; have n0_ := Aside0.mk (below_step (by repeat (first | (with_reducible first | exact HB.out | apply below_alloc | apply pw_below_drewN | apply below_drew1) | exact HB.out)) hb); clear HB; have HB := n0_; clear n0_; (try clear hb); (try clear hb2); (try clear hk); (try clear hi)) | ((with_reducible refine gate_callee (f := 18) rfl ?_); refine goesL_ (some 4) rfl rfl Try.func18 (by kernel_rfl) rfl #[.string t146] rfl (by (try simp only [List.map_toArray, List.map_cons, List.map_nil]); first | done | rfl | (simp only [List.length_drop, List.length_take]; rfl)) ?_; (with_reducible refine (code_New.calls t146 t147 t148 w _ ?side1 A2.out).mono ?_); (case side1 => repeat (first | (with_reducible first | exact HB.out | apply below_alloc | apply pw_below_drewN | apply below_drew1) | exact HB.out)); rintro e w11 ⟨g149, rfl, hi, hb, hb2⟩; refine ⟨_, rfl, ?_⟩; have n0_ := Aside0.mk (hb); have n1_ := Aside0.mk (hi); clear HB; have HB := n0_; have HI149 := n1_; clear n0_ n1_; (try clear hb); (try clear hb2); (try clear hk); (try clear hi)) | ((with_reducible refine gate_callee (f := 20) rfl ?_); refine goesL_ (some 6) rfl rfl Try.func20 (by kernel_rfl) rfl #[.pointer (some ⟨g149, 0, none⟩), .int .u64 1000] rfl (by (try simp only [List.map_toArray, List.map_cons, List.map_nil]); first | done | rfl | (simp only [List.length_drop, List.length_take]; rfl)) ?_; (with_reducible refine (code_Reader_Num.calls k g149 t147 t148 1000 t150 t151 t152 w _ ?side1 ?side2 A3.out).mono ?_); (case side1 => repeat (first | (with_reducible first | exact HI149.out | apply IsS84.alloc | apply IsS84.drewN | apply IsS84.drew | apply IsS84.set_0 | apply IsS84.set_1) | exact HI149.out)); (case side2 => repeat (first | (with_reducible first | exact HB.out | apply below_alloc | apply pw_below_drewN | apply below_drew1 | refine below_set ?_ (IsS84.ge HI149.out)) | exact HB.out)); rintro e w12 ⟨rfl, hi, hb, hk⟩; refine ⟨_, rfl, ?_⟩; have n0_ := Aside0.mk (hb); have n1_ := Aside0.mk (hi); clear HB; clear HI149; have HB := n0_; have HI149 := n1_; clear n0_ n1_; (try clear hb); (try clear hb2); (try clear hk); (try clear hi)) | (go_at_call 23; (with_reducible refine (code_Reader_End.calls g149 t151 t152 t153 t154 t155 w _ ?side1 ?side2 A5.out).mono ?_); (case side1 => repeat (first | (with_reducible first | exact HI149.out | apply IsS84.alloc | apply IsS84.drewN | apply IsS84.drew | apply IsS84.set_0 | apply IsS84.set_1) | exact HI149.out)); (case side2 => repeat (first | (with_reducible first | exact HB.out | apply below_alloc | apply pw_below_drewN | apply below_drew1 | refine below_set ?_ (IsS84.ge HI149.out)) | exact HB.out)); rintro e w13 ⟨rfl, hi, hb, hk⟩; have n0_ := Aside0.mk (hb); have n1_ := Aside0.mk (hi); clear HB; clear HI149; have HB := n0_; have HI149 := n1_; clear n0_ n1_; (try clear hb); (try clear hb2); (try clear hk); (try clear hi)) | (go_at_call 17; (with_reducible refine (code_Num.calls k 300 t156 _ A7.out).mono ?_); rintro e w14 ⟨rfl, hb⟩; have n0_ := Aside0.mk (IsS84.below (by repeat (first | (with_reducible first | exact HI149.out | apply IsS84.alloc | apply IsS84.drewN | apply IsS84.drew | apply IsS84.set_0 | apply IsS84.set_1) | exact HI149.out)) hb); have n1_ := Aside0.mk (below_step (by repeat (first | (with_reducible first | exact HB.out | apply below_alloc | apply pw_below_drewN | apply below_drew1 | refine below_set ?_ (IsS84.ge HI149.out)) | exact HB.out)) hb); clear HI149; clear HB; have HI149 := n0_; have HB := n1_; clear n0_ n1_; (try clear hb); (try clear hb2); (try clear hk); (try clear hi)) | (go_at_call 16; (with_reducible refine (code_Text.calls k (⟨#[97, 98]⟩ : ByteArray) t157 _ A9.out).mono ?_); rintro e w15 ⟨rfl, hb⟩; have n0_ := Aside0.mk (IsS84.below (by repeat (first | (with_reducible first | exact HI149.out | apply IsS84.alloc | apply IsS84.drewN | apply IsS84.drew | apply IsS84.set_0 | apply IsS84.set_1) | exact HI149.out)) hb); have n1_ := Aside0.mk (below_step (by repeat (first | (with_reducible first | exact HB.out | apply below_alloc | apply pw_below_drewN | apply below_drew1 | refine below_set ?_ (IsS84.ge HI149.out)) | exact HB.out)) hb); clear HI149; clear HB; have HI149 := n0_; have HB := n1_; clear n0_ n1_; (try clear hb); (try clear hb2); (try clear hk); (try clear hi)))
        go_ret
        exact ⟨by first | rfl | (simp [errW_none, errW_some] <;> rfl) | (simp [*, errW_none, errW_some] <;> rfl), by repeat (first | (with_reducible first | exact HB.out | apply below_alloc | apply pw_below_drewN | apply below_drew1 | refine below_set ?_ (IsS84.ge HI149.out)) | exact HB.out)⟩
      · rw [if_neg c8] at H
        have c8b0 : (t156.toList == ([2, 44, 1] : List UInt8)) = false := beq_eq_false_iff_ne.mpr c8
        have c8b1 : (t156.toList != ([2, 44, 1] : List UInt8)) = true := bne_iff_ne.mpr c8
        obtain rfl := Option.some.inj H
        go_enter Try.func21, Try.ntmps21
        go_wp2_with (first | ((with_reducible refine gate_callee (f := 17) rfl ?_); refine goesL_ (some 3) rfl rfl Try.func17 (by kernel_rfl) rfl #[.int .u64 300] rfl (by (try simp only [List.map_toArray, List.map_cons, List.map_nil]); first | done | rfl | (simp only [List.length_drop, List.length_take]; rfl)) ?_; (with_reducible refine (code_Num.calls k 300 t146 _ A1.out).mono ?_); rintro e w16 ⟨rfl, hb⟩; refine ⟨_, rfl, ?_⟩; have n0_ := Aside0.mk (below_step (by repeat (first | (with_reducible first | exact HB.out | apply below_alloc | apply pw_below_drewN | apply below_drew1) | exact HB.out)) hb); clear HB; have HB := n0_; clear n0_; (try clear hb); (try clear hb2); (try clear hk); (try clear hi)) | ((with_reducible refine gate_callee (f := 18) rfl ?_); refine goesL_ (some 4) rfl rfl Try.func18 (by kernel_rfl) rfl #[.string t146] rfl (by (try simp only [List.map_toArray, List.map_cons, List.map_nil]); first | done | rfl | (simp only [List.length_drop, List.length_take]; rfl)) ?_; (with_reducible refine (code_New.calls t146 t147 t148 w _ ?side1 A2.out).mono ?_); (case side1 => repeat (first | (with_reducible first | exact HB.out | apply below_alloc | apply pw_below_drewN | apply below_drew1) | exact HB.out)); rintro e w17 ⟨g149, rfl, hi, hb, hb2⟩; refine ⟨_, rfl, ?_⟩; have n0_ := Aside0.mk (hb); have n1_ := Aside0.mk (hi); clear HB; have HB := n0_; have HI149 := n1_; clear n0_ n1_; (try clear hb); (try clear hb2); (try clear hk); (try clear hi)) | ((with_reducible refine gate_callee (f := 20) rfl ?_); refine goesL_ (some 6) rfl rfl Try.func20 (by kernel_rfl) rfl #[.pointer (some ⟨g149, 0, none⟩), .int .u64 1000] rfl (by (try simp only [List.map_toArray, List.map_cons, List.map_nil]); first | done | rfl | (simp only [List.length_drop, List.length_take]; rfl)) ?_; (with_reducible refine (code_Reader_Num.calls k g149 t147 t148 1000 t150 t151 t152 w _ ?side1 ?side2 A3.out).mono ?_); (case side1 => repeat (first | (with_reducible first | exact HI149.out | apply IsS84.alloc | apply IsS84.drewN | apply IsS84.drew | apply IsS84.set_0 | apply IsS84.set_1) | exact HI149.out)); (case side2 => repeat (first | (with_reducible first | exact HB.out | apply below_alloc | apply pw_below_drewN | apply below_drew1 | refine below_set ?_ (IsS84.ge HI149.out)) | exact HB.out)); rintro e w18 ⟨rfl, hi, hb, hk⟩; refine ⟨_, rfl, ?_⟩; have n0_ := Aside0.mk (hb); have n1_ := Aside0.mk (hi); clear HB; clear HI149; have HB := n0_; have HI149 := n1_; clear n0_ n1_; (try clear hb); (try clear hb2); (try clear hk); (try clear hi)) | (go_at_call 23; (with_reducible refine (code_Reader_End.calls g149 t151 t152 t153 t154 t155 w _ ?side1 ?side2 A5.out).mono ?_); (case side1 => repeat (first | (with_reducible first | exact HI149.out | apply IsS84.alloc | apply IsS84.drewN | apply IsS84.drew | apply IsS84.set_0 | apply IsS84.set_1) | exact HI149.out)); (case side2 => repeat (first | (with_reducible first | exact HB.out | apply below_alloc | apply pw_below_drewN | apply below_drew1 | refine below_set ?_ (IsS84.ge HI149.out)) | exact HB.out)); rintro e w19 ⟨rfl, hi, hb, hk⟩; have n0_ := Aside0.mk (hb); have n1_ := Aside0.mk (hi); clear HB; clear HI149; have HB := n0_; have HI149 := n1_; clear n0_ n1_; (try clear hb); (try clear hb2); (try clear hk); (try clear hi)) | (go_at_call 17; (with_reducible refine (code_Num.calls k 300 t156 _ A7.out).mono ?_); rintro e w20 ⟨rfl, hb⟩; have n0_ := Aside0.mk (IsS84.below (by repeat (first | (with_reducible first | exact HI149.out | apply IsS84.alloc | apply IsS84.drewN | apply IsS84.drew | apply IsS84.set_0 | apply IsS84.set_1) | exact HI149.out)) hb); have n1_ := Aside0.mk (below_step (by repeat (first | (with_reducible first | exact HB.out | apply below_alloc | apply pw_below_drewN | apply below_drew1 | refine below_set ?_ (IsS84.ge HI149.out)) | exact HB.out)) hb); clear HI149; clear HB; have HI149 := n0_; have HB := n1_; clear n0_ n1_; (try clear hb); (try clear hb2); (try clear hk); (try clear hi)))
        go_ret
        exact ⟨by first | rfl | (simp [errW_none, errW_some] <;> rfl) | (simp [*, errW_none, errW_some] <;> rfl), by repeat (first | (with_reducible first | exact HB.out | apply below_alloc | apply pw_below_drewN | apply below_drew1 | refine below_set ?_ (IsS84.ge HI149.out)) | exact HB.out)⟩
    · rw [if_neg c6] at H
      have c6b0 : (t153 == 0) = false := beq_eq_false_iff_ne.mpr c6
      have c6b1 : (t153 != 0) = true := bne_iff_ne.mpr c6
      obtain rfl := Option.some.inj H
      go_enter Try.func21, Try.ntmps21
      go_wp2_with (first | ((with_reducible refine gate_callee (f := 17) rfl ?_); refine goesL_ (some 3) rfl rfl Try.func17 (by kernel_rfl) rfl #[.int .u64 300] rfl (by (try simp only [List.map_toArray, List.map_cons, List.map_nil]); first | done | rfl | (simp only [List.length_drop, List.length_take]; rfl)) ?_; (with_reducible refine (code_Num.calls k 300 t146 _ A1.out).mono ?_); rintro e w21 ⟨rfl, hb⟩; refine ⟨_, rfl, ?_⟩; have n0_ := Aside0.mk (below_step (by repeat (first | (with_reducible first | exact HB.out | apply below_alloc | apply pw_below_drewN | apply below_drew1) | exact HB.out)) hb); clear HB; have HB := n0_; clear n0_; (try clear hb); (try clear hb2); (try clear hk); (try clear hi)) | ((with_reducible refine gate_callee (f := 18) rfl ?_); refine goesL_ (some 4) rfl rfl Try.func18 (by kernel_rfl) rfl #[.string t146] rfl (by (try simp only [List.map_toArray, List.map_cons, List.map_nil]); first | done | rfl | (simp only [List.length_drop, List.length_take]; rfl)) ?_; (with_reducible refine (code_New.calls t146 t147 t148 w _ ?side1 A2.out).mono ?_); (case side1 => repeat (first | (with_reducible first | exact HB.out | apply below_alloc | apply pw_below_drewN | apply below_drew1) | exact HB.out)); rintro e w22 ⟨g149, rfl, hi, hb, hb2⟩; refine ⟨_, rfl, ?_⟩; have n0_ := Aside0.mk (hb); have n1_ := Aside0.mk (hi); clear HB; have HB := n0_; have HI149 := n1_; clear n0_ n1_; (try clear hb); (try clear hb2); (try clear hk); (try clear hi)) | ((with_reducible refine gate_callee (f := 20) rfl ?_); refine goesL_ (some 6) rfl rfl Try.func20 (by kernel_rfl) rfl #[.pointer (some ⟨g149, 0, none⟩), .int .u64 1000] rfl (by (try simp only [List.map_toArray, List.map_cons, List.map_nil]); first | done | rfl | (simp only [List.length_drop, List.length_take]; rfl)) ?_; (with_reducible refine (code_Reader_Num.calls k g149 t147 t148 1000 t150 t151 t152 w _ ?side1 ?side2 A3.out).mono ?_); (case side1 => repeat (first | (with_reducible first | exact HI149.out | apply IsS84.alloc | apply IsS84.drewN | apply IsS84.drew | apply IsS84.set_0 | apply IsS84.set_1) | exact HI149.out)); (case side2 => repeat (first | (with_reducible first | exact HB.out | apply below_alloc | apply pw_below_drewN | apply below_drew1 | refine below_set ?_ (IsS84.ge HI149.out)) | exact HB.out)); rintro e w23 ⟨rfl, hi, hb, hk⟩; refine ⟨_, rfl, ?_⟩; have n0_ := Aside0.mk (hb); have n1_ := Aside0.mk (hi); clear HB; clear HI149; have HB := n0_; have HI149 := n1_; clear n0_ n1_; (try clear hb); (try clear hb2); (try clear hk); (try clear hi)) | (go_at_call 23; (with_reducible refine (code_Reader_End.calls g149 t151 t152 t153 t154 t155 w _ ?side1 ?side2 A5.out).mono ?_); (case side1 => repeat (first | (with_reducible first | exact HI149.out | apply IsS84.alloc | apply IsS84.drewN | apply IsS84.drew | apply IsS84.set_0 | apply IsS84.set_1) | exact HI149.out)); (case side2 => repeat (first | (with_reducible first | exact HB.out | apply below_alloc | apply pw_below_drewN | apply below_drew1 | refine below_set ?_ (IsS84.ge HI149.out)) | exact HB.out)); rintro e w24 ⟨rfl, hi, hb, hk⟩; have n0_ := Aside0.mk (hb); have n1_ := Aside0.mk (hi); clear HB; clear HI149; have HB := n0_; have HI149 := n1_; clear n0_ n1_; (try clear hb); (try clear hb2); (try clear hk); (try clear hi)))
      go_ret
      exact ⟨by first | rfl | (simp [errW_none, errW_some] <;> rfl) | (simp [*, errW_none, errW_some] <;> rfl), by repeat (first | (with_reducible first | exact HB.out | apply below_alloc | apply pw_below_drewN | apply below_drew1 | refine below_set ?_ (IsS84.ge HI149.out)) | exact HB.out)⟩
  · rw [if_neg c4] at H
    have c4b0 : (t150 == 300) = false := beq_eq_false_iff_ne.mpr c4
    have c4b1 : (t150 != 300) = true := bne_iff_ne.mpr c4
    obtain rfl := Option.some.inj H
    go_enter Try.func21, Try.ntmps21
    go_wp2_with (first | ((with_reducible refine gate_callee (f := 17) rfl ?_); refine goesL_ (some 3) rfl rfl Try.func17 (by kernel_rfl) rfl #[.int .u64 300] rfl (by (try simp only [List.map_toArray, List.map_cons, List.map_nil]); first | done | rfl | (simp only [List.length_drop, List.length_take]; rfl)) ?_; (with_reducible refine (code_Num.calls k 300 t146 _ A1.out).mono ?_); rintro e w25 ⟨rfl, hb⟩; refine ⟨_, rfl, ?_⟩; have n0_ := Aside0.mk (below_step (by repeat (first | (with_reducible first | exact HB.out | apply below_alloc | apply pw_below_drewN | apply below_drew1) | exact HB.out)) hb); clear HB; have HB := n0_; clear n0_; (try clear hb); (try clear hb2); (try clear hk); (try clear hi)) | ((with_reducible refine gate_callee (f := 18) rfl ?_); refine goesL_ (some 4) rfl rfl Try.func18 (by kernel_rfl) rfl #[.string t146] rfl (by (try simp only [List.map_toArray, List.map_cons, List.map_nil]); first | done | rfl | (simp only [List.length_drop, List.length_take]; rfl)) ?_; (with_reducible refine (code_New.calls t146 t147 t148 w _ ?side1 A2.out).mono ?_); (case side1 => repeat (first | (with_reducible first | exact HB.out | apply below_alloc | apply pw_below_drewN | apply below_drew1) | exact HB.out)); rintro e w26 ⟨g149, rfl, hi, hb, hb2⟩; refine ⟨_, rfl, ?_⟩; have n0_ := Aside0.mk (hb); have n1_ := Aside0.mk (hi); clear HB; have HB := n0_; have HI149 := n1_; clear n0_ n1_; (try clear hb); (try clear hb2); (try clear hk); (try clear hi)) | ((with_reducible refine gate_callee (f := 20) rfl ?_); refine goesL_ (some 6) rfl rfl Try.func20 (by kernel_rfl) rfl #[.pointer (some ⟨g149, 0, none⟩), .int .u64 1000] rfl (by (try simp only [List.map_toArray, List.map_cons, List.map_nil]); first | done | rfl | (simp only [List.length_drop, List.length_take]; rfl)) ?_; (with_reducible refine (code_Reader_Num.calls k g149 t147 t148 1000 t150 t151 t152 w _ ?side1 ?side2 A3.out).mono ?_); (case side1 => repeat (first | (with_reducible first | exact HI149.out | apply IsS84.alloc | apply IsS84.drewN | apply IsS84.drew | apply IsS84.set_0 | apply IsS84.set_1) | exact HI149.out)); (case side2 => repeat (first | (with_reducible first | exact HB.out | apply below_alloc | apply pw_below_drewN | apply below_drew1 | refine below_set ?_ (IsS84.ge HI149.out)) | exact HB.out)); rintro e w27 ⟨rfl, hi, hb, hk⟩; refine ⟨_, rfl, ?_⟩; have n0_ := Aside0.mk (hb); have n1_ := Aside0.mk (hi); clear HB; clear HI149; have HB := n0_; have HI149 := n1_; clear n0_ n1_; (try clear hb); (try clear hb2); (try clear hk); (try clear hi)))
    go_ret
    exact ⟨by first | rfl | (simp [errW_none, errW_some] <;> rfl) | (simp [*, errW_none, errW_some] <;> rfl), by repeat (first | (with_reducible first | exact HB.out | apply below_alloc | apply pw_below_drewN | apply below_drew1 | refine below_set ?_ (IsS84.ge HI149.out)) | exact HB.out)⟩

/-! ### tinderboxref04_Num: function 57 -/
def tinderboxref04_Num.l0 : Nat → Int → List Int → Option (ByteArray)
  | 0, _, _ => none
  | k + 1, x0, x3 => if x0 > 0 then (if x3.length < 140737488355328 then (tinderboxref04_Num.l0 k (IntKind.u64.wrap (Int.tdiv x0 256)) (x3 ++ [(Int.tmod x0 256) % 256])) else (none)) else ((some (([((x3.length : Int)) % 256] : List Int) : List Int)).bind fun y164 => (if (strOfNums y164).size + (strOfNums x3).size ≤ 9223372036854775807 then (some ((strOfNums y164) ++ (strOfNums x3))) else (none)))
def tinderboxref04_Num.f (k : Nat) (a0 : Int) : Option (ByteArray) := tinderboxref04_Num.l0 k a0 (([] : List Int))
theorem tinderboxref04_Num.mono_l : ∀ k, (∀ y0 y1, LeO (tinderboxref04_Num.l0 k y0 y1) (tinderboxref04_Num.l0 (k + 1) y0 y1))
  | 0 => fun _ _ r h => by simp [tinderboxref04_Num.l0] at h
  | k + 1 => by
    have ih0 := tinderboxref04_Num.mono_l k
    · intro y0 y1
      unfold tinderboxref04_Num.l0
      repeat' first
      | (with_reducible exact ih0 _ _)
      | (with_reducible exact LeO.refl _)
      | (with_reducible exact LeO.none _)
      | (with_reducible refine LeO.ite ?_ ?_)
      | (with_reducible refine LeO.bind ?_ (fun _ => ?_))
      | exact ih0 _ _
      | exact LeO.none _
      | refine LeO.ite ?_ ?_
      | refine LeO.bind ?_ (fun _ => ?_)
theorem tinderboxref04_Num.mono : ∀ a0 k, LeO (tinderboxref04_Num.f k a0) (tinderboxref04_Num.f (k + 1) a0) := by
  intro a0 k
  have ih0 := tinderboxref04_Num.mono_l k
  unfold tinderboxref04_Num.f
  repeat' first
      | (with_reducible exact ih0 _ _)
      | (with_reducible exact LeO.refl _)
      | (with_reducible exact LeO.none _)
      | (with_reducible refine LeO.ite ?_ ?_)
      | (with_reducible refine LeO.bind ?_ (fun _ => ?_))
      | exact ih0 _ _
      | exact LeO.none _
      | refine LeO.ite ?_ ?_
      | refine LeO.bind ?_ (fun _ => ?_)
set_option maxHeartbeats 8000000 in
set_option maxRecDepth 100000 in
theorem tinderboxref04_Num.calls (k : Nat) (a0 : Int) (r : ByteArray) (w : World) (h : tinderboxref04_Num.f k a0 = some r) :
    Calls Try.prog 57 #[.int .u64 a0] w fun e w' => e = .returned (.string r) ∧ Below w.heap.size w w' := by
  have HB := Aside0.mk (Below.refl w.heap.size w)
  have H : (tinderboxref04_Num.l0 k a0 (([] : List Int))) = some r := h
  clear h
  obtain ⟨y158, hy158⟩ : ∃ y_ : List Int, y_ = (([] : List Int)) := ⟨_, rfl⟩
  replace H : (tinderboxref04_Num.l0 k a0 y158) = some r := by first | (rw [hy158]; with_reducible exact H) | (have H2_ := (Option.bind_some _ _).symm.trans H; rw [hy158]; with_reducible exact H2_) | (have H2_ := (Option.bind_some _ _).symm.trans H; with_reducible exact H2_) | with_reducible exact H | (rw [hy158]; exact H) | exact H
  have Ny158 := Aside0.mk hy158
  clear hy158
  have H' := Aside0.mk H
  clear H
  go_enter Try.func57, Try.ntmps57
  go_wp2_with (first | ((with_reducible refine gate_dst (N := 4) rfl ?_); refine Kd.R_lit (Kd.int .u8) _ 5 ?hg (N := 4) ?hd (xs := ([] : List Int)) (inner := []) (ok := fun _ => True) (okp := fun _ => True) ?hr ?hp (fun _ hk => hk) trivial (Below.refl _ _) (Nat.le_refl _) (by simp) ?_; (case hd => rfl); (case hg => rfl); (case hr => first | (go_simp; done) | (go_simp; rfl)); (case hp => exact (Reps.none _ _)); intro v159 w2 ho3 hb hg_ hnew_; clear hg_ hnew_; (first | rw [← Ny158.out] at ho3 | (simp only [Int.reduceToNat] at ho3; rw [← Ny158.out] at ho3)); have n0_ := Aside0.mk (Kd.R_lower ho3 (below_size (by repeat (first | (with_reducible first | exact HB.out | apply below_alloc | apply pw_below_drewN | apply below_drew1) | exact HB.out)))); have n1_ := Aside0.mk (below_step (by repeat (first | (with_reducible first | exact HB.out | apply below_alloc | apply pw_below_drewN | apply below_drew1) | exact HB.out)) hb); clear HB; have HO160 := n0_; have HB := n1_; clear n0_ n1_; clear hb ho3))
  go_loopg [0, 3] k (fun kq v0 v3 w' => ∃ (x0_1 : Int) (x3_1 : List Int), v0 = .int .u64 x0_1 ∧ Aside0 (tinderboxref04_Num.l0 kq x0_1 x3_1 = some r) ∧ Aside0 (kq ≤ k) ∧ Aside0 (Kd.R (Kd.int .u8) 5 w' w.heap.size (fun _ => True) v3 x3_1) ∧ Aside0 (Below w.heap.size w w'))
  case atStart => exact ⟨(a0), (y158), (by first | rfl | (simp; done) | (simp [*]; done)), H', ⟨Nat.le_refl _⟩, ⟨by (with_reducible repeat (first | apply Kd.R_alloc | apply Kd.R_drewN | apply Kd.R_drew)); exact HO160.out⟩, ⟨by repeat (first | (with_reducible first | exact HB.out | apply below_alloc | apply pw_below_drewN | apply below_drew1) | exact HB.out)⟩⟩
  case round =>
    clear H'
    try clear p2
    obtain ⟨x0_1, x3_1, rfl, HA, HK1, HO_3, HB⟩ := hrel
    cases gk with
    | zero => exact absurd HA.out (by simp [tinderboxref04_Num.l0])
    | succ k1 =>
      have H := HA.out
      clear HA
      simp only [tinderboxref04_Num.l0] at H
      by_cases c4 : x0_1 > 0
      · rw [if_pos c4] at H
        have c4b0 : decide (0 < x0_1) = true := decide_eq_true c4
        clear c4
        by_cases c5 : x3_1.length < 140737488355328
        · rw [if_pos c5] at H
          have LMc5 := Aside0.mk c5
          clear c5
          obtain ⟨y161, hy161⟩ : ∃ y_ : List Int, y_ = (x3_1 ++ [(Int.tmod x0_1 256) % 256]) := ⟨_, rfl⟩
          replace H : (tinderboxref04_Num.l0 k1 (IntKind.u64.wrap (Int.tdiv x0_1 256)) y161) = some r := by first | (rw [hy161]; with_reducible exact H) | (have H2_ := (Option.bind_some _ _).symm.trans H; rw [hy161]; with_reducible exact H2_) | (have H2_ := (Option.bind_some _ _).symm.trans H; with_reducible exact H2_) | with_reducible exact H | (rw [hy161]; exact H) | exact H
          have Ny161 := Aside0.mk hy161
          clear hy161
          have H' := Aside0.mk H
          clear H
          go_wp2_with (first | ((with_reducible refine gate_builtin (b := .append) (xs := #[.tmp 7, .tmp 11]) rfl ?_); at_builtin; refine Kd.R_append (Kd.int .u8) (w0 := w) w.heap.size rfl (.tmp 7) (.tmp 11) 81 5 (.int .u8 0) 1 rfl Try.underlying81 info5 rfl (by decide) (by omega) u3 x3_1 ((Int.tmod x0_1 256) % 256) [.int .u8 ((Int.tmod x0_1 256) % 256)] (fun _ => True) (fun _ => False) rfl rfl ?aP (fun _ hk => hk.elim) ?aF ?aO ?aB ?aS ?aL ?_; (case aP => exact rfl); (case aB => exact (by repeat (first | (with_reducible first | exact HB.out | apply below_alloc | apply pw_below_drewN | apply below_drew1) | exact HB.out))); (case aF => exact (fun _ _ => trivial)); (case aO => exact (by (with_reducible repeat (first | apply Kd.R_alloc | apply Kd.R_drewN | apply Kd.R_drew)); exact HO_3.out)); (case aS => exact (below_size (by repeat (first | (with_reducible first | exact HB.out | apply below_alloc | apply pw_below_drewN | apply below_drew1) | exact HB.out)))); (case aL => have := LMc5.out; omega); intro v162 w6 ho hb hg hat; rw [← Ny161.out] at ho; have n0_ := Aside0.mk (hb); have n1_ := Aside0.mk (ho); clear HB; clear HO_3; have HB := n0_; have HO163 := n1_; clear n0_ n1_; clear ho hb hg hat))
          go_roundg k1
          case measure => have := HK1.out; omega
          case rel => exact ⟨(IntKind.u64.wrap (Int.tdiv x0_1 256)), (y161), (by first | rfl | (simp; done) | (simp [*]; done)), H', ⟨by have := HK1.out; omega⟩, ⟨by (with_reducible repeat (first | apply Kd.R_alloc | apply Kd.R_drewN | apply Kd.R_drew)); exact HO163.out⟩, ⟨by repeat (first | (with_reducible first | exact HB.out | apply below_alloc | apply pw_below_drewN | apply below_drew1) | exact HB.out)⟩⟩
        · rw [if_neg c5] at H
          exact absurd H (by simp)
      · rw [if_neg c4] at H
        have c4b0 : decide (0 < x0_1) = false := decide_eq_false c4
        clear c4
        obtain ⟨y164, hy164⟩ : ∃ y_ : List Int, y_ = (([((x3_1.length : Int)) % 256] : List Int)) := ⟨_, rfl⟩
        replace H : (if (strOfNums y164).size + (strOfNums x3_1).size ≤ 9223372036854775807 then (some ((strOfNums y164) ++ (strOfNums x3_1))) else (none)) = some r := by first | (rw [hy164]; with_reducible exact H) | (have H2_ := (Option.bind_some _ _).symm.trans H; rw [hy164]; with_reducible exact H2_) | (have H2_ := (Option.bind_some _ _).symm.trans H; with_reducible exact H2_) | with_reducible exact H | (rw [hy164]; exact H) | exact H
        have Ny164 := Aside0.mk hy164
        clear hy164
        by_cases c7 : (strOfNums y164).size + (strOfNums x3_1).size ≤ 9223372036854775807
        · rw [if_pos c7] at H
          have c7b0 := eq_true c7
          have c7b1 : decide ((strOfNums y164).size + (strOfNums x3_1).size ≤ 9223372036854775807) = true := decide_eq_true c7
          try have c7b2 : (9223372036854775807 < (strOfNums y164).size + (strOfNums x3_1).size) = False := eq_false (Nat.not_lt.2 c7)
          obtain rfl := Option.some.inj H
          obtain ⟨Ao8, co8, eo8⟩ := Kd.R_slice HO_3.out
          subst eo8
          go_wp2_with (first | ((with_reducible refine gate_dst (N := 18) rfl ?_); refine Kd.R_lit (Kd.int .u8) _ 5 ?hg (N := 18) ?hd (xs := ([((x3_1.length : Int)) % 256] : List Int)) (inner := [.int .u8 (((x3_1.length : Int)) % 256)]) (ok := fun _ => True) (okp := fun _ => True) ?hr ?hp (fun _ hk => hk) trivial (Below.refl _ _) (Nat.le_refl _) (by simp) ?_; (case hd => rfl); (case hg => rfl); (case hr => first | (go_simp; done) | (go_simp; rfl)); (case hp => exact (Reps.one (show Kd.M (Kd.int .u8) _ _ _ (((x3_1.length : Int)) % 256) [.int .u8 (((x3_1.length : Int)) % 256)] from rfl) (Reps.none _ _))); intro v165 w9 ho10 hb hg_ hnew_; clear hg_ hnew_; (first | rw [← Ny164.out] at ho10 | (simp only [Int.reduceToNat] at ho10; rw [← Ny164.out] at ho10)); have n0_ := Aside0.mk (Kd.R_elder' (by (with_reducible repeat (first | apply Kd.R_alloc | apply Kd.R_drewN | apply Kd.R_drew)); exact HO_3.out) (Kd.R_base ho10) hb); have n1_ := Aside0.mk (Kd.R_lower (Kd.R_new' ho10 (Kd.R_lt (by (with_reducible repeat (first | apply Kd.R_alloc | apply Kd.R_drewN | apply Kd.R_drew)); exact HO_3.out))) (below_size (by repeat (first | (with_reducible first | exact HB.out | apply below_alloc | apply pw_below_drewN | apply below_drew1) | exact HB.out)))); have n2_ := Aside0.mk (below_step (by repeat (first | (with_reducible first | exact HB.out | apply below_alloc | apply pw_below_drewN | apply below_drew1) | exact HB.out)) hb); clear HO_3; clear HB; have HO_3 := n0_; have HO166 := n1_; have HB := n2_; clear n0_ n1_ n2_; clear hb ho10; have hcv11 := own_string (P := Try.prog) Try.underlying81 Try.underlying5 Try.underlying9 (Kd.own_of_R HO166.out); have hcv12 := own_string (P := Try.prog) Try.underlying81 Try.underlying5 Try.underlying9 (Kd.own_of_R HO_3.out)))
          go_ret
          exact ⟨by first | rfl | (simp [errW_none, errW_some] <;> rfl) | (simp [*, errW_none, errW_some] <;> rfl), by repeat (first | (with_reducible first | exact HB.out | apply below_alloc | apply pw_below_drewN | apply below_drew1) | exact HB.out)⟩
        · rw [if_neg c7] at H
          exact absurd H (by simp)

/-! ### tinderboxref04_Text: function 22 -/
def tinderboxref04_Text.f (k : Nat) (a0 : ByteArray) : Option (ByteArray) := (tinderboxref04_Num.f k (IntKind.u64.wrap ((a0.size : Int)))).bind fun t167 => (if t167.size + a0.size ≤ 9223372036854775807 then (some (t167 ++ a0)) else (none))
theorem tinderboxref04_Text.mono : ∀ a0 k, LeO (tinderboxref04_Text.f k a0) (tinderboxref04_Text.f (k + 1) a0) := by
  intro a0 k
  unfold tinderboxref04_Text.f
  repeat' first
      | (with_reducible exact tinderboxref04_Num.mono _ _)
      | (with_reducible exact LeO.refl _)
      | (with_reducible exact LeO.none _)
      | (with_reducible refine LeO.ite ?_ ?_)
      | (with_reducible refine LeO.bind ?_ (fun _ => ?_))
      | exact tinderboxref04_Num.mono _ _
      | exact LeO.none _
      | refine LeO.ite ?_ ?_
      | refine LeO.bind ?_ (fun _ => ?_)
set_option maxHeartbeats 8000000 in
set_option maxRecDepth 100000 in
theorem tinderboxref04_Text.calls (k : Nat) (a0 : ByteArray) (r : ByteArray) (w : World) (h : tinderboxref04_Text.f k a0 = some r) :
    Calls Try.prog 22 #[.string a0] w fun e w' => e = .returned (.string r) ∧ Below w.heap.size w w' := by
  have HB := Aside0.mk (Below.refl w.heap.size w)
  have H : ((tinderboxref04_Num.f k (IntKind.u64.wrap ((a0.size : Int)))).bind fun t167 => (if t167.size + a0.size ≤ 9223372036854775807 then (some (t167 ++ a0)) else (none))) = some r := h
  clear h
  replace H := Option.bind_eq_some_iff.mp H
  obtain ⟨t167, A20, H⟩ := H
  replace H : (if t167.size + a0.size ≤ 9223372036854775807 then (some (t167 ++ a0)) else (none)) = some r := H
  have A2 := Aside0.mk A20
  clear A20
  by_cases c3 : t167.size + a0.size ≤ 9223372036854775807
  · rw [if_pos c3] at H
    have c3b0 := eq_true c3
    have c3b1 : decide (t167.size + a0.size ≤ 9223372036854775807) = true := decide_eq_true c3
    try have c3b2 : (9223372036854775807 < t167.size + a0.size) = False := eq_false (Nat.not_lt.2 c3)
    have ew_ : IntKind.u64.wrap ((a0.size : Int)) = (a0.size : Int) := by simp [IntKind.wrap, IntKind.bits, IntKind.signed]; omega
    have A2_ := A2.out
    rw [ew_] at A2_
    clear A2
    have A2 := Aside0.mk A2_
    clear A2_ ew_
    obtain rfl := Option.some.inj H
    go_enter Try.func22, Try.ntmps22
    go_wp2_with (first | ((with_reducible refine gate_callee (f := 57) rfl ?_); refine goesL_ (some 6) rfl rfl Try.func57 (by kernel_rfl) rfl #[.int .u64 ((a0.size : Int))] rfl (by (try simp only [List.map_toArray, List.map_cons, List.map_nil]); first | done | rfl | (simp only [List.length_drop, List.length_take]; rfl)) ?_; (with_reducible refine (tinderboxref04_Num.calls k ((a0.size : Int)) t167 _ A2.out).mono ?_); rintro e w4 ⟨rfl, hb⟩; refine ⟨_, rfl, ?_⟩; have n0_ := Aside0.mk (below_step (by repeat (first | (with_reducible first | exact HB.out | apply below_alloc | apply pw_below_drewN | apply below_drew1) | exact HB.out)) hb); clear HB; have HB := n0_; clear n0_; (try clear hb); (try clear hb2); (try clear hk); (try clear hi)))
    go_ret
    exact ⟨by first | rfl | (simp [errW_none, errW_some] <;> rfl) | (simp [*, errW_none, errW_some] <;> rfl), by repeat (first | (with_reducible first | exact HB.out | apply below_alloc | apply pw_below_drewN | apply below_drew1) | exact HB.out)⟩
  · rw [if_neg c3] at H
    exact absurd H (by simp)

/-! ### tinderboxlaw04_CodeTexts: function 3 -/
theorem keep84 {w W W' : World} {g g' : Nat} {f0 : ByteArray} {f1 : Int} (h : IsS84 w W g f0 f1) (hk : KeepBut W W' g' none) (hne : g ≠ g') : IsS84 w W' g f0 f1 := ⟨hk.blk h.1 hne (by simp), h.2⟩
theorem new84 {w W W' : World} {g g' : Nat} {f0 s0 : ByteArray} {f1 s1 : Int} (h : IsS84 w W g f0 f1) (k : IsS84 W W' g' s0 s1) : g ≠ g' := by
  have h1 := h.lt
  have h2 := k.ge
  omega
theorem weak84 {w W W' : World} {g : Nat} {f0 : ByteArray} {f1 : Int} (h : Below w.heap.size w W) (k : IsS84 W W' g f0 f1) : IsS84 w W' g f0 f1 := ⟨k.1, Nat.le_trans h.size k.2⟩
/-- What is left to show: what each call of the law answers. -/
def tinderboxlaw04_CodeTexts.Pure : Prop := ∀ (a0 a1 : ByteArray) (a2 : Int), a0.size ≤ 140737488351232 → a1.size ≤ 140737488351232 → (Lit.int .u64 a2).wf = true → ∃ k x y tx tn ty s0 s1 p q0 q1 m0 m1 q n0 n1 rx e0 e1 z u0 u1 z0 z1 v v0 v1,
  tinderboxlaw04_few.f a0 = some x ∧ tinderboxlaw04_few.f a1 = some y ∧ (x.size ≤ 300 ∧ (tx ++ tn ++ ty).size ≤ 9223372036854775807) ∧ code_Text.f k x = some tx ∧ code_Num.f k a2 = some tn ∧ code_Text.f k y = some ty ∧
  code_New.f (tx ++ tn ++ ty) = some (s0, s1) ∧ code_Reader_Text.f k s0 s1 300 = some (p, q0, q1) ∧ code_Reader_Num.f k q0 q1 18446744073709551615 = some (a2, m0, m1) ∧ code_Reader_Text.f k m0 m1 300 = some (q, n0, n1) ∧
  code_New.f tx = some (u0, u1) ∧ code_Reader_Text.f k u0 u1 ((x.size : Int) - 1) = some (z, z0, z1) ∧ tinderboxlaw04_awake.f k = some true ∧ tinderboxref04_Text.f k x = some rx ∧ tx.toList = rx.toList ∧ p.toList = x.toList ∧ q.toList = y.toList ∧
  code_Reader_End.f n0 n1 = some (0, e0, e1) ∧ code_Reader_End.f z0 z1 = some (v, v0, v1) ∧ ((x.size = 0 ∧ z.toList = [] ∧ v = 0) ∨ (0 < x.size ∧ v = 5))
set_option maxHeartbeats 8000000 in
set_option maxRecDepth 100000 in
theorem tinderboxlaw04_CodeTexts.walk (P : tinderboxlaw04_CodeTexts.Pure) (a0 a1 : ByteArray) (a2 : Int) (w : World) (w0 : a0.size ≤ 140737488351232) (w1 : a1.size ≤ 140737488351232) (w2 : (Lit.int .u64 a2).wf = true) :
    Calls Try.prog 3 #[.string a0, .string a1, .int .u64 a2] w fun e w' => e = .returned (.bool true) ∧ Below w.heap.size w w' := by
  obtain ⟨k, x, y, tx, tn, ty, s0, s1, p, q0, q1, m0, m1, q, n0, n1, rx, e0, e1, z, u0, u1, z0, z1, v, v0, v1, h1, h2, h3, h4, h5, h6, h7, h8, h9, h10, h11, h12, h13, h14, h15, h16, h17, h18, h19, h20⟩ := P a0 a1 a2 w0 w1 w2
  have HB := Aside0.mk (Below.refl w.heap.size w)
  have H1 := Aside0.mk h1
  have H2 := Aside0.mk h2
  have H4 := Aside0.mk h4
  have H5 := Aside0.mk h5
  have H6 := Aside0.mk h6
  have H7 := Aside0.mk h7
  have H8 := Aside0.mk h8
  have H9 := Aside0.mk h9
  have H10 := Aside0.mk h10
  have H11 := Aside0.mk h11
  have H12 := Aside0.mk h12
  have H13 := Aside0.mk h13
  have H14 := Aside0.mk h14
  have H19 := Aside0.mk h18
  have H20 := Aside0.mk h19
  have hsz := h3.2
  have hs1 := hsz
  simp only [ByteArray.size_append] at hsz
  have e1b : (tx.toList == rx.toList) = true := beq_iff_eq.mpr h15
  have e2b : (p.toList == x.toList) = true := beq_iff_eq.mpr h16
  have e3b : (q.toList == y.toList) = true := beq_iff_eq.mpr h17
  clear h1 h2 h4 h5 h6 h7 h8 h9 h10 h11 h12 h13 h14 h18 h19
  go_enter Try.func3, Try.ntmps3
  go_upto_region 3 with (first | (go_at_call 15; (with_reducible refine (tinderboxlaw04_few.calls a0 x _ H1.out).mono ?_); rintro e w' ⟨rfl, ⟨nd, rfl⟩⟩) | (go_at_call 15; (with_reducible refine (tinderboxlaw04_few.calls a1 y _ H2.out).mono ?_); rintro e w' ⟨rfl, ⟨nd, rfl⟩⟩) | (go_at_call 16; (with_reducible refine (code_Text.calls k x tx _ H4.out).mono ?_); rintro e w' ⟨rfl, hb⟩; have n0_ := Aside0.mk (below_step (by (repeat (with_reducible first | apply below_alloc | apply pw_below_drewN | apply below_drew1)); exact HB.out) hb); clear HB; have HB := n0_; clear n0_; clear hb) | (go_at_call 17; (with_reducible refine (code_Num.calls k a2 tn _ H5.out).mono ?_); rintro e w' ⟨rfl, hb⟩; have n0_ := Aside0.mk (below_step (by (repeat (with_reducible first | apply below_alloc | apply pw_below_drewN | apply below_drew1)); exact HB.out) hb); clear HB; have HB := n0_; clear n0_; clear hb) | (go_at_call 16; (with_reducible refine (code_Text.calls k y ty _ H6.out).mono ?_); rintro e w' ⟨rfl, hb⟩; have n0_ := Aside0.mk (below_step (by (repeat (with_reducible first | apply below_alloc | apply pw_below_drewN | apply below_drew1)); exact HB.out) hb); clear HB; have HB := n0_; clear n0_; clear hb))
  go_upto_region 4 with (go_at_call 18; (with_reducible refine (code_New.calls (tx ++ tn ++ ty) s0 s1 w _ ?side1 H7.out).mono ?_); (case side1 => exact (by (repeat (with_reducible first | apply below_alloc | apply pw_below_drewN | apply below_drew1)); exact HB.out)); rintro e w' ⟨g, rfl, hi, hb, hb2⟩; clear HB; have HB := Aside0.mk hb; have HI := Aside0.mk hi; clear hb hi hb2)
  go_upto_region 5 with (first | (go_at_call 19; (with_reducible refine (code_Reader_Text.calls k g s0 s1 300 p q0 q1 w _ ?side1 ?side2 H8.out).mono ?_); (case side1 => exact (by (repeat (with_reducible first | apply IsS84.alloc | apply IsS84.drewN | apply IsS84.drew)); exact HI.out)); (case side2 => exact (by (repeat (with_reducible first | apply below_alloc | apply pw_below_drewN | apply below_drew1)); exact HB.out)); rintro e w' ⟨rfl, hi, hb, hk⟩; have n0_ := Aside0.mk (hi); have n1_ := Aside0.mk (hb); clear HI HB; have HI := n0_; clear n0_; have HB := n1_; clear n1_; clear hi hb hk) | (go_at_call 20; (with_reducible refine (code_Reader_Num.calls k g q0 q1 18446744073709551615 a2 m0 m1 w _ ?side1 ?side2 H9.out).mono ?_); (case side1 => exact (by (repeat (with_reducible first | apply IsS84.alloc | apply IsS84.drewN | apply IsS84.drew)); exact HI.out)); (case side2 => exact (by (repeat (with_reducible first | apply below_alloc | apply pw_below_drewN | apply below_drew1)); exact HB.out)); rintro e w' ⟨rfl, hi, hb, hk⟩; have n0_ := Aside0.mk (hi); have n1_ := Aside0.mk (hb); clear HI HB; have HI := n0_; clear n0_; have HB := n1_; clear n1_; clear hi hb hk) | (go_at_call 19; (with_reducible refine (code_Reader_Text.calls k g m0 m1 300 q n0 n1 w _ ?side1 ?side2 H10.out).mono ?_); (case side1 => exact (by (repeat (with_reducible first | apply IsS84.alloc | apply IsS84.drewN | apply IsS84.drew)); exact HI.out)); (case side2 => exact (by (repeat (with_reducible first | apply below_alloc | apply pw_below_drewN | apply below_drew1)); exact HB.out)); rintro e w' ⟨rfl, hi, hb, hk⟩; have n0_ := Aside0.mk (hi); have n1_ := Aside0.mk (hb); clear HI HB; have HI := n0_; clear n0_; have HB := n1_; clear n1_; clear hi hb hk))
  go_upto_region 6 with (first | (go_at_call 16; (with_reducible refine (code_Text.calls k x tx _ H4.out).mono ?_); rintro e w' ⟨rfl, hb⟩; have n0_ := Aside0.mk (IsS84.below (by (repeat (with_reducible first | apply IsS84.alloc | apply IsS84.drewN | apply IsS84.drew)); exact HI.out) hb); have n1_ := Aside0.mk (below_step (by (repeat (with_reducible first | apply below_alloc | apply pw_below_drewN | apply below_drew1)); exact HB.out) hb); clear HI HB; have HI := n0_; clear n0_; have HB := n1_; clear n1_; clear hb) | (go_at_call 18; (with_reducible refine (code_New.calls tx u0 u1 _ _ (Below.refl _ _) H11.out).mono ?_); rintro e w' ⟨g2, rfl, hi, -, hb⟩; have HN := Aside0.mk (new84 (by (repeat (with_reducible first | apply IsS84.alloc | apply IsS84.drewN | apply IsS84.drew)); exact HI.out) hi); have n0_ := Aside0.mk (weak84 (by (repeat (with_reducible first | apply below_alloc | apply pw_below_drewN | apply below_drew1)); exact HB.out) hi); have m0_ := Aside0.mk (IsS84.below (by (repeat (with_reducible first | apply IsS84.alloc | apply IsS84.drewN | apply IsS84.drew)); exact HI.out) hb); have m1_ := Aside0.mk (below_step (by (repeat (with_reducible first | apply below_alloc | apply pw_below_drewN | apply below_drew1)); exact HB.out) hb); clear HI HB; have HI := m0_; clear m0_; have HB := m1_; clear m1_; have HJ := n0_; clear n0_ hi hb))
  go_upto_region 7 with (go_at_call 19; (with_reducible refine (code_Reader_Text.calls k g2 u0 u1 ((x.size : Int) - 1) z z0 z1 w _ ?side1 ?side2 H12.out).mono ?_); (case side1 => exact (by (repeat (with_reducible first | apply IsS84.alloc | apply IsS84.drewN | apply IsS84.drew)); exact HJ.out)); (case side2 => exact (by (repeat (with_reducible first | apply below_alloc | apply pw_below_drewN | apply below_drew1)); exact HB.out)); rintro e w' ⟨rfl, hi, hb, hk⟩; have n0_ := Aside0.mk (hi); have n1_ := Aside0.mk (hb); have n2_ := Aside0.mk (keep84 (by (repeat (with_reducible first | apply IsS84.alloc | apply IsS84.drewN | apply IsS84.drew)); exact HI.out) hk HN.out); clear HJ HB HI; have HJ := n0_; clear n0_; have HB := n1_; clear n1_; have HI := n2_; clear n2_; clear hi hb hk)
  rcases h20 with ⟨hx, hz, hv⟩ | ⟨hx, hv⟩
  · have e4b : (z.toList == ([] : List UInt8)) = true := beq_iff_eq.mpr hz
    have e5b : ((x.size : Int) == 0) = true := beq_iff_eq.mpr (by omega)
    have e7b : (v == 0) = true := beq_iff_eq.mpr hv
    go_wp2_with (first | (go_at_call 21; (with_reducible refine (tinderboxlaw04_awake.calls k true _ H13.out).mono ?_); rintro e w' ⟨rfl, hb⟩; have n0_ := Aside0.mk (IsS84.below (by (repeat (with_reducible first | apply IsS84.alloc | apply IsS84.drewN | apply IsS84.drew)); exact HI.out) hb); have n1_ := Aside0.mk (IsS84.below (by (repeat (with_reducible first | apply IsS84.alloc | apply IsS84.drewN | apply IsS84.drew)); exact HJ.out) hb); have n2_ := Aside0.mk (below_step (by (repeat (with_reducible first | apply below_alloc | apply pw_below_drewN | apply below_drew1)); exact HB.out) hb); clear HI HJ HB; have HI := n0_; clear n0_; have HJ := n1_; clear n1_; have HB := n2_; clear n2_; clear hb) | (go_at_call 16; (with_reducible refine (code_Text.calls k x tx _ H4.out).mono ?_); rintro e w' ⟨rfl, hb⟩; have n0_ := Aside0.mk (IsS84.below (by (repeat (with_reducible first | apply IsS84.alloc | apply IsS84.drewN | apply IsS84.drew)); exact HI.out) hb); have n1_ := Aside0.mk (IsS84.below (by (repeat (with_reducible first | apply IsS84.alloc | apply IsS84.drewN | apply IsS84.drew)); exact HJ.out) hb); have n2_ := Aside0.mk (below_step (by (repeat (with_reducible first | apply below_alloc | apply pw_below_drewN | apply below_drew1)); exact HB.out) hb); clear HI HJ HB; have HI := n0_; clear n0_; have HJ := n1_; clear n1_; have HB := n2_; clear n2_; clear hb) | (go_at_call 22; (with_reducible refine (tinderboxref04_Text.calls k x rx _ H14.out).mono ?_); rintro e w' ⟨rfl, hb⟩; have n0_ := Aside0.mk (IsS84.below (by (repeat (with_reducible first | apply IsS84.alloc | apply IsS84.drewN | apply IsS84.drew)); exact HI.out) hb); have n1_ := Aside0.mk (IsS84.below (by (repeat (with_reducible first | apply IsS84.alloc | apply IsS84.drewN | apply IsS84.drew)); exact HJ.out) hb); have n2_ := Aside0.mk (below_step (by (repeat (with_reducible first | apply below_alloc | apply pw_below_drewN | apply below_drew1)); exact HB.out) hb); clear HI HJ HB; have HI := n0_; clear n0_; have HJ := n1_; clear n1_; have HB := n2_; clear n2_; clear hb) | (go_at_call 23; (with_reducible refine (code_Reader_End.calls g n0 n1 0 e0 e1 w _ ?side1 ?side2 H19.out).mono ?_); (case side1 => exact (by (repeat (with_reducible first | apply IsS84.alloc | apply IsS84.drewN | apply IsS84.drew)); exact HI.out)); (case side2 => exact (by (repeat (with_reducible first | apply below_alloc | apply pw_below_drewN | apply below_drew1)); exact HB.out)); rintro e w' ⟨rfl, hi, hb, hk⟩; have n0_ := Aside0.mk (hi); have n1_ := Aside0.mk (hb); have n2_ := Aside0.mk (keep84 (by (repeat (with_reducible first | apply IsS84.alloc | apply IsS84.drewN | apply IsS84.drew)); exact HJ.out) hk (Ne.symm HN.out)); clear HI HB HJ; have HI := n0_; clear n0_; have HB := n1_; clear n1_; have HJ := n2_; clear n2_; clear hi hb hk) | (go_at_call 23; (with_reducible refine (code_Reader_End.calls g2 z0 z1 v v0 v1 w _ ?side1 ?side2 H20.out).mono ?_); (case side1 => exact (by (repeat (with_reducible first | apply IsS84.alloc | apply IsS84.drewN | apply IsS84.drew)); exact HJ.out)); (case side2 => exact (by (repeat (with_reducible first | apply below_alloc | apply pw_below_drewN | apply below_drew1)); exact HB.out)); rintro e w' ⟨rfl, hi, hb, hk⟩; have n0_ := Aside0.mk (hi); have n1_ := Aside0.mk (hb); have n2_ := Aside0.mk (keep84 (by (repeat (with_reducible first | apply IsS84.alloc | apply IsS84.drewN | apply IsS84.drew)); exact HI.out) hk HN.out); clear HJ HB HI; have HJ := n0_; clear n0_; have HB := n1_; clear n1_; have HI := n2_; clear n2_; clear hi hb hk))
    go_ret
    exact ⟨by first | rfl | (simp [*] <;> rfl), by (repeat (with_reducible first | apply below_alloc | apply pw_below_drewN | apply below_drew1)); exact HB.out⟩
  · have e5b : ((x.size : Int) == 0) = false := beq_eq_false_iff_ne.mpr (by omega)
    have e7b : (v == 5) = true := beq_iff_eq.mpr hv
    have e6b : decide ((x.size : Int) > 0) = true := decide_eq_true (by omega)
    go_wp2_with (first | (go_at_call 21; (with_reducible refine (tinderboxlaw04_awake.calls k true _ H13.out).mono ?_); rintro e w' ⟨rfl, hb⟩; have n0_ := Aside0.mk (IsS84.below (by (repeat (with_reducible first | apply IsS84.alloc | apply IsS84.drewN | apply IsS84.drew)); exact HI.out) hb); have n1_ := Aside0.mk (IsS84.below (by (repeat (with_reducible first | apply IsS84.alloc | apply IsS84.drewN | apply IsS84.drew)); exact HJ.out) hb); have n2_ := Aside0.mk (below_step (by (repeat (with_reducible first | apply below_alloc | apply pw_below_drewN | apply below_drew1)); exact HB.out) hb); clear HI HJ HB; have HI := n0_; clear n0_; have HJ := n1_; clear n1_; have HB := n2_; clear n2_; clear hb) | (go_at_call 16; (with_reducible refine (code_Text.calls k x tx _ H4.out).mono ?_); rintro e w' ⟨rfl, hb⟩; have n0_ := Aside0.mk (IsS84.below (by (repeat (with_reducible first | apply IsS84.alloc | apply IsS84.drewN | apply IsS84.drew)); exact HI.out) hb); have n1_ := Aside0.mk (IsS84.below (by (repeat (with_reducible first | apply IsS84.alloc | apply IsS84.drewN | apply IsS84.drew)); exact HJ.out) hb); have n2_ := Aside0.mk (below_step (by (repeat (with_reducible first | apply below_alloc | apply pw_below_drewN | apply below_drew1)); exact HB.out) hb); clear HI HJ HB; have HI := n0_; clear n0_; have HJ := n1_; clear n1_; have HB := n2_; clear n2_; clear hb) | (go_at_call 22; (with_reducible refine (tinderboxref04_Text.calls k x rx _ H14.out).mono ?_); rintro e w' ⟨rfl, hb⟩; have n0_ := Aside0.mk (IsS84.below (by (repeat (with_reducible first | apply IsS84.alloc | apply IsS84.drewN | apply IsS84.drew)); exact HI.out) hb); have n1_ := Aside0.mk (IsS84.below (by (repeat (with_reducible first | apply IsS84.alloc | apply IsS84.drewN | apply IsS84.drew)); exact HJ.out) hb); have n2_ := Aside0.mk (below_step (by (repeat (with_reducible first | apply below_alloc | apply pw_below_drewN | apply below_drew1)); exact HB.out) hb); clear HI HJ HB; have HI := n0_; clear n0_; have HJ := n1_; clear n1_; have HB := n2_; clear n2_; clear hb) | (go_at_call 23; (with_reducible refine (code_Reader_End.calls g n0 n1 0 e0 e1 w _ ?side1 ?side2 H19.out).mono ?_); (case side1 => exact (by (repeat (with_reducible first | apply IsS84.alloc | apply IsS84.drewN | apply IsS84.drew)); exact HI.out)); (case side2 => exact (by (repeat (with_reducible first | apply below_alloc | apply pw_below_drewN | apply below_drew1)); exact HB.out)); rintro e w' ⟨rfl, hi, hb, hk⟩; have n0_ := Aside0.mk (hi); have n1_ := Aside0.mk (hb); have n2_ := Aside0.mk (keep84 (by (repeat (with_reducible first | apply IsS84.alloc | apply IsS84.drewN | apply IsS84.drew)); exact HJ.out) hk (Ne.symm HN.out)); clear HI HB HJ; have HI := n0_; clear n0_; have HB := n1_; clear n1_; have HJ := n2_; clear n2_; clear hi hb hk) | (go_at_call 23; (with_reducible refine (code_Reader_End.calls g2 z0 z1 v v0 v1 w _ ?side1 ?side2 H20.out).mono ?_); (case side1 => exact (by (repeat (with_reducible first | apply IsS84.alloc | apply IsS84.drewN | apply IsS84.drew)); exact HJ.out)); (case side2 => exact (by (repeat (with_reducible first | apply below_alloc | apply pw_below_drewN | apply below_drew1)); exact HB.out)); rintro e w' ⟨rfl, hi, hb, hk⟩; have n0_ := Aside0.mk (hi); have n1_ := Aside0.mk (hb); have n2_ := Aside0.mk (keep84 (by (repeat (with_reducible first | apply IsS84.alloc | apply IsS84.drewN | apply IsS84.drew)); exact HI.out) hk HN.out); clear HJ HB HI; have HJ := n0_; clear n0_; have HB := n1_; clear n1_; have HI := n2_; clear n2_; clear hi hb hk))
    go_ret
    exact ⟨by first | rfl | (simp [*] <;> rfl), by (repeat (with_reducible first | apply below_alloc | apply pw_below_drewN | apply below_drew1)); exact HB.out⟩

end Go.Proofs.Ytoiahmdibibceaa.XCodeTexts
