-- Written by xprint.py of this repo (the kit's print with turns of our own) out of the translation.
import Derived.Test.YtpidfledopnhpaaXCrcBitsx0
namespace Go.Proofs.Ytpidfledopnhpaa.XCrcBits
open Go.RowKit Go.Proofs.YtpidfledopnhpaaW.PrintWords Go.Proofs.YtpidfledopnhpaaW.PrintLast Go.Proofs.YtpidfledopnhpaaW.PrintMore
attribute [local go_sem] max2_int min2_int max_two min_two max_three min_three max_four min_four   -- for this text's walks alone
set_option linter.unusedVariables false
set_option linter.unusedSimpArgs false

/-! ### crc_More: function 19 -/
mutual
def crc_More.l0 : Nat → ByteArray → Int → Int → Int → Option (Int)
  | 0, _, _, _, _ => none
  | k + 1, x1, x5, x10, x11 => if x11 < x10 then (if 0 ≤ x11 then (if x11 < (x1.size : Int) then (crc_More.l1 k x1 (Go.bits .xor .u32 x5 ((bt x1 x11) % 4294967296)) x10 x11 0) else (none)) else (none)) else (some (Go.bits .xor .u32 x5 4294967295))
def crc_More.l1 : Nat → ByteArray → Int → Int → Int → Int → Option (Int)
  | 0, _, _, _, _, _ => none
  | k + 1, x1, x5, x10, x11, x20 => if x20 < 8 then (if (Go.bits .and .u32 x5 1) = 1 then (crc_More.l1 k x1 (Go.bits .xor .u32 (x5 / 2) 2197175160) x10 x11 (wrap64 (x20 + 1))) else (crc_More.l1 k x1 (x5 / 2) x10 x11 (wrap64 (x20 + 1)))) else (crc_More.l0 k x1 x5 x10 (wrap64 (x11 + 1)))
end
def crc_More.f (k : Nat) (a0 : Int) (a1 : ByteArray) : Option (Int) := crc_More.l0 k a1 (Go.bits .xor .u32 4294967295 a0) (a1.size : Int) 0
theorem crc_More.mono_l : ∀ k, (∀ y0 y1 y2 y3, LeO (crc_More.l0 k y0 y1 y2 y3) (crc_More.l0 (k + 1) y0 y1 y2 y3)) ∧ (∀ y0 y1 y2 y3 y4, LeO (crc_More.l1 k y0 y1 y2 y3 y4) (crc_More.l1 (k + 1) y0 y1 y2 y3 y4))
  | 0 => ⟨fun _ _ _ _ r h => by simp [crc_More.l0] at h, fun _ _ _ _ _ r h => by simp [crc_More.l1] at h⟩
  | k + 1 => by
    obtain ⟨ih0, ih1⟩ := crc_More.mono_l k
    refine ⟨?_, ?_⟩
    · intro y0 y1 y2 y3
      unfold crc_More.l0
      repeat' first
      | (with_reducible exact ih0 _ _ _ _)
      | (with_reducible exact ih1 _ _ _ _ _)
      | (with_reducible exact LeO.refl _)
      | (with_reducible exact LeO.none _)
      | (with_reducible refine LeO.ite ?_ ?_)
      | (with_reducible refine LeO.bind ?_ (fun _ => ?_))
      | exact ih0 _ _ _ _
      | exact ih1 _ _ _ _ _
      | exact LeO.none _
      | refine LeO.ite ?_ ?_
      | refine LeO.bind ?_ (fun _ => ?_)
    · intro y0 y1 y2 y3 y4
      unfold crc_More.l1
      repeat' first
      | (with_reducible exact ih0 _ _ _ _)
      | (with_reducible exact ih1 _ _ _ _ _)
      | (with_reducible exact LeO.refl _)
      | (with_reducible exact LeO.none _)
      | (with_reducible refine LeO.ite ?_ ?_)
      | (with_reducible refine LeO.bind ?_ (fun _ => ?_))
      | exact ih0 _ _ _ _
      | exact ih1 _ _ _ _ _
      | exact LeO.none _
      | refine LeO.ite ?_ ?_
      | refine LeO.bind ?_ (fun _ => ?_)
theorem crc_More.mono : ∀ a0 a1 k, LeO (crc_More.f k a0 a1) (crc_More.f (k + 1) a0 a1) := by
  intro a0 a1 k
  obtain ⟨ih0, ih1⟩ := crc_More.mono_l k
  unfold crc_More.f
  repeat' first
      | (with_reducible exact ih0 _ _ _ _)
      | (with_reducible exact ih1 _ _ _ _ _)
      | (with_reducible exact LeO.refl _)
      | (with_reducible exact LeO.none _)
      | (with_reducible refine LeO.ite ?_ ?_)
      | (with_reducible refine LeO.bind ?_ (fun _ => ?_))
      | exact ih0 _ _ _ _
      | exact ih1 _ _ _ _ _
      | exact LeO.none _
      | refine LeO.ite ?_ ?_
      | refine LeO.bind ?_ (fun _ => ?_)
set_option maxHeartbeats 8000000 in
set_option maxRecDepth 100000 in
theorem crc_More.calls (k : Nat) (a0 : Int) (a1 : ByteArray) (r : Int) (w : World) (h : crc_More.f k a0 a1 = some r) :
    Calls Try.prog 19 #[.int .u32 a0, .string a1] w fun e w' => e = .returned (.int .u32 r) ∧ Drawn0 w w' := by
  have H : (crc_More.l0 k a1 (Go.bits .xor .u32 4294967295 a0) (a1.size : Int) 0) = some r := h
  clear h
  have H' := Aside0.mk H
  clear H
  go_enter Try.func19, Try.ntmps19
  go_wp2
  go_loopg [5, 11] k (fun kq v5 v11 w' => ∃ (x5_1 : Int) (x11_1 : Int), v5 = .int .u32 x5_1 ∧ v11 = .int .i64 x11_1 ∧ Aside0 (crc_More.l0 kq a1 x5_1 (a1.size : Int) x11_1 = some r) ∧ Aside0 (kq ≤ k) ∧ Drawn0 w w')
  case atStart => exact ⟨(Go.bits .xor .u32 4294967295 a0), (0), (by first | rfl | (simp; done) | (simp [*]; done)), (by first | rfl | (simp; done) | (simp [*]; done)), H', ⟨Nat.le_refl _⟩, by repeat (first | exact Drawn0.refl _ | apply Drawn0.step)⟩
  case round =>
    clear H'
    try clear c1
    try clear p2
    obtain ⟨x5_1, x11_1, rfl, rfl, HA, HK1, ⟨m1, rfl⟩⟩ := hrel
    cases gk with
    | zero => exact absurd HA.out (by simp [crc_More.l0])
    | succ k1 =>
      have H := HA.out
      clear HA
      simp only [crc_More.l0] at H
      by_cases c3 : x11_1 < (a1.size : Int)
      · rw [if_pos c3] at H
        have c3b0 : decide (x11_1 < (a1.size : Int)) = true := decide_eq_true c3
        clear c3
        by_cases c4 : 0 ≤ x11_1
        · rw [if_pos c4] at H
          have c4b0 : decide (0 ≤ x11_1) = true := decide_eq_true c4
          clear c4
          by_cases c5 : x11_1 < (a1.size : Int)
          · rw [if_pos c5] at H
            have c5b0 : decide (x11_1 < (a1.size : Int)) = true := decide_eq_true c5
            clear c5
            have H' := Aside0.mk H
            clear H
            have p6 : 0 ≤ (x11_1 : Int) := of_decide_eq_true (by first | (with_reducible assumption) | assumption)
            have q6 : x11_1 < (a1.size : Int) := of_decide_eq_true (by first | (with_reducible assumption) | assumption)
            have hx6 := bt_at a1 x11_1
            replace p6 := eq_true p6
            replace q6 := eq_true q6
            go_wp2
            go_loopg [5, 20] k1 (fun kq v5 v20 w' => ∃ (x5_2 : Int) (x20_2 : Int), v5 = .int .u32 x5_2 ∧ v20 = .int .i64 x20_2 ∧ Aside0 (crc_More.l1 kq a1 x5_2 (a1.size : Int) x11_1 x20_2 = some r) ∧ Aside0 (kq ≤ k1) ∧ Drawn0 w w')
            case atStart => exact ⟨(Go.bits .xor .u32 x5_1 ((bt a1 x11_1) % 4294967296)), (0), (by first | rfl | (simp; done) | (simp [*]; done)), (by first | rfl | (simp; done) | (simp [*]; done)), H', ⟨Nat.le_refl _⟩, by repeat (first | exact Drawn0.refl _ | apply Drawn0.step)⟩
            case round =>
              clear H'
              try clear c1
              try clear p2
              try clear c3
              try clear c3b0
              try clear c4
              try clear c4b0
              try clear c5
              try clear c5b0
              try clear p6
              try clear q6
              try clear hx6
              try clear p2
              try clear p6
              try clear q6
              obtain ⟨x5_2, x20_2, rfl, rfl, HA, HK2, ⟨m2, rfl⟩⟩ := hrel
              cases gk with
              | zero => exact absurd HA.out (by simp [crc_More.l1])
              | succ k2 =>
                have H := HA.out
                clear HA
                simp only [crc_More.l1] at H
                by_cases c7 : x20_2 < 8
                · rw [if_pos c7] at H
                  have c7b0 : decide (x20_2 < 8) = true := decide_eq_true c7
                  clear c7
                  by_cases c8 : (Go.bits .and .u32 x5_2 1) = 1
                  · rw [if_pos c8] at H
                    have c8b0 : ((Go.bits .and .u32 x5_2 1) == 1) = true := beq_iff_eq.mpr c8
                    have c8b1 : ((Go.bits .and .u32 x5_2 1) != 1) = false := bne_eq_false_iff_eq.mpr c8
                    clear c8
                    have H' := Aside0.mk H
                    clear H
                    go_wp2
                    go_roundg k2
                    case measure => have := HK1.out; have := HK2.out; omega
                    case rel => exact ⟨(Go.bits .xor .u32 (x5_2 / 2) 2197175160), (wrap64 (x20_2 + 1)), (by first | rfl | (simp; done) | (simp [*]; done)), (by first | rfl | (simp; done) | (simp [*]; done)), H', ⟨by have := HK1.out; have := HK2.out; omega⟩, by repeat (first | exact Drawn0.refl _ | apply Drawn0.step)⟩
                  · rw [if_neg c8] at H
                    have c8b0 : ((Go.bits .and .u32 x5_2 1) == 1) = false := beq_eq_false_iff_ne.mpr c8
                    have c8b1 : ((Go.bits .and .u32 x5_2 1) != 1) = true := bne_iff_ne.mpr c8
                    have H' := Aside0.mk H
                    clear H
                    go_wp2
                    go_roundg k2
                    case measure => have := HK1.out; have := HK2.out; omega
                    case rel => exact ⟨(x5_2 / 2), (wrap64 (x20_2 + 1)), (by first | rfl | (simp; done) | (simp [*]; done)), (by first | rfl | (simp; done) | (simp [*]; done)), H', ⟨by have := HK1.out; have := HK2.out; omega⟩, by repeat (first | exact Drawn0.refl _ | apply Drawn0.step)⟩
                · rw [if_neg c7] at H
                  have c7b0 : decide (x20_2 < 8) = false := decide_eq_false c7
                  clear c7
                  have H' := Aside0.mk H
                  clear H
                  go_wp2
                  go_roundg k2
                  case measure => have := HK1.out; have := HK2.out; omega
                  case rel => exact ⟨(x5_2), (wrap64 (x11_1 + 1)), (by first | rfl | (simp; done) | (simp [*]; done)), (by first | rfl | (simp; done) | (simp [*]; done)), H', ⟨by have := HK1.out; have := HK2.out; omega⟩, by repeat (first | exact Drawn0.refl _ | apply Drawn0.step)⟩
          · rw [if_neg c5] at H
            exact absurd H (by simp)
        · rw [if_neg c4] at H
          exact absurd H (by simp)
      · rw [if_neg c3] at H
        have c3b0 : decide (x11_1 < (a1.size : Int)) = false := decide_eq_false c3
        clear c3
        obtain rfl := Option.some.inj H
        go_wp2
        go_ret
        exact ⟨by first | rfl | (simp; done) | (simp [*]; done), by repeat (first | exact Drawn0.refl _ | apply Drawn0.step)⟩

/-! ### crc_Sum: function 16 -/
def crc_Sum.f (k : Nat) (a0 : ByteArray) : Option (Int) := (crc_More.f k 0 a0).bind fun t101 => (some t101)
theorem crc_Sum.mono : ∀ a0 k, LeO (crc_Sum.f k a0) (crc_Sum.f (k + 1) a0) := by
  intro a0 k
  unfold crc_Sum.f
  repeat' first
      | (with_reducible exact crc_More.mono _ _ _)
      | (with_reducible exact LeO.refl _)
      | (with_reducible exact LeO.none _)
      | (with_reducible refine LeO.ite ?_ ?_)
      | (with_reducible refine LeO.bind ?_ (fun _ => ?_))
      | exact crc_More.mono _ _ _
      | exact LeO.none _
      | refine LeO.ite ?_ ?_
      | refine LeO.bind ?_ (fun _ => ?_)
set_option maxHeartbeats 8000000 in
set_option maxRecDepth 100000 in
theorem crc_Sum.calls (k : Nat) (a0 : ByteArray) (r : Int) (w : World) (h : crc_Sum.f k a0 = some r) :
    Calls Try.prog 16 #[.string a0] w fun e w' => e = .returned (.int .u32 r) ∧ Drawn0 w w' := by
  have H : ((crc_More.f k 0 a0).bind fun t101 => (some t101)) = some r := h
  clear h
  replace H := Option.bind_eq_some_iff.mp H
  obtain ⟨t101, A20, H⟩ := H
  replace H : (some t101) = some r := H
  have A2 := Aside0.mk A20
  clear A20
  obtain rfl := Option.some.inj H
  go_enter Try.func16, Try.ntmps16
  go_wp2_with (first | ((with_reducible refine gate_callee (f := 19) rfl ?_); refine goesL_ (some 4) rfl rfl Try.func19 (by kernel_rfl) rfl #[.int .u32 0, .string a0] rfl (by (try simp only [List.map_toArray, List.map_cons, List.map_nil]); first | done | rfl | (simp only [List.length_drop, List.length_take]; rfl)) ?_; (with_reducible refine (crc_More.calls k 0 a0 t101 _ A2.out).mono ?_); rintro e w' ⟨rfl, ⟨nd, rfl⟩⟩; refine ⟨_, rfl, ?_⟩))
  go_ret
  exact ⟨by first | rfl | (simp; done) | (simp [*]; done), by repeat (first | exact Drawn0.refl _ | apply Drawn0.step)⟩

/-! ### tinderboxlaw01_awake: function 15 -/
def tinderboxlaw01_awake.f (k : Nat)  : Option (Bool) := (crc_Sum.f k (⟨#[49, 50, 51, 52, 53, 54, 55, 56, 57]⟩ : ByteArray)).bind fun t102 => (if t102 = 3808858755 then ((crc_Sum.f k (⟨#[]⟩ : ByteArray)).bind fun t103 => (some (t103 == 0))) else (some false))
theorem tinderboxlaw01_awake.mono : ∀ k, LeO (tinderboxlaw01_awake.f k ) (tinderboxlaw01_awake.f (k + 1) ) := by
  intro  k
  unfold tinderboxlaw01_awake.f
  repeat' first
      | (with_reducible exact crc_Sum.mono _ _)
      | (with_reducible exact LeO.refl _)
      | (with_reducible exact LeO.none _)
      | (with_reducible refine LeO.ite ?_ ?_)
      | (with_reducible refine LeO.bind ?_ (fun _ => ?_))
      | exact crc_Sum.mono _ _
      | exact LeO.none _
      | refine LeO.ite ?_ ?_
      | refine LeO.bind ?_ (fun _ => ?_)
set_option maxRecDepth 100000 in
theorem tinderboxlaw01_awake.det (k : Nat) (r : Bool) (h : tinderboxlaw01_awake.f k = some r) : r = true := by
  have h0 : tinderboxlaw01_awake.f 120 = some true := by decide +kernel
  have up : ∀ j k r, tinderboxlaw01_awake.f k = some r → tinderboxlaw01_awake.f (k + j) = some r := by
    intro j
    induction j with
    | zero => exact fun _ _ h => h
    | succ j ih => exact fun k r h => tinderboxlaw01_awake.mono _ _ (ih k r h)
  have h1 := up 120 k r h
  have h2 := up k 120 true h0
  rw [Nat.add_comm, h1] at h2
  exact Option.some.inj h2
set_option maxHeartbeats 8000000 in
set_option maxRecDepth 100000 in
theorem tinderboxlaw01_awake.calls (k : Nat)  (r : Bool) (w : World) (h : tinderboxlaw01_awake.f k  = some r) :
    Calls Try.prog 15 #[] w fun e w' => e = .returned (.bool r) ∧ Drawn0 w w' := by
  have hr_ := tinderboxlaw01_awake.det k r h
  have H : ((crc_Sum.f k (⟨#[49, 50, 51, 52, 53, 54, 55, 56, 57]⟩ : ByteArray)).bind fun t102 => (if t102 = 3808858755 then ((crc_Sum.f k (⟨#[]⟩ : ByteArray)).bind fun t103 => (some (t103 == 0))) else (some false))) = some r := h
  clear h
  replace H := Option.bind_eq_some_iff.mp H
  obtain ⟨t102, A10, H⟩ := H
  replace H : (if t102 = 3808858755 then ((crc_Sum.f k (⟨#[]⟩ : ByteArray)).bind fun t103 => (some (t103 == 0))) else (some false)) = some r := H
  have A1 := Aside0.mk A10
  clear A10
  by_cases c2 : t102 = 3808858755
  · rw [if_pos c2] at H
    have c2b0 : (t102 == 3808858755) = true := beq_iff_eq.mpr c2
    have c2b1 : (t102 != 3808858755) = false := bne_eq_false_iff_eq.mpr c2
    clear c2
    replace H := Option.bind_eq_some_iff.mp H
    obtain ⟨t103, A30, H⟩ := H
    replace H : (some (t103 == 0)) = some r := H
    have A3 := Aside0.mk A30
    clear A30
    clear hr_
    obtain rfl := Option.some.inj H
    go_enter Try.func15, Try.ntmps15
    go_wp2_with (first | ((with_reducible refine gate_callee (f := 16) rfl ?_); refine goesL_ (some 1) rfl rfl Try.func16 (by kernel_rfl) rfl #[.string (⟨#[49, 50, 51, 52, 53, 54, 55, 56, 57]⟩ : ByteArray)] rfl (by (try simp only [List.map_toArray, List.map_cons, List.map_nil]); first | done | rfl | (simp only [List.length_drop, List.length_take]; rfl)) ?_; (with_reducible refine (crc_Sum.calls k (⟨#[49, 50, 51, 52, 53, 54, 55, 56, 57]⟩ : ByteArray) t102 _ A1.out).mono ?_); rintro e w' ⟨rfl, ⟨nd, rfl⟩⟩; refine ⟨_, rfl, ?_⟩) | (go_at_call 16; (with_reducible refine (crc_Sum.calls k (⟨#[]⟩ : ByteArray) t103 _ A3.out).mono ?_); rintro e w' ⟨rfl, ⟨nd, rfl⟩⟩))
    go_ret
    exact ⟨by first | rfl | (simp; done) | (simp [*]; done), by repeat (first | exact Drawn0.refl _ | apply Drawn0.step)⟩
  · rw [if_neg c2] at H
    have c2b0 : (t102 == 3808858755) = false := beq_eq_false_iff_ne.mpr c2
    have c2b1 : (t102 != 3808858755) = true := bne_iff_ne.mpr c2
    exact absurd ((Option.some.inj H).trans hr_) (by decide)

/-! ### tinderboxlaw01_few: function 17 -/
def tinderboxlaw01_few.f (a0 : ByteArray) : Option (ByteArray) := if (a0.size : Int) > 500 then (if 0 ≤ 500 then (if 500 ≤ (a0.size : Int) then (some (a0.extract 0 500)) else (none)) else (none)) else (some a0)
set_option maxHeartbeats 8000000 in
set_option maxRecDepth 100000 in
theorem tinderboxlaw01_few.calls (a0 : ByteArray) (r : ByteArray) (w : World) (h : tinderboxlaw01_few.f a0 = some r) :
    Calls Try.prog 17 #[.string a0] w fun e w' => e = .returned (.string r) ∧ Drawn0 w w' := by
  have H : (if (a0.size : Int) > 500 then (if 0 ≤ 500 then (if 500 ≤ (a0.size : Int) then (some (a0.extract 0 500)) else (none)) else (none)) else (some a0)) = some r := h
  clear h
  by_cases c2 : (a0.size : Int) > 500
  · rw [if_pos c2] at H
    have c2b0 : decide (500 < (a0.size : Int)) = true := decide_eq_true c2
    have c2b1 : decide (500 < a0.size) = true := decide_eq_true (by omega)
    clear c2
    by_cases c3 : 0 ≤ 500
    · rw [if_pos c3] at H
      have c3b0 := eq_true c3
      have c3b1 : decide (0 ≤ 500) = true := decide_eq_true c3
      clear c3
      by_cases c4 : 500 ≤ (a0.size : Int)
      · rw [if_pos c4] at H
        have c4b0 := eq_true c4
        have c4b1 : decide (500 ≤ (a0.size : Int)) = true := decide_eq_true c4
        clear c4
        obtain rfl := Option.some.inj H
        go_enter Try.func17, Try.ntmps17
        go_wp2
        go_ret
        exact ⟨by first | rfl | (simp; done) | (simp [*]; done), by repeat (first | exact Drawn0.refl _ | apply Drawn0.step)⟩
      · rw [if_neg c4] at H
        exact absurd H (by simp)
    · rw [if_neg c3] at H
      exact absurd H (by simp)
  · rw [if_neg c2] at H
    have c2b0 : decide (500 < (a0.size : Int)) = false := decide_eq_false c2
    have c2b1 : decide (500 < a0.size) = false := decide_eq_false (by omega)
    clear c2
    obtain rfl := Option.some.inj H
    go_enter Try.func17, Try.ntmps17
    go_wp2
    go_ret
    exact ⟨by first | rfl | (simp; done) | (simp [*]; done), by repeat (first | exact Drawn0.refl _ | apply Drawn0.step)⟩

/-! ### tinderboxlaw01_CrcBits: function 5 -/
/-! Four bytes turned: by hand. -/
/-- A row of bytes at a block, a mark behind its cells or none. -/
def BR (w : World) (g : Nat) (xs : List Int) : Prop :=
  ∃ cur fz, w.heap[g]? = some (.cells cur 5 fz) ∧ (∀ j, j < cur.size → ¬ (fz.1 ≤ j ∧ j < fz.2)) ∧ xs.length ≤ cur.size ∧ cur.toList.take xs.length = nums .u8 xs
theorem numsU_get (xs : List Int) (i : Nat) (hi : i < xs.length) : (nums .u8 xs)[i]? = some (.int .u8 (xs.getD i 0)) := by
  unfold nums
  rw [List.getElem?_map, List.getElem?_eq_getElem hi, List.getD_eq_getElem?_getD, List.getElem?_eq_getElem hi]
  rfl
theorem BR.cell {w : World} {g : Nat} {xs : List Int} (h : BR w g xs) (i : Nat) (hi : i < xs.length) : w.cell? ⟨g, i, none⟩ = some (.int .u8 (xs.getD i 0)) := by
  obtain ⟨cur, fz, h1, _, h3, h4⟩ := h
  rw [cell_of_row w g i cur 5 fz h1, ← numsU_get xs i hi, ← h4, List.getElem?_take, if_pos hi, Array.getElem?_toList]
theorem BR.frozen {w : World} {g : Nat} {xs : List Int} (h : BR w g xs) (i : Nat) (hi : i < xs.length) : w.frozen? ⟨g, i, none⟩ = false := by
  obtain ⟨cur, fz, h1, h2, h3, h4⟩ := h
  have := h2 i (by omega)
  simp only [World.frozen?, h1, Bool.and_eq_false_iff, decide_eq_false_iff_not]
  omega
theorem BR.put {w : World} {g : Nat} {xs : List Int} (h : BR w g xs) (i : Nat) (x : Int) (hi : i < xs.length) : BR (w.setCell ⟨g, i, none⟩ (.int .u8 x)) g (xs.set i x) := by
  obtain ⟨cur, fz, h1, h2, h3, h4⟩ := h
  refine ⟨cur.setIfInBounds i (.int .u8 x), fz, ?_, ?_, ?_, ?_⟩
  · simp only [World.setCell, Array.getElem?_modify, h1]
    simp
  · rw [Array.size_setIfInBounds]; exact h2
  · rw [List.length_set, Array.size_setIfInBounds]; exact h3
  · rw [List.length_set, Array.toList_setIfInBounds, List.take_set, h4]
    unfold nums
    rw [List.map_set]
theorem BR.drew {w : World} {g : Nat} {xs : List Int} (h : BR w g xs) : BR w.drew g xs := h
theorem BR.drewN {w : World} {g : Nat} {xs : List Int} (h : BR w g xs) : ∀ n, BR (w.drewN n) g xs
  | 0 => h
  | n + 1 => BR.drewN (w := w.drew) h n
theorem BR.start (w : World) (s : ByteArray) (hs : s.size ≤ 140737488351232) : BR (Lib.bytesWorld w 5 s) w.heap.size (bytesOf s) := by
  have hge := grownCap_ge w s.size 0 5
  have hsz : (Lib.bytesCells w 5 s).size = grownCap w s.size 0 5 := by
    unfold Lib.bytesCells
    have : s.data.size = s.size := rfl
    simp
    omega
  refine ⟨Lib.bytesCells w 5 s, ((Lib.bytesCells w 5 s).size, (Lib.bytesCells w 5 s).size + 1), Lib.bytesWorld_at_new w 5 s, fun j hj h => by omega, by rw [bytesOf_length, hsz]; exact hge, ?_⟩
  rw [bytesOf_length]
  unfold Lib.bytesCells nums bytesOf
  have : s.data.size = s.size := rfl
  simp [List.take_append, this]
theorem BR.reads {w : World} {g : Nat} {xs : List Int} (h : BR w g xs) (hl : xs.length ≤ 9223372036854775807) : ReadsInt w .u8 (some ⟨g, 0, none⟩) xs.length xs :=
  ⟨rfl, hl, fun _ => ⟨_, rfl, fun j hj => by
    have ha : (⟨g, 0, none⟩ : Addr).add j = ⟨g, j, none⟩ := by unfold Addr.add; split <;> simp_all
    rw [ha]
    exact h.cell j hj⟩⟩
/-- The four turns: the bytes, and what is left of the number. -/
def flip4 (l : List Int) (q : Nat) (b : Int) : Nat → List Int × Int
  | 0 => (l, b)
  | i + 1 => ((flip4 l q b i).1.set (q + i) (Go.bits .xor .u8 ((flip4 l q b i).1.getD (q + i) 0) ((flip4 l q b i).2 % 256)), (flip4 l q b i).2 / 256)
theorem flip4_len (l : List Int) (q : Nat) (b : Int) : ∀ i, (flip4 l q b i).1.length = l.length
  | 0 => rfl
  | i + 1 => by show ((flip4 l q b i).1.set _ _).length = _; rw [List.length_set, flip4_len l q b i]
theorem flip4_range (l : List Int) (q : Nat) (b : Int) (h0 : 0 ≤ b) (h1 : b < 4294967296) : ∀ i, 0 ≤ (flip4 l q b i).2 ∧ (flip4 l q b i).2 < 4294967296
  | 0 => ⟨h0, h1⟩
  | i + 1 => by have := flip4_range l q b h0 h1 i; show 0 ≤ (flip4 l q b i).2 / 256 ∧ (flip4 l q b i).2 / 256 < 4294967296; omega
def place4 (n : Nat) (a1 : Int) : Int := Int.tmod (Int.tmod a1 ((n : Int) - 3) + (n : Int) - 3) ((n : Int) - 3)
theorem place4_in (n : Nat) (a1 : Int) (h : 4 ≤ n) : 0 ≤ place4 n a1 ∧ place4 n a1 < (n : Int) - 3 ∧ -(n : Int) < Int.tmod a1 ((n : Int) - 3) ∧ Int.tmod a1 ((n : Int) - 3) < n := by
  have g1 := Int.tmod_lt_of_pos a1 (show (0 : Int) < (n : Int) - 3 by omega)
  have g2 : -((n : Int) - 3) < Int.tmod a1 ((n : Int) - 3) := by
    have := Int.tmod_lt_of_pos (-a1) (show (0 : Int) < (n : Int) - 3 by omega)
    rw [Int.neg_tmod] at this
    omega
  unfold place4
  have g3 := Int.tmod_lt_of_pos (Int.tmod a1 ((n : Int) - 3) + (n : Int) - 3) (show (0 : Int) < (n : Int) - 3 by omega)
  have g4 := Int.tmod_nonneg ((n : Int) - 3) (show (0 : Int) ≤ Int.tmod a1 ((n : Int) - 3) + (n : Int) - 3 by omega)
  omega
def tinderboxlaw01_CrcBits.g (k : Nat) (t : ByteArray) (a1 a2 : Int) : Option Bool :=
  if t.size < 4 ∨ a2 = 0 then tinderboxlaw01_awake.f k
  else (tinderboxlaw01_awake.f k).bind fun aw => (crc_Sum.f k (strOfNums (flip4 (bytesOf t) (place4 t.size a1).toNat a2 4).1)).bind fun x => (crc_Sum.f k t).bind fun y => some (x != y)
def tinderboxlaw01_CrcBits.f (k : Nat) (a0 : ByteArray) (a1 a2 : Int) : Option Bool := (tinderboxlaw01_few.f a0).bind fun t => if t.size ≤ 500 then tinderboxlaw01_CrcBits.g k t a1 a2 else none
set_option maxHeartbeats 8000000 in
set_option maxRecDepth 100000 in
theorem tinderboxlaw01_CrcBits.walk5 (k : Nat) (a0 : ByteArray) (a1 a2 : Int) (r : Bool) (w : World) (hb0 : 0 ≤ a2) (hb1 : a2 < 4294967296) (h : tinderboxlaw01_CrcBits.f k a0 a1 a2 = some r) :
    Calls Try.prog 5 #[.string a0, .int .i64 a1, .int .u32 a2] w fun e w' => e = .returned (.bool r) ∧ Below w.heap.size w w' := by
  have hh := Option.bind_eq_some_iff.mp h
  clear h
  obtain ⟨t, hF, h⟩ := hh
  have h5 : t.size ≤ 500 := by
    apply Classical.byContradiction
    intro hn
    rw [if_neg hn] at h
    cases h
  rw [if_pos h5] at h
  unfold tinderboxlaw01_CrcBits.g at h
  by_cases hs : t.size < 4 ∨ a2 = 0
  · rw [if_pos hs] at h
    by_cases h4 : t.size < 4
    · have d1 : decide ((t.size : Int) < 4) = true := decide_eq_true (by omega)
      have d2 : decide (t.size < 4) = true := decide_eq_true h4
      go_enter Try.func5, Try.ntmps5
      go_wp2_with (first
        | (go_at_call 17; (with_reducible refine (tinderboxlaw01_few.calls a0 t _ hF).mono ?_); rintro e w1 ⟨rfl, ⟨n1, rfl⟩⟩)
        | (go_at_call 15; (with_reducible refine (tinderboxlaw01_awake.calls k r _ h).mono ?_); rintro e w1 ⟨rfl, ⟨n2, rfl⟩⟩))
      go_ret
      exact ⟨rfl, by repeat (first | exact Below.refl _ _ | apply pw_below_drewN)⟩
    · have d1 : decide ((t.size : Int) < 4) = false := decide_eq_false (by omega)
      have d2 : decide (t.size < 4) = false := decide_eq_false h4
      have d3 : a2 = 0 := by rcases hs with h | h; exact absurd h h4; exact h
      subst d3
      go_enter Try.func5, Try.ntmps5
      go_wp2_with (first
        | (go_at_call 17; (with_reducible refine (tinderboxlaw01_few.calls a0 t _ hF).mono ?_); rintro e w1 ⟨rfl, ⟨n1, rfl⟩⟩)
        | (go_at_call 15; (with_reducible refine (tinderboxlaw01_awake.calls k r _ h).mono ?_); rintro e w1 ⟨rfl, ⟨n2, rfl⟩⟩))
      go_ret
      exact ⟨rfl, by repeat (first | exact Below.refl _ _ | apply pw_below_drewN)⟩
  · rw [if_neg hs] at h
    obtain ⟨aw, hA, h⟩ := Option.bind_eq_some_iff.mp h
    obtain ⟨x, hX, h⟩ := Option.bind_eq_some_iff.mp h
    obtain ⟨y, hY, h⟩ := Option.bind_eq_some_iff.mp h
    obtain rfl := Option.some.inj h
    obtain rfl := tinderboxlaw01_awake.det k aw hA
    clear h
    have h4 : ¬ t.size < 4 := fun h => hs (.inl h)
    have d1 : decide ((t.size : Int) < 4) = false := decide_eq_false (by omega)
    have d2 : decide (t.size < 4) = false := decide_eq_false h4
    have d3 : (a2 == 0) = false := beq_eq_false_iff_ne.mpr (fun h => hs (.inr h))
    have hp := place4_in t.size a1 (by omega)
    obtain ⟨q, hq⟩ : ∃ q : Nat, place4 t.size a1 = q := ⟨(place4 t.size a1).toNat, by omega⟩
    rw [hq, Int.toNat_natCast] at hX
    have s1 : IntKind.i64.wrap ((t.size : Int) - 3) = (t.size : Int) - 3 := by rw [IntKind.wrap_i64]; omega
    have s2 : IntKind.i64.wrap (Int.tmod a1 ((t.size : Int) - 3) + (t.size : Int)) = Int.tmod a1 ((t.size : Int) - 3) + (t.size : Int) := by rw [IntKind.wrap_i64]; omega
    have s3 : IntKind.i64.wrap (Int.tmod a1 ((t.size : Int) - 3) + (t.size : Int) - 3) = Int.tmod a1 ((t.size : Int) - 3) + (t.size : Int) - 3 := by rw [IntKind.wrap_i64]; omega
    have s4 : Int.tmod (Int.tmod a1 ((t.size : Int) - 3) + (t.size : Int) - 3) ((t.size : Int) - 3) = (q : Int) := hq
    have s5 : ((t.size : Int) - 3 == 0) = false := beq_eq_false_iff_ne.mpr (by omega)
    have s6 : ((t.size : Int) - 3 = 0) = False := eq_false (by omega)
    have hq3 : q + 3 < t.size := by omega
    have hconv := fun W => print_bytes (P := Try.prog) 9 29 5 Try.underlying9 Try.underlying29 Try.underlying5 t W
    have HQ := Aside0.mk hq3
    have HP := Aside0.mk (show t.size ≤ 140737488351232 by omega)
    clear hp hq hs hq3 h5
    go_enter Try.func5, Try.ntmps5
    go_upto_region 6 with (first
      | (go_at_call 17; (with_reducible refine (tinderboxlaw01_few.calls a0 t _ hF).mono ?_); rintro e w1 ⟨rfl, ⟨n1, rfl⟩⟩))
    have B0 := BR.start (w.drewN n1) t HP.out
    have hsz : (w.drewN n1).heap.size = w.heap.size := by simp
    rw [hsz] at B0
    have hbl := bytes_below (pw_below_drewN (Below.refl w.heap.size w) n1) (Nat.le_of_eq hsz.symm) 5 t
    obtain ⟨cb, hcb⟩ : ∃ c, grownCap (w.drewN n1) t.size 0 5 = c := ⟨_, rfl⟩
    obtain ⟨wb, hwb⟩ : ∃ c, Lib.bytesWorld (w.drewN n1) 5 t = c := ⟨_, rfl⟩
    rw [hwb] at B0 hbl
    rw [hcb, hwb]
    clear hwb hcb hconv
    have HB0 := Aside0.mk B0
    have HL0 := Aside0.mk hbl
    clear B0 hbl hsz
    go_wp2
    go_loopg [10, 11] 4 (fun kq v10 v11 w' => ∃ i : Nat, i ≤ 4 ∧ kq + i = 4 ∧ v10 = .int .u32 (flip4 (bytesOf t) q a2 i).2 ∧ v11 = .int .i64 i ∧ Aside0 (BR w' w.heap.size (flip4 (bytesOf t) q a2 i).1) ∧ Aside0 (Below w.heap.size w w'))
    case atStart => exact ⟨0, by omega, by omega, rfl, rfl, HB0, HL0⟩
    case round =>
      clear HB0 HL0
      obtain ⟨i, hi, hki, rfl, rfl, HB, HL⟩ := hrel
      have hlen := flip4_len (bytesOf t) q a2 i
      rw [bytesOf_length] at hlen
      have hrg := flip4_range (bytesOf t) q a2 hb0 hb1 i
      by_cases hi4 : i < 4
      · have c1 : decide ((i : Int) < 4) = true := decide_eq_true (by omega)
        have hstep1 : (flip4 (bytesOf t) q a2 (i + 1)).1 = (flip4 (bytesOf t) q a2 i).1.set (q + i) (Go.bits .xor .u8 ((flip4 (bytesOf t) q a2 i).1.getD (q + i) 0) ((flip4 (bytesOf t) q a2 i).2 % 256)) := rfl
        have hstep2 : (flip4 (bytesOf t) q a2 (i + 1)).2 = (flip4 (bytesOf t) q a2 i).2 / 256 := rfl
        obtain ⟨L, hL⟩ : ∃ L, (flip4 (bytesOf t) q a2 i).1 = L := ⟨_, rfl⟩
        obtain ⟨b, hb⟩ : ∃ b, (flip4 (bytesOf t) q a2 i).2 = b := ⟨_, rfl⟩
        rw [hL] at HB hlen hstep1
        rw [hb] at hrg hstep1 hstep2
        rw [hb]
        clear hL hb
        have hqi : q + i < L.length := by have := HQ.out; omega
        have x0 := HB.out.cell (q + i) hqi
        have x1 := HB.out.frozen (q + i) hqi
        obtain ⟨v, hv⟩ : ∃ v, L.getD (q + i) 0 = v := ⟨_, rfl⟩
        rw [hv] at x0 hstep1
        have B' := Aside0.mk (HB.out.put (q + i) (Go.bits .xor .u8 v (b % 256)) hqi)
        rw [← hstep1] at B'
        have L' := Aside0.mk (HL.out.setCell (p := ⟨w.heap.size, q + i, none⟩) (Nat.le_refl w.heap.size) (.int .u8 (Go.bits .xor .u8 v (b % 256))))
        have y0 : IntKind.i64.wrap ((q : Int) + (i : Int)) = (q : Int) + (i : Int) := by have := HQ.out; have := HP.out; rw [IntKind.wrap_i64]; omega
        have y1 : ((q : Int) + (i : Int)).toNat = q + i := by omega
        have y2 := eq_true (show (q : Int) + (i : Int) < (t.size : Int) by have := HQ.out; omega)
        have y3 := eq_true (show 0 ≤ (q : Int) + (i : Int) by omega)
        have z1 : Int.tdiv b 256 = b / 256 := Int.tdiv_eq_ediv_of_nonneg hrg.1
        clear hv hstep1 HB
        go_wp2
        go_roundg (gk - 1)
        case measure => omega
        case rel => exact ⟨i + 1, by omega, by omega, congrArg (Value.int .u32) hstep2.symm, rfl, B', L'⟩
      · have c1 : decide ((i : Int) < 4) = false := decide_eq_false (by omega)
        obtain rfl : i = 4 := by omega
        obtain ⟨L, hL⟩ : ∃ L, (flip4 (bytesOf t) q a2 4).1 = L := ⟨_, rfl⟩
        rw [hL] at HB hlen hX
        have hcs : ∀ n : Nat, (convert 29 9 (.slice (some ⟨w.heap.size, 0, none⟩) t.size cb)).run Try.prog (wr.drewN n) = .ok (.string (strOfNums L)) (wr.drewN n) := fun n => string_of_reads Try.underlying29 Try.underlying5 Try.underlying9 (by have h9 := (HB.out.drewN n).reads (by have := HP.out; omega); rw [hlen] at h9; exact h9)
        clear hL HB
        go_wp2_with (first
          | (go_at_call 15; (with_reducible refine (tinderboxlaw01_awake.calls k true _ hA).mono ?_); rintro e w1 ⟨rfl, ⟨n2, rfl⟩⟩)
          | (go_at_call 16; (with_reducible refine (crc_Sum.calls k _ x _ hX).mono ?_); rintro e w1 ⟨rfl, ⟨n3, rfl⟩⟩)
          | (go_at_call 16; (with_reducible refine (crc_Sum.calls k _ y _ hY).mono ?_); rintro e w1 ⟨rfl, ⟨n4, rfl⟩⟩))
        go_ret
        exact ⟨rfl, by repeat (first | exact HL.out | apply pw_below_drewN)⟩
/-- What is left to show, with no program in it. -/
def tinderboxlaw01_CrcBits.Pure : Prop := ∀ (a0 : ByteArray) (a1 : Int) (a2 : Int), a0.size ≤ 140737488351232 → (Lit.int .i64 a1).wf = true → (Lit.int .u32 a2).wf = true → ∃ k, tinderboxlaw01_CrcBits.f k a0 a1 a2 = some true
theorem tinderboxlaw01_CrcBits.walk (P : tinderboxlaw01_CrcBits.Pure) (a0 : ByteArray) (a1 : Int) (a2 : Int) (w : World) (w0 : a0.size ≤ 140737488351232) (w1 : (Lit.int .i64 a1).wf = true) (w2 : (Lit.int .u32 a2).wf = true) :
    Calls Try.prog 5 #[.string a0, .int .i64 a1, .int .u32 a2] w fun e w' => e = .returned (.bool true) ∧ Below w.heap.size w w' := by
  obtain ⟨k, h⟩ := P a0 a1 a2 w0 w1 w2
  have hr : 0 ≤ a2 ∧ a2 ≤ 4294967295 := by
    simp [Lit.wf, IntKind.min, IntKind.max, IntKind.bits, IntKind.signed] at w2
    omega
  exact tinderboxlaw01_CrcBits.walk5 k a0 a1 a2 true w hr.1 (by omega) h

end Go.Proofs.Ytpidfledopnhpaa.XCrcBits
