-- Written by xprint.py of this repo (the kit's print with turns of our own) out of the translation.
import Derived.Test.YtjmabdgebhndhaaDoorXManifestTextsx0
import Derived.Test.YtjmabdgebhndhaaDoorXManifestTextsx1
import Derived.Test.YtjmabdgebhndhaaDoorXManifestTextsx2
import Derived.Test.YtjmabdgebhndhaaDoorXManifestTextsx3
import Derived.Test.YtjmabdgebhndhaaDoorXManifestTextsx4
namespace Go.Proofs.YtjmabdgebhndhaaDoor.XManifestTexts
open Go.RowKit Go.Proofs.YtjmabdgebhndhaaDoorW.PrintWords Go.Proofs.YtjmabdgebhndhaaDoorW.PrintLast Go.Proofs.YtjmabdgebhndhaaDoorW.PrintMore
attribute [local go_sem] max2_int min2_int max_two min_two max_three min_three max_four min_four   -- for this text's walks alone
set_option linter.unusedVariables false
set_option linter.unusedSimpArgs false

attribute [local go_sem high] eqA23
/-! ### tinderboxref20_Text: function 13 -/
def tinderboxref20_Text.f (k : Nat) (a0_0 : Int) (a0_1 : Int) (a0_2 : ByteArray) : Option (ByteArray) := (tinderboxref20_digits.f k a0_0).bind fun t183 => (if 24 + t183.size ≤ 9223372036854775807 then (if ((⟨#[116, 105, 110, 100, 101, 114, 98, 111, 120, 32, 105, 109, 97, 103, 101, 10, 118, 101, 114, 115, 105, 111, 110, 32]⟩ : ByteArray) ++ t183).size + 8 ≤ 9223372036854775807 then ((tinderboxref20_digits.f k a0_1).bind fun t184 => (if (((⟨#[116, 105, 110, 100, 101, 114, 98, 111, 120, 32, 105, 109, 97, 103, 101, 10, 118, 101, 114, 115, 105, 111, 110, 32]⟩ : ByteArray) ++ t183) ++ (⟨#[10, 108, 101, 110, 103, 116, 104, 32]⟩ : ByteArray)).size + t184.size ≤ 9223372036854775807 then (if ((((⟨#[116, 105, 110, 100, 101, 114, 98, 111, 120, 32, 105, 109, 97, 103, 101, 10, 118, 101, 114, 115, 105, 111, 110, 32]⟩ : ByteArray) ++ t183) ++ (⟨#[10, 108, 101, 110, 103, 116, 104, 32]⟩ : ByteArray)) ++ t184).size + 8 ≤ 9223372036854775807 then ((tinderboxref02_Hex.f k a0_2).bind fun t185 => (if (((((⟨#[116, 105, 110, 100, 101, 114, 98, 111, 120, 32, 105, 109, 97, 103, 101, 10, 118, 101, 114, 115, 105, 111, 110, 32]⟩ : ByteArray) ++ t183) ++ (⟨#[10, 108, 101, 110, 103, 116, 104, 32]⟩ : ByteArray)) ++ t184) ++ (⟨#[10, 100, 105, 103, 101, 115, 116, 32]⟩ : ByteArray)).size + t185.size ≤ 9223372036854775807 then (if ((((((⟨#[116, 105, 110, 100, 101, 114, 98, 111, 120, 32, 105, 109, 97, 103, 101, 10, 118, 101, 114, 115, 105, 111, 110, 32]⟩ : ByteArray) ++ t183) ++ (⟨#[10, 108, 101, 110, 103, 116, 104, 32]⟩ : ByteArray)) ++ t184) ++ (⟨#[10, 100, 105, 103, 101, 115, 116, 32]⟩ : ByteArray)) ++ t185).size + 1 ≤ 9223372036854775807 then (some (((((((⟨#[116, 105, 110, 100, 101, 114, 98, 111, 120, 32, 105, 109, 97, 103, 101, 10, 118, 101, 114, 115, 105, 111, 110, 32]⟩ : ByteArray) ++ t183) ++ (⟨#[10, 108, 101, 110, 103, 116, 104, 32]⟩ : ByteArray)) ++ t184) ++ (⟨#[10, 100, 105, 103, 101, 115, 116, 32]⟩ : ByteArray)) ++ t185) ++ (⟨#[10]⟩ : ByteArray))) else (none)) else (none))) else (none)) else (none))) else (none)) else (none))
theorem tinderboxref20_Text.mono : ∀ a0 a1 a2 k, LeO (tinderboxref20_Text.f k a0 a1 a2) (tinderboxref20_Text.f (k + 1) a0 a1 a2) := by
  intro a0 a1 a2 k
  unfold tinderboxref20_Text.f
  repeat' first
      | (with_reducible exact tinderboxref02_Hex.mono _ _)
      | (with_reducible exact tinderboxref20_digits.mono _ _)
      | (with_reducible exact LeO.refl _)
      | (with_reducible exact LeO.none _)
      | (with_reducible refine LeO.ite ?_ ?_)
      | (with_reducible refine LeO.bind ?_ (fun _ => ?_))
      | exact tinderboxref02_Hex.mono _ _
      | exact tinderboxref20_digits.mono _ _
      | exact LeO.none _
      | refine LeO.ite ?_ ?_
      | refine LeO.bind ?_ (fun _ => ?_)
def tinderboxref20_Text.T1 : Bool × List (List Nat × List Nat) := (true, [([], []), ([0], [0]), ([1], [1]), ([2], [2]), ([3], [3]), ([], []), ([5], [5]), ([6, 2], [6]), ([4, 7], [4, 7]), ([8], [8]), ([], []), ([10], [10]), ([11, 7], [11]), ([9, 12], [9, 12]), ([13], [13]), ([14, 12, 0, 1, 2, 3, 4, 5, 6, 7, 8, 9, 10, 11, 12, 13, 14], [14])])
def tinderboxref20_Text.B1 : List Nat := [0, 1, 3, 7, 15, 0, 32, 103, 255, 511, 0, 1024, 3303, 8191, 16383, 32767]
theorem tinderboxref20_Text.tab1 : rtab .any (opsOf Tryd.f13 1) = tinderboxref20_Text.T1 := by kernel_rfl
theorem tinderboxref20_Text.bits1 : waitsOk tinderboxref20_Text.T1.2 tinderboxref20_Text.B1 = true := by kernel_rfl
set_option maxHeartbeats 8000000 in
set_option maxRecDepth 100000 in
theorem tinderboxref20_Text.calls (k : Nat) (a0_0 : Int) (a0_1 : Int) (a0_2 : ByteArray) (r : ByteArray) (w : World) (h : tinderboxref20_Text.f k a0_0 a0_1 a0_2 = some r) :
    Calls Tryd.prog 13 #[.agg #[.int .i64 a0_0, .int .i64 a0_1, .string a0_2]] w fun e w' => e = .returned (.string r) ∧ Below w.heap.size w w' := by
  have hu23 := Tryd.underlying23
  have HB := Aside0.mk (Below.refl w.heap.size w)
  have H : ((tinderboxref20_digits.f k a0_0).bind fun t183 => (if 24 + t183.size ≤ 9223372036854775807 then (if ((⟨#[116, 105, 110, 100, 101, 114, 98, 111, 120, 32, 105, 109, 97, 103, 101, 10, 118, 101, 114, 115, 105, 111, 110, 32]⟩ : ByteArray) ++ t183).size + 8 ≤ 9223372036854775807 then ((tinderboxref20_digits.f k a0_1).bind fun t184 => (if (((⟨#[116, 105, 110, 100, 101, 114, 98, 111, 120, 32, 105, 109, 97, 103, 101, 10, 118, 101, 114, 115, 105, 111, 110, 32]⟩ : ByteArray) ++ t183) ++ (⟨#[10, 108, 101, 110, 103, 116, 104, 32]⟩ : ByteArray)).size + t184.size ≤ 9223372036854775807 then (if ((((⟨#[116, 105, 110, 100, 101, 114, 98, 111, 120, 32, 105, 109, 97, 103, 101, 10, 118, 101, 114, 115, 105, 111, 110, 32]⟩ : ByteArray) ++ t183) ++ (⟨#[10, 108, 101, 110, 103, 116, 104, 32]⟩ : ByteArray)) ++ t184).size + 8 ≤ 9223372036854775807 then ((tinderboxref02_Hex.f k a0_2).bind fun t185 => (if (((((⟨#[116, 105, 110, 100, 101, 114, 98, 111, 120, 32, 105, 109, 97, 103, 101, 10, 118, 101, 114, 115, 105, 111, 110, 32]⟩ : ByteArray) ++ t183) ++ (⟨#[10, 108, 101, 110, 103, 116, 104, 32]⟩ : ByteArray)) ++ t184) ++ (⟨#[10, 100, 105, 103, 101, 115, 116, 32]⟩ : ByteArray)).size + t185.size ≤ 9223372036854775807 then (if ((((((⟨#[116, 105, 110, 100, 101, 114, 98, 111, 120, 32, 105, 109, 97, 103, 101, 10, 118, 101, 114, 115, 105, 111, 110, 32]⟩ : ByteArray) ++ t183) ++ (⟨#[10, 108, 101, 110, 103, 116, 104, 32]⟩ : ByteArray)) ++ t184) ++ (⟨#[10, 100, 105, 103, 101, 115, 116, 32]⟩ : ByteArray)) ++ t185).size + 1 ≤ 9223372036854775807 then (some (((((((⟨#[116, 105, 110, 100, 101, 114, 98, 111, 120, 32, 105, 109, 97, 103, 101, 10, 118, 101, 114, 115, 105, 111, 110, 32]⟩ : ByteArray) ++ t183) ++ (⟨#[10, 108, 101, 110, 103, 116, 104, 32]⟩ : ByteArray)) ++ t184) ++ (⟨#[10, 100, 105, 103, 101, 115, 116, 32]⟩ : ByteArray)) ++ t185) ++ (⟨#[10]⟩ : ByteArray))) else (none)) else (none))) else (none)) else (none))) else (none)) else (none))) = some r := h
  clear h
  replace H := Option.bind_eq_some_iff.mp H
  obtain ⟨t183, A20, H⟩ := H
  replace H : (if 24 + t183.size ≤ 9223372036854775807 then (if ((⟨#[116, 105, 110, 100, 101, 114, 98, 111, 120, 32, 105, 109, 97, 103, 101, 10, 118, 101, 114, 115, 105, 111, 110, 32]⟩ : ByteArray) ++ t183).size + 8 ≤ 9223372036854775807 then ((tinderboxref20_digits.f k a0_1).bind fun t184 => (if (((⟨#[116, 105, 110, 100, 101, 114, 98, 111, 120, 32, 105, 109, 97, 103, 101, 10, 118, 101, 114, 115, 105, 111, 110, 32]⟩ : ByteArray) ++ t183) ++ (⟨#[10, 108, 101, 110, 103, 116, 104, 32]⟩ : ByteArray)).size + t184.size ≤ 9223372036854775807 then (if ((((⟨#[116, 105, 110, 100, 101, 114, 98, 111, 120, 32, 105, 109, 97, 103, 101, 10, 118, 101, 114, 115, 105, 111, 110, 32]⟩ : ByteArray) ++ t183) ++ (⟨#[10, 108, 101, 110, 103, 116, 104, 32]⟩ : ByteArray)) ++ t184).size + 8 ≤ 9223372036854775807 then ((tinderboxref02_Hex.f k a0_2).bind fun t185 => (if (((((⟨#[116, 105, 110, 100, 101, 114, 98, 111, 120, 32, 105, 109, 97, 103, 101, 10, 118, 101, 114, 115, 105, 111, 110, 32]⟩ : ByteArray) ++ t183) ++ (⟨#[10, 108, 101, 110, 103, 116, 104, 32]⟩ : ByteArray)) ++ t184) ++ (⟨#[10, 100, 105, 103, 101, 115, 116, 32]⟩ : ByteArray)).size + t185.size ≤ 9223372036854775807 then (if ((((((⟨#[116, 105, 110, 100, 101, 114, 98, 111, 120, 32, 105, 109, 97, 103, 101, 10, 118, 101, 114, 115, 105, 111, 110, 32]⟩ : ByteArray) ++ t183) ++ (⟨#[10, 108, 101, 110, 103, 116, 104, 32]⟩ : ByteArray)) ++ t184) ++ (⟨#[10, 100, 105, 103, 101, 115, 116, 32]⟩ : ByteArray)) ++ t185).size + 1 ≤ 9223372036854775807 then (some (((((((⟨#[116, 105, 110, 100, 101, 114, 98, 111, 120, 32, 105, 109, 97, 103, 101, 10, 118, 101, 114, 115, 105, 111, 110, 32]⟩ : ByteArray) ++ t183) ++ (⟨#[10, 108, 101, 110, 103, 116, 104, 32]⟩ : ByteArray)) ++ t184) ++ (⟨#[10, 100, 105, 103, 101, 115, 116, 32]⟩ : ByteArray)) ++ t185) ++ (⟨#[10]⟩ : ByteArray))) else (none)) else (none))) else (none)) else (none))) else (none)) else (none)) = some r := H
  have A2 := Aside0.mk A20
  clear A20
  by_cases c3 : 24 + t183.size ≤ 9223372036854775807
  · rw [if_pos c3] at H
    have c3b0 := eq_true c3
    have c3b1 : decide (24 + t183.size ≤ 9223372036854775807) = true := decide_eq_true c3
    try have c3b2 : (9223372036854775807 < 24 + t183.size) = False := eq_false (Nat.not_lt.2 c3)
    by_cases c4 : ((⟨#[116, 105, 110, 100, 101, 114, 98, 111, 120, 32, 105, 109, 97, 103, 101, 10, 118, 101, 114, 115, 105, 111, 110, 32]⟩ : ByteArray) ++ t183).size + 8 ≤ 9223372036854775807
    · rw [if_pos c4] at H
      have c4b0 := eq_true c4
      have c4b1 : decide (((⟨#[116, 105, 110, 100, 101, 114, 98, 111, 120, 32, 105, 109, 97, 103, 101, 10, 118, 101, 114, 115, 105, 111, 110, 32]⟩ : ByteArray) ++ t183).size + 8 ≤ 9223372036854775807) = true := decide_eq_true c4
      try have c4b2 : (9223372036854775807 < ((⟨#[116, 105, 110, 100, 101, 114, 98, 111, 120, 32, 105, 109, 97, 103, 101, 10, 118, 101, 114, 115, 105, 111, 110, 32]⟩ : ByteArray) ++ t183).size + 8) = False := eq_false (Nat.not_lt.2 c4)
      try have c4b4 : (9223372036854775807 < 24 + t183.size + 8) = False := eq_false (Nat.not_lt.2 (by have t_ := c4; rw [ByteArray.size_append] at t_; exact t_))
      try have c4b6 : (9223372036854775807 < 24 + t183.size + 8) = False := eq_false (Nat.not_lt.2 (by have t_ := c4; simp only [ByteArray.size_append] at t_; exact t_))
      replace H := Option.bind_eq_some_iff.mp H
      obtain ⟨t184, A50, H⟩ := H
      replace H : (if (((⟨#[116, 105, 110, 100, 101, 114, 98, 111, 120, 32, 105, 109, 97, 103, 101, 10, 118, 101, 114, 115, 105, 111, 110, 32]⟩ : ByteArray) ++ t183) ++ (⟨#[10, 108, 101, 110, 103, 116, 104, 32]⟩ : ByteArray)).size + t184.size ≤ 9223372036854775807 then (if ((((⟨#[116, 105, 110, 100, 101, 114, 98, 111, 120, 32, 105, 109, 97, 103, 101, 10, 118, 101, 114, 115, 105, 111, 110, 32]⟩ : ByteArray) ++ t183) ++ (⟨#[10, 108, 101, 110, 103, 116, 104, 32]⟩ : ByteArray)) ++ t184).size + 8 ≤ 9223372036854775807 then ((tinderboxref02_Hex.f k a0_2).bind fun t185 => (if (((((⟨#[116, 105, 110, 100, 101, 114, 98, 111, 120, 32, 105, 109, 97, 103, 101, 10, 118, 101, 114, 115, 105, 111, 110, 32]⟩ : ByteArray) ++ t183) ++ (⟨#[10, 108, 101, 110, 103, 116, 104, 32]⟩ : ByteArray)) ++ t184) ++ (⟨#[10, 100, 105, 103, 101, 115, 116, 32]⟩ : ByteArray)).size + t185.size ≤ 9223372036854775807 then (if ((((((⟨#[116, 105, 110, 100, 101, 114, 98, 111, 120, 32, 105, 109, 97, 103, 101, 10, 118, 101, 114, 115, 105, 111, 110, 32]⟩ : ByteArray) ++ t183) ++ (⟨#[10, 108, 101, 110, 103, 116, 104, 32]⟩ : ByteArray)) ++ t184) ++ (⟨#[10, 100, 105, 103, 101, 115, 116, 32]⟩ : ByteArray)) ++ t185).size + 1 ≤ 9223372036854775807 then (some (((((((⟨#[116, 105, 110, 100, 101, 114, 98, 111, 120, 32, 105, 109, 97, 103, 101, 10, 118, 101, 114, 115, 105, 111, 110, 32]⟩ : ByteArray) ++ t183) ++ (⟨#[10, 108, 101, 110, 103, 116, 104, 32]⟩ : ByteArray)) ++ t184) ++ (⟨#[10, 100, 105, 103, 101, 115, 116, 32]⟩ : ByteArray)) ++ t185) ++ (⟨#[10]⟩ : ByteArray))) else (none)) else (none))) else (none)) else (none)) = some r := H
      have A5 := Aside0.mk A50
      clear A50
      by_cases c6 : (((⟨#[116, 105, 110, 100, 101, 114, 98, 111, 120, 32, 105, 109, 97, 103, 101, 10, 118, 101, 114, 115, 105, 111, 110, 32]⟩ : ByteArray) ++ t183) ++ (⟨#[10, 108, 101, 110, 103, 116, 104, 32]⟩ : ByteArray)).size + t184.size ≤ 9223372036854775807
      · rw [if_pos c6] at H
        have c6b0 := eq_true c6
        have c6b1 : decide ((((⟨#[116, 105, 110, 100, 101, 114, 98, 111, 120, 32, 105, 109, 97, 103, 101, 10, 118, 101, 114, 115, 105, 111, 110, 32]⟩ : ByteArray) ++ t183) ++ (⟨#[10, 108, 101, 110, 103, 116, 104, 32]⟩ : ByteArray)).size + t184.size ≤ 9223372036854775807) = true := decide_eq_true c6
        try have c6b2 : (9223372036854775807 < (((⟨#[116, 105, 110, 100, 101, 114, 98, 111, 120, 32, 105, 109, 97, 103, 101, 10, 118, 101, 114, 115, 105, 111, 110, 32]⟩ : ByteArray) ++ t183) ++ (⟨#[10, 108, 101, 110, 103, 116, 104, 32]⟩ : ByteArray)).size + t184.size) = False := eq_false (Nat.not_lt.2 c6)
        try have c6b6 : (9223372036854775807 < 24 + t183.size + 8 + t184.size) = False := eq_false (Nat.not_lt.2 (by have t_ := c6; simp only [ByteArray.size_append] at t_; exact t_))
        by_cases c7 : ((((⟨#[116, 105, 110, 100, 101, 114, 98, 111, 120, 32, 105, 109, 97, 103, 101, 10, 118, 101, 114, 115, 105, 111, 110, 32]⟩ : ByteArray) ++ t183) ++ (⟨#[10, 108, 101, 110, 103, 116, 104, 32]⟩ : ByteArray)) ++ t184).size + 8 ≤ 9223372036854775807
        · rw [if_pos c7] at H
          have c7b0 := eq_true c7
          have c7b1 : decide (((((⟨#[116, 105, 110, 100, 101, 114, 98, 111, 120, 32, 105, 109, 97, 103, 101, 10, 118, 101, 114, 115, 105, 111, 110, 32]⟩ : ByteArray) ++ t183) ++ (⟨#[10, 108, 101, 110, 103, 116, 104, 32]⟩ : ByteArray)) ++ t184).size + 8 ≤ 9223372036854775807) = true := decide_eq_true c7
          try have c7b2 : (9223372036854775807 < ((((⟨#[116, 105, 110, 100, 101, 114, 98, 111, 120, 32, 105, 109, 97, 103, 101, 10, 118, 101, 114, 115, 105, 111, 110, 32]⟩ : ByteArray) ++ t183) ++ (⟨#[10, 108, 101, 110, 103, 116, 104, 32]⟩ : ByteArray)) ++ t184).size + 8) = False := eq_false (Nat.not_lt.2 c7)
          try have c7b6 : (9223372036854775807 < 24 + t183.size + 8 + t184.size + 8) = False := eq_false (Nat.not_lt.2 (by have t_ := c7; simp only [ByteArray.size_append] at t_; exact t_))
          replace H := Option.bind_eq_some_iff.mp H
          obtain ⟨t185, A80, H⟩ := H
          replace H : (if (((((⟨#[116, 105, 110, 100, 101, 114, 98, 111, 120, 32, 105, 109, 97, 103, 101, 10, 118, 101, 114, 115, 105, 111, 110, 32]⟩ : ByteArray) ++ t183) ++ (⟨#[10, 108, 101, 110, 103, 116, 104, 32]⟩ : ByteArray)) ++ t184) ++ (⟨#[10, 100, 105, 103, 101, 115, 116, 32]⟩ : ByteArray)).size + t185.size ≤ 9223372036854775807 then (if ((((((⟨#[116, 105, 110, 100, 101, 114, 98, 111, 120, 32, 105, 109, 97, 103, 101, 10, 118, 101, 114, 115, 105, 111, 110, 32]⟩ : ByteArray) ++ t183) ++ (⟨#[10, 108, 101, 110, 103, 116, 104, 32]⟩ : ByteArray)) ++ t184) ++ (⟨#[10, 100, 105, 103, 101, 115, 116, 32]⟩ : ByteArray)) ++ t185).size + 1 ≤ 9223372036854775807 then (some (((((((⟨#[116, 105, 110, 100, 101, 114, 98, 111, 120, 32, 105, 109, 97, 103, 101, 10, 118, 101, 114, 115, 105, 111, 110, 32]⟩ : ByteArray) ++ t183) ++ (⟨#[10, 108, 101, 110, 103, 116, 104, 32]⟩ : ByteArray)) ++ t184) ++ (⟨#[10, 100, 105, 103, 101, 115, 116, 32]⟩ : ByteArray)) ++ t185) ++ (⟨#[10]⟩ : ByteArray))) else (none)) else (none)) = some r := H
          have A8 := Aside0.mk A80
          clear A80
          by_cases c9 : (((((⟨#[116, 105, 110, 100, 101, 114, 98, 111, 120, 32, 105, 109, 97, 103, 101, 10, 118, 101, 114, 115, 105, 111, 110, 32]⟩ : ByteArray) ++ t183) ++ (⟨#[10, 108, 101, 110, 103, 116, 104, 32]⟩ : ByteArray)) ++ t184) ++ (⟨#[10, 100, 105, 103, 101, 115, 116, 32]⟩ : ByteArray)).size + t185.size ≤ 9223372036854775807
          · rw [if_pos c9] at H
            have c9b0 := eq_true c9
            have c9b1 : decide ((((((⟨#[116, 105, 110, 100, 101, 114, 98, 111, 120, 32, 105, 109, 97, 103, 101, 10, 118, 101, 114, 115, 105, 111, 110, 32]⟩ : ByteArray) ++ t183) ++ (⟨#[10, 108, 101, 110, 103, 116, 104, 32]⟩ : ByteArray)) ++ t184) ++ (⟨#[10, 100, 105, 103, 101, 115, 116, 32]⟩ : ByteArray)).size + t185.size ≤ 9223372036854775807) = true := decide_eq_true c9
            try have c9b2 : (9223372036854775807 < (((((⟨#[116, 105, 110, 100, 101, 114, 98, 111, 120, 32, 105, 109, 97, 103, 101, 10, 118, 101, 114, 115, 105, 111, 110, 32]⟩ : ByteArray) ++ t183) ++ (⟨#[10, 108, 101, 110, 103, 116, 104, 32]⟩ : ByteArray)) ++ t184) ++ (⟨#[10, 100, 105, 103, 101, 115, 116, 32]⟩ : ByteArray)).size + t185.size) = False := eq_false (Nat.not_lt.2 c9)
            try have c9b6 : (9223372036854775807 < 24 + t183.size + 8 + t184.size + 8 + t185.size) = False := eq_false (Nat.not_lt.2 (by have t_ := c9; simp only [ByteArray.size_append] at t_; exact t_))
            by_cases c10 : ((((((⟨#[116, 105, 110, 100, 101, 114, 98, 111, 120, 32, 105, 109, 97, 103, 101, 10, 118, 101, 114, 115, 105, 111, 110, 32]⟩ : ByteArray) ++ t183) ++ (⟨#[10, 108, 101, 110, 103, 116, 104, 32]⟩ : ByteArray)) ++ t184) ++ (⟨#[10, 100, 105, 103, 101, 115, 116, 32]⟩ : ByteArray)) ++ t185).size + 1 ≤ 9223372036854775807
            · rw [if_pos c10] at H
              have c10b0 := eq_true c10
              have c10b1 : decide (((((((⟨#[116, 105, 110, 100, 101, 114, 98, 111, 120, 32, 105, 109, 97, 103, 101, 10, 118, 101, 114, 115, 105, 111, 110, 32]⟩ : ByteArray) ++ t183) ++ (⟨#[10, 108, 101, 110, 103, 116, 104, 32]⟩ : ByteArray)) ++ t184) ++ (⟨#[10, 100, 105, 103, 101, 115, 116, 32]⟩ : ByteArray)) ++ t185).size + 1 ≤ 9223372036854775807) = true := decide_eq_true c10
              try have c10b2 : (9223372036854775807 < ((((((⟨#[116, 105, 110, 100, 101, 114, 98, 111, 120, 32, 105, 109, 97, 103, 101, 10, 118, 101, 114, 115, 105, 111, 110, 32]⟩ : ByteArray) ++ t183) ++ (⟨#[10, 108, 101, 110, 103, 116, 104, 32]⟩ : ByteArray)) ++ t184) ++ (⟨#[10, 100, 105, 103, 101, 115, 116, 32]⟩ : ByteArray)) ++ t185).size + 1) = False := eq_false (Nat.not_lt.2 c10)
              try have c10b6 : (9223372036854775807 < 24 + t183.size + 8 + t184.size + 8 + t185.size + 1) = False := eq_false (Nat.not_lt.2 (by have t_ := c10; simp only [ByteArray.size_append] at t_; exact t_))
              obtain rfl := Option.some.inj H
              go_enter Tryd.func13, Tryd.ntmps13
              try go_wp2_with (first | ((with_reducible refine gate_dst (N := 1) rfl ?_); refine box_event ?hg (N := 1) ?hd (cs := #[.int .i64 a0_0, .int .i64 a0_1, .string a0_2]) (t := 23) ?hr ?_; (case hd => rfl); (case hg => rfl); (case hr => first | (go_simp; done) | (go_simp; rfl)); intro gb182 hg w11 hbox hb; have n0_ := Aside0.mk (below_step (by repeat (first | (with_reducible first | exact HB.out | apply below_alloc | apply pw_below_drewN | apply below_drew1) | exact HB.out)) hb); have n1_ := Aside0.mk (hbox); have n2_ := Aside0.mk ((by rw [hg]; exact (below_size (by repeat (first | (with_reducible first | exact HB.out | apply below_alloc | apply pw_below_drewN | apply below_drew1) | exact HB.out))) : w.heap.size ≤ gb182)); have n3_ := Aside0.mk ((by rw [hg]; exact (below_size (by repeat (first | (with_reducible first | exact HB.out | apply below_alloc | apply pw_below_drewN | apply below_drew1) | exact HB.out))) : w.heap.size ≤ gb182)); clear HB; have HB := n0_; have BK182 := n1_; have GW182 := n2_; have GE182 := n3_; clear n0_ n1_ n2_ n3_; clear hb hbox hg))
              have n0_ := Aside0.mk (blk_drew BK182.out)
              have n1_ := Aside0.mk (below_drew1 HB.out)
              clear BK182
              clear HB
              have BK182 := n0_
              have HB := n1_
              clear n0_ n1_
              refine start_ (n := 16) (S := fun w' => w'.cell? ⟨gb182, 0, none⟩ = some (.int .i64 a0_0) ∧ w'.cell? ⟨gb182, 1, none⟩ = some (.int .i64 a0_1) ∧ w'.cell? ⟨gb182, 2, none⟩ = some (.string a0_2)) (ds := []) #[false, false, false, false, false, false, false, false, false, false, false, false, false, false, false, false] (by kernel_rfl) rfl rfl ⟨(blk_cell BK182.out 0).trans rfl, (blk_cell BK182.out 1).trans rfl, (blk_cell BK182.out 2).trans rfl⟩ (fun hHeld => ?_); refine with_tabW tinderboxref20_Text.tab1 tinderboxref20_Text.bits1 (fun HT_ HW_ => ?_)
              generalize w11.drew = w12 at BK182 HB hHeld ⊢
              refine pure_ (i := 0) (N := some 3) (v := ?_) (a' := ?_) #[true, false, false, false, false, false, false, false, false, false, false, false, false, false, false, false] rfl rfl (any_of HT_.out (by kernel_rfl)) (fun _ _ _ h => h) (Or.inl ⟨by rfl, ?_⟩) ?_ ?_
              rotate_left
              · intro w'
                go_simp
                with_reducible rfl
              rotate_left
              · simp only [Act.put, List.setIfInBounds_toArray, List.set_cons_zero, List.set_cons_succ, i64_w, i32_w]
                rfl
              refine pure_ (i := 5) (N := some 8) (v := ?_) (a' := ?_) #[true, false, false, false, false, true, false, false, false, false, false, false, false, false, false, false] rfl rfl (any_of HT_.out (by kernel_rfl)) (fun _ _ _ h => h) (Or.inl ⟨by rfl, ?_⟩) ?_ ?_
              rotate_left
              · intro w'
                go_simp
                with_reducible rfl
              rotate_left
              · simp only [Act.put, List.setIfInBounds_toArray, List.set_cons_zero, List.set_cons_succ, i64_w, i32_w]
                rfl
              refine pure_ (i := 10) (N := some 13) (v := ?_) (a' := ?_) #[true, false, false, false, false, true, false, false, false, false, true, false, false, false, false, false] rfl rfl (any_of HT_.out (by kernel_rfl)) (fun _ _ _ h => h) (Or.inl ⟨by rfl, ?_⟩) ?_ ?_
              rotate_left
              · intro w'
                go_simp
                with_reducible rfl
              rotate_left
              · simp only [Act.put, List.setIfInBounds_toArray, List.set_cons_zero, List.set_cons_succ, i64_w, i32_w]
                rfl
              refine take_ (i := 1) (N := some 4) (v := ?_) (a' := ?_) #[true, true, false, false, false, true, false, false, false, false, true, false, false, false, false, false] rfl rfl (take_ofW HT_.out HW_.out (by kernel_rfl)) (fun _ _ _ h => h) (Or.inl ⟨by rfl, ?_⟩) hHeld ?_ ?_
              rotate_left
              · rintro w' ⟨s0, s1, s2⟩
                go_simp
                with_reducible rfl
              rotate_left
              · simp only [Act.put, List.setIfInBounds_toArray, List.set_cons_zero, List.set_cons_succ, i64_w, i32_w]
                rfl
              refine take_ (i := 6) (N := some 9) (v := ?_) (a' := ?_) #[true, true, false, false, false, true, true, false, false, false, true, false, false, false, false, false] rfl rfl (take_ofW HT_.out HW_.out (by kernel_rfl)) (fun _ _ _ h => h) (Or.inl ⟨by rfl, ?_⟩) hHeld ?_ ?_
              rotate_left
              · rintro w' ⟨s0, s1, s2⟩
                go_simp
                with_reducible rfl
              rotate_left
              · simp only [Act.put, List.setIfInBounds_toArray, List.set_cons_zero, List.set_cons_succ, i64_w, i32_w]
                rfl
              refine take_ (i := 11) (N := some 14) (v := ?_) (a' := ?_) #[true, true, false, false, false, true, true, false, false, false, true, true, false, false, false, false] rfl rfl (take_ofW HT_.out HW_.out (by kernel_rfl)) (fun _ _ _ h => h) (Or.inl ⟨by rfl, ?_⟩) hHeld ?_ ?_
              rotate_left
              · rintro w' ⟨s0, s1, s2⟩
                go_simp
                with_reducible rfl
              rotate_left
              · simp only [Act.put, List.setIfInBounds_toArray, List.set_cons_zero, List.set_cons_succ, i64_w, i32_w]
                rfl
              refine one_ (i := 2) (N := some 5) #[true, true, true, false, false, true, true, false, false, false, true, true, false, false, false, false] rfl rfl (one_of HT_.out (by kernel_rfl)) (by decide) (fun K hK => ?_)
              refine goes_ Tryd.func34 (by kernel_rfl) rfl #[.int .i64 a0_0] (by rfl) rfl rfl (by (try simp only [List.map_toArray, List.map_cons, List.map_nil]); first | done | rfl | (simp only [List.length_drop, List.length_take]; rfl)) ?_
              with_reducible refine (tinderboxref20_digits.calls k a0_0 t183 _ A2.out).mono ?_
              rintro e w13 ⟨rfl, hb⟩
              refine ⟨_, rfl, ?_⟩
              have n0_ := Aside0.mk (blk_below (g := gb182) (o := .cells #[.int .i64 a0_0, .int .i64 a0_1, .string a0_2] 23 (0, 0)) (by (with_reducible repeat (first | refine blk_drewN ?_ _ | refine blk_drew ?_ | refine blk_alloc ?_ _)); exact BK182.out) hb)
              have n1_ := Aside0.mk (below_step (by repeat (first | (with_reducible first | exact HB.out | apply below_alloc | apply pw_below_drewN | apply below_drew1 | refine below_set ?_ GE182.out) | exact HB.out)) hb)
              clear BK182
              clear HB
              have BK182 := n0_
              have HB := n1_
              clear n0_ n1_
              (try clear hb)
              (try clear hb2)
              (try clear hk)
              (try clear hi)
              refine hK.out _ _ ⟨(blk_cell BK182.out 0).trans rfl, (blk_cell BK182.out 1).trans rfl, (blk_cell BK182.out 2).trans rfl⟩ (fun hHeld => ?_)
              clear hK K
              refine norm_ (a' := ?_) ?_ ?_
              rotate_left
              · show Act.put _ (some 5) _ = _
                simp only [Act.put, List.setIfInBounds_toArray, List.set_cons_zero, List.set_cons_succ, i64_w, i32_w]
                rfl
              refine pure_ (i := 3) (N := some 6) (v := ?_) (a' := ?_) #[true, true, true, true, false, true, true, false, false, false, true, true, false, false, false, false] rfl rfl (any_of HT_.out (by kernel_rfl)) (fun _ _ _ h => h) (Or.inl ⟨by rfl, ?_⟩) ?_ ?_
              rotate_left
              · intro w'
                go_simp
                with_reducible rfl
              rotate_left
              · simp only [Act.put, List.setIfInBounds_toArray, List.set_cons_zero, List.set_cons_succ, i64_w, i32_w]
                rfl
              refine pure_ (i := 4) (N := some 7) (v := ?_) (a' := ?_) #[true, true, true, true, true, true, true, false, false, false, true, true, false, false, false, false] rfl rfl (any_of HT_.out (by kernel_rfl)) (fun _ _ _ h => h) (Or.inl ⟨by rfl, ?_⟩) ?_ ?_
              rotate_left
              · intro w'
                go_simp
                with_reducible rfl
              rotate_left
              · simp only [Act.put, List.setIfInBounds_toArray, List.set_cons_zero, List.set_cons_succ, i64_w, i32_w]
                rfl
              refine one_ (i := 7) (N := some 10) #[true, true, true, true, true, true, true, true, false, false, true, true, false, false, false, false] rfl rfl (one_of HT_.out (by kernel_rfl)) (by decide) (fun K hK => ?_)
              refine goes_ Tryd.func34 (by kernel_rfl) rfl #[.int .i64 a0_1] (by rfl) rfl rfl (by (try simp only [List.map_toArray, List.map_cons, List.map_nil]); first | done | rfl | (simp only [List.length_drop, List.length_take]; rfl)) ?_
              with_reducible refine (tinderboxref20_digits.calls k a0_1 t184 _ A5.out).mono ?_
              rintro e w14 ⟨rfl, hb⟩
              refine ⟨_, rfl, ?_⟩
              have n0_ := Aside0.mk (blk_below (g := gb182) (o := .cells #[.int .i64 a0_0, .int .i64 a0_1, .string a0_2] 23 (0, 0)) (by (with_reducible repeat (first | refine blk_drewN ?_ _ | refine blk_drew ?_ | refine blk_alloc ?_ _)); exact BK182.out) hb)
              have n1_ := Aside0.mk (below_step (by repeat (first | (with_reducible first | exact HB.out | apply below_alloc | apply pw_below_drewN | apply below_drew1 | refine below_set ?_ GE182.out) | exact HB.out)) hb)
              clear BK182
              clear HB
              have BK182 := n0_
              have HB := n1_
              clear n0_ n1_
              (try clear hb)
              (try clear hb2)
              (try clear hk)
              (try clear hi)
              refine hK.out _ _ ⟨(blk_cell BK182.out 0).trans rfl, (blk_cell BK182.out 1).trans rfl, (blk_cell BK182.out 2).trans rfl⟩ (fun hHeld => ?_)
              clear hK K
              refine norm_ (a' := ?_) ?_ ?_
              rotate_left
              · show Act.put _ (some 10) _ = _
                simp only [Act.put, List.setIfInBounds_toArray, List.set_cons_zero, List.set_cons_succ, i64_w, i32_w]
                rfl
              refine pure_ (i := 8) (N := some 11) (v := ?_) (a' := ?_) #[true, true, true, true, true, true, true, true, true, false, true, true, false, false, false, false] rfl rfl (any_of HT_.out (by kernel_rfl)) (fun _ _ _ h => h) (Or.inl ⟨by rfl, ?_⟩) ?_ ?_
              rotate_left
              · intro w'
                go_simp
                with_reducible rfl
              rotate_left
              · simp only [Act.put, List.setIfInBounds_toArray, List.set_cons_zero, List.set_cons_succ, i64_w, i32_w]
                rfl
              refine pure_ (i := 9) (N := some 12) (v := ?_) (a' := ?_) #[true, true, true, true, true, true, true, true, true, true, true, true, false, false, false, false] rfl rfl (any_of HT_.out (by kernel_rfl)) (fun _ _ _ h => h) (Or.inl ⟨by rfl, ?_⟩) ?_ ?_
              rotate_left
              · intro w'
                go_simp
                with_reducible rfl
              rotate_left
              · simp only [Act.put, List.setIfInBounds_toArray, List.set_cons_zero, List.set_cons_succ, i64_w, i32_w]
                rfl
              refine one_ (i := 12) (N := some 15) #[true, true, true, true, true, true, true, true, true, true, true, true, true, false, false, false] rfl rfl (one_of HT_.out (by kernel_rfl)) (by decide) (fun K hK => ?_)
              refine goes_ Tryd.func35 (by kernel_rfl) rfl #[.string a0_2] (by rfl) rfl rfl (by (try simp only [List.map_toArray, List.map_cons, List.map_nil]); first | done | rfl | (simp only [List.length_drop, List.length_take]; rfl)) ?_
              with_reducible refine (tinderboxref02_Hex.calls k a0_2 t185 _ A8.out).mono ?_
              rintro e w15 ⟨rfl, hb⟩
              refine ⟨_, rfl, ?_⟩
              have n0_ := Aside0.mk (blk_below (g := gb182) (o := .cells #[.int .i64 a0_0, .int .i64 a0_1, .string a0_2] 23 (0, 0)) (by (with_reducible repeat (first | refine blk_drewN ?_ _ | refine blk_drew ?_ | refine blk_alloc ?_ _)); exact BK182.out) hb)
              have n1_ := Aside0.mk (below_step (by repeat (first | (with_reducible first | exact HB.out | apply below_alloc | apply pw_below_drewN | apply below_drew1 | refine below_set ?_ GE182.out) | exact HB.out)) hb)
              clear BK182
              clear HB
              have BK182 := n0_
              have HB := n1_
              clear n0_ n1_
              (try clear hb)
              (try clear hb2)
              (try clear hk)
              (try clear hi)
              refine hK.out _ _ ⟨(blk_cell BK182.out 0).trans rfl, (blk_cell BK182.out 1).trans rfl, (blk_cell BK182.out 2).trans rfl⟩ (fun hHeld => ?_)
              clear hK K
              refine norm_ (a' := ?_) ?_ ?_
              rotate_left
              · show Act.put _ (some 15) _ = _
                simp only [Act.put, List.setIfInBounds_toArray, List.set_cons_zero, List.set_cons_succ, i64_w, i32_w]
                rfl
              refine pure_ (i := 13) (N := some 16) (v := ?_) (a' := ?_) #[true, true, true, true, true, true, true, true, true, true, true, true, true, true, false, false] rfl rfl (any_of HT_.out (by kernel_rfl)) (fun _ _ _ h => h) (Or.inl ⟨by rfl, ?_⟩) ?_ ?_
              rotate_left
              · intro w'
                go_simp
                with_reducible rfl
              rotate_left
              · simp only [Act.put, List.setIfInBounds_toArray, List.set_cons_zero, List.set_cons_succ, i64_w, i32_w]
                rfl
              refine pure_ (i := 14) (N := some 17) (v := ?_) (a' := ?_) #[true, true, true, true, true, true, true, true, true, true, true, true, true, true, true, false] rfl rfl (any_of HT_.out (by kernel_rfl)) (fun _ _ _ h => h) (Or.inl ⟨by rfl, ?_⟩) ?_ ?_
              rotate_left
              · intro w'
                go_simp
                with_reducible rfl
              rotate_left
              · simp only [Act.put, List.setIfInBounds_toArray, List.set_cons_zero, List.set_cons_succ, i64_w, i32_w]
                rfl
              refine pure_ (i := 15) (N := some 2) (v := ?_) (a' := ?_) #[true, true, true, true, true, true, true, true, true, true, true, true, true, true, true, true] rfl rfl (any_of HT_.out (by kernel_rfl)) (fun _ _ _ h => h) (Or.inl ⟨by rfl, ?_⟩) ?_ ?_
              rotate_left
              · intro w'
                go_simp
                with_reducible rfl
              rotate_left
              · simp only [Act.put, List.setIfInBounds_toArray, List.set_cons_zero, List.set_cons_succ, i64_w, i32_w]
                rfl
              refine done_ (done_of HT_.out (by kernel_rfl)) ?_
              try go_wp2
              go_ret
              exact ⟨by first | rfl | (simp [errW_none, errW_some] <;> rfl) | (simp [*, errW_none, errW_some] <;> rfl), by repeat (first | (with_reducible first | exact HB.out | apply below_alloc | apply pw_below_drewN | apply below_drew1 | refine below_set ?_ GE182.out) | exact HB.out)⟩
            · rw [if_neg c10] at H
              exact absurd H (by simp)
          · rw [if_neg c9] at H
            exact absurd H (by simp)
        · rw [if_neg c7] at H
          exact absurd H (by simp)
      · rw [if_neg c6] at H
        exact absurd H (by simp)
    · rw [if_neg c4] at H
      exact absurd H (by simp)
  · rw [if_neg c3] at H
    exact absurd H (by simp)

/-! ### tinderboxlaw20_ManifestTexts: function 3 -/
def tinderboxlaw20_ManifestTexts.f (k : Nat) (a0 : Int) (a1 : Int) (a2 : ByteArray) : Option (Bool) := (tinderboxlaw20_few.f a2).bind fun t186 => ((tinderboxlaw20_cut.f a0 a1 t186).bind fun bt187 => ((manifest_Text.f k bt187.1 bt187.2.1 bt187.2.2).bind fun t191 => ((manifest_Parse.f k t191).bind fun bt192 => ((tinderboxlaw20_awake.f k).bind fun t198 => (if t198 = true then ((tinderboxref20_Text.f k bt187.1 bt187.2.1 bt187.2.2).bind fun t199 => (if t191.toList = t199.toList then (if bt192.2.2.2.2 = 0 then (if bt192.2.2.2.1 = 0 then (if (bt192.1 == bt187.1 && (bt192.2.1 == bt187.2.1 && (bt192.2.2.1.toList == bt187.2.2.toList))) = true then ((manifest_Check.f bt187.1 bt187.2.1 bt187.2.2).bind fun t200 => (some t200)) else (some false)) else (some false)) else (some false)) else (some false))) else (some false))))))
theorem tinderboxlaw20_ManifestTexts.mono : ∀ a0 a1 a2 k, LeO (tinderboxlaw20_ManifestTexts.f k a0 a1 a2) (tinderboxlaw20_ManifestTexts.f (k + 1) a0 a1 a2) := by
  intro a0 a1 a2 k
  unfold tinderboxlaw20_ManifestTexts.f
  repeat' first
      | (with_reducible exact manifest_Parse.mono _ _)
      | (with_reducible exact manifest_Text.mono _ _ _ _)
      | (with_reducible exact tinderboxlaw20_awake.mono _)
      | (with_reducible exact tinderboxref20_Text.mono _ _ _ _)
      | (with_reducible exact LeO.refl _)
      | (with_reducible exact LeO.none _)
      | (with_reducible refine LeO.ite ?_ ?_)
      | (with_reducible refine LeO.bind ?_ (fun _ => ?_))
      | exact manifest_Parse.mono _ _
      | exact manifest_Text.mono _ _ _ _
      | exact tinderboxlaw20_awake.mono _
      | exact tinderboxref20_Text.mono _ _ _ _
      | exact LeO.none _
      | refine LeO.ite ?_ ?_
      | refine LeO.bind ?_ (fun _ => ?_)
set_option maxHeartbeats 8000000 in
set_option maxRecDepth 100000 in
theorem tinderboxlaw20_ManifestTexts.calls (k : Nat) (a0 : Int) (a1 : Int) (a2 : ByteArray) (r : Bool) (w : World) (h : tinderboxlaw20_ManifestTexts.f k a0 a1 a2 = some r) (hr_ : r = true) :
    Calls Tryd.prog 3 #[.int .i64 a0, .int .i64 a1, .string a2] w fun e w' => e = .returned (.bool r) ∧ Below w.heap.size w w' := by
  have hu23 := Tryd.underlying23
  have HB := Aside0.mk (Below.refl w.heap.size w)
  have H : ((tinderboxlaw20_few.f a2).bind fun t186 => ((tinderboxlaw20_cut.f a0 a1 t186).bind fun bt187 => ((manifest_Text.f k bt187.1 bt187.2.1 bt187.2.2).bind fun t191 => ((manifest_Parse.f k t191).bind fun bt192 => ((tinderboxlaw20_awake.f k).bind fun t198 => (if t198 = true then ((tinderboxref20_Text.f k bt187.1 bt187.2.1 bt187.2.2).bind fun t199 => (if t191.toList = t199.toList then (if bt192.2.2.2.2 = 0 then (if bt192.2.2.2.1 = 0 then (if (bt192.1 == bt187.1 && (bt192.2.1 == bt187.2.1 && (bt192.2.2.1.toList == bt187.2.2.toList))) = true then ((manifest_Check.f bt187.1 bt187.2.1 bt187.2.2).bind fun t200 => (some t200)) else (some false)) else (some false)) else (some false)) else (some false))) else (some false))))))) = some r := h
  clear h
  replace H := Option.bind_eq_some_iff.mp H
  obtain ⟨t186, A40, H⟩ := H
  replace H : ((tinderboxlaw20_cut.f a0 a1 t186).bind fun bt187 => ((manifest_Text.f k bt187.1 bt187.2.1 bt187.2.2).bind fun t191 => ((manifest_Parse.f k t191).bind fun bt192 => ((tinderboxlaw20_awake.f k).bind fun t198 => (if t198 = true then ((tinderboxref20_Text.f k bt187.1 bt187.2.1 bt187.2.2).bind fun t199 => (if t191.toList = t199.toList then (if bt192.2.2.2.2 = 0 then (if bt192.2.2.2.1 = 0 then (if (bt192.1 == bt187.1 && (bt192.2.1 == bt187.2.1 && (bt192.2.2.1.toList == bt187.2.2.toList))) = true then ((manifest_Check.f bt187.1 bt187.2.1 bt187.2.2).bind fun t200 => (some t200)) else (some false)) else (some false)) else (some false)) else (some false))) else (some false)))))) = some r := H
  have A4 := Aside0.mk A40
  clear A40
  replace H := Option.bind_eq_some_iff.mp H
  obtain ⟨⟨t187, t188, t189⟩, A50, H⟩ := H
  replace H : ((manifest_Text.f k t187 t188 t189).bind fun t191 => ((manifest_Parse.f k t191).bind fun bt192 => ((tinderboxlaw20_awake.f k).bind fun t198 => (if t198 = true then ((tinderboxref20_Text.f k t187 t188 t189).bind fun t199 => (if t191.toList = t199.toList then (if bt192.2.2.2.2 = 0 then (if bt192.2.2.2.1 = 0 then (if (bt192.1 == t187 && (bt192.2.1 == t188 && (bt192.2.2.1.toList == t189.toList))) = true then ((manifest_Check.f t187 t188 t189).bind fun t200 => (some t200)) else (some false)) else (some false)) else (some false)) else (some false))) else (some false))))) = some r := H
  have A5 := Aside0.mk A50
  clear A50
  replace H := Option.bind_eq_some_iff.mp H
  obtain ⟨t191, A60, H⟩ := H
  replace H : ((manifest_Parse.f k t191).bind fun bt192 => ((tinderboxlaw20_awake.f k).bind fun t198 => (if t198 = true then ((tinderboxref20_Text.f k t187 t188 t189).bind fun t199 => (if t191.toList = t199.toList then (if bt192.2.2.2.2 = 0 then (if bt192.2.2.2.1 = 0 then (if (bt192.1 == t187 && (bt192.2.1 == t188 && (bt192.2.2.1.toList == t189.toList))) = true then ((manifest_Check.f t187 t188 t189).bind fun t200 => (some t200)) else (some false)) else (some false)) else (some false)) else (some false))) else (some false)))) = some r := H
  have A6 := Aside0.mk A60
  clear A60
  replace H := Option.bind_eq_some_iff.mp H
  obtain ⟨⟨t192, t193, t194, t195, t196⟩, A70, H⟩ := H
  replace H : ((tinderboxlaw20_awake.f k).bind fun t198 => (if t198 = true then ((tinderboxref20_Text.f k t187 t188 t189).bind fun t199 => (if t191.toList = t199.toList then (if t196 = 0 then (if t195 = 0 then (if (t192 == t187 && (t193 == t188 && (t194.toList == t189.toList))) = true then ((manifest_Check.f t187 t188 t189).bind fun t200 => (some t200)) else (some false)) else (some false)) else (some false)) else (some false))) else (some false))) = some r := H
  have A7 := Aside0.mk A70
  clear A70
  replace H := Option.bind_eq_some_iff.mp H
  obtain ⟨t198, A80, H⟩ := H
  replace H : (if t198 = true then ((tinderboxref20_Text.f k t187 t188 t189).bind fun t199 => (if t191.toList = t199.toList then (if t196 = 0 then (if t195 = 0 then (if (t192 == t187 && (t193 == t188 && (t194.toList == t189.toList))) = true then ((manifest_Check.f t187 t188 t189).bind fun t200 => (some t200)) else (some false)) else (some false)) else (some false)) else (some false))) else (some false)) = some r := H
  have A8 := Aside0.mk A80
  clear A80
  by_cases c9 : t198 = true
  · subst c9
    have H1 : ((tinderboxref20_Text.f k t187 t188 t189).bind fun t199 => (if t191.toList = t199.toList then (if t196 = 0 then (if t195 = 0 then (if (t192 == t187 && (t193 == t188 && (t194.toList == t189.toList))) = true then ((manifest_Check.f t187 t188 t189).bind fun t200 => (some t200)) else (some false)) else (some false)) else (some false)) else (some false))) = some r := by rw [if_pos rfl] at H; exact H
    clear H
    have H := H1
    clear H1
    replace H := Option.bind_eq_some_iff.mp H
    obtain ⟨t199, A100, H⟩ := H
    replace H : (if t191.toList = t199.toList then (if t196 = 0 then (if t195 = 0 then (if (t192 == t187 && (t193 == t188 && (t194.toList == t189.toList))) = true then ((manifest_Check.f t187 t188 t189).bind fun t200 => (some t200)) else (some false)) else (some false)) else (some false)) else (some false)) = some r := H
    have A10 := Aside0.mk A100
    clear A100
    by_cases c11 : t191.toList = t199.toList
    · rw [if_pos c11] at H
      have c11b0 : (t191.toList == t199.toList) = true := beq_iff_eq.mpr c11
      have c11b1 : (t191.toList != t199.toList) = false := bne_eq_false_iff_eq.mpr c11
      clear c11
      by_cases c12 : t196 = 0
      · rw [if_pos c12] at H
        have c12b0 : (t196 == 0) = true := beq_iff_eq.mpr c12
        have c12b1 : (t196 != 0) = false := bne_eq_false_iff_eq.mpr c12
        clear c12
        by_cases c13 : t195 = 0
        · rw [if_pos c13] at H
          have c13b0 : (t195 == 0) = true := beq_iff_eq.mpr c13
          have c13b1 : (t195 != 0) = false := bne_eq_false_iff_eq.mpr c13
          clear c13
          by_cases c14 : (t192 == t187 && (t193 == t188 && (t194.toList == t189.toList))) = true
          · rw [if_pos c14] at H
            have c14b0 : (t192 == t187 && (t193 == t188 && (t194.toList == t189.toList))) = true := c14
            (try (have c14b1 : decide (t192 = t187 && (t193 == t188 && (t194.toList == t189.toList))) = true := by simpa using c14))
            (try (have c14b2 : (t192 == t187 && (t193 == t188 && (t194.toList == t189.toList))) = true := by simpa using c14))
            clear c14
            replace H := Option.bind_eq_some_iff.mp H
            obtain ⟨t200, A150, H⟩ := H
            replace H : (some t200) = some r := H
            have A15 := Aside0.mk A150
            clear A150
            clear hr_
            obtain rfl := Option.some.inj H
            go_enter Tryd.func3, Tryd.ntmps3
            go_wp2_with (first | ((with_reducible refine gate_callee (f := 9) rfl ?_); refine goesL_ (some 15) rfl rfl Tryd.func9 (by kernel_rfl) rfl #[.string a2] rfl (by (try simp only [List.map_toArray, List.map_cons, List.map_nil]); first | done | rfl | (simp only [List.length_drop, List.length_take]; rfl)) ?_; (with_reducible refine (tinderboxlaw20_few.calls a2 t186 _ A4.out).mono ?_); rintro e w' ⟨rfl, ⟨nd, rfl⟩⟩; refine ⟨_, rfl, ?_⟩) | ((with_reducible refine gate_callee (f := 8) rfl ?_); refine goesL_ (some 16) rfl rfl Tryd.func8 (by kernel_rfl) rfl #[.int .i64 a0, .int .i64 a1, .string t186] rfl (by (try simp only [List.map_toArray, List.map_cons, List.map_nil]); first | done | rfl | (simp only [List.length_drop, List.length_take]; rfl)) ?_; (with_reducible refine (tinderboxlaw20_cut.calls a0 a1 t186 t187 t188 t189 _ A5.out).mono ?_); rintro e w16 ⟨rfl, hb⟩; refine ⟨_, rfl, ?_⟩; have n0_ := Aside0.mk (below_step (by repeat (first | (with_reducible first | exact HB.out | apply below_alloc | apply pw_below_drewN | apply below_drew1) | exact HB.out)) hb); clear HB; have HB := n0_; clear n0_; (try clear hb); (try clear hb2); (try clear hk); (try clear hi)) | ((with_reducible refine gate_dst (N := 7) rfl ?_); refine box_event ?hg (N := 7) ?hd (cs := #[.int .i64 0, .int .i64 0, .string (⟨#[]⟩ : ByteArray)]) (t := 23) ?hr ?_; (case hd => rfl); (case hg => rfl); (case hr => first | (go_simp; done) | (go_simp; rfl)); intro gb190 hg w17 hbox hb; have n0_ := Aside0.mk (below_step (by repeat (first | (with_reducible first | exact HB.out | apply below_alloc | apply pw_below_drewN | apply below_drew1) | exact HB.out)) hb); have n1_ := Aside0.mk (hbox); have n2_ := Aside0.mk ((by rw [hg]; exact (below_size (by repeat (first | (with_reducible first | exact HB.out | apply below_alloc | apply pw_below_drewN | apply below_drew1) | exact HB.out))) : w.heap.size ≤ gb190)); have n3_ := Aside0.mk ((by rw [hg]; exact (below_size (by repeat (first | (with_reducible first | exact HB.out | apply below_alloc | apply pw_below_drewN | apply below_drew1) | exact HB.out))) : w.heap.size ≤ gb190)); clear HB; have HB := n0_; have BK190 := n1_; have GW190 := n2_; have GE190 := n3_; clear n0_ n1_ n2_ n3_; clear hb hbox hg; have hcz18_0 : w17.cell? ⟨gb190, 0, none⟩ = some (.int .i64 0) := (blk_cell BK190.out 0).trans rfl; have hcz18_1 : w17.cell? ⟨gb190, 1, none⟩ = some (.int .i64 0) := (blk_cell BK190.out 1).trans rfl; have hcz18_2 : w17.cell? ⟨gb190, 2, none⟩ = some (.string (⟨#[]⟩ : ByteArray)) := (blk_cell BK190.out 2).trans rfl; have hfz18_0 := blk_frozen BK190.out 0; have hfz18_1 := blk_frozen BK190.out 1; have hfz18_2 := blk_frozen BK190.out 2) | ((with_reducible refine gate_callee (f := 10) rfl ?_); refine goesL_ (some 18) rfl rfl Tryd.func10 (by kernel_rfl) rfl #[.agg #[.int .i64 t187, .int .i64 t188, .string t189]] rfl (by (try simp only [List.map_toArray, List.map_cons, List.map_nil]); first | done | rfl | (simp only [List.length_drop, List.length_take]; rfl)) ?_; (with_reducible refine (manifest_Text.calls k t187 t188 t189 t191 _ A6.out).mono ?_); rintro e w19 ⟨rfl, hb⟩; refine ⟨_, rfl, ?_⟩; have n0_ := Aside0.mk (blk_below (g := gb190) (o := .cells #[.int .i64 t187, .int .i64 t188, .string t189] 23 (0, 0)) (by (with_reducible repeat (first | refine blk_drewN ?_ _ | refine blk_drew ?_ | refine blk_alloc ?_ _)); refine blk_put (cs := #[.int .i64 t187, .int .i64 t188, .string (⟨#[]⟩ : ByteArray)]) ?_ 2 _ rfl; (with_reducible repeat (first | refine blk_drewN ?_ _ | refine blk_drew ?_ | refine blk_alloc ?_ _)); refine blk_put (cs := #[.int .i64 t187, .int .i64 0, .string (⟨#[]⟩ : ByteArray)]) ?_ 1 _ rfl; (with_reducible repeat (first | refine blk_drewN ?_ _ | refine blk_drew ?_ | refine blk_alloc ?_ _)); refine blk_put (cs := #[.int .i64 0, .int .i64 0, .string (⟨#[]⟩ : ByteArray)]) ?_ 0 _ rfl; (with_reducible repeat (first | refine blk_drewN ?_ _ | refine blk_drew ?_ | refine blk_alloc ?_ _)); exact BK190.out) hb); have n1_ := Aside0.mk (below_step (by repeat (first | (with_reducible first | exact HB.out | apply below_alloc | apply pw_below_drewN | apply below_drew1 | refine below_set ?_ GE190.out) | exact HB.out)) hb); clear BK190; clear HB; have BK190 := n0_; have HB := n1_; clear n0_ n1_; (try clear hb); (try clear hb2); (try clear hk); (try clear hi)) | ((with_reducible refine gate_callee (f := 11) rfl ?_); refine goesL_ (some 21) rfl rfl Tryd.func11 (by kernel_rfl) rfl #[.string t191] rfl (by (try simp only [List.map_toArray, List.map_cons, List.map_nil]); first | done | rfl | (simp only [List.length_drop, List.length_take]; rfl)) ?_; (with_reducible refine (manifest_Parse.calls k t191 t192 t193 t194 t195 t196 _ A7.out).mono ?_); rintro e w20 ⟨rfl, hb⟩; refine ⟨_, rfl, ?_⟩; have n0_ := Aside0.mk (blk_below (g := gb190) (o := .cells #[.int .i64 t187, .int .i64 t188, .string t189] 23 (0, 0)) (by (with_reducible repeat (first | refine blk_drewN ?_ _ | refine blk_drew ?_ | refine blk_alloc ?_ _)); exact BK190.out) hb); have n1_ := Aside0.mk (below_step (by repeat (first | (with_reducible first | exact HB.out | apply below_alloc | apply pw_below_drewN | apply below_drew1 | refine below_set ?_ GE190.out) | exact HB.out)) hb); clear BK190; clear HB; have BK190 := n0_; have HB := n1_; clear n0_ n1_; (try clear hb); (try clear hb2); (try clear hk); (try clear hi)) | ((with_reducible refine gate_dst (N := 9) rfl ?_); refine box_event ?hg (N := 9) ?hd (cs := #[.int .i64 0, .int .i64 0, .string (⟨#[]⟩ : ByteArray)]) (t := 23) ?hr ?_; (case hd => rfl); (case hg => rfl); (case hr => first | (go_simp; done) | (go_simp; rfl)); intro gb197 hg w21 hbox hb; have n0_ := Aside0.mk (blk_below (g := gb190) (o := .cells #[.int .i64 t187, .int .i64 t188, .string t189] 23 (0, 0)) (by (with_reducible repeat (first | refine blk_drewN ?_ _ | refine blk_drew ?_ | refine blk_alloc ?_ _)); exact BK190.out) hb); have n1_ := Aside0.mk (below_step (by repeat (first | (with_reducible first | exact HB.out | apply below_alloc | apply pw_below_drewN | apply below_drew1 | refine below_set ?_ GE190.out) | exact HB.out)) hb); have n2_ := Aside0.mk (hbox); have n3_ := Aside0.mk ((by rw [hg]; exact (below_size (by repeat (first | (with_reducible first | exact HB.out | apply below_alloc | apply pw_below_drewN | apply below_drew1 | refine below_set ?_ GE190.out) | exact HB.out))) : w.heap.size ≤ gb197)); have n4_ := Aside0.mk ((by rw [hg]; exact (below_size (by repeat (first | (with_reducible first | exact HB.out | apply below_alloc | apply pw_below_drewN | apply below_drew1 | refine below_set ?_ GE190.out) | exact HB.out))) : w.heap.size ≤ gb197)); have n5_ := Aside0.mk ((by rw [hg]; exact Nat.ne_of_lt (blk_lt (g := gb190) (o := .cells #[.int .i64 t187, .int .i64 t188, .string t189] 23 (0, 0)) (by (with_reducible repeat (first | refine blk_drewN ?_ _ | refine blk_drew ?_ | refine blk_alloc ?_ _)); exact BK190.out)) : gb190 ≠ gb197)); have n6_ := Aside0.mk ((by rw [hg]; exact Nat.ne_of_gt (blk_lt (g := gb190) (o := .cells #[.int .i64 t187, .int .i64 t188, .string t189] 23 (0, 0)) (by (with_reducible repeat (first | refine blk_drewN ?_ _ | refine blk_drew ?_ | refine blk_alloc ?_ _)); exact BK190.out)) : gb197 ≠ gb190)); clear BK190; clear HB; have BK190 := n0_; have HB := n1_; have BK197 := n2_; have GW197 := n3_; have GE197 := n4_; have NB190_197 := n5_; have NB197_190 := n6_; clear n0_ n1_ n2_ n3_ n4_ n5_ n6_; clear hb hbox hg; have hnb22 := NB197_190.out; have hnc22 := NB190_197.out; have hcz23_0 : w21.cell? ⟨gb197, 0, none⟩ = some (.int .i64 0) := (blk_cell BK197.out 0).trans rfl; have hcz23_1 : w21.cell? ⟨gb197, 1, none⟩ = some (.int .i64 0) := (blk_cell BK197.out 1).trans rfl; have hcz23_2 : w21.cell? ⟨gb197, 2, none⟩ = some (.string (⟨#[]⟩ : ByteArray)) := (blk_cell BK197.out 2).trans rfl; have hfz23_0 := blk_frozen BK197.out 0; have hfz23_1 := blk_frozen BK197.out 1; have hfz23_2 := blk_frozen BK197.out 2) | ((with_reducible refine gate_callee (f := 12) rfl ?_); refine goesL_ (some 25) rfl rfl Tryd.func12 (by kernel_rfl) rfl #[] rfl (by (try simp only [List.map_toArray, List.map_cons, List.map_nil]); first | done | rfl | (simp only [List.length_drop, List.length_take]; rfl)) ?_; (with_reducible refine (tinderboxlaw20_awake.calls k  true _ A8.out).mono ?_); rintro e w24 ⟨rfl, hb⟩; refine ⟨_, rfl, ?_⟩; have n0_ := Aside0.mk (blk_below (g := gb190) (o := .cells #[.int .i64 t187, .int .i64 t188, .string t189] 23 (0, 0)) (by (with_reducible repeat (first | refine blk_drewN ?_ _ | refine blk_drew ?_ | refine blk_alloc ?_ _)); refine blk_far ?_ NB190_197.out _; (with_reducible repeat (first | refine blk_drewN ?_ _ | refine blk_drew ?_ | refine blk_alloc ?_ _)); refine blk_far ?_ NB190_197.out _; (with_reducible repeat (first | refine blk_drewN ?_ _ | refine blk_drew ?_ | refine blk_alloc ?_ _)); refine blk_far ?_ NB190_197.out _; (with_reducible repeat (first | refine blk_drewN ?_ _ | refine blk_drew ?_ | refine blk_alloc ?_ _)); exact BK190.out) hb); have n1_ := Aside0.mk (blk_below (g := gb197) (o := .cells #[.int .i64 t192, .int .i64 t193, .string t194] 23 (0, 0)) (by (with_reducible repeat (first | refine blk_drewN ?_ _ | refine blk_drew ?_ | refine blk_alloc ?_ _)); refine blk_put (cs := #[.int .i64 t192, .int .i64 t193, .string (⟨#[]⟩ : ByteArray)]) ?_ 2 _ rfl; (with_reducible repeat (first | refine blk_drewN ?_ _ | refine blk_drew ?_ | refine blk_alloc ?_ _)); refine blk_put (cs := #[.int .i64 t192, .int .i64 0, .string (⟨#[]⟩ : ByteArray)]) ?_ 1 _ rfl; (with_reducible repeat (first | refine blk_drewN ?_ _ | refine blk_drew ?_ | refine blk_alloc ?_ _)); refine blk_put (cs := #[.int .i64 0, .int .i64 0, .string (⟨#[]⟩ : ByteArray)]) ?_ 0 _ rfl; (with_reducible repeat (first | refine blk_drewN ?_ _ | refine blk_drew ?_ | refine blk_alloc ?_ _)); exact BK197.out) hb); have n2_ := Aside0.mk (below_step (by repeat (first | (with_reducible first | exact HB.out | apply below_alloc | apply pw_below_drewN | apply below_drew1 | refine below_set ?_ GE190.out | refine below_set ?_ GE197.out) | exact HB.out)) hb); clear BK190; clear BK197; clear HB; have BK190 := n0_; have BK197 := n1_; have HB := n2_; clear n0_ n1_ n2_; (try clear hb); (try clear hb2); (try clear hk); (try clear hi); have hcz25_0 : w24.cell? ⟨gb190, 0, none⟩ = some (.int .i64 t187) := (blk_cell BK190.out 0).trans rfl; have hcz25_1 : w24.cell? ⟨gb190, 1, none⟩ = some (.int .i64 t188) := (blk_cell BK190.out 1).trans rfl; have hcz25_2 : w24.cell? ⟨gb190, 2, none⟩ = some (.string t189) := (blk_cell BK190.out 2).trans rfl; have hfz25_0 := blk_frozen BK190.out 0; have hfz25_1 := blk_frozen BK190.out 1; have hfz25_2 := blk_frozen BK190.out 2) | (go_at_call 13; (with_reducible refine (tinderboxref20_Text.calls k t187 t188 t189 t199 _ A10.out).mono ?_); rintro e w26 ⟨rfl, hb⟩; have n0_ := Aside0.mk (blk_below (g := gb190) (o := .cells #[.int .i64 t187, .int .i64 t188, .string t189] 23 (0, 0)) (by (with_reducible repeat (first | refine blk_drewN ?_ _ | refine blk_drew ?_ | refine blk_alloc ?_ _)); exact BK190.out) hb); have n1_ := Aside0.mk (blk_below (g := gb197) (o := .cells #[.int .i64 t192, .int .i64 t193, .string t194] 23 (0, 0)) (by (with_reducible repeat (first | refine blk_drewN ?_ _ | refine blk_drew ?_ | refine blk_alloc ?_ _)); exact BK197.out) hb); have n2_ := Aside0.mk (below_step (by repeat (first | (with_reducible first | exact HB.out | apply below_alloc | apply pw_below_drewN | apply below_drew1 | refine below_set ?_ GE190.out | refine below_set ?_ GE197.out) | exact HB.out)) hb); clear BK190; clear BK197; clear HB; have BK190 := n0_; have BK197 := n1_; have HB := n2_; clear n0_ n1_ n2_; (try clear hb); (try clear hb2); (try clear hk); (try clear hi); have hcz27_0 : w26.cell? ⟨gb197, 0, none⟩ = some (.int .i64 t192) := (blk_cell BK197.out 0).trans rfl; have hcz27_1 : w26.cell? ⟨gb197, 1, none⟩ = some (.int .i64 t193) := (blk_cell BK197.out 1).trans rfl; have hcz27_2 : w26.cell? ⟨gb197, 2, none⟩ = some (.string t194) := (blk_cell BK197.out 2).trans rfl; have hfz27_0 := blk_frozen BK197.out 0; have hfz27_1 := blk_frozen BK197.out 1; have hfz27_2 := blk_frozen BK197.out 2; have hcz28_0 : w26.cell? ⟨gb190, 0, none⟩ = some (.int .i64 t187) := (blk_cell BK190.out 0).trans rfl; have hcz28_1 : w26.cell? ⟨gb190, 1, none⟩ = some (.int .i64 t188) := (blk_cell BK190.out 1).trans rfl; have hcz28_2 : w26.cell? ⟨gb190, 2, none⟩ = some (.string t189) := (blk_cell BK190.out 2).trans rfl; have hfz28_0 := blk_frozen BK190.out 0; have hfz28_1 := blk_frozen BK190.out 1; have hfz28_2 := blk_frozen BK190.out 2) | (go_at_call 14; (with_reducible refine (manifest_Check.calls t187 t188 t189 t200 _ A15.out).mono ?_); rintro e w29 ⟨rfl, hb⟩; have n0_ := Aside0.mk (blk_below (g := gb190) (o := .cells #[.int .i64 t187, .int .i64 t188, .string t189] 23 (0, 0)) (by (with_reducible repeat (first | refine blk_drewN ?_ _ | refine blk_drew ?_ | refine blk_alloc ?_ _)); exact BK190.out) hb); have n1_ := Aside0.mk (blk_below (g := gb197) (o := .cells #[.int .i64 t192, .int .i64 t193, .string t194] 23 (0, 0)) (by (with_reducible repeat (first | refine blk_drewN ?_ _ | refine blk_drew ?_ | refine blk_alloc ?_ _)); exact BK197.out) hb); have n2_ := Aside0.mk (below_step (by repeat (first | (with_reducible first | exact HB.out | apply below_alloc | apply pw_below_drewN | apply below_drew1 | refine below_set ?_ GE190.out | refine below_set ?_ GE197.out) | exact HB.out)) hb); clear BK190; clear BK197; clear HB; have BK190 := n0_; have BK197 := n1_; have HB := n2_; clear n0_ n1_ n2_; (try clear hb); (try clear hb2); (try clear hk); (try clear hi)))
            go_ret
            exact ⟨by first | rfl | (simp [errW_none, errW_some] <;> rfl) | (simp [*, errW_none, errW_some] <;> rfl), by repeat (first | (with_reducible first | exact HB.out | apply below_alloc | apply pw_below_drewN | apply below_drew1 | refine below_set ?_ GE190.out | refine below_set ?_ GE197.out) | exact HB.out)⟩
          · rw [if_neg c14] at H
            have c14b0 : (t192 == t187 && (t193 == t188 && (t194.toList == t189.toList))) = false := by simpa using c14
            (try (have c14b1 : decide (t192 = t187 && (t193 == t188 && (t194.toList == t189.toList))) = false := by simpa using c14))
            (try (have c14b2 : (t192 == t187 && (t193 == t188 && (t194.toList == t189.toList))) = false := by simpa using c14))
            (try (have c14b3 : ¬ (t192 = t187 && (t193 == t188 && (t194.toList == t189.toList))) := by simpa using c14))
            clear c14
            exact absurd ((Option.some.inj H).trans hr_) (by decide)
        · rw [if_neg c13] at H
          have c13b0 : (t195 == 0) = false := beq_eq_false_iff_ne.mpr c13
          have c13b1 : (t195 != 0) = true := bne_iff_ne.mpr c13
          exact absurd ((Option.some.inj H).trans hr_) (by decide)
      · rw [if_neg c12] at H
        have c12b0 : (t196 == 0) = false := beq_eq_false_iff_ne.mpr c12
        have c12b1 : (t196 != 0) = true := bne_iff_ne.mpr c12
        exact absurd ((Option.some.inj H).trans hr_) (by decide)
    · rw [if_neg c11] at H
      have c11b0 : (t191.toList == t199.toList) = false := beq_eq_false_iff_ne.mpr c11
      have c11b1 : (t191.toList != t199.toList) = true := bne_iff_ne.mpr c11
      exact absurd ((Option.some.inj H).trans hr_) (by decide)
  · replace c9 := Bool.eq_false_iff.mpr c9
    subst c9
    have H1 : (some false) = some r := by rw [if_neg (show ¬ (false = true) by decide)] at H; exact H
    clear H
    have H := H1
    clear H1
    exact absurd ((Option.some.inj H).trans hr_) (by decide)

/-- THE ONE PURE STATEMENT of tinderboxlaw20_ManifestTexts: yours. -/
def tinderboxlaw20_ManifestTexts.Pure : Prop := ∀ (a0 : Int) (a1 : Int) (a2 : ByteArray), (Lit.int .i64 a0).wf = true → (Lit.int .i64 a1).wf = true → a2.size ≤ 140737488351232 → ∃ k, tinderboxlaw20_ManifestTexts.f k a0 a1 a2 = some true
theorem tinderboxlaw20_ManifestTexts.walk (P : tinderboxlaw20_ManifestTexts.Pure) (a0 : Int) (a1 : Int) (a2 : ByteArray) (w : World) (w0 : (Lit.int .i64 a0).wf = true) (w1 : (Lit.int .i64 a1).wf = true) (w2 : a2.size ≤ 140737488351232) :
    Calls Tryd.prog 3 #[.int .i64 a0, .int .i64 a1, .string a2] w fun e w' => e = .returned (.bool true) ∧ Below w.heap.size w w' := by
  obtain ⟨k, h⟩ := P a0 a1 a2 w0 w1 w2
  refine (tinderboxlaw20_ManifestTexts.calls k a0 a1 a2 true w h rfl).mono ?_
  rintro e w' ⟨rfl, hd⟩
  exact ⟨rfl, hd⟩

end Go.Proofs.YtjmabdgebhndhaaDoor.XManifestTexts
