/- The digest's parts: walked by hand, but for some short functions that are printed. Conditions: none. -/
import Derived.Test.YtomenklhgofjaaaProg
import Derived.Below
import Derived.Deep.Draws
import Derived.Deep.AppendLies
import Derived.Maps.AppendAt
import Derived.OwnWalk
import Derived.Laws.BytesArg
import Derived.Laws.MakeOwn
import Derived.Laws.OwnMore
import Derived.Deep.OwnRows
import Derived.Tactics
import Derived.Lib.ConvBytes
import Derived.Laws.Slices
import Derived.WalkKit
import Derived.KernelRfl
import Derived.RowKit3
import Derived.Deep.LoopGhost
import Derived.Deep.QuietTactic
import Derived.BigQuiet
import Derived.WideLaws
import Derived.Deep.DeepCutAuto
import Derived.Deep.CutBlock
import Derived.Deep.RegionHeld3
import Derived.Laws.Rows
import Derived.Lib.AppendStr
import Derived.ArgAppend
import Derived.Laws.IdiomCopy
import Derived.OrdersHeld
import Derived.Laws.BitsLemmas
import Derived.RowKit
import Derived.Test.YtomenklhgofjaaaYW
import Derived.BigRegion
import Derived.StillTailTactics
import Derived.Laws.Externs
import Derived.WalkMore
import Derived.Laws.CopyOwn
set_option linter.unusedVariables false
set_option linter.unusedSimpArgs false
namespace Go.Proofs.Ytomenklhgofjaaa.Sh
open Go.RowKit Go.Proofs.YtomenklhgofjaaaW.PrintWords Go.Proofs.YtomenklhgofjaaaW.PrintLast Go.Proofs.YtomenklhgofjaaaW.PrintMore
attribute [local go_sem] max2_int min2_int max_two min_two max_three min_three max_four min_four
theorem info71 : (Try.prog.info? 71).map (fun i => (i.zero, i.size, i.bytes)) = some (some (.int .u64 0), 1, 8) := by kernel_rfl
theorem info63 : (Try.prog.info? 63).map (fun i => (i.zero, i.size, i.bytes)) = some (some (.int .u32 0), 1, 4) := by kernel_rfl
theorem info5 : (Try.prog.info? 5).map (fun i => (i.zero, i.size, i.bytes)) = some (some (.int .u8 0), 1, 1) := by kernel_rfl
/-! ### bits_Mul64: function 70 -/
def bits_Mul64.f (a0 : Int) (a1 : Int) : Option (Int × Int) := some (IntKind.u64.wrap ((IntKind.u64.wrap ((IntKind.u64.wrap ((a0 / 4294967296) * (a1 / 4294967296))) + ((IntKind.u64.wrap ((IntKind.u64.wrap ((a0 / 4294967296) * (Go.bits .and .u64 a1 4294967295))) + ((IntKind.u64.wrap ((Go.bits .and .u64 a0 4294967295) * (Go.bits .and .u64 a1 4294967295))) / 4294967296))) / 4294967296))) + ((IntKind.u64.wrap ((Go.bits .and .u64 (IntKind.u64.wrap ((IntKind.u64.wrap ((a0 / 4294967296) * (Go.bits .and .u64 a1 4294967295))) + ((IntKind.u64.wrap ((Go.bits .and .u64 a0 4294967295) * (Go.bits .and .u64 a1 4294967295))) / 4294967296))) 4294967295) + (IntKind.u64.wrap ((Go.bits .and .u64 a0 4294967295) * (a1 / 4294967296))))) / 4294967296)), IntKind.u64.wrap (a0 * a1))
set_option maxHeartbeats 8000000 in
set_option maxRecDepth 100000 in
theorem bits_Mul64.calls (a0 : Int) (a1 : Int) (r1 : Int) (r2 : Int) (w : World) (h : bits_Mul64.f a0 a1 = some (r1, r2)) :
    Calls Try.prog 70 #[.int .u64 a0, .int .u64 a1] w fun e w' => e = .returned (.tuple #[.int .u64 r1, .int .u64 r2]) ∧ Drawn0 w w' := by
  have H : (some (IntKind.u64.wrap ((IntKind.u64.wrap ((IntKind.u64.wrap ((a0 / 4294967296) * (a1 / 4294967296))) + ((IntKind.u64.wrap ((IntKind.u64.wrap ((a0 / 4294967296) * (Go.bits .and .u64 a1 4294967295))) + ((IntKind.u64.wrap ((Go.bits .and .u64 a0 4294967295) * (Go.bits .and .u64 a1 4294967295))) / 4294967296))) / 4294967296))) + ((IntKind.u64.wrap ((Go.bits .and .u64 (IntKind.u64.wrap ((IntKind.u64.wrap ((a0 / 4294967296) * (Go.bits .and .u64 a1 4294967295))) + ((IntKind.u64.wrap ((Go.bits .and .u64 a0 4294967295) * (Go.bits .and .u64 a1 4294967295))) / 4294967296))) 4294967295) + (IntKind.u64.wrap ((Go.bits .and .u64 a0 4294967295) * (a1 / 4294967296))))) / 4294967296)), IntKind.u64.wrap (a0 * a1))) = some (r1, r2) := h
  clear h
  simp only [Option.some.injEq, Prod.mk.injEq] at H
  obtain ⟨rfl, rfl⟩ := H
  go_enter Try.func70, Try.ntmps70
  go_wp2
  go_ret2
  exact ⟨by first | rfl | (simp; done) | (simp [*]; done), by repeat (first | exact Drawn0.refl _ | apply Drawn0.step)⟩

/-! ### sha_square: function 62 -/
def sha_square.f (a0 : Int) (a1 : Int) : Option (Bool) := (bits_Mul64.f a0 a0).bind fun bt101 => (if bt101.1 < a1 then (some true) else (if bt101.1 = a1 then (some (bt101.2 == 0)) else (some false)))
set_option maxHeartbeats 8000000 in
set_option maxRecDepth 100000 in
theorem sha_square.calls (a0 : Int) (a1 : Int) (r : Bool) (w : World) (h : sha_square.f a0 a1 = some r) :
    Calls Try.prog 62 #[.int .u64 a0, .int .u64 a1] w fun e w' => e = .returned (.bool r) ∧ Drawn0 w w' := by
  have H : ((bits_Mul64.f a0 a0).bind fun bt101 => (if bt101.1 < a1 then (some true) else (if bt101.1 = a1 then (some (bt101.2 == 0)) else (some false)))) = some r := h
  clear h
  replace H := Option.bind_eq_some_iff.mp H
  obtain ⟨⟨t101, t102⟩, A30, H⟩ := H
  replace H : (if t101 < a1 then (some true) else (if t101 = a1 then (some (t102 == 0)) else (some false))) = some r := H
  have A3 := Aside0.mk A30
  clear A30
  by_cases c4 : t101 < a1
  · rw [if_pos c4] at H
    have c4b0 : decide (t101 < a1) = true := decide_eq_true c4
    clear c4
    obtain rfl := Option.some.inj H
    go_enter Try.func62, Try.ntmps62
    go_wp2_with (first | ((with_reducible refine gate_callee (f := 70) rfl ?_); refine goesL_ (some 10) rfl rfl Try.func70 (by kernel_rfl) rfl #[.int .u64 a0, .int .u64 a0] rfl (by (try simp only [List.map_toArray, List.map_cons, List.map_nil]); first | done | rfl | (simp only [List.length_drop, List.length_take]; rfl)) ?_; (with_reducible refine (bits_Mul64.calls a0 a0 t101 t102 _ A3.out).mono ?_); rintro e w' ⟨rfl, ⟨nd, rfl⟩⟩; refine ⟨_, rfl, ?_⟩))
    go_ret
    exact ⟨by first | rfl | (simp; done) | (simp [*]; done), by repeat (first | exact Drawn0.refl _ | apply Drawn0.step)⟩
  · rw [if_neg c4] at H
    have c4b0 : decide (t101 < a1) = false := decide_eq_false c4
    clear c4
    by_cases c5 : t101 = a1
    · rw [if_pos c5] at H
      have c5b0 : (t101 == a1) = true := beq_iff_eq.mpr c5
      have c5b1 : (t101 != a1) = false := bne_eq_false_iff_eq.mpr c5
      clear c5
      obtain rfl := Option.some.inj H
      go_enter Try.func62, Try.ntmps62
      go_wp2_with (first | ((with_reducible refine gate_callee (f := 70) rfl ?_); refine goesL_ (some 10) rfl rfl Try.func70 (by kernel_rfl) rfl #[.int .u64 a0, .int .u64 a0] rfl (by (try simp only [List.map_toArray, List.map_cons, List.map_nil]); first | done | rfl | (simp only [List.length_drop, List.length_take]; rfl)) ?_; (with_reducible refine (bits_Mul64.calls a0 a0 t101 t102 _ A3.out).mono ?_); rintro e w' ⟨rfl, ⟨nd, rfl⟩⟩; refine ⟨_, rfl, ?_⟩))
      go_ret
      exact ⟨by first | rfl | (simp; done) | (simp [*]; done), by repeat (first | exact Drawn0.refl _ | apply Drawn0.step)⟩
    · rw [if_neg c5] at H
      have c5b0 : (t101 == a1) = false := beq_eq_false_iff_ne.mpr c5
      have c5b1 : (t101 != a1) = true := bne_iff_ne.mpr c5
      obtain rfl := Option.some.inj H
      go_enter Try.func62, Try.ntmps62
      go_wp2_with (first | ((with_reducible refine gate_callee (f := 70) rfl ?_); refine goesL_ (some 10) rfl rfl Try.func70 (by kernel_rfl) rfl #[.int .u64 a0, .int .u64 a0] rfl (by (try simp only [List.map_toArray, List.map_cons, List.map_nil]); first | done | rfl | (simp only [List.length_drop, List.length_take]; rfl)) ?_; (with_reducible refine (bits_Mul64.calls a0 a0 t101 t102 _ A3.out).mono ?_); rintro e w' ⟨rfl, ⟨nd, rfl⟩⟩; refine ⟨_, rfl, ?_⟩))
      go_ret
      exact ⟨by first | rfl | (simp; done) | (simp [*]; done), by repeat (first | exact Drawn0.refl _ | apply Drawn0.step)⟩

/-! ### bits_RotateLeft32: function 72 -/
def bits_RotateLeft32.f (a0 : Int) (a1 : Int) : Option (Int) := if 0 ≤ (Go.bits .and .u64 (IntKind.u64.wrap (a1)) 31) then (if 0 ≤ (IntKind.u64.wrap (32 - (Go.bits .and .u64 (IntKind.u64.wrap (a1)) 31))) then (some (Go.bits .or .u32 (shl .u32 a0 (Go.bits .and .u64 (IntKind.u64.wrap (a1)) 31)) (shr .u32 a0 (IntKind.u64.wrap (32 - (Go.bits .and .u64 (IntKind.u64.wrap (a1)) 31)))))) else (none)) else (none)
set_option maxHeartbeats 8000000 in
set_option maxRecDepth 100000 in
theorem bits_RotateLeft32.calls (a0 : Int) (a1 : Int) (r : Int) (w : World) (h : bits_RotateLeft32.f a0 a1 = some r) :
    Calls Try.prog 72 #[.int .u32 a0, .int .i64 a1] w fun e w' => e = .returned (.int .u32 r) ∧ Drawn0 w w' := by
  have H : (if 0 ≤ (Go.bits .and .u64 (IntKind.u64.wrap (a1)) 31) then (if 0 ≤ (IntKind.u64.wrap (32 - (Go.bits .and .u64 (IntKind.u64.wrap (a1)) 31))) then (some (Go.bits .or .u32 (shl .u32 a0 (Go.bits .and .u64 (IntKind.u64.wrap (a1)) 31)) (shr .u32 a0 (IntKind.u64.wrap (32 - (Go.bits .and .u64 (IntKind.u64.wrap (a1)) 31)))))) else (none)) else (none)) = some r := h
  clear h
  obtain ⟨ji3, hji3⟩ : ∃ j_ : Int, (Go.bits .and .u64 (IntKind.u64.wrap (a1)) 31) = j_ := ⟨_, rfl⟩
  replace H : (if 0 ≤ (ji3) then (if 0 ≤ (IntKind.u64.wrap (32 - (ji3))) then (some (Go.bits .or .u32 (shl .u32 a0 (ji3)) (shr .u32 a0 (IntKind.u64.wrap (32 - (ji3)))))) else (none)) else (none)) = some r := by first | (rw [hji3] at H; exact H) | (simp only [hji3] at H ⊢; exact H)
  by_cases c4 : 0 ≤ (ji3)
  · rw [if_pos c4] at H
    have c4b0 := eq_true c4
    have c4b1 : decide (0 ≤ (ji3)) = true := decide_eq_true c4
    clear c4
    obtain ⟨ji5, hji5⟩ : ∃ j_ : Int, (shl .u32 a0 (ji3)) = j_ := ⟨_, rfl⟩
    replace H : (if 0 ≤ (IntKind.u64.wrap (32 - (ji3))) then (some (Go.bits .or .u32 (ji5) (shr .u32 a0 (IntKind.u64.wrap (32 - (ji3)))))) else (none)) = some r := by first | (rw [hji5] at H; exact H) | (simp only [hji5] at H ⊢; exact H)
    have hji5_ : (IntKind.u32.wrap (a0 * 2 ^ min (ji3).toNat 32)) = ji5 := hji5
    have hji5z : (ji3) ≤ 32 → (IntKind.u32.wrap (a0 * 2 ^ (ji3).toNat)) = ji5 := shl_small hji5
    obtain ⟨ji6, hji6⟩ : ∃ j_ : Int, (IntKind.u64.wrap (32 - (ji3))) = j_ := ⟨_, rfl⟩
    replace H : (if 0 ≤ (ji6) then (some (Go.bits .or .u32 (ji5) (shr .u32 a0 (ji6)))) else (none)) = some r := by first | (rw [hji6] at H; exact H) | (simp only [hji6] at H ⊢; exact H)
    by_cases c7 : 0 ≤ (ji6)
    · rw [if_pos c7] at H
      have c7b0 := eq_true c7
      have c7b1 : decide (0 ≤ (ji6)) = true := decide_eq_true c7
      clear c7
      obtain ⟨ji8, hji8⟩ : ∃ j_ : Int, (shr .u32 a0 (ji6)) = j_ := ⟨_, rfl⟩
      replace H : (some (Go.bits .or .u32 (ji5) (ji8))) = some r := by first | (rw [hji8] at H; exact H) | (simp only [hji8] at H ⊢; exact H)
      have hji8_ : (a0 / 2 ^ min (ji6).toNat 32) = ji8 := hji8
      have hji8z : (ji6) ≤ 32 → (a0 / 2 ^ (ji6).toNat) = ji8 := shr_small hji8
      obtain rfl := Option.some.inj H
      go_enter Try.func72, Try.ntmps72
      go_wp2
      go_ret
      exact ⟨by first | rfl | (simp; done) | (simp only [← hji3, ← hji5, ← hji6, ← hji8] <;> (first | rfl | simp)) | (simp [*]; done), by repeat (first | exact Drawn0.refl _ | apply Drawn0.step)⟩
    · rw [if_neg c7] at H
      exact absurd H (by simp)
  · rw [if_neg c4] at H
    exact absurd H (by simp)

/-! ### sha_right: function 64 -/
def sha_right.f (a0 : Int) (a1 : Int) : Option (Int) := (bits_RotateLeft32.f a0 (wrap64 (-a1))).bind fun t109 => (some t109)
set_option maxHeartbeats 8000000 in
set_option maxRecDepth 100000 in
theorem sha_right.calls (a0 : Int) (a1 : Int) (r : Int) (w : World) (h : sha_right.f a0 a1 = some r) :
    Calls Try.prog 64 #[.int .u32 a0, .int .i64 a1] w fun e w' => e = .returned (.int .u32 r) ∧ Drawn0 w w' := by
  have H : ((bits_RotateLeft32.f a0 (wrap64 (-a1))).bind fun t109 => (some t109)) = some r := h
  clear h
  replace H := Option.bind_eq_some_iff.mp H
  obtain ⟨t109, A30, H⟩ := H
  replace H : (some t109) = some r := H
  have A3 := Aside0.mk A30
  clear A30
  obtain rfl := Option.some.inj H
  go_enter Try.func64, Try.ntmps64
  go_wp2_with (first | ((with_reducible refine gate_callee (f := 72) rfl ?_); refine goesL_ (some 8) rfl rfl Try.func72 (by kernel_rfl) rfl #[.int .u32 a0, .int .i64 (wrap64 (-a1))] rfl (by (try simp only [List.map_toArray, List.map_cons, List.map_nil]); first | done | rfl | (simp only [List.length_drop, List.length_take]; rfl)) ?_; (with_reducible refine (bits_RotateLeft32.calls a0 (wrap64 (-a1)) t109 _ A3.out).mono ?_); rintro e w' ⟨rfl, ⟨nd, rfl⟩⟩; refine ⟨_, rfl, ?_⟩))
  go_ret
  exact ⟨by first | rfl | (simp; done) | (simp [*]; done), by repeat (first | exact Drawn0.refl _ | apply Drawn0.step)⟩

/-! ### tinderboxref02_Primes: function 45 -/
mutual
def tinderboxref02_Primes.l0 : Nat → Int → List Int → Int → Option (List Int)
  | 0, _, _, _ => none
  | k + 1, x0, x3, x4 => if x4 < 400 then (tinderboxref02_Primes.j1 k x0 x3 x4 (decide ((x3.length : Int) < x0))) else (tinderboxref02_Primes.j1 k x0 x3 x4 false)
def tinderboxref02_Primes.j1 : Nat → Int → List Int → Int → Bool → Option (List Int)
  | 0, _, _, _, _ => none
  | k + 1, x0, x3, x4, x15 => if x15 = true then (tinderboxref02_Primes.l1 k x0 x3 x4 true 0) else (some x3)
def tinderboxref02_Primes.l1 : Nat → Int → List Int → Int → Bool → Int → Option (List Int)
  | 0, _, _, _, _, _ => none
  | k + 1, x0, x3, x4, x5, x6 => if x6 < (x3.length : Int) then (if x5 = true then (if 0 ≤ x6 then (if (rd x3 x6) = 0 then (none) else (tinderboxref02_Primes.l1 k x0 x3 x4 ((Int.tmod x4 (rd x3 x6)) != 0) (wrap64 (x6 + 1)))) else (none)) else (tinderboxref02_Primes.l1 k x0 x3 x4 false (wrap64 (x6 + 1)))) else (if x5 = true then (if x3.length < 17592186044416 then (tinderboxref02_Primes.l0 k x0 (x3 ++ [x4]) (IntKind.u64.wrap (x4 + 1))) else (none)) else (tinderboxref02_Primes.l0 k x0 x3 (IntKind.u64.wrap (x4 + 1))))
end
def tinderboxref02_Primes.f (k : Nat) (a0 : Int) : Option (List Int) := tinderboxref02_Primes.l0 k a0 (([] : List Int)) 2
theorem tinderboxref02_Primes.mono_l : ∀ k, (∀ y0 y1 y2, LeO (tinderboxref02_Primes.l0 k y0 y1 y2) (tinderboxref02_Primes.l0 (k + 1) y0 y1 y2)) ∧ (∀ y0 y1 y2 y3, LeO (tinderboxref02_Primes.j1 k y0 y1 y2 y3) (tinderboxref02_Primes.j1 (k + 1) y0 y1 y2 y3)) ∧ (∀ y0 y1 y2 y3 y4, LeO (tinderboxref02_Primes.l1 k y0 y1 y2 y3 y4) (tinderboxref02_Primes.l1 (k + 1) y0 y1 y2 y3 y4))
  | 0 => ⟨fun _ _ _ r h => by simp [tinderboxref02_Primes.l0] at h, fun _ _ _ _ r h => by simp [tinderboxref02_Primes.j1] at h, fun _ _ _ _ _ r h => by simp [tinderboxref02_Primes.l1] at h⟩
  | k + 1 => by
    obtain ⟨ih0, ih1, ih2⟩ := tinderboxref02_Primes.mono_l k
    refine ⟨?_, ?_, ?_⟩
    · intro y0 y1 y2
      unfold tinderboxref02_Primes.l0
      repeat' first
      | (with_reducible exact ih0 _ _ _)
      | (with_reducible exact ih1 _ _ _ _)
      | (with_reducible exact ih2 _ _ _ _ _)
      | (with_reducible exact LeO.refl _)
      | (with_reducible exact LeO.none _)
      | (with_reducible refine LeO.ite ?_ ?_)
      | (with_reducible refine LeO.bind ?_ (fun _ => ?_))
      | exact ih0 _ _ _
      | exact ih1 _ _ _ _
      | exact ih2 _ _ _ _ _
      | exact LeO.none _
      | refine LeO.ite ?_ ?_
      | refine LeO.bind ?_ (fun _ => ?_)
    · intro y0 y1 y2 y3
      unfold tinderboxref02_Primes.j1
      repeat' first
      | (with_reducible exact ih0 _ _ _)
      | (with_reducible exact ih1 _ _ _ _)
      | (with_reducible exact ih2 _ _ _ _ _)
      | (with_reducible exact LeO.refl _)
      | (with_reducible exact LeO.none _)
      | (with_reducible refine LeO.ite ?_ ?_)
      | (with_reducible refine LeO.bind ?_ (fun _ => ?_))
      | exact ih0 _ _ _
      | exact ih1 _ _ _ _
      | exact ih2 _ _ _ _ _
      | exact LeO.none _
      | refine LeO.ite ?_ ?_
      | refine LeO.bind ?_ (fun _ => ?_)
    · intro y0 y1 y2 y3 y4
      unfold tinderboxref02_Primes.l1
      repeat' first
      | (with_reducible exact ih0 _ _ _)
      | (with_reducible exact ih1 _ _ _ _)
      | (with_reducible exact ih2 _ _ _ _ _)
      | (with_reducible exact LeO.refl _)
      | (with_reducible exact LeO.none _)
      | (with_reducible refine LeO.ite ?_ ?_)
      | (with_reducible refine LeO.bind ?_ (fun _ => ?_))
      | exact ih0 _ _ _
      | exact ih1 _ _ _ _
      | exact ih2 _ _ _ _ _
      | exact LeO.none _
      | refine LeO.ite ?_ ?_
      | refine LeO.bind ?_ (fun _ => ?_)
theorem tinderboxref02_Primes.mono : ∀ a0 k, LeO (tinderboxref02_Primes.f k a0) (tinderboxref02_Primes.f (k + 1) a0) := by
  intro a0 k
  obtain ⟨ih0, ih1, ih2⟩ := tinderboxref02_Primes.mono_l k
  unfold tinderboxref02_Primes.f
  repeat' first
      | (with_reducible exact ih0 _ _ _)
      | (with_reducible exact ih1 _ _ _ _)
      | (with_reducible exact ih2 _ _ _ _ _)
      | (with_reducible exact LeO.refl _)
      | (with_reducible exact LeO.none _)
      | (with_reducible refine LeO.ite ?_ ?_)
      | (with_reducible refine LeO.bind ?_ (fun _ => ?_))
      | exact ih0 _ _ _
      | exact ih1 _ _ _ _
      | exact ih2 _ _ _ _ _
      | exact LeO.none _
      | refine LeO.ite ?_ ?_
      | refine LeO.bind ?_ (fun _ => ?_)
set_option maxHeartbeats 8000000 in
set_option maxRecDepth 100000 in
theorem tinderboxref02_Primes.calls (k : Nat) (a0 : Int) (r : List Int) (w : World) (h : tinderboxref02_Primes.f k a0 = some r) :
    Calls Try.prog 45 #[.int .i64 a0] w fun e w' => ∃ v0_ : Value, e = .returned (v0_) ∧ Kd.R (Kd.int .u64) 71 w' w.heap.size (fun _ => True) v0_ r ∧ Below w.heap.size w w' := by
  have HB := Aside0.mk (Below.refl w.heap.size w)
  have H : (tinderboxref02_Primes.l0 k a0 (([] : List Int)) 2) = some r := h
  clear h
  obtain ⟨y110, hy110⟩ : ∃ y_ : List Int, y_ = (([] : List Int)) := ⟨_, rfl⟩
  replace H : (tinderboxref02_Primes.l0 k a0 y110 2) = some r := by first | (rw [hy110]; with_reducible exact H) | (have H2_ := (Option.bind_some _ _).symm.trans H; rw [hy110]; with_reducible exact H2_) | (have H2_ := (Option.bind_some _ _).symm.trans H; with_reducible exact H2_) | with_reducible exact H | (rw [hy110]; exact H) | exact H
  have Ny110 := Aside0.mk hy110
  clear hy110
  have H' := Aside0.mk H
  clear H
  go_enter Try.func45, Try.ntmps45
  go_wp2_with (first | ((with_reducible refine gate_dst (N := 7) rfl ?_); (try (refine gate_guard (by rfl) ?_; dsimp only)); refine Kd.R_lit (Kd.int .u64) _ 71 ?hg (N := 7) ?hd (xs := ([] : List Int)) (inner := []) (ok := fun _ => True) (okp := fun _ => True) ?hr ?hp (fun _ hk => hk) trivial (Below.refl _ _) (Nat.le_refl _) (by simp) ?_; (case hd => rfl); (case hg => rfl); (case hr => first | (go_simp; done) | (go_simp; rfl)); (case hp => exact (Reps.none _ _)); intro v111 w2 ho3 hb hg_ hnew_; clear hg_ hnew_; (first | rw [← Ny110.out] at ho3 | (simp only [Int.reduceToNat] at ho3; rw [← Ny110.out] at ho3)); have n0_ := Aside0.mk (Kd.R_lower ho3 (below_size (by repeat (first | (with_reducible first | exact HB.out | apply below_alloc | apply pw_below_drewN | apply below_drew1) | exact HB.out)))); have n1_ := Aside0.mk (below_step (by repeat (first | (with_reducible first | exact HB.out | apply below_alloc | apply pw_below_drewN | apply below_drew1) | exact HB.out)) hb); clear HB; have HO112 := n0_; have HB := n1_; clear n0_ n1_; clear hb ho3))
  go_loopg [3, 4] k (fun kq v3 v4 w' => ∃ (x3_1 : List Int) (x4_1 : Int), v4 = .int .u64 x4_1 ∧ Aside0 (tinderboxref02_Primes.l0 kq a0 x3_1 x4_1 = some r) ∧ Aside0 (kq ≤ k) ∧ Aside0 (Kd.R (Kd.int .u64) 71 w' w.heap.size (fun _ => True) v3 x3_1) ∧ Aside0 (Below w.heap.size w w'))
  case atStart => exact ⟨(y110), (2), (by first | rfl | (simp; done) | (simp [*]; done)), H', ⟨Nat.le_refl _⟩, ⟨by (with_reducible repeat (first | apply Kd.R_alloc | apply Kd.R_drewN | apply Kd.R_drew)); exact HO112.out⟩, ⟨by repeat (first | (with_reducible first | exact HB.out | apply below_alloc | apply pw_below_drewN | apply below_drew1) | exact HB.out)⟩⟩
  case round =>
    clear H'
    try clear p2
    obtain ⟨x3_1, x4_1, rfl, HA, HK1, HO_3, HB⟩ := hrel
    cases gk with
    | zero => exact absurd HA.out (by simp [tinderboxref02_Primes.l0])
    | succ k1 =>
      have H := HA.out
      clear HA
      simp only [tinderboxref02_Primes.l0] at H
      have HC4 := Aside0.mk H
      clear H
      go_upto_region 3 with (fail)
      go_cut [15] (fun v15 wc => ∃ (kq : Nat) (x15_3 : Bool), v15 = .bool x15_3 ∧ Aside0 (tinderboxref02_Primes.j1 kq a0 x3_1 x4_1 x15_3 = some r) ∧ Aside0 (kq ≤ k1) ∧ Aside0 (Kd.R (Kd.int .u64) 71 wc w.heap.size (fun _ => True) u3 x3_1) ∧ Aside0 (Below w.heap.size w wc))
      case first =>
        have H := HC4.out
        clear HC4
        by_cases c5 : x4_1 < 400
        · rw [if_pos c5] at H
          have c5b0 : decide (x4_1 < 400) = true := decide_eq_true c5
          clear c5
          (first | rw [c5b0] | (simp only [i64_w, i32_w]; rw [c5b0]) | skip)
          have H' := Aside0.mk H
          clear H
          obtain ⟨Ao6, co6, eo6⟩ := Kd.R_slice HO_3.out
          subst eo6
          go_wp2
          go_meet
          case rel => exact ⟨_, (decide ((x3_1.length : Int) < a0)), (by first | rfl | (simp; done) | (simp [*]; done)), H', ⟨by have := HK1.out; first | omega | exact Nat.le_refl _⟩, ⟨by (with_reducible repeat (first | apply Kd.R_alloc | apply Kd.R_drewN | apply Kd.R_drew)); exact HO_3.out⟩, ⟨by repeat (first | (with_reducible first | exact HB.out | apply below_alloc | apply pw_below_drewN | apply below_drew1) | exact HB.out)⟩⟩
        · rw [if_neg c5] at H
          have c5b0 : decide (x4_1 < 400) = false := decide_eq_false c5
          clear c5
          (first | rw [c5b0] | (simp only [i64_w, i32_w]; rw [c5b0]) | skip)
          have H' := Aside0.mk H
          clear H
          go_wp2
          go_meet
          case rel => exact ⟨_, (false), (by first | rfl | (simp; done) | (simp [*]; done)), H', ⟨by have := HK1.out; first | omega | exact Nat.le_refl _⟩, ⟨by (with_reducible repeat (first | apply Kd.R_alloc | apply Kd.R_drewN | apply Kd.R_drew)); exact HO_3.out⟩, ⟨by repeat (first | (with_reducible first | exact HB.out | apply below_alloc | apply pw_below_drewN | apply below_drew1) | exact HB.out)⟩⟩
      case rest =>
        clear HC4
        try clear p2
        try clear c4
        try clear c5
        try clear c5b0
        try clear p2
        obtain ⟨kq, x15_3, rfl, HA, HJ3, HO_3, HB⟩ := hcut
        cases kq with
        | zero => exact absurd HA.out (by simp [tinderboxref02_Primes.j1])
        | succ kj3 =>
          have H := HA.out
          clear HA
          simp only [tinderboxref02_Primes.j1] at H
          by_cases c7 : x15_3 = true
          · subst c7
            have H1 : (tinderboxref02_Primes.l1 kj3 a0 x3_1 x4_1 true 0) = some r := by rw [if_pos rfl] at H; exact H
            clear H
            have H := H1
            clear H1
            have H' := Aside0.mk H
            clear H
            go_wp2
            go_loopg [5, 6] kj3 (fun kq v5 v6 w' => ∃ (x5_3 : Bool) (x6_3 : Int), v5 = .bool x5_3 ∧ v6 = .int .i64 x6_3 ∧ Aside0 (tinderboxref02_Primes.l1 kq a0 x3_1 x4_1 x5_3 x6_3 = some r) ∧ Aside0 (kq ≤ kj3) ∧ Aside0 (Kd.R (Kd.int .u64) 71 w' w.heap.size (fun _ => True) u3 x3_1) ∧ Aside0 (Below w.heap.size w w'))
            case atStart => exact ⟨(true), (0), (by first | rfl | (simp; done) | (simp [*]; done)), (by first | rfl | (simp; done) | (simp [*]; done)), H', ⟨Nat.le_refl _⟩, ⟨by (with_reducible repeat (first | apply Kd.R_alloc | apply Kd.R_drewN | apply Kd.R_drew)); exact HO_3.out⟩, ⟨by repeat (first | (with_reducible first | exact HB.out | apply below_alloc | apply pw_below_drewN | apply below_drew1) | exact HB.out)⟩⟩
            case round =>
              clear H'
              try clear p2
              try clear c4
              try clear c5
              try clear c5b0
              try clear c7
              try clear p2
              obtain ⟨x5_3, x6_3, rfl, rfl, HA, HK3, HO_3, HB⟩ := hrel
              cases gk with
              | zero => exact absurd HA.out (by simp [tinderboxref02_Primes.l1])
              | succ k3 =>
                have H := HA.out
                clear HA
                simp only [tinderboxref02_Primes.l1] at H
                by_cases c8 : x6_3 < (x3_1.length : Int)
                · rw [if_pos c8] at H
                  have c8b0 : decide (x6_3 < (x3_1.length : Int)) = true := decide_eq_true c8
                  clear c8
                  by_cases c9 : x5_3 = true
                  · subst c9
                    have H1 : (if 0 ≤ x6_3 then (if (rd x3_1 x6_3) = 0 then (none) else (tinderboxref02_Primes.l1 k3 a0 x3_1 x4_1 ((Int.tmod x4_1 (rd x3_1 x6_3)) != 0) (wrap64 (x6_3 + 1)))) else (none)) = some r := by rw [if_pos rfl] at H; exact H
                    clear H
                    have H := H1
                    clear H1
                    by_cases c10 : 0 ≤ x6_3
                    · rw [if_pos c10] at H
                      have c10b0 : decide (0 ≤ x6_3) = true := decide_eq_true c10
                      clear c10
                      by_cases c11 : (rd x3_1 x6_3) = 0
                      · rw [if_pos c11] at H
                        exact absurd H (by simp)
                      · rw [if_neg c11] at H
                        have c11b0 : ((rd x3_1 x6_3) == 0) = false := beq_eq_false_iff_ne.mpr c11
                        have c11b1 : ((rd x3_1 x6_3) != 0) = true := bne_iff_ne.mpr c11
                        have H' := Aside0.mk H
                        clear H
                        obtain ⟨Ao12, co12, eo12⟩ := Kd.R_slice HO_3.out
                        subst eo12
                        have p113 : 0 ≤ (x6_3 : Int) := of_decide_eq_true (by first | (with_reducible assumption) | assumption)
                        have q113 : x6_3 < (x3_1.length : Int) := of_decide_eq_true (by first | (with_reducible assumption) | assumption)
                        obtain ⟨ad113, e113, hx113_0⟩ := Kd.at_int (Kd.R_reads' HO_3.out).2.2 x6_3 p113 q113
                        cases e113
                        replace p113 := eq_true p113
                        replace q113 := eq_true q113
                        go_wp2
                        go_roundg k3
                        case measure => have := HK1.out; have := HJ3.out; have := HK3.out; omega
                        case rel => exact ⟨(((Int.tmod x4_1 (rd x3_1 x6_3)) != 0)), (wrap64 (x6_3 + 1)), (by first | rfl | (simp; done) | (simp [*]; done)), (by first | rfl | (simp; done) | (simp [*]; done)), H', ⟨by have := HK1.out; have := HJ3.out; have := HK3.out; omega⟩, ⟨by (with_reducible repeat (first | apply Kd.R_alloc | apply Kd.R_drewN | apply Kd.R_drew)); exact HO_3.out⟩, ⟨by repeat (first | (with_reducible first | exact HB.out | apply below_alloc | apply pw_below_drewN | apply below_drew1) | exact HB.out)⟩⟩
                    · rw [if_neg c10] at H
                      exact absurd H (by simp)
                  · replace c9 := Bool.eq_false_iff.mpr c9
                    subst c9
                    have H1 : (tinderboxref02_Primes.l1 k3 a0 x3_1 x4_1 false (wrap64 (x6_3 + 1))) = some r := by rw [if_neg (show ¬ (false = true) by decide)] at H; exact H
                    clear H
                    have H := H1
                    clear H1
                    have H' := Aside0.mk H
                    clear H
                    obtain ⟨Ao13, co13, eo13⟩ := Kd.R_slice HO_3.out
                    subst eo13
                    go_wp2
                    go_roundg k3
                    case measure => have := HK1.out; have := HJ3.out; have := HK3.out; omega
                    case rel => exact ⟨(false), (wrap64 (x6_3 + 1)), (by first | rfl | (simp; done) | (simp [*]; done)), (by first | rfl | (simp; done) | (simp [*]; done)), H', ⟨by have := HK1.out; have := HJ3.out; have := HK3.out; omega⟩, ⟨by (with_reducible repeat (first | apply Kd.R_alloc | apply Kd.R_drewN | apply Kd.R_drew)); exact HO_3.out⟩, ⟨by repeat (first | (with_reducible first | exact HB.out | apply below_alloc | apply pw_below_drewN | apply below_drew1) | exact HB.out)⟩⟩
                · rw [if_neg c8] at H
                  have c8b0 : decide (x6_3 < (x3_1.length : Int)) = false := decide_eq_false c8
                  clear c8
                  by_cases c14 : x5_3 = true
                  · subst c14
                    have H1 : (if x3_1.length < 17592186044416 then (tinderboxref02_Primes.l0 k3 a0 (x3_1 ++ [x4_1]) (IntKind.u64.wrap (x4_1 + 1))) else (none)) = some r := by rw [if_pos rfl] at H; exact H
                    clear H
                    have H := H1
                    clear H1
                    by_cases c15 : x3_1.length < 17592186044416
                    · rw [if_pos c15] at H
                      have LMc15 := Aside0.mk c15
                      clear c15
                      obtain ⟨y114, hy114⟩ : ∃ y_ : List Int, y_ = (x3_1 ++ [x4_1]) := ⟨_, rfl⟩
                      replace H : (tinderboxref02_Primes.l0 k3 a0 y114 (IntKind.u64.wrap (x4_1 + 1))) = some r := by first | (rw [hy114]; with_reducible exact H) | (have H2_ := (Option.bind_some _ _).symm.trans H; rw [hy114]; with_reducible exact H2_) | (have H2_ := (Option.bind_some _ _).symm.trans H; with_reducible exact H2_) | with_reducible exact H | (rw [hy114]; exact H) | exact H
                      have Ny114 := Aside0.mk hy114
                      clear hy114
                      have H' := Aside0.mk H
                      clear H
                      obtain ⟨Ao16, co16, eo16⟩ := Kd.R_slice HO_3.out
                      subst eo16
                      go_wp2_with (first | ((with_reducible refine gate_builtin (b := .append) (xs := #[.tmp 35, .tmp 37]) rfl ?_); (try (refine gate_guard (by rfl) ?_; dsimp only)); at_builtin; refine Kd.R_append (Kd.int .u64) (w0 := w) w.heap.size rfl (.tmp 35) (.tmp 37) 73 71 (.int .u64 0) 8 rfl Try.underlying73 info71 rfl (by decide) (by omega) (.slice Ao16 x3_1.length co16) x3_1 x4_1 [.int .u64 x4_1] (fun _ => True) (fun _ => False) rfl rfl ?aP (fun _ hk => hk.elim) ?aF ?aO ?aB ?aS ?aL ?_; (case aP => exact rfl); (case aB => exact (by repeat (first | (with_reducible first | exact HB.out | apply below_alloc | apply pw_below_drewN | apply below_drew1) | exact HB.out))); (case aF => exact (fun _ _ => trivial)); (case aO => exact (by (with_reducible repeat (first | apply Kd.R_alloc | apply Kd.R_drewN | apply Kd.R_drew)); exact HO_3.out)); (case aS => exact (below_size (by repeat (first | (with_reducible first | exact HB.out | apply below_alloc | apply pw_below_drewN | apply below_drew1) | exact HB.out)))); (case aL => have := LMc15.out; omega); intro v115 w17 ho hb hg hat; rw [← Ny114.out] at ho; have n0_ := Aside0.mk (hb); have n1_ := Aside0.mk (ho); clear HB; clear HO_3; have HB := n0_; have HO116 := n1_; clear n0_ n1_; clear ho hb hg hat))
                      go_roundg k3
                      case measure => have := HK1.out; have := HJ3.out; have := HK3.out; omega
                      case rel => exact ⟨(y114), (IntKind.u64.wrap (x4_1 + 1)), (by first | rfl | (simp; done) | (simp [*]; done)), H', ⟨by have := HK1.out; have := HJ3.out; have := HK3.out; omega⟩, ⟨by (with_reducible repeat (first | apply Kd.R_alloc | apply Kd.R_drewN | apply Kd.R_drew)); exact HO116.out⟩, ⟨by repeat (first | (with_reducible first | exact HB.out | apply below_alloc | apply pw_below_drewN | apply below_drew1) | exact HB.out)⟩⟩
                    · rw [if_neg c15] at H
                      exact absurd H (by simp)
                  · replace c14 := Bool.eq_false_iff.mpr c14
                    subst c14
                    have H1 : (tinderboxref02_Primes.l0 k3 a0 x3_1 (IntKind.u64.wrap (x4_1 + 1))) = some r := by rw [if_neg (show ¬ (false = true) by decide)] at H; exact H
                    clear H
                    have H := H1
                    clear H1
                    have H' := Aside0.mk H
                    clear H
                    obtain ⟨Ao18, co18, eo18⟩ := Kd.R_slice HO_3.out
                    subst eo18
                    go_wp2
                    go_roundg k3
                    case measure => have := HK1.out; have := HJ3.out; have := HK3.out; omega
                    case rel => exact ⟨(x3_1), (IntKind.u64.wrap (x4_1 + 1)), (by first | rfl | (simp; done) | (simp [*]; done)), H', ⟨by have := HK1.out; have := HJ3.out; have := HK3.out; omega⟩, ⟨by (with_reducible repeat (first | apply Kd.R_alloc | apply Kd.R_drewN | apply Kd.R_drew)); exact HO_3.out⟩, ⟨by repeat (first | (with_reducible first | exact HB.out | apply below_alloc | apply pw_below_drewN | apply below_drew1) | exact HB.out)⟩⟩
          · replace c7 := Bool.eq_false_iff.mpr c7
            subst c7
            have H1 : (some x3_1) = some r := by rw [if_neg (show ¬ (false = true) by decide)] at H; exact H
            clear H
            have H := H1
            clear H1
            obtain rfl := Option.some.inj H
            go_wp2
            go_ret
            exact ⟨_, by first | rfl | (simp [errW_none, errW_some] <;> rfl) | (simp [*, errW_none, errW_some] <;> rfl), by (with_reducible repeat (first | apply Kd.R_alloc | apply Kd.R_drewN | apply Kd.R_drew)); exact HO_3.out, by repeat (first | (with_reducible first | exact HB.out | apply below_alloc | apply pw_below_drewN | apply below_drew1) | exact HB.out)⟩

/-! ### tinderboxref02_right: function 47 -/
def tinderboxref02_right.f (a0 : Int) (a1 : Int) : Option (Int) := if 0 ≤ a1 then (if 0 ≤ (IntKind.u64.wrap (32 - a1)) then (some (Go.bits .or .u32 (shr .u32 a0 a1) (shl .u32 a0 (IntKind.u64.wrap (32 - a1))))) else (none)) else (none)
set_option maxHeartbeats 8000000 in
set_option maxRecDepth 100000 in
theorem tinderboxref02_right.calls (a0 : Int) (a1 : Int) (r : Int) (w : World) (h : tinderboxref02_right.f a0 a1 = some r) :
    Calls Try.prog 47 #[.int .u32 a0, .int .u64 a1] w fun e w' => e = .returned (.int .u32 r) ∧ Drawn0 w w' := by
  have H : (if 0 ≤ a1 then (if 0 ≤ (IntKind.u64.wrap (32 - a1)) then (some (Go.bits .or .u32 (shr .u32 a0 a1) (shl .u32 a0 (IntKind.u64.wrap (32 - a1))))) else (none)) else (none)) = some r := h
  clear h
  by_cases c3 : 0 ≤ a1
  · rw [if_pos c3] at H
    have c3b0 := eq_true c3
    have c3b1 : decide (0 ≤ a1) = true := decide_eq_true c3
    clear c3
    obtain ⟨ji4, hji4⟩ : ∃ j_ : Int, (shr .u32 a0 a1) = j_ := ⟨_, rfl⟩
    replace H : (if 0 ≤ (IntKind.u64.wrap (32 - a1)) then (some (Go.bits .or .u32 (ji4) (shl .u32 a0 (IntKind.u64.wrap (32 - a1))))) else (none)) = some r := by first | (rw [hji4] at H; exact H) | (simp only [hji4] at H ⊢; exact H)
    have hji4_ : (a0 / 2 ^ min a1.toNat 32) = ji4 := hji4
    have hji4z : a1 ≤ 32 → (a0 / 2 ^ a1.toNat) = ji4 := shr_small hji4
    obtain ⟨ji5, hji5⟩ : ∃ j_ : Int, (IntKind.u64.wrap (32 - a1)) = j_ := ⟨_, rfl⟩
    replace H : (if 0 ≤ (ji5) then (some (Go.bits .or .u32 (ji4) (shl .u32 a0 (ji5)))) else (none)) = some r := by first | (rw [hji5] at H; exact H) | (simp only [hji5] at H ⊢; exact H)
    by_cases c6 : 0 ≤ (ji5)
    · rw [if_pos c6] at H
      have c6b0 := eq_true c6
      have c6b1 : decide (0 ≤ (ji5)) = true := decide_eq_true c6
      clear c6
      obtain ⟨ji7, hji7⟩ : ∃ j_ : Int, (shl .u32 a0 (ji5)) = j_ := ⟨_, rfl⟩
      replace H : (some (Go.bits .or .u32 (ji4) (ji7))) = some r := by first | (rw [hji7] at H; exact H) | (simp only [hji7] at H ⊢; exact H)
      have hji7_ : (IntKind.u32.wrap (a0 * 2 ^ min (ji5).toNat 32)) = ji7 := hji7
      have hji7z : (ji5) ≤ 32 → (IntKind.u32.wrap (a0 * 2 ^ (ji5).toNat)) = ji7 := shl_small hji7
      obtain rfl := Option.some.inj H
      go_enter Try.func47, Try.ntmps47
      go_wp2
      go_ret
      exact ⟨by first | rfl | (simp; done) | (simp only [← hji4, ← hji5, ← hji7] <;> (first | rfl | simp)) | (simp [*]; done), by repeat (first | exact Drawn0.refl _ | apply Drawn0.step)⟩
    · rw [if_neg c6] at H
      exact absurd H (by simp)
  · rw [if_neg c3] at H
    exact absurd H (by simp)

theorem add64_runs (x y : Int) (hx : 0 ≤ x) (hy : 0 ≤ y) (w : World) : (callFunc 71 #[.int .u64 x, .int .u64 y, .int .u64 0]).run Try.prog w = .ok (.value (.tuple #[.int .u64 ((x + y) % 18446744073709551616), .int .u64 ((x + y) / 18446744073709551616)])) w := by
  rw [run_callFunc_extern (P := Try.prog) (fn := Try.f71) (by kernel_rfl) (by kernel_rfl) (by kernel_rfl) (by kernel_rfl) (e := add64Entry) (by kernel_rfl), run_add64 x y 0 hx hy (by omega) (by omega)]
  simp only [Result.andThen, Int.add_zero]
theorem m64_pos {x y h l : Int} (e : bits_Mul64.f x y = some (h, l)) : 0 ≤ h ∧ h < 18446744073709551616 ∧ 0 ≤ l ∧ l < 18446744073709551616 := by
  unfold bits_Mul64.f at e
  simp only [Option.some.injEq, Prod.mk.injEq] at e
  obtain ⟨rfl, rfl⟩ := e
  have h1 : ∀ n : Int, IntKind.u64.wrap n = n % 18446744073709551616 := fun n => by simp [IntKind.wrap, IntKind.bits, IntKind.signed]
  refine ⟨?_, ?_, ?_, ?_⟩ <;> (rw [h1]; omega)
/-- Is a number's cube at most p times 2^96? -/
def cubeF (x p : Int) : Bool :=
  match bits_Mul64.f x x with
  | some (h, l) => match bits_Mul64.f l x with
    | some (a, b) => match bits_Mul64.f h x with
      | some (t, s) => if IntKind.u64.wrap (t + (s + a) / 18446744073709551616) = 0 then (if (s + a) % 18446744073709551616 < IntKind.u64.wrap (p * 4294967296) then true else (if (s + a) % 18446744073709551616 = IntKind.u64.wrap (p * 4294967296) then b == 0 else false)) else false
      | none => false
    | none => false
  | none => false
set_option maxHeartbeats 8000000 in
set_option maxRecDepth 100000 in
theorem cube_calls (x p : Int) (w : World) :
    Calls Try.prog 63 #[.int .u64 x, .int .u64 p] w fun e w' => e = .returned (.bool (cubeF x p)) ∧ Drawn0 w w' := by
  obtain ⟨h, l, e1⟩ : ∃ h l, bits_Mul64.f x x = some (h, l) := ⟨_, _, rfl⟩
  obtain ⟨a, b, e2⟩ : ∃ h' l', bits_Mul64.f l x = some (h', l') := ⟨_, _, rfl⟩
  obtain ⟨t, s, e3⟩ : ∃ h' l', bits_Mul64.f h x = some (h', l') := ⟨_, _, rfl⟩
  have p2 := m64_pos e2
  have p3 := m64_pos e3
  have ef : cubeF x p = if IntKind.u64.wrap (t + (s + a) / 18446744073709551616) = 0 then (if (s + a) % 18446744073709551616 < IntKind.u64.wrap (p * 4294967296) then true else (if (s + a) % 18446744073709551616 = IntKind.u64.wrap (p * 4294967296) then b == 0 else false)) else false := by
    unfold cubeF; rw [e1]; dsimp only; rw [e2]; dsimp only; rw [e3]
  have A1 := Aside0.mk e1; have A2 := Aside0.mk e2; have A3 := Aside0.mk e3
  clear e1 e2 e3
  have hadd := fun w => add64_runs s a p3.2.2.1 p2.1 w
  clear p2 p3
  rw [ef]
  clear ef
  generalize ea : (s + a) % 18446744073709551616 = sm at *
  generalize ec : (s + a) / 18446744073709551616 = cy at *
  clear ea ec
  generalize eb : (if IntKind.u64.wrap (t + cy) = 0 then (if sm < IntKind.u64.wrap (p * 4294967296) then true else (if sm = IntKind.u64.wrap (p * 4294967296) then b == 0 else false)) else false) = r
  have EB := Aside0.mk eb
  clear eb
  go_enter Try.func63, Try.ntmps63
  go_wp2_with (first
    | ((with_reducible refine gate_callee (f := 70) rfl ?_); refine goesL_ (some 16) rfl rfl Try.func70 (by kernel_rfl) rfl #[.int .u64 x, .int .u64 x] rfl (by (try simp only [List.map_toArray, List.map_cons, List.map_nil]); rfl) ?_; (with_reducible refine (bits_Mul64.calls _ _ _ _ _ A1.out).mono ?_); rintro e w' ⟨rfl, ⟨nd, rfl⟩⟩; refine ⟨_, rfl, ?_⟩)
    | ((with_reducible refine gate_callee (f := 70) rfl ?_); refine goesL_ (some 22) rfl rfl Try.func70 (by kernel_rfl) rfl #[.int .u64 l, .int .u64 x] rfl (by (try simp only [List.map_toArray, List.map_cons, List.map_nil]); rfl) ?_; (with_reducible refine (bits_Mul64.calls _ _ _ _ _ A2.out).mono ?_); rintro e w' ⟨rfl, ⟨nd, rfl⟩⟩; refine ⟨_, rfl, ?_⟩)
    | ((with_reducible refine gate_callee (f := 70) rfl ?_); refine goesL_ (some 28) rfl rfl Try.func70 (by kernel_rfl) rfl #[.int .u64 h, .int .u64 x] rfl (by (try simp only [List.map_toArray, List.map_cons, List.map_nil]); rfl) ?_; (with_reducible refine (bits_Mul64.calls _ _ _ _ _ A3.out).mono ?_); rintro e w' ⟨rfl, ⟨nd, rfl⟩⟩; refine ⟨_, rfl, ?_⟩)
    | (simp only [hadd]))
  all_goals
    go_ret
    refine ⟨?_, by repeat (first | exact Drawn0.refl _ | apply Drawn0.step)⟩
    rw [← EB.out]
    clear EB A1 A2 A3 hadd
    first
      | (split <;> first | rfl | (exfalso; omega) | (split <;> first | rfl | (exfalso; omega) | (split <;> first | rfl | (exfalso; omega) | (congr 2; simp; omega))))
      | (simp [*]; done) | trace_state
/-- Is a number's square at most p times 2^64? -/
def sqF (x p : Int) : Bool := match sha_square.f x p with | some b => b | none => false
theorem square_calls (x p : Int) (w : World) : Calls Try.prog 62 #[.int .u64 x, .int .u64 p] w fun e w' => e = .returned (.bool (sqF x p)) ∧ Drawn0 w w' := by
  have h : ∃ b, sha_square.f x p = some b := by
    unfold sha_square.f bits_Mul64.f
    simp only [Option.bind_some]
    split
    · exact ⟨_, rfl⟩
    · split
      · exact ⟨_, rfl⟩
      · exact ⟨_, rfl⟩
  obtain ⟨b, hb⟩ := h
  have e : sqF x p = b := by unfold sqF; rw [hb]
  rw [e]
  exact sha_square.calls x p b w hb
def bitv : Nat → Int | 0 => 0 | i + 1 => 2 ^ i
theorem bitv_half (i : Nat) : bitv (i + 1) / 2 = bitv i := by
  cases i with
  | zero => rfl
  | succ i => show (2 : Int) ^ (i + 1) / 2 = 2 ^ i; rw [Int.pow_succ]; omega
theorem bitv_pos (i : Nat) : 0 < bitv (i + 1) := by show (0 : Int) < 2 ^ i; exact Int.pow_pos (by decide)
/-- A root's bits, the highest first. -/
def fr (sm : Int → Bool) : Nat → Int → Int
  | 0, x => x
  | i + 1, x => fr sm i (if sm (Go.bits .or .u64 x (bitv (i + 1))) then Go.bits .or .u64 x (bitv (i + 1)) else x)
set_option maxHeartbeats 8000000 in
set_option maxRecDepth 100000 in
theorem fraction_cube (p : Int) (w : World) :
    Calls Try.prog 61 #[.int .u64 p, .func (.func 63) #[] #[]] w fun e w' => e = .returned (.int .u32 (fr (fun x => cubeF x p) 38 0 % 4294967296)) ∧ Drawn0 w w' := by
  obtain ⟨R, hR⟩ : ∃ R, fr (fun x => cubeF x p) 38 0 = R := ⟨_, rfl⟩
  rw [hR]
  have HR := Aside0.mk hR
  clear hR
  go_enter Try.func61, Try.ntmps61
  go_wp2
  go_loopg [5, 6] 38 (fun kq v5 v6 w' => ∃ (x : Int), v5 = .int .u64 x ∧ v6 = .int .u64 (bitv kq) ∧ Aside0 (fr (fun x => cubeF x p) kq x = R) ∧ Drawn0 w w')
  case atStart => exact ⟨0, rfl, by first | rfl | (simp; done), HR, by repeat (first | exact Drawn0.refl _ | apply Drawn0.step)⟩
  case round =>
    clear HR
    obtain ⟨x, rfl, rfl, HA, ⟨m1, rfl⟩⟩ := hrel
    cases gk with
    | zero =>
      have e0 : bitv 0 = 0 := rfl
      rw [e0]
      have H := HA.out
      clear HA e0
      obtain rfl : x = R := H
      go_wp2
      go_ret
      exact ⟨by first | rfl | (simp; done) | (simp [*]; done), by repeat (first | exact Drawn0.refl _ | apply Drawn0.step)⟩
    | succ k =>
      have hh := bitv_half k
      have hp := bitv_pos k
      have H := HA.out
      clear HA
      unfold fr at H
      generalize bitv (k + 1) = B at *
      obtain ⟨b, hb⟩ : ∃ b, cubeF (Go.bits .or .u64 x B) p = b := ⟨_, rfl⟩
      simp only [hb] at H
      have HH := Aside0.mk hh
      have HB := Aside0.mk hb
      have HA := Aside0.mk H
      clear hh hb H
      have p1 : decide (0 < B) = true := decide_eq_true hp
      have hct : ∀ w, Calls Try.prog 63 #[.int .u64 (Go.bits .or .u64 x B), .int .u64 p] w fun e w' => e = .returned (.bool b) ∧ Drawn0 w w' := fun w => HB.out ▸ cube_calls _ _ w
      clear HB
      cases b with
      | true =>
        go_wp2_with (go_at_call 63; (with_reducible refine (hct _).mono ?_); rintro e w' ⟨rfl, ⟨nd, rfl⟩⟩)
        go_roundg k
        case measure => omega
        case rel => exact ⟨Go.bits .or .u64 x B, rfl, congrArg (Value.int .u64) HH.out, ⟨by simpa using HA.out⟩, by repeat (first | exact Drawn0.refl _ | apply Drawn0.step)⟩
      | false =>
        go_wp2_with (go_at_call 63; (with_reducible refine (hct _).mono ?_); rintro e w' ⟨rfl, ⟨nd, rfl⟩⟩)
        go_roundg k
        case measure => omega
        case rel => exact ⟨x, rfl, congrArg (Value.int .u64) HH.out, ⟨by simpa using HA.out⟩, by repeat (first | exact Drawn0.refl _ | apply Drawn0.step)⟩
set_option maxHeartbeats 8000000 in
set_option maxRecDepth 100000 in
theorem fraction_square (p : Int) (w : World) :
    Calls Try.prog 61 #[.int .u64 p, .func (.func 62) #[] #[]] w fun e w' => e = .returned (.int .u32 (fr (fun x => sqF x p) 38 0 % 4294967296)) ∧ Drawn0 w w' := by
  obtain ⟨R, hR⟩ : ∃ R, fr (fun x => sqF x p) 38 0 = R := ⟨_, rfl⟩
  rw [hR]
  have HR := Aside0.mk hR
  clear hR
  go_enter Try.func61, Try.ntmps61
  go_wp2
  go_loopg [5, 6] 38 (fun kq v5 v6 w' => ∃ (x : Int), v5 = .int .u64 x ∧ v6 = .int .u64 (bitv kq) ∧ Aside0 (fr (fun x => sqF x p) kq x = R) ∧ Drawn0 w w')
  case atStart => exact ⟨0, rfl, by first | rfl | (simp; done), HR, by repeat (first | exact Drawn0.refl _ | apply Drawn0.step)⟩
  case round =>
    clear HR
    obtain ⟨x, rfl, rfl, HA, ⟨m1, rfl⟩⟩ := hrel
    cases gk with
    | zero =>
      have e0 : bitv 0 = 0 := rfl
      rw [e0]
      have H := HA.out
      clear HA e0
      obtain rfl : x = R := H
      go_wp2
      go_ret
      exact ⟨by first | rfl | (simp; done) | (simp [*]; done), by repeat (first | exact Drawn0.refl _ | apply Drawn0.step)⟩
    | succ k =>
      have hh := bitv_half k
      have hp := bitv_pos k
      have H := HA.out
      clear HA
      unfold fr at H
      generalize bitv (k + 1) = B at *
      obtain ⟨b, hb⟩ : ∃ b, sqF (Go.bits .or .u64 x B) p = b := ⟨_, rfl⟩
      simp only [hb] at H
      have HH := Aside0.mk hh
      have HB := Aside0.mk hb
      have HA := Aside0.mk H
      clear hh hb H
      have p1 : decide (0 < B) = true := decide_eq_true hp
      have hct : ∀ w, Calls Try.prog 62 #[.int .u64 (Go.bits .or .u64 x B), .int .u64 p] w fun e w' => e = .returned (.bool b) ∧ Drawn0 w w' := fun w => HB.out ▸ square_calls _ _ w
      clear HB
      cases b with
      | true =>
        go_wp2_with (go_at_call 62; (with_reducible refine (hct _).mono ?_); rintro e w' ⟨rfl, ⟨nd, rfl⟩⟩)
        go_roundg k
        case measure => omega
        case rel => exact ⟨Go.bits .or .u64 x B, rfl, congrArg (Value.int .u64) HH.out, ⟨by simpa using HA.out⟩, by repeat (first | exact Drawn0.refl _ | apply Drawn0.step)⟩
      | false =>
        go_wp2_with (go_at_call 62; (with_reducible refine (hct _).mono ?_); rintro e w' ⟨rfl, ⟨nd, rfl⟩⟩)
        go_roundg k
        case measure => omega
        case rel => exact ⟨x, rfl, congrArg (Value.int .u64) HH.out, ⟨by simpa using HA.out⟩, by repeat (first | exact Drawn0.refl _ | apply Drawn0.step)⟩
/-- Is p divided by one of the numbers from place i on? -/
def divd (xs : List Int) (p : Int) : Bool := xs.any (fun q => p % q == 0)
def pst : Nat → List Int
  | 0 => []
  | j + 1 => if divd (pst j) ((j : Int) + 2) then pst j else pst j ++ [(j : Int) + 2]
theorem pst_pos (j : Nat) : ∀ q ∈ pst j, 2 ≤ q := by
  induction j with
  | zero => intro q h; cases h
  | succ j ih =>
    intro q h
    unfold pst at h
    split at h
    · exact ih q h
    · rcases List.mem_append.1 h with h | h
      · exact ih q h
      · have := List.mem_singleton.1 h; omega
theorem pst_len (j : Nat) : (pst j).length ≤ j := by
  induction j with
  | zero => exact Nat.le_refl _
  | succ j ih =>
    unfold pst
    split
    · omega
    · rw [List.length_append]; show _ + 1 ≤ _; omega
theorem pst_yes {j : Nat} (h : divd (pst j) ((j : Int) + 2) = true) : pst (j + 1) = pst j := by
  show (if divd (pst j) ((j : Int) + 2) = true then pst j else pst j ++ [(j : Int) + 2]) = _
  rw [if_pos h]
theorem pst_no {j : Nat} (h : divd (pst j) ((j : Int) + 2) = false) : pst (j + 1) = pst j ++ [(j : Int) + 2] := by
  show (if divd (pst j) ((j : Int) + 2) = true then pst j else pst j ++ [(j : Int) + 2]) = _
  rw [if_neg (by rw [h]; decide)]
theorem divd_cons (q : Int) (l : List Int) (p : Int) : divd (q :: l) p = ((p % q == 0) || divd l p) := rfl
theorem u64_up (j : Nat) (h : j ≤ 310) : IntKind.u64.wrap ((j : Int) + 2 + 1) = ((j + 1 : Nat) : Int) + 2 := by
  have : ∀ n : Int, IntKind.u64.wrap n = n % 18446744073709551616 := fun n => by simp [IntKind.wrap, IntKind.bits, IntKind.signed]
  rw [this]; omega
theorem pst_le (j d : Nat) : (pst j).length ≤ (pst (j + d)).length := by
  induction d with
  | zero => exact Nat.le_refl _
  | succ d ih =>
    refine Nat.le_trans ih ?_
    show _ ≤ (if divd (pst (j + d)) (((j + d : Nat) : Int) + 2) = true then pst (j + d) else pst (j + d) ++ [((j + d : Nat) : Int) + 2]).length
    split
    · exact Nat.le_refl _
    · rw [List.length_append]; omega
theorem pst_lt {j : Nat} (h : j ≤ 309) : (pst j).length < 64 := by
  have h1 := pst_le j (309 - j)
  rw [show j + (309 - j) = 309 by omega] at h1
  exact Nat.lt_of_le_of_lt h1 (by decide +kernel)
theorem pst_end : (pst 310).length = 64 := by decide +kernel
def PR : List Int := pst 310
set_option maxHeartbeats 8000000 in
set_option maxRecDepth 100000 in
theorem primes_calls (w : World) : Calls Try.prog 60 #[.int .i64 64] w fun e w' => ∃ v, e = .returned v ∧ w'.ownsRow w.heap.size 71 1 v PR.length (nums .u64 PR) ∧ Below w.heap.size w w' := by
  go_enter Try.func60, Try.ntmps60
  go_wp2
  go_step3
  go_wp2
  go_step3
  go_wp2
  go_loopg [3, 4] 400 (fun kq v3 v4 w' => ∃ (j : Nat), j ≤ 310 ∧ kq + j = 400 ∧ v4 = .int .u64 ((j : Int) + 2) ∧ Aside0 ((pst j).length ≤ 64 ∧ (j = 310 → (pst j).length = 64)) ∧ Aside0 (w'.ownsRow w.heap.size 71 1 v3 (pst j).length (nums .u64 (pst j))) ∧ Aside0 (Below w.heap.size w w'))
  case atStart => exact ⟨0, by omega, by omega, rfl, ⟨by decide, by decide⟩, ⟨own_nil _ _ _ _⟩, ⟨Below.refl _ _⟩⟩
  case round =>
    obtain ⟨j, hj, hkj, rfl, HL, HO, HB⟩ := hrel
    obtain ⟨hl1, hl2⟩ := HL.out
    clear HL
    generalize hxs : pst j = xs at *
    obtain ⟨A, c, rfl⟩ := own_slice HO.out
    by_cases hlt : xs.length < 64
    · have hj' : j < 310 := by
        rcases Nat.lt_or_ge j 310 with h | h
        · exact h
        · exact absurd (hl2 (by omega)) (by omega)
      have HL2 := Aside0.mk hl2
      clear hl2
      obtain ⟨g, rfl⟩ : ∃ g, gk = g + 1 := ⟨gk - 1, by omega⟩
      have X := Aside0.mk hxs
      clear hxs
      have p1 : decide ((xs.length : Int) < 64) = true := decide_eq_true (by omega)
      have p2 : decide (xs.length < 64) = true := decide_eq_true hlt
      go_wp2
      obtain ⟨wo, hwo⟩ : ∃ wo : World, wo = wr := ⟨_, rfl⟩
      subst hwo
      go_loopg [15] xs.length (fun kq v15 w' => ∃ (i : Int), 0 ≤ i ∧ i ≤ (xs.length : Int) ∧ Aside0 (kq + i.toNat = xs.length) ∧ v15 = .int .i64 i ∧ Aside0 (divd xs ((j : Int) + 2) = divd (xs.drop i.toNat) ((j : Int) + 2)) ∧ w' = wo)
      case atStart => exact ⟨0, by omega, by omega, ⟨by simp⟩, rfl, ⟨rfl⟩, rfl⟩
      case round =>
        obtain ⟨i, hi0, hi1, HK, rfl, HD, rfl⟩ := hrel
        by_cases hi : i < (xs.length : Int)
        · have hq : 2 ≤ rd xs i := pst_pos j _ (by rw [X.out]; unfold rd; rw [List.getD_eq_getElem?_getD, List.getElem?_eq_getElem (show i.toNat < xs.length by omega)]; exact List.getElem_mem _)
          obtain ⟨ad, eA, hcell⟩ := (own_reads' HO.out).at_ i hi0 hi
          cases eA
          have hdr : xs.drop i.toNat = rd xs i :: xs.drop (i.toNat + 1) := by
            have hlt' : i.toNat < xs.length := by omega
            rw [List.drop_eq_getElem_cons hlt']
            congr 1
            unfold rd
            rw [List.getD_eq_getElem?_getD, List.getElem?_eq_getElem hlt']
            rfl
          have HDR := Aside0.mk hdr
          clear hdr
          generalize rd xs i = q at *
          have q1 : decide (i < (xs.length : Int)) = true := decide_eq_true hi
          have q2 : (q == 0) = false := beq_eq_false_iff_ne.mpr (by omega)
          have q3 : (q != 0) = true := bne_iff_ne.mpr (by omega)
          have q4 : decide (0 ≤ i) = true := decide_eq_true hi0
          have q5 : wrap64 (i + 1) = i + 1 := by unfold wrap64; omega
          by_cases hz : ((j : Int) + 2) % q = 0
          · have z1 : (((j : Int) + 2) % q == 0) = true := beq_iff_eq.mpr hz
            have Z := Aside0.mk hz
            clear hz
            go_wp2
            have hd : divd (pst j) ((j : Int) + 2) = true := by rw [X.out, HD.out, HDR.out, divd_cons, z1]; rfl
            have ep := pst_yes hd
            go_roundg g
            case measure => omega
            case rel => exact ⟨j + 1, by omega, by omega, congrArg (Value.int .u64) (by first | omega | exact u64_up j hj), ⟨by rw [ep, X.out]; exact ⟨hl1, fun h => by rw [← X.out, ← ep, show j + 1 = 310 from h]; exact pst_end⟩⟩, ⟨by rw [ep, X.out]; exact HO.out⟩, HB⟩
          · have z1 : (((j : Int) + 2) % q == 0) = false := beq_eq_false_iff_ne.mpr hz
            have Z := Aside0.mk hz
            clear hz
            go_wp2
            go_roundg (gk - 1)
            case measure => have := HK.out; omega
            case rel => exact ⟨i + 1, by omega, by omega, ⟨by have := HK.out; omega⟩, (by first | rfl | rw [q5]), ⟨by rw [HD.out, HDR.out, divd_cons, z1, Bool.false_or, show (i + 1).toNat = i.toNat + 1 by omega]⟩, rfl⟩
        · have q1 : decide (i < (xs.length : Int)) = false := decide_eq_false hi
          have hd : divd (pst j) ((j : Int) + 2) = false := by rw [X.out, HD.out, show xs.drop i.toNat = [] from List.drop_eq_nil_of_le (by omega)]; rfl
          have ep := pst_no hd
          have EP := Aside0.mk ep
          clear hd ep
          go_wp2_with (first | ((with_reducible refine gate_builtin (b := .append) (xs := #[.tmp 24, .tmp 26]) rfl ?_); at_builtin; refine print_append_num (w0 := w) w.heap.size rfl (.tmp 24) (.tmp 26) 73 71 .u64 8 rfl Try.underlying73 info71 (by decide) (.slice A xs.length c) xs ((j : Int) + 2) rfl rfl HO.out HB.out (below_size HB.out) (by omega) ?_; intro v1 w1 ho hb hg hat; have HO1 := Aside0.mk ho; have HB1 := Aside0.mk hb; clear ho hb hg hat))
          go_roundg g
          case measure => omega
          case rel => exact ⟨j + 1, by omega, by omega, congrArg (Value.int .u64) (by first | omega | exact u64_up j hj), ⟨by rw [EP.out, X.out]; exact ⟨by rw [List.length_append]; show _ + 1 ≤ _; omega, fun h => by have e9 := pst_end; rw [show 310 = j + 1 from h.symm, EP.out, X.out] at e9; exact e9⟩⟩, ⟨by rw [EP.out, X.out]; exact HO1.out⟩, HB1⟩
    · have X := Aside0.mk hxs
      have e : j = 310 := by
        rcases Nat.lt_or_ge j 310 with h | h
        · have := pst_lt (show j ≤ 309 by omega)
          rw [hxs] at this
          omega
        · omega
      clear hl1 hl2
      have X := Aside0.mk hxs
      clear hxs
      have p1 : decide ((xs.length : Int) < 64) = false := decide_eq_false (by omega)
      have p2 : decide (xs.length < 64) = false := decide_eq_false hlt
      go_wp2
      rw [Exit.noGoto_ret]
      go_ret
      refine ⟨_, rfl, ?_, HB.out⟩
      have h9 := HO.out
      have e9 : PR = xs := by rw [← X.out, e]; rfl
      rw [e9]
      exact h9
def cells32 (xs : List Int) : Array Value := (nums .u32 xs).toArray
/-- An array of words in memory. -/
def Bk (w : World) (g : Nat) (t : TypeId) (xs : List Int) : Prop := w.heap[g]? = some (.cells (cells32 xs) t (0, 0))
theorem cells32_get (xs : List Int) (i : Nat) (h : i < xs.length) : (cells32 xs)[i]? = some (.int .u32 (xs.getD i 0)) := by
  unfold cells32 nums
  rw [List.getElem?_toArray, List.getElem?_map, List.getElem?_eq_getElem h, List.getD_eq_getElem?_getD, List.getElem?_eq_getElem h]
  rfl
theorem cells32_set (xs : List Int) (i : Nat) (x : Int) : (cells32 xs).setIfInBounds i (.int .u32 x) = cells32 (xs.set i x) := by
  unfold cells32 nums
  rw [List.setIfInBounds_toArray, List.map_set]
theorem Bk.cell {w : World} {g : Nat} {t : TypeId} {xs : List Int} (h : Bk w g t xs) (i : Nat) (hi : i < xs.length) : w.cell? ⟨g, i, none⟩ = some (.int .u32 (xs.getD i 0)) := (blk_cell h i).trans (cells32_get xs i hi)
theorem Bk.frozen {w : World} {g : Nat} {t : TypeId} {xs : List Int} (h : Bk w g t xs) (i : Nat) : w.frozen? ⟨g, i, none⟩ = false := blk_frozen h i
theorem Bk.set {w : World} {g : Nat} {t : TypeId} {xs : List Int} (h : Bk w g t xs) (i : Nat) (x : Int) : Bk (w.setCell ⟨g, i, none⟩ (.int .u32 x)) g t (xs.set i x) := blk_put h i _ (cells32_set xs i x)
theorem Bk.far {w : World} {g : Nat} {t : TypeId} {xs : List Int} (h : Bk w g t xs) {p : Addr} (hp : g ≠ p.block) (u : Value) : Bk (w.setCell p u) g t xs := blk_far h hp u
theorem Bk.below {w w1 : World} {g : Nat} {t : TypeId} {xs : List Int} (h : Bk w g t xs) (hb : Below w.heap.size w w1) : Bk w1 g t xs := blk_below h hb
theorem Bk.drewN {w : World} {g : Nat} {t : TypeId} {xs : List Int} (h : Bk w g t xs) (n : Nat) : Bk (w.drewN n) g t xs := h
theorem Bk.alloc {w : World} {g : Nat} {t : TypeId} {xs : List Int} (h : Bk w g t xs) (o : Obj) : Bk (w.alloc o) g t xs := blk_alloc h o
theorem Bk.lt {w : World} {g : Nat} {t : TypeId} {xs : List Int} (h : Bk w g t xs) : g < w.heap.size := blk_lt h
def fracS (p : Int) : Int := fr (fun x => sqF x p) 38 0 % 4294967296
def fracC (p : Int) : Int := fr (fun x => cubeF x p) 38 0 % 4294967296
theorem PR_len : PR.length = 64 := pst_end
theorem primes_calls' (w : World) : Calls Try.prog 60 #[.int .i64 64] w fun e w' => ∃ g c, e = .returned (.slice (some ⟨g, 0, none⟩) 64 c) ∧ w.heap.size ≤ g ∧ w'.ownsRow w.heap.size 71 1 (.slice (some ⟨g, 0, none⟩) 64 c) 64 (nums .u64 PR) ∧ Below w.heap.size w w' := by
  refine (primes_calls w).mono ?_
  rintro e w' ⟨v, rfl, ho, hb⟩
  rw [PR_len] at ho
  rcases ho.2 with ⟨rfl, h0⟩ | ⟨g, cap, cur, rfl, hg, _⟩
  · exact absurd h0 (by decide)
  · exact ⟨g, cap, rfl, hg, ho, hb⟩
def HC : List Int := (PR.take 8).map fracS
def KC : List Int := PR.map fracC
def part (xs : List Int) (n i : Nat) : List Int := xs.take i ++ List.replicate (n - i) 0
theorem part_len {xs : List Int} {n i : Nat} (h : xs.length = n) (hi : i ≤ n) : (part xs n i).length = n := by unfold part; rw [List.length_append, List.length_take, List.length_replicate]; omega
theorem part_set {xs : List Int} {n i : Nat} (h : xs.length = n) (hi : i < n) : (part xs n i).set i (xs.getD i 0) = part xs n (i + 1) := by
  unfold part
  have h1 : (xs.take i).length = i := by rw [List.length_take]; omega
  rw [List.set_append_right _ _ (by omega), h1, Nat.sub_self, show n - i = (n - (i + 1)) + 1 by omega, List.replicate_succ, List.set_cons_zero, List.take_succ_eq_append_getElem (by omega), List.append_assoc, List.singleton_append, List.getD_eq_getElem?_getD, List.getElem?_eq_getElem (by omega)]
  rfl
theorem part_all {xs : List Int} {n : Nat} (h : xs.length = n) : part xs n n = xs := by unfold part; rw [Nat.sub_self, List.take_of_length_le (by omega)]; simp
theorem part_none (xs : List Int) (n : Nat) : part xs n 0 = List.replicate n 0 := by unfold part; simp
theorem HC_len : HC.length = 8 := by unfold HC; rw [List.length_map, List.length_take, PR_len]; decide
theorem KC_len : KC.length = 64 := by unfold KC; rw [List.length_map, PR_len]
theorem HC_get {i : Nat} (h : i < 8) : HC.getD i 0 = fracS (rd PR (i : Int)) := by
  have h2 : i < PR.length := by rw [PR_len]; omega
  unfold HC rd
  rw [Int.toNat_natCast, List.getD_eq_getElem?_getD, List.getD_eq_getElem?_getD, List.getElem?_map, List.getElem?_take, if_pos h, List.getElem?_eq_getElem h2]
  rfl
theorem KC_get {i : Nat} (h : i < 64) : KC.getD i 0 = fracC (rd PR (i : Int)) := by
  have h2 : i < PR.length := by rw [PR_len]; omega
  unfold KC rd
  rw [Int.toNat_natCast, List.getD_eq_getElem?_getD, List.getD_eq_getElem?_getD, List.getElem?_map, List.getElem?_eq_getElem h2]
  rfl
theorem four_0 (w : World) (a b c d : Obj) : ((((w.alloc a).alloc b).alloc c).alloc d).heap.size = w.heap.size + 4 := by simp
theorem at_new {w : World} {n : Nat} (h : w.heap.size = n) (o : Obj) : (w.alloc o).heap[n]? = some o := by subst h; exact heap_alloc_new w o
theorem four_pack {w w1 : World} {c0 c1 c2 c3 : Array Value} {t0 t1 t2 t3 : TypeId} {e : TypeId} {v : Value} {g n : Nat} {xs : List Value}
    (hg : ((((w.alloc (.cells c0 t0)).alloc (.cells c1 t1)).alloc (.cells c2 t2)).alloc (.cells c3 t3)).heap.size ≤ g)
    (ho : w1.ownsRow ((((w.alloc (.cells c0 t0)).alloc (.cells c1 t1)).alloc (.cells c2 t2)).alloc (.cells c3 t3)).heap.size e 1 v n xs)
    (hb : Below ((((w.alloc (.cells c0 t0)).alloc (.cells c1 t1)).alloc (.cells c2 t2)).alloc (.cells c3 t3)).heap.size ((((w.alloc (.cells c0 t0)).alloc (.cells c1 t1)).alloc (.cells c2 t2)).alloc (.cells c3 t3)) w1) :
    w.heap.size + 4 ≤ g ∧ w1.ownsRow (w.heap.size + 4) e 1 v n xs ∧ Below w.heap.size w w1 ∧ w1.heap[w.heap.size]? = some (.cells c0 t0 (0, 0)) ∧ w1.heap[w.heap.size + 1]? = some (.cells c1 t1 (0, 0)) ∧ w1.heap[w.heap.size + 2]? = some (.cells c2 t2 (0, 0)) ∧ w1.heap[w.heap.size + 3]? = some (.cells c3 t3 (0, 0)) := by
  have a0 : ((((w.alloc (.cells c0 t0)).alloc (.cells c1 t1)).alloc (.cells c2 t2)).alloc (.cells c3 t3)).heap[w.heap.size]? = some (.cells c0 t0 (0, 0)) := blk_alloc (blk_alloc (blk_alloc (blk_new _ _) _) _) _
  have a1 : ((((w.alloc (.cells c0 t0)).alloc (.cells c1 t1)).alloc (.cells c2 t2)).alloc (.cells c3 t3)).heap[w.heap.size + 1]? = some (.cells c1 t1 (0, 0)) := blk_alloc (blk_alloc (at_new (by simp) _) _) _
  have a2 : ((((w.alloc (.cells c0 t0)).alloc (.cells c1 t1)).alloc (.cells c2 t2)).alloc (.cells c3 t3)).heap[w.heap.size + 2]? = some (.cells c2 t2 (0, 0)) := blk_alloc (at_new (by simp) _) _
  have a3 : ((((w.alloc (.cells c0 t0)).alloc (.cells c1 t1)).alloc (.cells c2 t2)).alloc (.cells c3 t3)).heap[w.heap.size + 3]? = some (.cells c3 t3 (0, 0)) := at_new (by simp) _
  have hB : Below w.heap.size w ((((w.alloc (.cells c0 t0)).alloc (.cells c1 t1)).alloc (.cells c2 t2)).alloc (.cells c3 t3)) := below_alloc (below_alloc (below_alloc (below_alloc (Below.refl _ _) _) _) _) _
  refine ⟨?_, ?_, hB.trans (hb.mono (by rw [four_0]; omega)), blk_below a0 hb, blk_below a1 hb, blk_below a2 hb, blk_below a3 hb⟩
  · rw [four_0] at hg; exact hg
  · rw [four_0] at ho; exact ho
theorem cells32_size (xs : List Int) : (cells32 xs).size = xs.length := by unfold cells32 nums; simp
theorem cells32_one (xs : List Int) : (cells32 xs).all (·.oneCell') = true := by
  unfold cells32 nums
  rw [Array.all_eq_true_iff_forall_mem]
  intro v hv
  have hv' : v ∈ xs.map (Value.int .u32) := by simpa using hv
  obtain ⟨x, _, rfl⟩ := List.mem_map.1 hv'
  rfl
theorem Bk.row {w : World} {g g' : Nat} {t : TypeId} {xs : List Int} (h : Bk w g t xs) (hne : g ≠ g') (cs : Array Value) : Bk (w.setRow g' cs) g t xs := (setRow_other w g' g cs hne).trans h
theorem Bk.self {w : World} {g : Nat} {t : TypeId} {xs : List Int} (h : Bk w g t xs) (ys : List Int) : Bk (w.setRow g (cells32 ys)) g t ys := setRow_heap w g _ _ t _ h
theorem Bk.drew {w : World} {g : Nat} {t : TypeId} {xs : List Int} (h : Bk w g t xs) : Bk w.drew g t xs := h
section
variable {P : Program} {ops : Array Oper} {o : Oper} {a : Act} {w : World} {K : Act → World → Prop} {Q : Exit → Act → World → Prop} {E : Prop}
theorem step_load (hg0 : o.guard = none) {ty : TypeId} {x : Operand} (ho : o.op = .load ty x) {g : Nat} (hx : a.eval x = .pointer (some ⟨g, 0, none⟩)) {t : TypeId} {xs : List Int} {d : TypeDesc} (hg : Bk w g t xs) (hu : P.underlying ty = some d) (hd : (match d with | .struct _ | .array _ _ => true | _ => false) = true) (hi : (P.info? ty).map (·.size) = some xs.length)
    (h : K (a.put o.dst (.agg (cells32 xs))) w) : if Region.wanted o (yielded ops a.tmps) = true then Oper.wp P o a w K Q else E := by
  rw [if_pos (by simp [Region.wanted, hg0])]
  exact wp_load_row ty x ho g hx t (cells32 xs) (0, 0) d hg hu hd (by rw [cells32_size]; exact hi) h
theorem step_store (hg0 : o.guard = none) {ty : TypeId} {x y : Operand} (ho : o.op = .store ty x y) {g : Nat} (hx : a.eval x = .pointer (some ⟨g, 0, none⟩)) {t : TypeId} {xs ys : List Int} (hy : a.eval y = .agg (cells32 ys)) (hg : Bk w g t xs) (hl : xs.length = ys.length) (hi : (P.info? ty).map (·.size) = some ys.length)
    (h : K (a.put o.dst undef) (w.setRow g (cells32 ys))) : if Region.wanted o (yielded ops a.tmps) = true then Oper.wp P o a w K Q else E := by
  rw [if_pos (by simp [Region.wanted, hg0])]
  exact wp_store_row ty x y ho g (cells32 ys) hx hy t (cells32 xs) hg (by rw [cells32_size]; exact hi) (by rw [cells32_size, cells32_size]; exact hl) (cells32_one ys) h
end
structure CFin (hc kc : List Int) (w wr : World) (x y : List Int) : Prop where
  hb : Below w.heap.size w wr
  b0 : Bk wr w.heap.size 65 x
  b1 : Bk wr (w.heap.size + 1) 66 y
  b2 : Bk wr (w.heap.size + 1 + 1) 65 hc
  b3 : Bk wr (w.heap.size + 1 + 1 + 1) 66 kc
  l0 : x.length = 8
  l1 : y.length = 64
  l2 : hc.length = 8
  l3 : kc.length = 64
section
variable {hc kc : List Int}
theorem CFin.drew {w wr : World} {x y : List Int} (h : CFin hc kc w wr x y) : CFin hc kc w wr.drew x y := ⟨h.hb.drew, h.b0, h.b1, h.b2, h.b3, h.l0, h.l1, h.l2, h.l3⟩
theorem CFin.s0 {w wr : World} {x y : List Int} (h : CFin hc kc w wr x y) : CFin hc kc w (wr.setRow w.heap.size (cells32 hc)) hc y :=
  ⟨below_setRow h.hb (Nat.le_refl _) _, h.b0.self hc, h.b1.row (by omega) _, h.b2.row (by omega) _, h.b3.row (by omega) _, h.l2, h.l1, h.l2, h.l3⟩
theorem CFin.s1 {w wr : World} {x y : List Int} (h : CFin hc kc w wr x y) : CFin hc kc w (wr.setRow (w.heap.size + 1) (cells32 kc)) x kc :=
  ⟨below_setRow h.hb (by omega) _, h.b0.row (by omega) _, h.b1.self kc, h.b2.row (by omega) _, h.b3.row (by omega) _, h.l0, h.l3, h.l2, h.l3⟩
end
/-- What holds in the round. -/
structure CInv (w wr : World) (g c i : Nat) : Prop where
  hg : w.heap.size + 4 ≤ g
  ho : wr.ownsRow (w.heap.size + 4) 71 1 (.slice (some ⟨g, 0, none⟩) 64 c) 64 (nums .u64 PR)
  hb : Below w.heap.size w wr
  b0 : Bk wr w.heap.size 65 (List.replicate 8 0)
  b1 : Bk wr (w.heap.size + 1) 66 (List.replicate 64 0)
  b2 : Bk wr (w.heap.size + 2) 65 (part HC 8 (min i 8))
  b3 : Bk wr (w.heap.size + 3) 66 (part KC 64 i)
theorem CInv.draw {w wr : World} {g c i : Nat} (h : CInv w wr g c i) (n : Nat) : CInv w (wr.drewN n) g c i :=
  ⟨h.hg, pw_own_drewN h.ho n, pw_below_drewN h.hb n, h.b0, h.b1, h.b2, h.b3⟩
theorem CInv.put2 {w wr : World} {g c i : Nat} (h : CInv w wr g c i) (hi : i < 8) (x : Int) (hx : HC.getD i 0 = x) : Bk (wr.setCell ⟨w.heap.size + 1 + 1, i, none⟩ (.int .u32 x)) (w.heap.size + 2) 65 (part HC 8 (min (i + 1) 8)) := by
  subst hx
  have := h.b2.set i (HC.getD i 0)
  rw [show min i 8 = i by omega, part_set HC_len hi, show i + 1 = min (i + 1) 8 by omega] at this
  exact this
theorem CInv.put3 {w wr : World} {i : Nat} (h : Bk wr (w.heap.size + 3) 66 (part KC 64 i)) (hi : i < 64) (x : Int) (hx : KC.getD i 0 = x) : Bk (wr.setCell ⟨w.heap.size + 1 + 1 + 1, i, none⟩ (.int .u32 x)) (w.heap.size + 3) 66 (part KC 64 (i + 1)) := by
  subst hx
  have := h.set i (KC.getD i 0)
  rw [part_set KC_len hi] at this
  exact this
theorem CInv.one {w wr : World} {g c i n : Nat} (h : CInv w wr g c i) (h8 : 8 ≤ i) (hi : i < 64) : CInv w ((wr.drewN n).setCell ⟨w.heap.size + 1 + 1 + 1, i, none⟩ (.int .u32 (fr (fun x => cubeF x (rd PR (i : Int))) 38 0 % 4294967296))) g c (i + 1) := by
  have hg := h.hg
  exact ⟨hg, own_setCell (pw_own_drewN h.ho n) (by simp [Value.ownBlock]; omega) _, below_set (pw_below_drewN h.hb n) (by omega), Bk.far (h.b0.drewN n) (show _ ≠ w.heap.size + 1 + 1 + 1 by omega) _, Bk.far (h.b1.drewN n) (show _ ≠ w.heap.size + 1 + 1 + 1 by omega) _, by rw [show min (i + 1) 8 = min i 8 by omega]; exact Bk.far (h.b2.drewN n) (show _ ≠ w.heap.size + 1 + 1 + 1 by omega) _, CInv.put3 (h.b3.drewN n) hi _ (KC_get hi)⟩
theorem CInv.two {w wr : World} {g c i n m : Nat} (h : CInv w wr g c i) (hi : i < 8) : CInv w ((((wr.drewN n).setCell ⟨w.heap.size + 1 + 1, i, none⟩ (.int .u32 (fr (fun x => sqF x (rd PR (i : Int))) 38 0 % 4294967296))).drewN m).setCell ⟨w.heap.size + 1 + 1 + 1, i, none⟩ (.int .u32 (fr (fun x => cubeF x (rd PR (i : Int))) 38 0 % 4294967296))) g c (i + 1) := by
  have hg := h.hg
  have o1 : ((wr.drewN n).setCell ⟨w.heap.size + 1 + 1, i, none⟩ (.int .u32 (fr (fun x => sqF x (rd PR (i : Int))) 38 0 % 4294967296))).ownsRow (w.heap.size + 4) 71 1 (.slice (some ⟨g, 0, none⟩) 64 c) 64 (nums .u64 PR) := own_setCell (pw_own_drewN h.ho n) (by simp [Value.ownBlock]; omega) _
  exact ⟨hg, own_setCell (pw_own_drewN o1 m) (by simp [Value.ownBlock]; omega) _, below_set (pw_below_drewN (below_set (pw_below_drewN h.hb n) (by omega)) m) (by omega),
    Bk.far (Bk.drewN (Bk.far (h.b0.drewN n) (show _ ≠ w.heap.size + 1 + 1 by omega) _) m) (show _ ≠ w.heap.size + 1 + 1 + 1 by omega) _,
    Bk.far (Bk.drewN (Bk.far (h.b1.drewN n) (show _ ≠ w.heap.size + 1 + 1 by omega) _) m) (show _ ≠ w.heap.size + 1 + 1 + 1 by omega) _,
    Bk.far (Bk.drewN ((h.draw n).put2 hi _ (HC_get hi)) m) (show _ ≠ w.heap.size + 1 + 1 + 1 by omega) _,
    CInv.put3 (Bk.drewN (Bk.far (h.b3.drewN n) (show _ ≠ w.heap.size + 1 + 1 by omega) _) m) (by omega) _ (KC_get (by omega))⟩
theorem CInv.fin {w wr : World} {g c : Nat} (h : CInv w wr g c 64) : CFin HC KC w wr (List.replicate 8 0) (List.replicate 64 0) :=
  ⟨h.hb, h.b0, h.b1, by have := h.b2; rw [show min 64 8 = 8 from rfl, part_all HC_len] at this; exact this, by have := h.b3; rw [part_all KC_len] at this; exact this, by decide, by decide, HC_len, KC_len⟩
theorem info65 : (Try.prog.info? 65).map (·.size) = some 8 := by kernel_rfl
theorem info66 : (Try.prog.info? 66).map (·.size) = some 64 := by kernel_rfl
set_option maxHeartbeats 8000000 in
set_option maxRecDepth 100000 in
theorem constants_calls (w : World) : Calls Try.prog 43 #[] w fun e w' => e = .returned (.tuple #[.agg (cells32 HC), .agg (cells32 KC)]) ∧ Below w.heap.size w w' := by
  go_enter Try.func43, Try.ntmps43
  go_wp2_with (first | (go_at_call 60; (with_reducible refine (primes_calls' _).mono ?_); rintro e w1 ⟨g, c, rfl, hg, ho, hb⟩; obtain ⟨hg1, ho1, hb1, k0, k1, k2, k3⟩ := four_pack hg ho hb; have C0 := Aside0.mk (CInv.mk (i := 0) hg1 ho1 hb1 k0 k1 (by rw [show min 0 8 = 0 from rfl, part_none]; exact k2) (by rw [part_none]; exact k3)); clear hg ho hb hg1 ho1 hb1 k0 k1 k2 k3))
  go_loopg [8] 64 (fun kq v8 w' => ∃ (i : Nat), i ≤ 64 ∧ kq + i = 64 ∧ v8 = .int .i64 i ∧ Aside0 (CInv w w' g c i))
  case atStart => exact ⟨0, by omega, by omega, rfl, C0⟩
  case round =>
    clear C0
    obtain ⟨i, hi, hk, rfl, C⟩ := hrel
    by_cases hlt : i < 64
    · obtain ⟨h1, h2⟩ := own_at C.out.ho (i : Int) (by omega) (by omega)
      rw [Int.toNat_natCast] at h1
      clear h2
      have z2 := C.out.b2
      have z3 := C.out.b3
      have q1 : decide ((i : Int) < 64) = true := decide_eq_true (by omega)
      by_cases h8 : i < 8
      · have q8 : decide ((i : Int) < 8) = true := decide_eq_true (by omega)
        have f2 := z2.frozen i
        have f3 := z3.frozen i
        have e2 := z2.cell i (by rw [part_len HC_len (by omega)]; exact h8)
        have e3 := z3.cell i (by rw [part_len KC_len (by omega)]; exact hlt)
        clear z2 z3
        go_wp2_with (first | (go_at_call 61; (with_reducible refine (fraction_square _ _).mono ?_); rintro e w' ⟨rfl, ⟨nd, rfl⟩⟩) | (go_at_call 61; (with_reducible refine (fraction_cube _ _).mono ?_); rintro e w' ⟨rfl, ⟨nd, rfl⟩⟩))
        go_roundg (gk - 1)
        case measure => omega
        case rel => exact ⟨i + 1, by omega, by omega, rfl, ⟨C.out.two h8⟩⟩
      · have q8 : decide ((i : Int) < 8) = false := decide_eq_false (by omega)
        have f3 := z3.frozen i
        have e3 := z3.cell i (by rw [part_len KC_len (by omega)]; exact hlt)
        clear z2 z3
        go_wp2_with (first | (go_at_call 61; (with_reducible refine (fraction_square _ _).mono ?_); rintro e w' ⟨rfl, ⟨nd, rfl⟩⟩) | (go_at_call 61; (with_reducible refine (fraction_cube _ _).mono ?_); rintro e w' ⟨rfl, ⟨nd, rfl⟩⟩))
        go_roundg (gk - 1)
        case measure => omega
        case rel => exact ⟨i + 1, by omega, by omega, rfl, ⟨C.out.one (by omega) hlt⟩⟩
    · have q1 : decide ((i : Int) < 64) = false := decide_eq_false (by omega)
      go_wp2
      have hF := (show i = 64 by omega) ▸ C.out
      obtain ⟨hc, kc, eh, F0⟩ : ∃ hc kc, Aside0 (hc = HC ∧ kc = KC) ∧ CFin hc kc w wr.drew (List.replicate 8 0) (List.replicate 64 0) := ⟨HC, KC, ⟨rfl, rfl⟩, hF.fin.drew⟩
      clear hF C
      refine wp_region_any (by kernel_rfl) ?_
      change wpAny _ _ _ _ _ _ _ (World.drew _)
      refine wpAny_ready (rs := [0, 1]) (by decide +kernel) (by simp) ?_
      refine AllReady.cons rfl (fun K hK => ?_) (AllReady.cons rfl (fun K hK => ?_) (AllReady.nil))
      · refine step_load rfl rfl rfl F0.b2 Try.underlying65 rfl (by rw [F0.l2]; exact info65) ?_
        refine hK _ _ ?_
        clear hK K
        refine wpAny_ready (rs := [1, 2]) (by decide +kernel) (by simp) ?_
        refine AllReady.cons rfl (fun K hK => ?_) (AllReady.cons rfl (fun K hK => ?_) (AllReady.nil))
        · refine step_load rfl rfl rfl F0.b3 Try.underlying66 rfl (by rw [F0.l3]; exact info66) ?_
          refine hK _ _ ?_
          clear hK K
          refine wpAny_ready (rs := [2]) (by decide +kernel) (by simp) ?_
          refine AllReady.cons rfl (fun K hK => ?_) (AllReady.nil)
          · refine step_store rfl rfl rfl (ys := hc) rfl F0.b0 (F0.l0.trans F0.l2.symm) (by rw [F0.l2]; exact info65) ?_
            replace F0 := F0.s0
            refine hK _ _ ?_
            clear hK K
            refine wpAny_ready (rs := [3]) (by decide +kernel) (by simp) ?_
            refine AllReady.cons rfl (fun K hK => ?_) (AllReady.nil)
            · refine step_store rfl rfl rfl (ys := kc) rfl F0.b1 (F0.l1.trans F0.l3.symm) (by rw [F0.l3]; exact info66) ?_
              replace F0 := F0.s1
              refine hK _ _ ?_
              clear hK K
              refine wpAny_done (by decide +kernel) ?_ _
              go_wp2
              refine bodyPost_ret (results_cc rfl _ _ w.heap.size (w.heap.size + 1) 65 66 (cells32 hc) (cells32 kc) (0, 0) (0, 0) _ _ rfl F0.b0 Try.underlying65 rfl (by rw [cells32_size, F0.l2]; exact info65) rfl F0.b1 Try.underlying66 rfl (by rw [cells32_size, F0.l3]; exact info66)) rfl ?_
              exact ⟨by rw [eh.out.1, eh.out.2], F0.hb⟩
        · refine step_store rfl rfl rfl (ys := hc) rfl F0.b0 (F0.l0.trans F0.l2.symm) (by rw [F0.l2]; exact info65) ?_
          replace F0 := F0.s0
          refine hK _ _ ?_
          clear hK K
          refine wpAny_ready (rs := [1]) (by decide +kernel) (by simp) ?_
          refine AllReady.cons rfl (fun K hK => ?_) (AllReady.nil)
          · refine step_load rfl rfl rfl F0.b3 Try.underlying66 rfl (by rw [F0.l3]; exact info66) ?_
            refine hK _ _ ?_
            clear hK K
            refine wpAny_ready (rs := [3]) (by decide +kernel) (by simp) ?_
            refine AllReady.cons rfl (fun K hK => ?_) (AllReady.nil)
            · refine step_store rfl rfl rfl (ys := kc) rfl F0.b1 (F0.l1.trans F0.l3.symm) (by rw [F0.l3]; exact info66) ?_
              replace F0 := F0.s1
              refine hK _ _ ?_
              clear hK K
              refine wpAny_done (by decide +kernel) ?_ _
              go_wp2
              refine bodyPost_ret (results_cc rfl _ _ w.heap.size (w.heap.size + 1) 65 66 (cells32 hc) (cells32 kc) (0, 0) (0, 0) _ _ rfl F0.b0 Try.underlying65 rfl (by rw [cells32_size, F0.l2]; exact info65) rfl F0.b1 Try.underlying66 rfl (by rw [cells32_size, F0.l3]; exact info66)) rfl ?_
              exact ⟨by rw [eh.out.1, eh.out.2], F0.hb⟩
      · refine step_load rfl rfl rfl F0.b3 Try.underlying66 rfl (by rw [F0.l3]; exact info66) ?_
        refine hK _ _ ?_
        clear hK K
        refine wpAny_ready (rs := [0]) (by decide +kernel) (by simp) ?_
        refine AllReady.cons rfl (fun K hK => ?_) (AllReady.nil)
        · refine step_load rfl rfl rfl F0.b2 Try.underlying65 rfl (by rw [F0.l2]; exact info65) ?_
          refine hK _ _ ?_
          clear hK K
          refine wpAny_ready (rs := [2]) (by decide +kernel) (by simp) ?_
          refine AllReady.cons rfl (fun K hK => ?_) (AllReady.nil)
          · refine step_store rfl rfl rfl (ys := hc) rfl F0.b0 (F0.l0.trans F0.l2.symm) (by rw [F0.l2]; exact info65) ?_
            replace F0 := F0.s0
            refine hK _ _ ?_
            clear hK K
            refine wpAny_ready (rs := [3]) (by decide +kernel) (by simp) ?_
            refine AllReady.cons rfl (fun K hK => ?_) (AllReady.nil)
            · refine step_store rfl rfl rfl (ys := kc) rfl F0.b1 (F0.l1.trans F0.l3.symm) (by rw [F0.l3]; exact info66) ?_
              replace F0 := F0.s1
              refine hK _ _ ?_
              clear hK K
              refine wpAny_done (by decide +kernel) ?_ _
              go_wp2
              refine bodyPost_ret (results_cc rfl _ _ w.heap.size (w.heap.size + 1) 65 66 (cells32 hc) (cells32 kc) (0, 0) (0, 0) _ _ rfl F0.b0 Try.underlying65 rfl (by rw [cells32_size, F0.l2]; exact info65) rfl F0.b1 Try.underlying66 rfl (by rw [cells32_size, F0.l3]; exact info66)) rfl ?_
              exact ⟨by rw [eh.out.1, eh.out.2], F0.hb⟩
end Go.Proofs.Ytomenklhgofjaaa.Sh
