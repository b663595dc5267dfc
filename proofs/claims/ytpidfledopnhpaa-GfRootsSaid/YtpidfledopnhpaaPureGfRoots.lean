/- Each number but nought is just one power of two of the first 255. For every input. -/
import Derived.Test.YtpidfledopnhpaaXGfRootsx1
import Derived.Test.YtpidfledopnhpaaMBits
import Derived.Test.YtpidfledopnhpaaGf
namespace Go.Proofs.Ytpidfledopnhpaa.Pure
open Go.RowKit Go.Proofs.Ytpidfledopnhpaa Go.Proofs.Ytpidfledopnhpaa.XGfRoots Go.Proofs.YtpidfledopnhpaaW.PrintWords Go.Proofs.YtpidfledopnhpaaW.PrintLast Go.Proofs.YtpidfledopnhpaaW.PrintMore
set_option linter.unusedVariables false
set_option linter.unusedSimpArgs false
/-! products and powers -/
theorem gmul_l0 : ∀ (d : Nat) (k n x m : Nat), n < 256 → x < 256 → m < 2 ^ d → d ≤ 8 →
    gf_Mul.l0 (k + d + 1) (n : Int) (x : Int) (m : Int) = some ((Gm.mulN d m x n : Nat) : Int) := by
  intro d
  induction d with
  | zero =>
    intro k n x m hn hx hm hd
    obtain rfl : m = 0 := by simpa using hm
    rw [gf_Mul.l0, if_neg (by omega)]
    show some ((n : Int) % 256) = some (n : Int)
    rw [Int.emod_eq_of_lt (by omega) (by omega)]
  | succ d ih =>
    intro k n x m hn hx hm hd
    have hm2 : 2 ^ (d + 1) ≤ 256 := Nat.pow_le_pow_right (by decide) (by omega : d + 1 ≤ 8)
    have hxt := Gm.xt_lt hx
    have hxx := Gm.xor_lt8 hn hx
    have hmd : m / 2 < 2 ^ d := by rw [Nat.pow_succ] at hm; omega
    have e2 : (m : Int) / 2 = ((m / 2 : Nat) : Int) := by omega
    have ex : wrap64 ((x : Int) * 2) = ((2 * x : Nat) : Int) := by rw [Bt.wrap_ok (by omega) (by omega)]; omega
    have hz : Gm.mulN (d + 1) m x n = Gm.mulN d (m / 2) (Gm.xt x) (if m % 2 = 1 then n ^^^ x else n) := rfl
    have hxe : ∀ r, (if ((2 * x : Nat) : Int) > 255 then gf_Mul.l0 (k + d + 1) r (Go.bits .xor .i64 ((2 * x : Nat) : Int) 285) ((m / 2 : Nat) : Int) else gf_Mul.l0 (k + d + 1) r ((2 * x : Nat) : Int) ((m / 2 : Nat) : Int)) = gf_Mul.l0 (k + d + 1) r ((Gm.xt x : Nat) : Int) ((m / 2 : Nat) : Int) := by
      intro r
      by_cases h : 255 < 2 * x
      · rw [if_pos (by omega), show (285 : Int) = ((285 : Nat) : Int) from rfl, Bt.x64 (by omega) (by decide)]
        unfold Gm.xt
        rw [if_pos h]
      · rw [if_neg (by omega)]
        unfold Gm.xt
        rw [if_neg h]
    rw [show k + (d + 1) + 1 = (k + d + 1) + 1 by omega, gf_Mul.l0, ex, e2, hxe, hxe, hz]
    by_cases h0 : m = 0
    · subst h0
      rw [if_neg (by omega)]
      simp only [Nat.zero_div, Nat.zero_mod]
      rw [if_neg (by decide), Gm.mulN_zero_b, Int.emod_eq_of_lt (by omega) (by omega)]
    · rw [if_pos (by omega), Bt.and1_8 (by omega)]
      by_cases h : m % 2 = 1
      · rw [if_pos (by omega), Bt.x64 (by omega) (by omega), ih k _ _ _ hxx hxt hmd (by omega), if_pos h]
      · rw [if_neg (by omega), ih k _ _ _ hn hxt hmd (by omega), if_neg h]
theorem gmul_f {a b : Nat} (ha : a < 256) (hb : b < 256) (k : Nat) (hk : 9 ≤ k) : gf_Mul.f k (a : Int) (b : Int) = some ((Gm.gm a b : Nat) : Int) := by
  obtain ⟨j, rfl⟩ : ∃ j, k = j + 8 + 1 := ⟨k - 9, by omega⟩
  unfold gf_Mul.f
  rw [Bt.wrap_ok (by omega) (by omega)]
  exact gmul_l0 8 j 0 a b (by decide) ha hb (by decide)
theorem gpow_l0 : ∀ (d : Nat) (k x o m : Nat), x < 256 → o < 256 → m < 2 ^ d → d ≤ 60 →
    gf_Pow.l0 (k + 9 + d + 1) (x : Int) (o : Int) (m : Int) = some ((Gm.pw d x o m : Nat) : Int) := by
  intro d
  induction d with
  | zero =>
    intro k x o m hx ho hm hd
    obtain rfl : m = 0 := by simpa using hm
    rw [gf_Pow.l0, if_neg (by omega)]
    rfl
  | succ d ih =>
    intro k x o m hx ho hm hd
    have hm2 : 2 ^ (d + 1) ≤ 2 ^ 61 := Nat.pow_le_pow_right (by decide) (by omega)
    have hmd : m / 2 < 2 ^ d := by rw [Nat.pow_succ] at hm; omega
    have e2 : (m : Int) / 2 = ((m / 2 : Nat) : Int) := by omega
    have hz : Gm.pw (d + 1) x o m = if m = 0 then o else Gm.pw d (Gm.gm x x) (if m % 2 = 1 then Gm.gm o x else o) (m / 2) := rfl
    rw [show k + 9 + (d + 1) + 1 = (k + 9 + d + 1) + 1 by omega, gf_Pow.l0, e2, hz]
    by_cases h0 : m = 0
    · rw [if_neg (by omega), if_pos h0]
    · rw [if_pos (by omega), if_neg h0, Bt.and1_64 (by omega)]
      by_cases h : m % 2 = 1
      · rw [if_pos (by omega), gmul_f ho hx _ (by omega), Option.bind_some, gmul_f hx hx _ (by omega), Option.bind_some, ih k _ _ _ (Gm.gm_lt hx) (Gm.gm_lt ho) hmd (by omega), if_pos h]
      · rw [if_neg (by omega), gmul_f hx hx _ (by omega), Option.bind_some, ih k _ _ _ (Gm.gm_lt hx) ho hmd (by omega), if_neg h]
/-- A power of what is not nought: by what is left of its number by 255. -/
theorem gpow_f {a : Nat} (h0 : a ≠ 0) (ha : a < 256) (n : Int) (hn : -9223372036854775808 ≤ n) (hn' : n ≤ 9223372036854775807) (k : Nat) (hk : 100 ≤ k) :
    gf_Pow.f k (a : Int) n = some ((Gm.gp a (n % 255).toNat : Nat) : Int) := by
  obtain ⟨j, rfl⟩ : ∃ j, k = j + 9 + 8 + 1 := ⟨k - 18, by omega⟩
  unfold gf_Pow.f
  rw [if_neg (by omega)]
  obtain ⟨m, hm⟩ : ∃ m : Nat, (Int.tmod (wrap64 ((Int.tmod n 255) + 255)) 255) = (m : Int) ∧ m = (n % 255).toNat := by
    have ht : Int.tmod n 255 = if 0 ≤ n ∨ n % 255 = 0 then n % 255 else n % 255 - 255 := by
      rw [Int.tmod_eq_emod]
      by_cases h1 : 0 ≤ n ∨ (255 : Int) ∣ n
      · rw [if_pos h1, if_pos (by omega)]; omega
      · rw [if_neg h1, if_neg (by omega)]; omega
    have hb : 0 ≤ Int.tmod n 255 + 255 ∧ Int.tmod n 255 + 255 < 510 := by rw [ht]; split <;> omega
    refine ⟨(n % 255).toNat, ?_, rfl⟩
    rw [Bt.wrap_ok (by omega) (by omega), Int.tmod_eq_emod_of_nonneg hb.1, ht]
    split <;> omega
  rw [hm.1, show (1 : Int) = ((1 : Nat) : Int) from rfl, gpow_l0 8 j a 1 m ha (by decide) (by omega) (by decide), Gm.pw_eq 8 a 1 m ha (by decide) (by omega), Gm.gm_one_l (Gm.gp_lt ha _), hm.2]
theorem ginv_f {a : Nat} (h0 : a ≠ 0) (ha : a < 256) (k : Nat) (hk : 100 ≤ k) : gf_Inv.f k (a : Int) = some ((Gm.gp a 254 : Nat) : Int) := by
  unfold gf_Inv.f
  rw [if_neg (by omega), gpow_f h0 ha (-1) (by decide) (by decide) k hk]
  rfl
theorem gdeg_awake (k : Nat) (hk : 100 ≤ k) : gf_Poly_Degree.f k ([0, 1] : List Int) = some 1 := by
  obtain ⟨j, rfl⟩ : ∃ j, k = j + 1 := ⟨k - 1, by omega⟩
  unfold gf_Poly_Degree.f
  have e2 : (([0, 1] : List Int).length : Int) = 2 := rfl
  rw [gf_Poly_Degree.l0, e2, Bt.wrap_ok (by decide) (by decide), if_pos (by decide), if_pos (by decide), if_pos (by decide), if_neg (by decide)]
  rfl
theorem awake_f (k : Nat) (hk : 100 ≤ k) : tinderboxlaw27_awake.f k = some true := by
  have hp : Gm.gp 1 254 = 1 := by
    obtain ⟨m, hm⟩ : ∃ m, m = 254 := ⟨_, rfl⟩
    rw [← hm]
    clear hm hk
    induction m with
    | zero => rfl
    | succ m ih => rw [Gm.gp_succ, ih, Gm.gm_one_r]
  unfold tinderboxlaw27_awake.f
  rw [show (2 : Int) = ((2 : Nat) : Int) from rfl, show (128 : Int) = ((128 : Nat) : Int) from rfl, gmul_f (by decide) (by decide) k (by omega), Option.bind_some,
    show Gm.gm 2 128 = 29 from by decide +kernel, if_pos (show ((29 : Nat) : Int) = 29 from rfl), show (1 : Int) = ((1 : Nat) : Int) from rfl, ginv_f (by decide) (by decide) k hk, Option.bind_some,
    hp, if_pos rfl]
  have := gdeg_awake k hk
  rw [show ([0, ((1 : Nat) : Int)] : List Int) = [0, 1] from rfl, this]
  rfl
theorem roots_l0 {a : Nat} (ha : a < 256) (ca : Gm.cnt 255 1 a 0 = if a = 0 then 0 else 1) : ∀ (d k : Nat) (i c : Nat), i + d = 255 → c + d ≤ 255 → Gm.cnt d (Gm.gp 2 i) a c = Gm.cnt 255 1 a 0 →
    tinderboxlaw27_GfRoots.l0 (k + 100 + d + 1) (a : Int) (c : Int) (i : Int) = some true := by
  intro d
  induction d with
  | zero =>
    intro k i c hi hc he
    have hc2 : c = if a = 0 then 0 else 1 := by rw [← ca, ← he]; rfl
    rw [tinderboxlaw27_GfRoots.l0, if_neg (by omega), awake_f _ (by omega), Option.bind_some, if_pos rfl]
    by_cases h : a = 0
    · rw [if_pos h] at hc2
      rw [hc2, h]
      rfl
    · rw [if_neg h] at hc2
      rw [hc2, if_pos (Bt.cast1 rfl), if_neg (by omega)]
  | succ d ih =>
    intro k i c hi hc he
    have c1 : (i : Int) < 255 := by omega
    have c3 : wrap64 ((i : Int) + 1) = ((i + 1 : Nat) : Int) := by rw [Bt.wrap_ok (by omega) (by omega)]; omega
    have c4 : wrap64 ((c : Int) + 1) = ((c + 1 : Nat) : Int) := by rw [Bt.wrap_ok (by omega) (by omega)]; omega
    have c5 : ((i : Int) % 255).toNat = i := by omega
    have er : gf_Root.f (k + 100 + d + 1) (i : Int) = some ((Gm.gp 2 i : Nat) : Int) := by
      unfold gf_Root.f
      have := gpow_f (a := 2) (by decide) (by decide) (i : Int) (by omega) (by omega) (k + 100 + d + 1) (by omega)
      rw [c5] at this
      rw [show (2 : Int) = ((2 : Nat) : Int) from rfl, this]
      rfl
    have hs : Gm.cnt (d + 1) (Gm.gp 2 i) a c = Gm.cnt d (Gm.gp 2 (i + 1)) a (if Nat.beq (Gm.gp 2 i) a = true then c + 1 else c) := by
      rw [Gm.gp_succ, Gm.gm_two_r]
      rfl
    rw [hs] at he
    rw [show k + 100 + (d + 1) + 1 = (k + 100 + d + 1) + 1 by omega, tinderboxlaw27_GfRoots.l0, if_pos c1, er, Option.bind_some, c3, c4]
    by_cases h : Gm.gp 2 i = a
    · have hb : Nat.beq (Gm.gp 2 i) a = true := by rw [h]; exact Nat.beq_refl a
      rw [if_pos hb] at he
      rw [if_pos (by rw [h])]
      exact ih k (i + 1) (c + 1) (by omega) (by omega) he
    · have hb : ¬ Nat.beq (Gm.gp 2 i) a = true := fun h' => h (Nat.eq_of_beq_eq_true h')
      rw [if_neg hb] at he
      rw [if_neg (show ¬ ((Gm.gp 2 i : Nat) : Int) = (a : Int) from fun h' => h (Int.ofNat.inj h'))]
      exact ih k (i + 1) c (by omega) (by omega) he
theorem GfRoots : tinderboxlaw27_GfRoots.Pure := by
  intro x hx
  have wx := Bt.wf_u8 hx
  obtain ⟨a, rfl⟩ := Int.eq_ofNat_of_zero_le wx.1
  have ha : a < 256 := by omega
  exact ⟨0 + 100 + 255 + 1, roots_l0 ha (Gm.cnt_all ha) 255 0 0 0 (by decide) (by decide) rfl⟩
end Go.Proofs.Ytpidfledopnhpaa.Pure
