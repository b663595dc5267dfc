/- Powers are products as often, those below nought are of what is one over the number. For every input. -/
import Derived.Test.YtpidfledopnhpaaXGfPowx1
import Derived.Test.YtpidfledopnhpaaXGfPowx2
import Derived.Test.YtpidfledopnhpaaMBits
import Derived.Test.YtpidfledopnhpaaGf
namespace Go.Proofs.Ytpidfledopnhpaa.Pure
open Go.RowKit Go.Proofs.Ytpidfledopnhpaa Go.Proofs.Ytpidfledopnhpaa.XGfPow Go.Proofs.YtpidfledopnhpaaW.PrintWords Go.Proofs.YtpidfledopnhpaaW.PrintLast Go.Proofs.YtpidfledopnhpaaW.PrintMore
/-! products and powers -/
theorem gmul_l0 : ∀ (d : Nat) (k n x m : Nat), n < 256 → x < 256 → m < 2 ^ d → d ≤ 8 →
    gf_Mul.l0 (k + d + 1) (n : Int) (x : Int) (m : Int) = some ((Gm.mulN d m x n : Nat) : Int) := by
  intro d
  induction d with
  | zero =>
    intro k n x m hn hx hm hd
    obtain rfl : m = 0 := by simpa using hm
    rw [gf_Mul.l0, if_neg (by omega)]
    show some ((n : Int) % 256) = some (n : Int)
    rw [Int.emod_eq_of_lt (by omega) (by omega)]
  | succ d ih =>
    intro k n x m hn hx hm hd
    have hm2 : 2 ^ (d + 1) ≤ 256 := Nat.pow_le_pow_right (by decide) (by omega : d + 1 ≤ 8)
    have hxt := Gm.xt_lt hx
    have hxx := Gm.xor_lt8 hn hx
    have hmd : m / 2 < 2 ^ d := by rw [Nat.pow_succ] at hm; omega
    have e2 : (m : Int) / 2 = ((m / 2 : Nat) : Int) := by omega
    have ex : wrap64 ((x : Int) * 2) = ((2 * x : Nat) : Int) := by rw [Bt.wrap_ok (by omega) (by omega)]; omega
    have hz : Gm.mulN (d + 1) m x n = Gm.mulN d (m / 2) (Gm.xt x) (if m % 2 = 1 then n ^^^ x else n) := rfl
    have hxe : ∀ r, (if ((2 * x : Nat) : Int) > 255 then gf_Mul.l0 (k + d + 1) r (Go.bits .xor .i64 ((2 * x : Nat) : Int) 285) ((m / 2 : Nat) : Int) else gf_Mul.l0 (k + d + 1) r ((2 * x : Nat) : Int) ((m / 2 : Nat) : Int)) = gf_Mul.l0 (k + d + 1) r ((Gm.xt x : Nat) : Int) ((m / 2 : Nat) : Int) := by
      intro r
      by_cases h : 255 < 2 * x
      · rw [if_pos (by omega), show (285 : Int) = ((285 : Nat) : Int) from rfl, Bt.x64 (by omega) (by decide)]
        unfold Gm.xt
        rw [if_pos h]
      · rw [if_neg (by omega)]
        unfold Gm.xt
        rw [if_neg h]
    rw [show k + (d + 1) + 1 = (k + d + 1) + 1 by omega, gf_Mul.l0, ex, e2, hxe, hxe, hz]
    by_cases h0 : m = 0
    · subst h0
      rw [if_neg (by omega)]
      simp only [Nat.zero_div, Nat.zero_mod]
      rw [if_neg (by decide), Gm.mulN_zero_b, Int.emod_eq_of_lt (by omega) (by omega)]
    · rw [if_pos (by omega), Bt.and1_8 (by omega)]
      by_cases h : m % 2 = 1
      · rw [if_pos (by omega), Bt.x64 (by omega) (by omega), ih k _ _ _ hxx hxt hmd (by omega), if_pos h]
      · rw [if_neg (by omega), ih k _ _ _ hn hxt hmd (by omega), if_neg h]
theorem gmul_f {a b : Nat} (ha : a < 256) (hb : b < 256) (k : Nat) (hk : 9 ≤ k) : gf_Mul.f k (a : Int) (b : Int) = some ((Gm.gm a b : Nat) : Int) := by
  obtain ⟨j, rfl⟩ : ∃ j, k = j + 8 + 1 := ⟨k - 9, by omega⟩
  unfold gf_Mul.f
  rw [Bt.wrap_ok (by omega) (by omega)]
  exact gmul_l0 8 j 0 a b (by decide) ha hb (by decide)
theorem gpow_l0 : ∀ (d : Nat) (k x o m : Nat), x < 256 → o < 256 → m < 2 ^ d → d ≤ 60 →
    gf_Pow.l0 (k + 9 + d + 1) (x : Int) (o : Int) (m : Int) = some ((Gm.pw d x o m : Nat) : Int) := by
  intro d
  induction d with
  | zero =>
    intro k x o m hx ho hm hd
    obtain rfl : m = 0 := by simpa using hm
    rw [gf_Pow.l0, if_neg (by omega)]
    rfl
  | succ d ih =>
    intro k x o m hx ho hm hd
    have hm2 : 2 ^ (d + 1) ≤ 2 ^ 61 := Nat.pow_le_pow_right (by decide) (by omega)
    have hmd : m / 2 < 2 ^ d := by rw [Nat.pow_succ] at hm; omega
    have e2 : (m : Int) / 2 = ((m / 2 : Nat) : Int) := by omega
    have hz : Gm.pw (d + 1) x o m = if m = 0 then o else Gm.pw d (Gm.gm x x) (if m % 2 = 1 then Gm.gm o x else o) (m / 2) := rfl
    rw [show k + 9 + (d + 1) + 1 = (k + 9 + d + 1) + 1 by omega, gf_Pow.l0, e2, hz]
    by_cases h0 : m = 0
    · rw [if_neg (by omega), if_pos h0]
    · rw [if_pos (by omega), if_neg h0, Bt.and1_64 (by omega)]
      by_cases h : m % 2 = 1
      · rw [if_pos (by omega), gmul_f ho hx _ (by omega), Option.bind_some, gmul_f hx hx _ (by omega), Option.bind_some, ih k _ _ _ (Gm.gm_lt hx) (Gm.gm_lt ho) hmd (by omega), if_pos h]
      · rw [if_neg (by omega), gmul_f hx hx _ (by omega), Option.bind_some, ih k _ _ _ (Gm.gm_lt hx) ho hmd (by omega), if_neg h]
/-- A power of what is not nought: by what is left of its number by 255. -/
theorem gpow_f {a : Nat} (h0 : a ≠ 0) (ha : a < 256) (n : Int) (hn : -9223372036854775808 ≤ n) (hn' : n ≤ 9223372036854775807) (k : Nat) (hk : 100 ≤ k) :
    gf_Pow.f k (a : Int) n = some ((Gm.gp a (n % 255).toNat : Nat) : Int) := by
  obtain ⟨j, rfl⟩ : ∃ j, k = j + 9 + 8 + 1 := ⟨k - 18, by omega⟩
  unfold gf_Pow.f
  rw [if_neg (by omega)]
  obtain ⟨m, hm⟩ : ∃ m : Nat, (Int.tmod (wrap64 ((Int.tmod n 255) + 255)) 255) = (m : Int) ∧ m = (n % 255).toNat := by
    have ht : Int.tmod n 255 = if 0 ≤ n ∨ n % 255 = 0 then n % 255 else n % 255 - 255 := by
      rw [Int.tmod_eq_emod]
      by_cases h1 : 0 ≤ n ∨ (255 : Int) ∣ n
      · rw [if_pos h1, if_pos (by omega)]; omega
      · rw [if_neg h1, if_neg (by omega)]; omega
    have hb : 0 ≤ Int.tmod n 255 + 255 ∧ Int.tmod n 255 + 255 < 510 := by rw [ht]; split <;> omega
    refine ⟨(n % 255).toNat, ?_, rfl⟩
    rw [Bt.wrap_ok (by omega) (by omega), Int.tmod_eq_emod_of_nonneg hb.1, ht]
    split <;> omega
  rw [hm.1, show (1 : Int) = ((1 : Nat) : Int) from rfl, gpow_l0 8 j a 1 m ha (by decide) (by omega) (by decide), Gm.pw_eq 8 a 1 m ha (by decide) (by omega), Gm.gm_one_l (Gm.gp_lt ha _), hm.2]
theorem ginv_f {a : Nat} (h0 : a ≠ 0) (ha : a < 256) (k : Nat) (hk : 100 ≤ k) : gf_Inv.f k (a : Int) = some ((Gm.gp a 254 : Nat) : Int) := by
  unfold gf_Inv.f
  rw [if_neg (by omega), gpow_f h0 ha (-1) (by decide) (by decide) k hk]
  rfl
theorem gdeg_awake (k : Nat) (hk : 100 ≤ k) : gf_Poly_Degree.f k ([0, 1] : List Int) = some 1 := by
  obtain ⟨j, rfl⟩ : ∃ j, k = j + 1 := ⟨k - 1, by omega⟩
  unfold gf_Poly_Degree.f
  have e2 : (([0, 1] : List Int).length : Int) = 2 := rfl
  rw [gf_Poly_Degree.l0, e2, Bt.wrap_ok (by decide) (by decide), if_pos (by decide), if_pos (by decide), if_pos (by decide), if_neg (by decide)]
  rfl
theorem awake_f (k : Nat) (hk : 100 ≤ k) : tinderboxlaw27_awake.f k = some true := by
  have hp : Gm.gp 1 254 = 1 := by
    obtain ⟨m, hm⟩ : ∃ m, m = 254 := ⟨_, rfl⟩
    rw [← hm]
    clear hm hk
    induction m with
    | zero => rfl
    | succ m ih => rw [Gm.gp_succ, ih, Gm.gm_one_r]
  unfold tinderboxlaw27_awake.f
  rw [show (2 : Int) = ((2 : Nat) : Int) from rfl, show (128 : Int) = ((128 : Nat) : Int) from rfl, gmul_f (by decide) (by decide) k (by omega), Option.bind_some,
    show Gm.gm 2 128 = 29 from by decide +kernel, if_pos (show ((29 : Nat) : Int) = 29 from rfl), show (1 : Int) = ((1 : Nat) : Int) from rfl, ginv_f (by decide) (by decide) k hk, Option.bind_some,
    hp, if_pos rfl]
  have := gdeg_awake k hk
  rw [show ([0, ((1 : Nat) : Int)] : List Int) = [0, 1] from rfl, this]
  rfl
/-! the reference's product -/
theorem rmul_l1 : ∀ (d : Nat) (k n : Nat) (x : Int), d ≤ 7 → n < 65536 → x = (d : Int) + 7 →
    tinderboxref27_Mul.l1 (k + d + 1) (n : Int) x = some ((Gm.rred d n % 256 : Nat) : Int) := by
  intro d
  induction d with
  | zero =>
    intro k n x hd hn hx
    rw [tinderboxref27_Mul.l1, if_neg (by omega)]
    show some ((n : Int) % 256) = some ((n % 256 : Nat) : Int)
    rw [Int.natCast_emod]
    rfl
  | succ d ih =>
    intro k n x hd hn hx
    have c1 : x ≥ 8 := by omega
    have c2 : 0 ≤ x := by omega
    have c3 : 0 ≤ x - 8 := by omega
    have c4 : k + (d + 1) + 1 = (k + d + 1) + 1 := by omega
    have c5 : d ≤ 7 := by omega
    have c6 : x - 1 = (d : Int) + 7 := by omega
    have ih1 := fun n' h' => ih k n' (x - 1) c5 h' c6
    have hpd : 2 ^ d ≤ 2 ^ 6 := Nat.pow_le_pow_right (by decide) (by omega)
    have hb : 285 * 2 ^ d < 65536 := by omega
    have hx2 : n ^^^ 285 * 2 ^ d < 65536 := Nat.xor_lt_two_pow (n := 16) hn hb
    have hx3 : Go.bits .xor .i64 (n : Int) ((285 * 2 ^ d : Nat) : Int) = ((n ^^^ 285 * 2 ^ d : Nat) : Int) := Bt.x64 (by omega) (by omega)
    have hw : IntKind.u64.wrap x = x := Bt.wraps_u64 x (by omega) (by omega)
    have hw2 : wrap64 (x - 8) = x - 8 := Bt.wrap_ok (by omega) (by omega)
    have hw3 : IntKind.u64.wrap (x - 8) = x - 8 := Bt.wraps_u64 _ (by omega) (by omega)
    have hw4 : wrap64 (x - 1) = x - 1 := Bt.wrap_ok (by omega) (by omega)
    have hsr : shr .i64 (n : Int) x = ((n / 2 ^ (d + 8) : Nat) : Int) := by
      unfold shr
      rw [Nat.min_eq_left (by show x.toNat ≤ 64; omega), show x.toNat = d + 8 by omega]
      simp
    have hsl : shl .i64 285 (x - 8) = ((285 * 2 ^ d : Nat) : Int) := by
      unfold shl
      rw [Nat.min_eq_left (by show (x - 8).toNat ≤ 64; omega), show (x - 8).toNat = d by omega]
      have e : (285 : Int) * 2 ^ d = ((285 * 2 ^ d : Nat) : Int) := by simp
      rw [e, Bt.wraps_i64 _ (by omega) (by omega)]
    have ht : Int.tmod ((n / 2 ^ (d + 8) : Nat) : Int) 2 = ((n / 2 ^ (d + 8) % 2 : Nat) : Int) := Bt.tmod2 _
    have hz : Gm.rred (d + 1) n = Gm.rred d (if n / 2 ^ (d + 8) % 2 = 1 then n ^^^ (285 * 2 ^ d) else n) := rfl
    rw [c4, tinderboxref27_Mul.l1, if_pos c1, hw, if_pos c2, hsr, hw2, hw3, hw4, hsl, ht, hz]
    by_cases h : n / 2 ^ (d + 8) % 2 = 1
    · rw [if_pos (Bt.cast1 h), if_pos c3, hx3, ih1 _ hx2, if_pos h]
    · rw [if_neg (Bt.cast1n h), ih1 _ hn, if_neg h]
theorem rmul_l0 (a b : Nat) (ha : a < 256) (hb : b < 256) : ∀ (d : Nat) (k n : Nat) (i : Nat), d ≤ 8 → n < 32768 → i + d = 8 →
    tinderboxref27_Mul.l0 (k + 8 + d + 1) (a : Int) (b : Int) (n : Int) (i : Int) = some ((Gm.rred 7 (Gm.rsum d i a b n) % 256 : Nat) : Int) := by
  intro d
  induction d with
  | zero =>
    intro k n i hd hn hi
    have e0 : Gm.rsum 0 i a b n = n := rfl
    rw [tinderboxref27_Mul.l0, if_neg (by omega), show k + 8 + 0 = k + 7 + 1 by omega, rmul_l1 7 k n 14 (by decide) (by omega) (by decide), e0]
  | succ d ih =>
    intro k n i hd hn hi
    have c1 : (i : Int) < 8 := by omega
    have c2 : (0 : Int) ≤ (i : Int) := by omega
    have c4 : k + 8 + (d + 1) + 1 = (k + 8 + d + 1) + 1 := by omega
    have ih1 := fun n' h' => ih k n' (i + 1) (by omega) h' (by omega)
    have hpd : 2 ^ i ≤ 2 ^ 7 := Nat.pow_le_pow_right (by decide) (by omega)
    have hpd2 : a * 2 ^ i ≤ 255 * 2 ^ 7 := Nat.mul_le_mul (by omega) hpd
    have hx2 : n ^^^ a * 2 ^ i < 32768 := Nat.xor_lt_two_pow (n := 15) hn (by omega)
    have b2 : (i : Int) < 2 ^ 64 := by omega
    have b3 : (i : Int).toNat ≤ IntKind.i64.bits := by show (i : Int).toNat ≤ 64; omega
    have b4 : -9223372036854775808 ≤ (b : Int) := by omega
    have b5 : (b : Int) < 9223372036854775808 := by omega
    have b6 : -9223372036854775808 ≤ (a : Int) := by omega
    have b7 : (a : Int) < 9223372036854775808 := by omega
    have b8 : n < 9223372036854775808 := by omega
    have b9 : a * 2 ^ i < 9223372036854775808 := by omega
    have b10 : (0 : Int) ≤ ((a * 2 ^ i : Nat) : Int) := by omega
    have b11 : ((a * 2 ^ i : Nat) : Int) < 2 ^ 63 := by omega
    have b12 : (i : Int) + 1 = ((i + 1 : Nat) : Int) := by omega
    have b13 : -9223372036854775808 ≤ (i : Int) + 1 := by omega
    have b14 : (i : Int) + 1 < 9223372036854775808 := by omega
    have hz : Gm.rsum (d + 1) i a b n = Gm.rsum d (i + 1) a b (if b / 2 ^ i % 2 = 1 then n ^^^ (a * 2 ^ i) else n) := rfl
    have hx3 : Go.bits .xor .i64 (n : Int) ((a * 2 ^ i : Nat) : Int) = ((n ^^^ a * 2 ^ i : Nat) : Int) := Bt.x64 b8 b9
    have hw4 : wrap64 ((i : Int) + 1) = ((i + 1 : Nat) : Int) := by rw [Bt.wrap_ok b13 b14, b12]
    have hw : IntKind.u64.wrap (i : Int) = i := Bt.wraps_u64 _ c2 b2
    have hsr : shr .i64 (wrap64 (b : Int)) i = ((b / 2 ^ i : Nat) : Int) := by
      unfold shr
      rw [Bt.wrap_ok b4 b5, Nat.min_eq_left b3, Int.toNat_natCast]
      simp
    have hsl : shl .i64 (wrap64 (a : Int)) i = ((a * 2 ^ i : Nat) : Int) := by
      unfold shl
      rw [Bt.wrap_ok b6 b7, Nat.min_eq_left b3, Int.toNat_natCast]
      have e : (a : Int) * 2 ^ i = ((a * 2 ^ i : Nat) : Int) := by simp
      rw [e, Bt.wraps_i64 _ b10 b11]
    have ht : Int.tmod ((b / 2 ^ i : Nat) : Int) 2 = ((b / 2 ^ i % 2 : Nat) : Int) := Bt.tmod2 _
    rw [c4, tinderboxref27_Mul.l0, if_pos c1, hw, if_pos c2, hsr, hsl, ht, hw4, hz]
    by_cases h : b / 2 ^ i % 2 = 1
    · rw [if_pos (Bt.cast1 h), hx3, ih1 _ hx2, if_pos h]
    · rw [if_neg (Bt.cast1n h), ih1 _ hn, if_neg h]
theorem rmul_f {a b : Nat} (ha : a < 256) (hb : b < 256) (k : Nat) (hk : 17 ≤ k) : tinderboxref27_Mul.f k (a : Int) (b : Int) = some ((Gm.gm a b : Nat) : Int) := by
  obtain ⟨j, rfl⟩ : ∃ j, k = j + 8 + 8 + 1 := ⟨k - 17, by omega⟩
  unfold tinderboxref27_Mul.f
  have h := rmul_l0 a b ha hb 8 j 0 0 (by decide) (by decide) (by decide)
  have e : Gm.rred 7 (Gm.rsum 8 0 a b 0) = Gm.gm a b := Gm.rm_eq ha hb
  rw [e, Nat.mod_eq_of_lt (Gm.gm_lt ha)] at h
  exact h
theorem rpow_l0 {a : Nat} (ha : a < 256) (n : Nat) (hn : n ≤ 511) : ∀ (d k : Nat) (i : Nat), i + d = n →
    tinderboxref27_Pow.l0 (k + 17 + d + 1) (a : Int) (n : Int) ((Gm.gp a i : Nat) : Int) (i : Int) = some ((Gm.gp a n : Nat) : Int) := by
  intro d
  induction d with
  | zero =>
    intro k i hi
    obtain rfl : i = n := by omega
    rw [tinderboxref27_Pow.l0, if_neg (by omega)]
  | succ d ih =>
    intro k i hi
    have c1 : (i : Int) < (n : Int) := by omega
    have c3 : wrap64 ((i : Int) + 1) = ((i + 1 : Nat) : Int) := by rw [Bt.wrap_ok (by omega) (by omega)]; omega
    rw [show k + 17 + (d + 1) + 1 = (k + 17 + d + 1) + 1 by omega, tinderboxref27_Pow.l0, if_pos c1, rmul_f (Gm.gp_lt ha i) ha _ (by omega), Option.bind_some, c3, ← Gm.gp_succ]
    exact ih k (i + 1) (by omega)
theorem rpow_f {a : Nat} (ha : a < 256) (n : Nat) (hn : n ≤ 511) (k : Nat) (hk : 600 ≤ k) : tinderboxref27_Pow.f k (a : Int) (n : Int) = some ((Gm.gp a n : Nat) : Int) := by
  obtain ⟨j, rfl⟩ : ∃ j, k = j + 17 + n + 1 := ⟨k - (17 + n + 1), by omega⟩
  exact rpow_l0 ha n hn n j 0 (by omega)
theorem gp_zero_succ (n : Nat) : Gm.gp 0 (n + 1) = 0 := by rw [Gm.gp_succ, Gm.gm_zero_r]
theorem GfPow : tinderboxlaw27_GfPow.Pure := by
  intro x n hx hn
  have wx := Bt.wf_u8 hx
  obtain ⟨a, rfl⟩ := Int.eq_ofNat_of_zero_le wx.1
  have ha : a < 256 := by omega
  refine ⟨1000, ?_⟩
  have k100 : 100 ≤ 1000 := by decide
  have k600 : 600 ≤ 1000 := by decide
  have hm : Go.bits .and .i64 n 511 = n % 512 := Bt.mask64 n 9 (by decide)
  obtain ⟨q, hq⟩ := Int.eq_ofNat_of_zero_le (show 0 ≤ n % 512 by omega)
  have hq5 : q ≤ 511 := by omega
  have hb1 : -9223372036854775808 ≤ (q : Int) := by omega
  have hb2 : (q : Int) ≤ 9223372036854775807 := by omega
  have hb3 : -9223372036854775808 ≤ -(q : Int) := by omega
  have hb4 : -(q : Int) ≤ 9223372036854775807 := by omega
  have hw1 : wrap64 ((-1) - (q : Int)) = -1 - (q : Int) := Bt.wrap_ok (by omega) (by omega)
  have hw2 : wrap64 (-(q : Int)) = -(q : Int) := Bt.wrap_ok (by omega) (by omega)
  have e1 : ((q : Int) % 255).toNat = q % 255 := by omega
  unfold tinderboxlaw27_GfPow.f
  rw [hm, hq, rpow_f ha q hq5 _ k600, Option.bind_some, hw1, hw2]
  by_cases h : a = 0
  · subst h
    have c1 : ¬ (-1 - (q : Int)) = 0 := by omega
    have e2 : gf_Pow.f 1000 ((0 : Nat) : Int) (-1 - (q : Int)) = some 0 := by
      unfold gf_Pow.f
      rw [if_pos (show ((0 : Nat) : Int) = 0 from rfl), if_neg c1]
    have e3 : gf_Pow.f 1000 ((0 : Nat) : Int) (q : Int) = some ((Gm.gp 0 q : Nat) : Int) := by
      unfold gf_Pow.f
      rw [if_pos (show ((0 : Nat) : Int) = 0 from rfl)]
      cases q with
      | zero => rfl
      | succ q => rw [if_neg (by omega), gp_zero_succ]; rfl
    rw [if_pos (show ((0 : Nat) : Int) = 0 from rfl), awake_f _ k100, Option.bind_some, if_pos rfl, e3, Option.bind_some, if_pos rfl, e2]
    rfl
  · have c0 : ¬ ((a : Nat) : Int) = 0 := by omega
    have e4 : Gm.gm (Gm.gp a (-(q : Int) % 255).toNat) (Gm.gp a q) = 1 := Gm.gp_inv h ha (by omega)
    have e5 : gf_Root.f 1000 (q : Int) = some ((Gm.gp 2 q : Nat) : Int) := by
      unfold gf_Root.f
      have := gpow_f (a := 2) (by decide) (by decide) (q : Int) hb1 hb2 1000 k100
      rw [e1, ← Gm.gp_mod (by decide) (by decide)] at this
      rw [show (2 : Int) = ((2 : Nat) : Int) from rfl, this]
      rfl
    have e6 := rpow_f (a := 2) (by decide) q hq5 1000 k600
    rw [if_neg c0, awake_f _ k100, Option.bind_some, if_pos rfl, gpow_f h ha _ hb1 hb2 _ k100, Option.bind_some, e1, ← Gm.gp_mod h ha, if_pos rfl, gpow_f h ha _ hb3 hb4 _ k100, Option.bind_some,
      gmul_f (Gm.gp_lt ha _) (Gm.gp_lt ha _) _ (by decide), Option.bind_some, e4, if_pos (Bt.cast1 rfl), e5, Option.bind_some]
    rw [show (2 : Int) = ((2 : Nat) : Int) from rfl, e6]
    simp
end Go.Proofs.Ytpidfledopnhpaa.Pure
