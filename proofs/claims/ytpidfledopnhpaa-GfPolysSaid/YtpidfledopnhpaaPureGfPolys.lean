/- Sums, products, and products with numbers and powers have at each number what their parts have there. For every input. -/
import Derived.Test.YtpidfledopnhpaaXGfPolysx1
import Derived.Test.YtpidfledopnhpaaXGfPolysx2
import Derived.Test.YtpidfledopnhpaaXGfPolysx3
import Derived.Test.YtpidfledopnhpaaMBits
import Derived.Test.YtpidfledopnhpaaXCopy
import Derived.Test.YtpidfledopnhpaaGfPoly
namespace Go.Proofs.Ytpidfledopnhpaa.Pure
open Go.RowKit Go.Proofs.Ytpidfledopnhpaa Go.Proofs.Ytpidfledopnhpaa.XGfPolys Go.Proofs.YtpidfledopnhpaaW.PrintWords Go.Proofs.YtpidfledopnhpaaW.PrintLast Go.Proofs.YtpidfledopnhpaaW.PrintMore
set_option linter.unusedVariables false
set_option linter.unusedSimpArgs false
/-! products and powers -/
theorem gmul_l0 : ∀ (d : Nat) (k n x m : Nat), n < 256 → x < 256 → m < 2 ^ d → d ≤ 8 →
    gf_Mul.l0 (k + d + 1) (n : Int) (x : Int) (m : Int) = some ((Gm.mulN d m x n : Nat) : Int) := by
  intro d
  induction d with
  | zero =>
    intro k n x m hn hx hm hd
    obtain rfl : m = 0 := by simpa using hm
    rw [gf_Mul.l0, if_neg (by omega)]
    show some ((n : Int) % 256) = some (n : Int)
    rw [Int.emod_eq_of_lt (by omega) (by omega)]
  | succ d ih =>
    intro k n x m hn hx hm hd
    have hm2 : 2 ^ (d + 1) ≤ 256 := Nat.pow_le_pow_right (by decide) (by omega : d + 1 ≤ 8)
    have hxt := Gm.xt_lt hx
    have hxx := Gm.xor_lt8 hn hx
    have hmd : m / 2 < 2 ^ d := by rw [Nat.pow_succ] at hm; omega
    have e2 : (m : Int) / 2 = ((m / 2 : Nat) : Int) := by omega
    have ex : wrap64 ((x : Int) * 2) = ((2 * x : Nat) : Int) := by rw [Bt.wrap_ok (by omega) (by omega)]; omega
    have hz : Gm.mulN (d + 1) m x n = Gm.mulN d (m / 2) (Gm.xt x) (if m % 2 = 1 then n ^^^ x else n) := rfl
    have hxe : ∀ r, (if ((2 * x : Nat) : Int) > 255 then gf_Mul.l0 (k + d + 1) r (Go.bits .xor .i64 ((2 * x : Nat) : Int) 285) ((m / 2 : Nat) : Int) else gf_Mul.l0 (k + d + 1) r ((2 * x : Nat) : Int) ((m / 2 : Nat) : Int)) = gf_Mul.l0 (k + d + 1) r ((Gm.xt x : Nat) : Int) ((m / 2 : Nat) : Int) := by
      intro r
      by_cases h : 255 < 2 * x
      · rw [if_pos (by omega), show (285 : Int) = ((285 : Nat) : Int) from rfl, Bt.x64 (by omega) (by decide)]
        unfold Gm.xt
        rw [if_pos h]
      · rw [if_neg (by omega)]
        unfold Gm.xt
        rw [if_neg h]
    rw [show k + (d + 1) + 1 = (k + d + 1) + 1 by omega, gf_Mul.l0, ex, e2, hxe, hxe, hz]
    by_cases h0 : m = 0
    · subst h0
      rw [if_neg (by omega)]
      simp only [Nat.zero_div, Nat.zero_mod]
      rw [if_neg (by decide), Gm.mulN_zero_b, Int.emod_eq_of_lt (by omega) (by omega)]
    · rw [if_pos (by omega), Bt.and1_8 (by omega)]
      by_cases h : m % 2 = 1
      · rw [if_pos (by omega), Bt.x64 (by omega) (by omega), ih k _ _ _ hxx hxt hmd (by omega), if_pos h]
      · rw [if_neg (by omega), ih k _ _ _ hn hxt hmd (by omega), if_neg h]
theorem gmul_f {a b : Nat} (ha : a < 256) (hb : b < 256) (k : Nat) (hk : 9 ≤ k) : gf_Mul.f k (a : Int) (b : Int) = some ((Gm.gm a b : Nat) : Int) := by
  obtain ⟨j, rfl⟩ : ∃ j, k = j + 8 + 1 := ⟨k - 9, by omega⟩
  unfold gf_Mul.f
  rw [Bt.wrap_ok (by omega) (by omega)]
  exact gmul_l0 8 j 0 a b (by decide) ha hb (by decide)
theorem gpow_l0 : ∀ (d : Nat) (k x o m : Nat), x < 256 → o < 256 → m < 2 ^ d → d ≤ 60 →
    gf_Pow.l0 (k + 9 + d + 1) (x : Int) (o : Int) (m : Int) = some ((Gm.pw d x o m : Nat) : Int) := by
  intro d
  induction d with
  | zero =>
    intro k x o m hx ho hm hd
    obtain rfl : m = 0 := by simpa using hm
    rw [gf_Pow.l0, if_neg (by omega)]
    rfl
  | succ d ih =>
    intro k x o m hx ho hm hd
    have hm2 : 2 ^ (d + 1) ≤ 2 ^ 61 := Nat.pow_le_pow_right (by decide) (by omega)
    have hmd : m / 2 < 2 ^ d := by rw [Nat.pow_succ] at hm; omega
    have e2 : (m : Int) / 2 = ((m / 2 : Nat) : Int) := by omega
    have hz : Gm.pw (d + 1) x o m = if m = 0 then o else Gm.pw d (Gm.gm x x) (if m % 2 = 1 then Gm.gm o x else o) (m / 2) := rfl
    rw [show k + 9 + (d + 1) + 1 = (k + 9 + d + 1) + 1 by omega, gf_Pow.l0, e2, hz]
    by_cases h0 : m = 0
    · rw [if_neg (by omega), if_pos h0]
    · rw [if_pos (by omega), if_neg h0, Bt.and1_64 (by omega)]
      by_cases h : m % 2 = 1
      · rw [if_pos (by omega), gmul_f ho hx _ (by omega), Option.bind_some, gmul_f hx hx _ (by omega), Option.bind_some, ih k _ _ _ (Gm.gm_lt hx) (Gm.gm_lt ho) hmd (by omega), if_pos h]
      · rw [if_neg (by omega), gmul_f hx hx _ (by omega), Option.bind_some, ih k _ _ _ (Gm.gm_lt hx) ho hmd (by omega), if_neg h]
/-- A power of what is not nought: by what is left of its number by 255. -/
theorem gpow_f {a : Nat} (h0 : a ≠ 0) (ha : a < 256) (n : Int) (hn : -9223372036854775808 ≤ n) (hn' : n ≤ 9223372036854775807) (k : Nat) (hk : 100 ≤ k) :
    gf_Pow.f k (a : Int) n = some ((Gm.gp a (n % 255).toNat : Nat) : Int) := by
  obtain ⟨j, rfl⟩ : ∃ j, k = j + 9 + 8 + 1 := ⟨k - 18, by omega⟩
  unfold gf_Pow.f
  rw [if_neg (by omega)]
  obtain ⟨m, hm⟩ : ∃ m : Nat, (Int.tmod (wrap64 ((Int.tmod n 255) + 255)) 255) = (m : Int) ∧ m = (n % 255).toNat := by
    have ht : Int.tmod n 255 = if 0 ≤ n ∨ n % 255 = 0 then n % 255 else n % 255 - 255 := by
      rw [Int.tmod_eq_emod]
      by_cases h1 : 0 ≤ n ∨ (255 : Int) ∣ n
      · rw [if_pos h1, if_pos (by omega)]; omega
      · rw [if_neg h1, if_neg (by omega)]; omega
    have hb : 0 ≤ Int.tmod n 255 + 255 ∧ Int.tmod n 255 + 255 < 510 := by rw [ht]; split <;> omega
    refine ⟨(n % 255).toNat, ?_, rfl⟩
    rw [Bt.wrap_ok (by omega) (by omega), Int.tmod_eq_emod_of_nonneg hb.1, ht]
    split <;> omega
  rw [hm.1, show (1 : Int) = ((1 : Nat) : Int) from rfl, gpow_l0 8 j a 1 m ha (by decide) (by omega) (by decide), Gm.pw_eq 8 a 1 m ha (by decide) (by omega), Gm.gm_one_l (Gm.gp_lt ha _), hm.2]
theorem ginv_f {a : Nat} (h0 : a ≠ 0) (ha : a < 256) (k : Nat) (hk : 100 ≤ k) : gf_Inv.f k (a : Int) = some ((Gm.gp a 254 : Nat) : Int) := by
  unfold gf_Inv.f
  rw [if_neg (by omega), gpow_f h0 ha (-1) (by decide) (by decide) k hk]
  rfl
theorem gdeg_awake (k : Nat) (hk : 100 ≤ k) : gf_Poly_Degree.f k ([0, 1] : List Int) = some 1 := by
  obtain ⟨j, rfl⟩ : ∃ j, k = j + 1 := ⟨k - 1, by omega⟩
  unfold gf_Poly_Degree.f
  have e2 : (([0, 1] : List Int).length : Int) = 2 := rfl
  rw [gf_Poly_Degree.l0, e2, Bt.wrap_ok (by decide) (by decide), if_pos (by decide), if_pos (by decide), if_pos (by decide), if_neg (by decide)]
  rfl
theorem awake_f (k : Nat) (hk : 100 ≤ k) : tinderboxlaw27_awake.f k = some true := by
  have hp : Gm.gp 1 254 = 1 := by
    obtain ⟨m, hm⟩ : ∃ m, m = 254 := ⟨_, rfl⟩
    rw [← hm]
    clear hm hk
    induction m with
    | zero => rfl
    | succ m ih => rw [Gm.gp_succ, ih, Gm.gm_one_r]
  unfold tinderboxlaw27_awake.f
  rw [show (2 : Int) = ((2 : Nat) : Int) from rfl, show (128 : Int) = ((128 : Nat) : Int) from rfl, gmul_f (by decide) (by decide) k (by omega), Option.bind_some,
    show Gm.gm 2 128 = 29 from by decide +kernel, if_pos (show ((29 : Nat) : Int) = 29 from rfl), show (1 : Int) = ((1 : Nat) : Int) from rfl, ginv_f (by decide) (by decide) k hk, Option.bind_some,
    hp, if_pos rfl]
  have := gdeg_awake k hk
  rw [show ([0, ((1 : Nat) : Int)] : List Int) = [0, 1] from rfl, this]
  rfl
/-! the reference's product -/
theorem rmul_l1 : ∀ (d : Nat) (k n : Nat) (x : Int), d ≤ 7 → n < 65536 → x = (d : Int) + 7 →
    tinderboxref27_Mul.l1 (k + d + 1) (n : Int) x = some ((Gm.rred d n % 256 : Nat) : Int) := by
  intro d
  induction d with
  | zero =>
    intro k n x hd hn hx
    rw [tinderboxref27_Mul.l1, if_neg (by omega)]
    show some ((n : Int) % 256) = some ((n % 256 : Nat) : Int)
    rw [Int.natCast_emod]
    rfl
  | succ d ih =>
    intro k n x hd hn hx
    have c1 : x ≥ 8 := by omega
    have c2 : 0 ≤ x := by omega
    have c3 : 0 ≤ x - 8 := by omega
    have c4 : k + (d + 1) + 1 = (k + d + 1) + 1 := by omega
    have c5 : d ≤ 7 := by omega
    have c6 : x - 1 = (d : Int) + 7 := by omega
    have ih1 := fun n' h' => ih k n' (x - 1) c5 h' c6
    have hpd : 2 ^ d ≤ 2 ^ 6 := Nat.pow_le_pow_right (by decide) (by omega)
    have hb : 285 * 2 ^ d < 65536 := by omega
    have hx2 : n ^^^ 285 * 2 ^ d < 65536 := Nat.xor_lt_two_pow (n := 16) hn hb
    have hx3 : Go.bits .xor .i64 (n : Int) ((285 * 2 ^ d : Nat) : Int) = ((n ^^^ 285 * 2 ^ d : Nat) : Int) := Bt.x64 (by omega) (by omega)
    have hw : IntKind.u64.wrap x = x := Bt.wraps_u64 x (by omega) (by omega)
    have hw2 : wrap64 (x - 8) = x - 8 := Bt.wrap_ok (by omega) (by omega)
    have hw3 : IntKind.u64.wrap (x - 8) = x - 8 := Bt.wraps_u64 _ (by omega) (by omega)
    have hw4 : wrap64 (x - 1) = x - 1 := Bt.wrap_ok (by omega) (by omega)
    have hsr : shr .i64 (n : Int) x = ((n / 2 ^ (d + 8) : Nat) : Int) := by
      unfold shr
      rw [Nat.min_eq_left (by show x.toNat ≤ 64; omega), show x.toNat = d + 8 by omega]
      simp
    have hsl : shl .i64 285 (x - 8) = ((285 * 2 ^ d : Nat) : Int) := by
      unfold shl
      rw [Nat.min_eq_left (by show (x - 8).toNat ≤ 64; omega), show (x - 8).toNat = d by omega]
      have e : (285 : Int) * 2 ^ d = ((285 * 2 ^ d : Nat) : Int) := by simp
      rw [e, Bt.wraps_i64 _ (by omega) (by omega)]
    have ht : Int.tmod ((n / 2 ^ (d + 8) : Nat) : Int) 2 = ((n / 2 ^ (d + 8) % 2 : Nat) : Int) := Bt.tmod2 _
    have hz : Gm.rred (d + 1) n = Gm.rred d (if n / 2 ^ (d + 8) % 2 = 1 then n ^^^ (285 * 2 ^ d) else n) := rfl
    rw [c4, tinderboxref27_Mul.l1, if_pos c1, hw, if_pos c2, hsr, hw2, hw3, hw4, hsl, ht, hz]
    by_cases h : n / 2 ^ (d + 8) % 2 = 1
    · rw [if_pos (Bt.cast1 h), if_pos c3, hx3, ih1 _ hx2, if_pos h]
    · rw [if_neg (Bt.cast1n h), ih1 _ hn, if_neg h]
theorem rmul_l0 (a b : Nat) (ha : a < 256) (hb : b < 256) : ∀ (d : Nat) (k n : Nat) (i : Nat), d ≤ 8 → n < 32768 → i + d = 8 →
    tinderboxref27_Mul.l0 (k + 8 + d + 1) (a : Int) (b : Int) (n : Int) (i : Int) = some ((Gm.rred 7 (Gm.rsum d i a b n) % 256 : Nat) : Int) := by
  intro d
  induction d with
  | zero =>
    intro k n i hd hn hi
    have e0 : Gm.rsum 0 i a b n = n := rfl
    rw [tinderboxref27_Mul.l0, if_neg (by omega), show k + 8 + 0 = k + 7 + 1 by omega, rmul_l1 7 k n 14 (by decide) (by omega) (by decide), e0]
  | succ d ih =>
    intro k n i hd hn hi
    have c1 : (i : Int) < 8 := by omega
    have c2 : (0 : Int) ≤ (i : Int) := by omega
    have c4 : k + 8 + (d + 1) + 1 = (k + 8 + d + 1) + 1 := by omega
    have ih1 := fun n' h' => ih k n' (i + 1) (by omega) h' (by omega)
    have hpd : 2 ^ i ≤ 2 ^ 7 := Nat.pow_le_pow_right (by decide) (by omega)
    have hpd2 : a * 2 ^ i ≤ 255 * 2 ^ 7 := Nat.mul_le_mul (by omega) hpd
    have hx2 : n ^^^ a * 2 ^ i < 32768 := Nat.xor_lt_two_pow (n := 15) hn (by omega)
    have b2 : (i : Int) < 2 ^ 64 := by omega
    have b3 : (i : Int).toNat ≤ IntKind.i64.bits := by show (i : Int).toNat ≤ 64; omega
    have b4 : -9223372036854775808 ≤ (b : Int) := by omega
    have b5 : (b : Int) < 9223372036854775808 := by omega
    have b6 : -9223372036854775808 ≤ (a : Int) := by omega
    have b7 : (a : Int) < 9223372036854775808 := by omega
    have b8 : n < 9223372036854775808 := by omega
    have b9 : a * 2 ^ i < 9223372036854775808 := by omega
    have b10 : (0 : Int) ≤ ((a * 2 ^ i : Nat) : Int) := by omega
    have b11 : ((a * 2 ^ i : Nat) : Int) < 2 ^ 63 := by omega
    have b12 : (i : Int) + 1 = ((i + 1 : Nat) : Int) := by omega
    have b13 : -9223372036854775808 ≤ (i : Int) + 1 := by omega
    have b14 : (i : Int) + 1 < 9223372036854775808 := by omega
    have hz : Gm.rsum (d + 1) i a b n = Gm.rsum d (i + 1) a b (if b / 2 ^ i % 2 = 1 then n ^^^ (a * 2 ^ i) else n) := rfl
    have hx3 : Go.bits .xor .i64 (n : Int) ((a * 2 ^ i : Nat) : Int) = ((n ^^^ a * 2 ^ i : Nat) : Int) := Bt.x64 b8 b9
    have hw4 : wrap64 ((i : Int) + 1) = ((i + 1 : Nat) : Int) := by rw [Bt.wrap_ok b13 b14, b12]
    have hw : IntKind.u64.wrap (i : Int) = i := Bt.wraps_u64 _ c2 b2
    have hsr : shr .i64 (wrap64 (b : Int)) i = ((b / 2 ^ i : Nat) : Int) := by
      unfold shr
      rw [Bt.wrap_ok b4 b5, Nat.min_eq_left b3, Int.toNat_natCast]
      simp
    have hsl : shl .i64 (wrap64 (a : Int)) i = ((a * 2 ^ i : Nat) : Int) := by
      unfold shl
      rw [Bt.wrap_ok b6 b7, Nat.min_eq_left b3, Int.toNat_natCast]
      have e : (a : Int) * 2 ^ i = ((a * 2 ^ i : Nat) : Int) := by simp
      rw [e, Bt.wraps_i64 _ b10 b11]
    have ht : Int.tmod ((b / 2 ^ i : Nat) : Int) 2 = ((b / 2 ^ i % 2 : Nat) : Int) := Bt.tmod2 _
    rw [c4, tinderboxref27_Mul.l0, if_pos c1, hw, if_pos c2, hsr, hsl, ht, hw4, hz]
    by_cases h : b / 2 ^ i % 2 = 1
    · rw [if_pos (Bt.cast1 h), hx3, ih1 _ hx2, if_pos h]
    · rw [if_neg (Bt.cast1n h), ih1 _ hn, if_neg h]
theorem rmul_f {a b : Nat} (ha : a < 256) (hb : b < 256) (k : Nat) (hk : 17 ≤ k) : tinderboxref27_Mul.f k (a : Int) (b : Int) = some ((Gm.gm a b : Nat) : Int) := by
  obtain ⟨j, rfl⟩ : ∃ j, k = j + 8 + 8 + 1 := ⟨k - 17, by omega⟩
  unfold tinderboxref27_Mul.f
  have h := rmul_l0 a b ha hb 8 j 0 0 (by decide) (by decide) (by decide)
  have e : Gm.rred 7 (Gm.rsum 8 0 a b 0) = Gm.gm a b := Gm.rm_eq ha hb
  rw [e, Nat.mod_eq_of_lt (Gm.gm_lt ha)] at h
  exact h
theorem rpow_l0 {a : Nat} (ha : a < 256) (n : Nat) (hn : n ≤ 511) : ∀ (d k : Nat) (i : Nat), i + d = n →
    tinderboxref27_Pow.l0 (k + 17 + d + 1) (a : Int) (n : Int) ((Gm.gp a i : Nat) : Int) (i : Int) = some ((Gm.gp a n : Nat) : Int) := by
  intro d
  induction d with
  | zero =>
    intro k i hi
    obtain rfl : i = n := by omega
    rw [tinderboxref27_Pow.l0, if_neg (by omega)]
  | succ d ih =>
    intro k i hi
    have c1 : (i : Int) < (n : Int) := by omega
    have c3 : wrap64 ((i : Int) + 1) = ((i + 1 : Nat) : Int) := by rw [Bt.wrap_ok (by omega) (by omega)]; omega
    rw [show k + 17 + (d + 1) + 1 = (k + 17 + d + 1) + 1 by omega, tinderboxref27_Pow.l0, if_pos c1, rmul_f (Gm.gp_lt ha i) ha _ (by omega), Option.bind_some, c3, ← Gm.gp_succ]
    exact ih k (i + 1) (by omega)
theorem rpow_f {a : Nat} (ha : a < 256) (n : Nat) (hn : n ≤ 511) (k : Nat) (hk : 600 ≤ k) : tinderboxref27_Pow.f k (a : Int) (n : Int) = some ((Gm.gp a n : Nat) : Int) := by
  obtain ⟨j, rfl⟩ : ∃ j, k = j + 17 + n + 1 := ⟨k - (17 + n + 1), by omega⟩
  exact rpow_l0 ha n hn n j 0 (by omega)
/-! lists of bytes -/
def I (l : List Nat) : List Int := l.map (fun (n : Nat) => (n : Int))
theorem I_len (l : List Nat) : (I l).length = l.length := by unfold I; rw [List.length_map]
theorem I_rd (l : List Nat) (i : Nat) : rd (I l) (i : Int) = ((Gm.co l i : Nat) : Int) := by
  unfold rd I Gm.co
  simp only [Int.toNat_natCast, List.getD_eq_getElem?_getD, List.getElem?_map]
  cases l[i]? <;> rfl
theorem I_set (l : List Nat) (i x : Nat) : (I l).set i (x : Int) = I (l.set i x) := by unfold I; rw [List.map_set]
theorem I_take (l : List Nat) (n : Nat) : (I l).take n = I (l.take n) := by unfold I; rw [List.map_take]
theorem I_drop (l : List Nat) (n : Nat) : (I l).drop n = I (l.drop n) := by unfold I; rw [List.map_drop]
theorem I_append (l m : List Nat) : I l ++ I m = I (l ++ m) := by unfold I; rw [List.map_append]
theorem I_rep (n : Nat) : List.replicate n (0 : Int) = I (List.replicate n 0) := by unfold I; rw [List.map_replicate]; rfl
theorem I_of (l : List Int) (h : ∀ x ∈ l, (Lit.int .u8 x).wf = true) : ∃ m : List Nat, l = I m ∧ Gm.By m := by
  refine ⟨l.map Int.toNat, ?_, ?_⟩
  · unfold I
    rw [List.map_map]
    apply List.ext_getElem (by rw [List.length_map])
    intro i h1 h2
    rw [List.getElem_map]
    have := Bt.wf_u8 (h _ (List.getElem_mem h1))
    show l[i] = ((l[i].toNat : Nat) : Int)
    omega
  · intro x hx
    obtain ⟨y, hy, rfl⟩ := List.mem_map.1 hx
    have := Bt.wf_u8 (h _ hy)
    omega
theorem few_f (m : List Nat) : tinderboxlaw27_few.f (I m) = some (I (m.take 40)) := by
  have e : mn ((I m).length : Int) 40 = ((min m.length 40 : Nat) : Int) := by rw [I_len]; unfold mn; split <;> omega
  have c1 : (0 : Int) ≤ ((min m.length 40 : Nat) : Int) := by omega
  have c2 : ((min m.length 40 : Nat) : Int) ≤ ((I m).length : Int) := by rw [I_len]; omega
  have c3 : ([] : List Int).length + ((I m).take (((min m.length 40 : Nat) : Int)).toNat).length < 140737488355328 := by rw [List.length_take]; simp; omega
  unfold tinderboxlaw27_few.f
  rw [e, Option.bind_some, if_pos c1, if_pos c2, if_pos c3, List.nil_append, Int.toNat_natCast, I_take]
  by_cases h : m.length ≤ 40
  · rw [List.take_of_length_le (i := 40) h, List.take_of_length_le (by omega)]
  · rw [show min m.length 40 = 40 by omega]
theorem fin_f (m : List Nat) (n : Nat) (hm : m.length ≤ 1000) (hn : n ≤ m.length) :
    ((some (([] : List Int) : List Int)).bind fun y => (if 0 ≤ (n : Int) then (if (n : Int) ≤ ((I m).length : Int) then (if y.length + ((I m).take ((n : Int) : Int).toNat).length < 140737488355328 then (some (y ++ ((I m).take ((n : Int) : Int).toNat))) else (none)) else (none)) else (none))) = some (I (m.take n)) := by
  have c1 : (0 : Int) ≤ (n : Int) := by omega
  have c2 : (n : Int) ≤ ((I m).length : Int) := by rw [I_len]; omega
  have c3 : ([] : List Int).length + ((I m).take ((n : Int) : Int).toNat).length < 140737488355328 := by rw [List.length_take]; simp; omega
  rw [Option.bind_some, if_pos c1, if_pos c2, if_pos c3, List.nil_append, Int.toNat_natCast, I_take]
theorem trim_l0 (m : List Nat) (hm : m.length ≤ 1000) : ∀ (n k : Nat), n ≤ m.length → gf_Poly_Trim.l0 (k + n + 1) (I m) (n : Int) = some (I (m.take (Gm.tl m n))) := by
  intro n
  induction n with
  | zero =>
    intro k hn
    have c1 : ¬ ((0 : Nat) : Int) > 0 := by omega
    rw [gf_Poly_Trim.l0, if_neg c1]
    exact fin_f m 0 hm hn
  | succ n ih =>
    intro k hn
    have c1 : ((n + 1 : Nat) : Int) > 0 := by omega
    have c2 : (0 : Int) ≤ (n : Int) := by omega
    have c3 : (n : Int) < ((I m).length : Int) := by rw [I_len]; omega
    have e1 : wrap64 (((n + 1 : Nat) : Int) - 1) = (n : Int) := by rw [Bt.wrap_ok (by omega) (by omega)]; omega
    rw [show k + (n + 1) + 1 = (k + n + 1) + 1 by omega, gf_Poly_Trim.l0, if_pos c1, e1, if_pos c2, if_pos c3, I_rd]
    have hz : Gm.tl m (n + 1) = if Gm.co m n = 0 then Gm.tl m n else n + 1 := rfl
    rw [hz]
    by_cases h : Gm.co m n = 0
    · rw [if_pos h, if_pos (by rw [h]; rfl), ih k (by omega)]
    · rw [if_neg h, if_neg (by omega)]
      exact fin_f m (n + 1) hm hn
theorem trim_f (m : List Nat) (hm : m.length ≤ 1000) (k : Nat) (hk : 1001 ≤ k) : gf_Poly_Trim.f k (I m) = some (I (Gm.trim m)) := by
  obtain ⟨j, rfl⟩ : ∃ j, k = j + m.length + 1 := ⟨k - (m.length + 1), by omega⟩
  unfold gf_Poly_Trim.f
  rw [I_len]
  exact trim_l0 m hm m.length j (Nat.le_refl _)
theorem deg_l0 (m : List Nat) (hm : m.length ≤ 1000) : ∀ (n k : Nat), n ≤ m.length → gf_Poly_Degree.l0 (k + n + 1) (I m) (n : Int) = some ((Gm.tl m n : Int) - 1) := by
  intro n
  induction n with
  | zero =>
    intro k hn
    have c1 : ¬ ((0 : Nat) : Int) > 0 := by omega
    rw [gf_Poly_Degree.l0, if_neg c1, Bt.wrap_ok (by omega) (by omega)]
    rfl
  | succ n ih =>
    intro k hn
    have c1 : ((n + 1 : Nat) : Int) > 0 := by omega
    have c2 : (0 : Int) ≤ (n : Int) := by omega
    have c3 : (n : Int) < ((I m).length : Int) := by rw [I_len]; omega
    have e1 : wrap64 (((n + 1 : Nat) : Int) - 1) = (n : Int) := by rw [Bt.wrap_ok (by omega) (by omega)]; omega
    rw [show k + (n + 1) + 1 = (k + n + 1) + 1 by omega, gf_Poly_Degree.l0, if_pos c1, e1, if_pos c2, if_pos c3, I_rd]
    have hz : Gm.tl m (n + 1) = if Gm.co m n = 0 then Gm.tl m n else n + 1 := rfl
    rw [hz]
    by_cases h : Gm.co m n = 0
    · rw [if_pos h, if_pos (by rw [h]; rfl), ih k (by omega)]
    · rw [if_neg h, if_neg (by omega)]
      congr 1
      omega
theorem deg_f (m : List Nat) (hm : m.length ≤ 1000) (k : Nat) (hk : 1001 ≤ k) : gf_Poly_Degree.f k (I m) = some ((Gm.tlen m : Int) - 1) := by
  obtain ⟨j, rfl⟩ : ∃ j, k = j + m.length + 1 := ⟨k - (m.length + 1), by omega⟩
  unfold gf_Poly_Degree.f
  rw [I_len]
  exact deg_l0 m hm m.length j (Nat.le_refl _)
theorem pmul_l1 (p q : List Nat) (hq : Gm.By q) {a : Nat} (ha : a < 256) (i : Nat) (hi : i ≤ 1000) : ∀ (d k j : Nat) (out : List Nat), Gm.By out → j + d = q.length → i + q.length ≤ out.length → out.length ≤ 1000 →
    gf_Poly_Mul.l1 (k + 9 + d + 1) (I q) (I out) (i : Int) (a : Int) (I p) (p.length : Int) (i : Int) (I q) (q.length : Int) (j : Int) = gf_Poly_Mul.l0 (k + 9) (I q) (I (Gm.inn a q i d j out)) (I p) (p.length : Int) ((i + 1 : Nat) : Int) := by
  intro d
  induction d with
  | zero =>
    intro k j out ho hj hl hb
    have c1 : ¬ (j : Int) < (q.length : Int) := by omega
    have e1 : wrap64 ((i : Int) + 1) = ((i + 1 : Nat) : Int) := by rw [Bt.wrap_ok (by omega) (by omega)]; omega
    rw [gf_Poly_Mul.l1, if_neg c1, e1]
    rfl
  | succ d ih =>
    intro k j out ho hj hl hb
    have c1 : (j : Int) < (q.length : Int) := by omega
    have c2 : (0 : Int) ≤ (j : Int) := by omega
    have c3 : (j : Int) < ((I q).length : Int) := by rw [I_len]; omega
    have c4 : (0 : Int) ≤ ((i + j : Nat) : Int) := by omega
    have c5 : ((i + j : Nat) : Int) < ((I out).length : Int) := by rw [I_len]; omega
    have e1 : wrap64 ((j : Int) + 1) = ((j + 1 : Nat) : Int) := by rw [Bt.wrap_ok (by omega) (by omega)]; omega
    have e2 : wrap64 ((i : Int) + (j : Int)) = ((i + j : Nat) : Int) := by rw [Bt.wrap_ok (by omega) (by omega)]; omega
    have hg := Gm.gm_lt (b := Gm.co q j) ha
    have hc := Gm.co_lt ho (i + j)
    rw [show k + 9 + (d + 1) + 1 = (k + 9 + d + 1) + 1 by omega, gf_Poly_Mul.l1, if_pos c1, if_pos c2, if_pos c3, e2, if_pos c4, if_pos c5, I_rd, gmul_f ha (Gm.co_lt hq j) _ (by omega), Option.bind_some,
      I_rd, Bt.x8 hc hg, Int.toNat_natCast, I_set, e1]
    exact ih k (j + 1) _ (Gm.by_set ho _ (Gm.xor_lt8 hc hg)) (by omega) (by rw [List.length_set]; exact hl) (by rw [List.length_set]; exact hb)
theorem pmul_l0 (p q : List Nat) (hp : Gm.By p) (hq : Gm.By q) : ∀ (d k i : Nat) (out : List Nat), Gm.By out → i + d = p.length → out.length = p.length + q.length → out.length ≤ 1000 →
    gf_Poly_Mul.l0 (k + 1100 + (q.length + 2) * d + 1) (I q) (I out) (I p) (p.length : Int) (i : Int) = some (I (Gm.trim (Gm.outr p q d i out))) := by
  intro d
  induction d with
  | zero =>
    intro k i out ho hi hl hb
    have c1 : ¬ (i : Int) < (p.length : Int) := by omega
    rw [gf_Poly_Mul.l0, if_neg c1, trim_f out hb _ (by omega)]
    rfl
  | succ d ih =>
    intro k i out ho hi hl hb
    have c1 : (i : Int) < (p.length : Int) := by omega
    have c2 : (0 : Int) ≤ (i : Int) := by omega
    have c3 : (i : Int) < ((I p).length : Int) := by rw [I_len]; omega
    have ek : k + 1100 + (q.length + 2) * (d + 1) = (k + 1091 + (q.length + 2) * d + 1) + 9 + q.length + 1 := by rw [Nat.mul_succ]; omega
    have ek2 : (k + 1091 + (q.length + 2) * d + 1) + 9 = k + 1100 + (q.length + 2) * d + 1 := by omega
    have el : ((I q).length : Int) = (q.length : Int) := by rw [I_len]
    rw [gf_Poly_Mul.l0, if_pos c1, if_pos c2, if_pos c3, I_rd, ek, el]
    refine Eq.trans (pmul_l1 p q hq (Gm.co_lt hp i) i (by omega) q.length _ 0 out ho (by omega) (by omega) hb) ?_
    rw [ek2]
    exact ih k (i + 1) _ (Gm.by_inn (Gm.co_lt hp i) q i _ _ _ ho) (by omega) (by rw [Gm.inn_len]; exact hl) (by rw [Gm.inn_len]; exact hb)
theorem pmul_f (p q : List Nat) (hp : Gm.By p) (hq : Gm.By q) (h1 : p.length ≤ 100) (h2 : q.length ≤ 100) (k : Nat) (hk : 20000 ≤ k) : gf_Poly_Mul.f k (I p) (I q) = some (I (Gm.mul p q)) := by
  have e1 : wrap64 (((I p).length : Int) + ((I q).length : Int)) = ((p.length + q.length : Nat) : Int) := by rw [I_len, I_len, Bt.wrap_ok (by omega) (by omega)]; omega
  have c1 : (0 : Int) ≤ ((p.length + q.length : Nat) : Int) := by omega
  have c2 : (((p.length + q.length : Nat) : Int)).toNat ≤ 281474976710656 := by omega
  have hm : (q.length + 2) * p.length ≤ 102 * 100 := Nat.mul_le_mul (by omega) h1
  obtain ⟨j, hj⟩ : ∃ j, k = j + 1100 + (q.length + 2) * p.length + 1 := ⟨k - (1100 + (q.length + 2) * p.length + 1), by omega⟩
  have el : ((I p).length : Int) = (p.length : Int) := by rw [I_len]
  unfold gf_Poly_Mul.f
  rw [e1, if_pos c1, if_pos c2, Int.toNat_natCast, I_rep, el, hj]
  have := pmul_l0 p q hp hq p.length j 0 (List.replicate (p.length + q.length) 0) (Gm.by_rep _) (by omega) (by rw [List.length_replicate]) (by rw [List.length_replicate]; omega)
  rw [Gm.outr_mul] at this
  exact this
theorem padd_l0 (q : List Nat) (hq : Gm.By q) : ∀ (d k i : Nat) (out : List Nat), Gm.By out → i + d = q.length → q.length ≤ out.length → out.length ≤ 1000 →
    gf_Poly_Add.l0 (k + 1100 + d + 1) (I out) (I q) (q.length : Int) (i : Int) = some (I (Gm.trim (Gm.addr q d i out))) := by
  intro d
  induction d with
  | zero =>
    intro k i out ho hi hl hb
    have c1 : ¬ (i : Int) < (q.length : Int) := by omega
    rw [gf_Poly_Add.l0, if_neg c1, trim_f out hb _ (by omega)]
    rfl
  | succ d ih =>
    intro k i out ho hi hl hb
    have c1 : (i : Int) < (q.length : Int) := by omega
    have c2 : (0 : Int) ≤ (i : Int) := by omega
    have c3 : (i : Int) < ((I q).length : Int) := by rw [I_len]; omega
    have c4 : (i : Int) < ((I out).length : Int) := by rw [I_len]; omega
    have e1 : wrap64 ((i : Int) + 1) = ((i + 1 : Nat) : Int) := by rw [Bt.wrap_ok (by omega) (by omega)]; omega
    have hc := Gm.co_lt ho i
    have hd := Gm.co_lt hq i
    rw [show k + 1100 + (d + 1) + 1 = (k + 1100 + d + 1) + 1 by omega, gf_Poly_Add.l0, if_pos c1, if_pos c2, if_pos c3, if_pos c4, I_rd, I_rd, Bt.x8 hc hd, Int.toNat_natCast, I_set, e1]
    exact ih k (i + 1) _ (Gm.by_set ho _ (Gm.xor_lt8 hc hd)) (by omega) (by rw [List.length_set]; exact hl) (by rw [List.length_set]; exact hb)
theorem padd_f (p q : List Nat) (hp : Gm.By p) (hq : Gm.By q) (h1 : p.length ≤ 500) (h2 : q.length ≤ 500) (k : Nat) (hk : 2000 ≤ k) : gf_Poly_Add.f k (I p) (I q) = some (I (Gm.add p q)) := by
  have e1 : mx ((I p).length : Int) ((I q).length : Int) = ((max p.length q.length : Nat) : Int) := by rw [I_len, I_len]; unfold mx; split <;> omega
  have c1 : (0 : Int) ≤ ((max p.length q.length : Nat) : Int) := by omega
  have c2 : (((max p.length q.length : Nat) : Int)).toNat ≤ 281474976710656 := by omega
  obtain ⟨j, hj⟩ : ∃ j, k = j + 1100 + q.length + 1 := ⟨k - (1100 + q.length + 1), by omega⟩
  have el : ((I q).length : Int) = (q.length : Int) := by rw [I_len]
  have ec : Xc.copyL (I (List.replicate (max p.length q.length) 0)) (I p) = I (p.take (max p.length q.length) ++ (List.replicate (max p.length q.length) 0).drop p.length) := by
    unfold Xc.copyL
    rw [I_len, I_len, I_take, I_drop, I_append, List.length_replicate]
  have hL : (p.take (max p.length q.length) ++ (List.replicate (max p.length q.length) 0).drop p.length).length = max p.length q.length := by
    rw [List.length_append, List.length_take, List.length_drop, List.length_replicate]; omega
  have hco : ∀ i, Gm.co (p.take (max p.length q.length) ++ (List.replicate (max p.length q.length) 0).drop p.length) i = Gm.co p i := by
    intro i
    rw [List.take_of_length_le (Nat.le_max_left _ _), Gm.co_append, List.drop_replicate, Gm.co_rep]
    split
    · rfl
    · rw [Gm.co_out (by omega)]
  unfold gf_Poly_Add.f
  rw [e1, if_pos c1, if_pos c2, Int.toNat_natCast, I_rep, el, ec, hj]
  have := padd_l0 q hq q.length j 0 _ (Gm.by_of_co (fun i => by rw [hco i]; exact Gm.co_lt hp i)) (by omega) (by rw [hL]; omega) (by rw [hL]; omega)
  rw [Gm.addr_add hL hco] at this
  exact this
theorem whole_f (m : List Nat) (h : m.length ≤ 1000) : tinderboxlaw27_whole.f (I (Gm.trim m)) = some true := by
  unfold tinderboxlaw27_whole.f
  have hl : (Gm.trim m).length ≤ 1000 := by rw [Gm.trim_len]; have := Gm.tlen_le m; omega
  by_cases e : (Gm.trim m).length = 0
  · rw [if_pos (by rw [I_len, e]; rfl)]
  · have c1 : ¬ ((I (Gm.trim m)).length : Int) = 0 := by rw [I_len]; omega
    have e1 : wrap64 (((I (Gm.trim m)).length : Int) - 1) = (((Gm.trim m).length - 1 : Nat) : Int) := by rw [I_len, Bt.wrap_ok (by omega) (by omega)]; omega
    have c2 : (0 : Int) ≤ (((Gm.trim m).length - 1 : Nat) : Int) := by omega
    have c3 : (((Gm.trim m).length - 1 : Nat) : Int) < ((I (Gm.trim m)).length : Int) := by rw [I_len]; omega
    have ht := Gm.trim_top e
    rw [if_neg c1, e1, if_pos c2, if_pos c3, I_rd]
    congr 1
    rw [bne_iff_ne]
    omega
/-! the number at a number -/
theorem at_l0 (p : List Nat) (hp : Gm.By p) (hl : p.length ≤ 1000) {x : Nat} (hx : x < 256) : ∀ (n k out : Nat), out < 256 → n ≤ p.length →
    gf_Poly_At.l0 (k + 9 + n + 1) (I p) (x : Int) (out : Int) ((n : Int) - 1) = some ((Gm.hr p x n out : Nat) : Int) := by
  intro n
  induction n with
  | zero =>
    intro k out ho hn
    have c1 : ¬ (((0 : Nat) : Int) - 1) ≥ 0 := by omega
    rw [gf_Poly_At.l0, if_neg c1]
    rfl
  | succ n ih =>
    intro k out ho hn
    have c1 : (((n + 1 : Nat) : Int) - 1) ≥ 0 := by omega
    have e0 : ((n + 1 : Nat) : Int) - 1 = (n : Int) := by omega
    have c2 : (0 : Int) ≤ (n : Int) := by omega
    have c3 : (n : Int) < ((I p).length : Int) := by rw [I_len]; omega
    have e1 : wrap64 ((n : Int) - 1) = (n : Int) - 1 := Bt.wrap_ok (by omega) (by omega)
    have hg := Gm.gm_lt (b := x) ho
    have hc := Gm.co_lt hp n
    rw [show k + 9 + (n + 1) + 1 = (k + 9 + n + 1) + 1 by omega, gf_Poly_At.l0, if_pos c1, e0, gmul_f ho hx _ (by omega), Option.bind_some, if_pos c2, if_pos c3, I_rd, Bt.x8 hg hc, e1]
    exact ih k _ (Gm.xor_lt8 hg hc) (by omega)
theorem at_f (p : List Nat) (hp : Gm.By p) (hl : p.length ≤ 1000) {x : Nat} (hx : x < 256) (k : Nat) (hk : 1100 ≤ k) : gf_Poly_At.f k (I p) (x : Int) = some ((Gm.ev p x : Nat) : Int) := by
  obtain ⟨j, rfl⟩ : ∃ j, k = j + 9 + p.length + 1 := ⟨k - (9 + p.length + 1), by omega⟩
  have e1 : wrap64 (((I p).length : Int) - 1) = (p.length : Int) - 1 := by rw [I_len]; exact Bt.wrap_ok (by omega) (by omega)
  have h := at_l0 p hp hl hx p.length j 0 (by decide) (Nat.le_refl _)
  rw [Gm.hr_eq hp hx _ _ (by decide), Gm.gm_zero_l, Nat.zero_xor] at h
  unfold gf_Poly_At.f
  rw [e1]
  exact h
theorem rat_l0 (p : List Nat) (hp : Gm.By p) (hl : p.length ≤ 1000) {x : Nat} (hx : x < 256) : ∀ (d k i : Nat), i + d = p.length →
    tinderboxref27_At.l0 (k + 17 + d + 1) (I p) (x : Int) ((Gm.xs i (fun i => Gm.gm (Gm.co p i) (Gm.gp x i)) : Nat) : Int) ((Gm.gp x i : Nat) : Int) (i : Int) = some ((Gm.ev p x : Nat) : Int) := by
  intro d
  induction d with
  | zero =>
    intro k i hi
    obtain rfl : i = p.length := by omega
    have c1 : ¬ (p.length : Int) < ((I p).length : Int) := by rw [I_len]; omega
    rw [tinderboxref27_At.l0, if_neg c1]
    rfl
  | succ d ih =>
    intro k i hi
    have c1 : (i : Int) < ((I p).length : Int) := by rw [I_len]; omega
    have c2 : (0 : Int) ≤ (i : Int) := by omega
    have e1 : wrap64 ((i : Int) + 1) = ((i + 1 : Nat) : Int) := by rw [Bt.wrap_ok (by omega) (by omega)]; omega
    have hc := Gm.co_lt hp i
    have hg := Gm.gp_lt hx i
    have hs : Gm.xs i (fun i => Gm.gm (Gm.co p i) (Gm.gp x i)) < 256 := Gm.xs_lt _ (fun i _ => Gm.gm_lt (Gm.co_lt hp i))
    rw [show k + 17 + (d + 1) + 1 = (k + 17 + d + 1) + 1 by omega, tinderboxref27_At.l0, if_pos c1, if_pos c2, I_rd, rmul_f hc hg _ (by omega), Option.bind_some, rmul_f hg hx _ (by omega), Option.bind_some, Bt.x8 hs (Gm.gm_lt hc), e1, ← Gm.gp_succ]
    exact ih k (i + 1) (by omega)
theorem rat_f (p : List Nat) (hp : Gm.By p) (hl : p.length ≤ 1000) {x : Nat} (hx : x < 256) (k : Nat) (hk : 1100 ≤ k) : tinderboxref27_At.f k (I p) (x : Int) = some ((Gm.ev p x : Nat) : Int) := by
  obtain ⟨j, rfl⟩ : ∃ j, k = j + 17 + p.length + 1 := ⟨k - (17 + p.length + 1), by omega⟩
  exact rat_l0 p hp hl hx p.length j 0 (by omega)
theorem times_l0 (p : List Nat) (hp : Gm.By p) (hl : p.length ≤ 1000) {a : Nat} (ha : a < 256) : ∀ (d k i : Nat) (out : List Nat), Gm.By out → i + d = p.length → out.length = p.length →
    gf_Poly_Times.l0 (k + 1100 + d + 1) (a : Int) (I out) (I p) (p.length : Int) (i : Int) = some (I (Gm.trim (Gm.fill (fun i => Gm.gm a (Gm.co p i)) d i out))) := by
  intro d
  induction d with
  | zero =>
    intro k i out ho hi hb
    have c1 : ¬ (i : Int) < (p.length : Int) := by omega
    rw [gf_Poly_Times.l0, if_neg c1, trim_f out (by omega) _ (by omega)]
    rfl
  | succ d ih =>
    intro k i out ho hi hb
    have c1 : (i : Int) < (p.length : Int) := by omega
    have c2 : (0 : Int) ≤ (i : Int) := by omega
    have c3 : (i : Int) < ((I p).length : Int) := by rw [I_len]; omega
    have c4 : (i : Int) < ((I out).length : Int) := by rw [I_len]; omega
    have e1 : wrap64 ((i : Int) + 1) = ((i + 1 : Nat) : Int) := by rw [Bt.wrap_ok (by omega) (by omega)]; omega
    rw [show k + 1100 + (d + 1) + 1 = (k + 1100 + d + 1) + 1 by omega, gf_Poly_Times.l0, if_pos c1, if_pos c2, if_pos c3, I_rd, gmul_f ha (Gm.co_lt hp i) _ (by omega), Option.bind_some, if_pos c4, Int.toNat_natCast, I_set, e1]
    exact ih k (i + 1) _ (Gm.by_set ho _ (Gm.gm_lt ha)) (by omega) (by rw [List.length_set]; exact hb)
theorem times_f (p : List Nat) (hp : Gm.By p) (hl : p.length ≤ 500) {a : Nat} (ha : a < 256) (k : Nat) (hk : 2000 ≤ k) : gf_Poly_Times.f k (I p) (a : Int) = some (I (Gm.times p a)) := by
  obtain ⟨j, hj⟩ : ∃ j, k = j + 1100 + p.length + 1 := ⟨k - (1100 + p.length + 1), by omega⟩
  have c1 : (0 : Int) ≤ ((I p).length : Int) := by omega
  have c2 : (((I p).length : Int)).toNat ≤ 281474976710656 := by rw [I_len]; omega
  have e1 : (((I p).length : Int)).toNat = p.length := by rw [I_len]; omega
  have e2 : ((I p).length : Int) = (p.length : Int) := by rw [I_len]
  have h := times_l0 p hp (by omega) ha p.length j 0 (List.replicate p.length 0) (Gm.by_rep _) (by omega) (by rw [List.length_replicate])
  rw [Gm.fill_times] at h
  unfold gf_Poly_Times.f
  rw [if_pos c1, if_pos c2, e1, e2, I_rep, hj]
  exact h
theorem shift_f (p : List Nat) (hl : p.length ≤ 500) (n : Nat) (hn : n ≤ 400) (k : Nat) (hk : 2000 ≤ k) : gf_Poly_Shift.f k (I p) (n : Int) = some (I (Gm.shift p n)) := by
  have e : mx (n : Int) 0 = (n : Int) := by unfold mx; split <;> omega
  have c1 : (0 : Int) ≤ (n : Int) := by omega
  have c2 : ((n : Int)).toNat ≤ 281474976710656 := by omega
  have c3 : (I (List.replicate n 0)).length + (I p).length < 140737488355328 := by rw [I_len, I_len, List.length_replicate]; omega
  unfold gf_Poly_Shift.f
  rw [e, if_pos c1, if_pos c2, Int.toNat_natCast, I_rep, Option.bind_some, if_pos c3, I_append, trim_f _ (by rw [List.length_append, List.length_replicate]; omega) _ (by omega), Gm.rep_shift]
  rfl
theorem GfPolys : tinderboxlaw27_GfPolys.Pure := by
  intro l0 l1 a2 _ _ h0 _ _ h1 h2
  obtain ⟨m, rfl, hm⟩ := I_of l0 h0
  obtain ⟨n, rfl, hn⟩ := I_of l1 h1
  have w2 := Bt.wf_u8 h2
  obtain ⟨x, rfl⟩ := Int.eq_ofNat_of_zero_le w2.1
  have hx : x < 256 := by omega
  obtain ⟨p, hpe⟩ : ∃ p, p = m.take 40 := ⟨_, rfl⟩
  obtain ⟨q, hqe⟩ : ∃ q, q = n.take 40 := ⟨_, rfl⟩
  have hp : Gm.By p := by rw [hpe]; exact Gm.by_take hm 40
  have hq : Gm.By q := by rw [hqe]; exact Gm.by_take hn 40
  have lp : p.length ≤ 40 := by rw [hpe, List.length_take]; omega
  have lq : q.length ≤ 40 := by rw [hqe, List.length_take]; omega
  have lm : (Gm.mul p q).length ≤ 100 := by unfold Gm.mul; rw [Gm.trim_len]; have := Gm.tlen_le (Gm.mkL (p.length + q.length) (Gm.pr p q)); rw [Gm.mkL_len] at this; omega
  have la : (Gm.add p q).length ≤ 100 := by unfold Gm.add; rw [Gm.trim_len]; have := Gm.tlen_le (Gm.mkL (max p.length q.length) (fun i => Gm.co p i ^^^ Gm.co q i)); rw [Gm.mkL_len] at this; omega
  have lt : (Gm.times p x).length ≤ 100 := by unfold Gm.times; rw [Gm.trim_len]; have := Gm.tlen_le (Gm.mkL p.length (fun i => Gm.gm x (Gm.co p i))); rw [Gm.mkL_len] at this; omega
  have hn15 : x % 16 ≤ 15 := by omega
  have ls : (Gm.shift p (x % 16)).length ≤ 100 := by unfold Gm.shift; rw [Gm.trim_len]; have := Gm.tlen_le (Gm.mkL (x % 16 + p.length) (fun i => if i < x % 16 then 0 else Gm.co p (i - x % 16))); rw [Gm.mkL_len] at this; omega
  have n1 : p.length ≤ 500 := by omega
  have n2 : q.length ≤ 500 := by omega
  have n3 : p.length ≤ 100 := by omega
  have n4 : q.length ≤ 100 := by omega
  have n5 : (Gm.add p q).length ≤ 1000 := by omega
  have n6 : (Gm.mul p q).length ≤ 1000 := by omega
  have n7 : (Gm.times p x).length ≤ 1000 := by omega
  have n8 : (Gm.shift p (x % 16)).length ≤ 1000 := by omega
  have n9 : x % 16 ≤ 400 := by omega
  have n10 : x % 16 ≤ 511 := by omega
  have n11 : p.length ≤ 1000 := by omega
  have n12 : q.length ≤ 1000 := by omega
  have n13 : max p.length q.length ≤ 1000 := by omega
  have n14 : p.length + q.length ≤ 1000 := by omega
  have hK0 : ∀ k, 20000 ≤ k → 1100 ≤ k ∧ 2000 ≤ k ∧ 17 ≤ k ∧ 600 ≤ k ∧ 100 ≤ k := fun k h => ⟨by omega, by omega, by omega, by omega, by omega⟩
  have hK1 : ∀ k, 20001 ≤ k → ∃ j, k = j + 1 ∧ 20000 ≤ j := fun k h => ⟨k - 1, by omega, by omega⟩
  have hand : Go.bits .and .i64 (wrap64 (x : Int)) 15 = ((x % 16 : Nat) : Int) := by
    rw [Bt.wrap_ok (by omega) (by omega)]
    have := Bt.mask64 (x : Int) 4 (by decide)
    exact this
  have hea := Gm.ev_lt hp x
  have heb := Gm.ev_lt hq x
  have w1 : tinderboxlaw27_whole.f (I (Gm.add p q)) = some true := by unfold Gm.add; exact whole_f _ (by rw [Gm.mkL_len]; assumption)
  have w2 : tinderboxlaw27_whole.f (I (Gm.mul p q)) = some true := by unfold Gm.mul; exact whole_f _ (by rw [Gm.mkL_len]; assumption)
  have fin : ∀ k, 20000 ≤ k → tinderboxlaw27_GfPolys.j0 (k + 1) (x : Int) (I p) (I q) ((x % 16 : Nat) : Int) ((Gm.ev p x : Nat) : Int) ((Gm.ev q x : Nat) : Int) false = some true := by
    intro k k3
    obtain ⟨k1, k2, k4, k5, _⟩ := hK0 k k3
    rw [tinderboxlaw27_GfPolys.j0, if_neg (by decide), padd_f p q hp hq n1 n2 _ k2, Option.bind_some, pmul_f p q hp hq n3 n4 _ k3, Option.bind_some]
    rw [at_f _ (Gm.by_add hp hq) n5 hx _ k1, Option.bind_some, Gm.ev_add hp hq, Bt.x8 hea heb, if_pos rfl]
    rw [at_f _ (Gm.by_mul hp) n6 hx _ k1, Option.bind_some, rmul_f hea heb _ k4, Option.bind_some, Gm.ev_mul hp hq hx, if_pos rfl]
    rw [times_f p hp n1 hx _ k2, Option.bind_some, at_f _ (Gm.by_times hx) n7 hx _ k1, Option.bind_some, rmul_f hea hx _ k4, Option.bind_some, Gm.ev_times hp hx hx, if_pos rfl]
    rw [shift_f p n1 _ n9 _ k2, Option.bind_some, at_f _ (Gm.by_shift hp _) n8 hx _ k1, Option.bind_some, rpow_f hx _ n10 _ k5, Option.bind_some, rmul_f hea (Gm.gp_lt hx _) _ k4, Option.bind_some, Gm.ev_shift hp _ hx, if_pos rfl]
    rw [w1, Option.bind_some, if_pos rfl, w2]
    rfl
  have fin2 : ∀ k, 20001 ≤ k → tinderboxlaw27_GfPolys.j0 k (x : Int) (I p) (I q) ((x % 16 : Nat) : Int) ((Gm.ev p x : Nat) : Int) ((Gm.ev q x : Nat) : Int) false = some true := by
    intro k hk
    obtain ⟨j, rfl, hj⟩ := hK1 k hk
    exact fin j hj
  obtain ⟨K, hK⟩ : ∃ K, K = 30000 := ⟨_, rfl⟩
  refine ⟨K, ?_⟩
  have hK2 : 20001 ≤ K := by rw [hK]; decide
  obtain ⟨k1, _, _, _, k2⟩ := hK0 K (Nat.le_of_succ_le hK2)
  unfold tinderboxlaw27_GfPolys.f
  rw [few_f, Option.bind_some, ← hpe, few_f, Option.bind_some, ← hqe, rat_f p hp n11 hx _ k1, Option.bind_some, rat_f q hq n12 hx _ k1, Option.bind_some, awake_f _ k2, Option.bind_some, if_pos rfl]
  rw [at_f p hp n11 hx _ k1, Option.bind_some, if_pos rfl, at_f q hq n12 hx _ k1, Option.bind_some, hand, bne_self_eq_false]
  exact fin2 K hK2
end Go.Proofs.Ytpidfledopnhpaa.Pure
