/- Whole numbers' bits, as the model has them, on natural numbers. Conditions: the numbers fit their kinds. -/
import Derived.Test.YtomenklhgofjaaaYW
import Derived.Laws.BitsLemmas
namespace Go.Proofs.Ytomenklhgofjaaa.Bt
open Go.RowKit Go.Proofs.YtomenklhgofjaaaW.PrintWords
theorem xor_nat (k : IntKind) (j : Nat) (hj : j ≤ k.bits) (hk : ∀ n : Int, 0 ≤ n → n < 2 ^ j → k.wrap n = n) (a b : Nat) (ha : a < 2 ^ j) (hb : b < 2 ^ j) :
    Go.bits .xor k a b = ((a ^^^ b : Nat) : Int) := by
  have hp : 2 ^ j ≤ 2 ^ k.bits := Nat.pow_le_pow_right (by decide) hj
  have ha' : a % 2 ^ k.bits = a := Nat.mod_eq_of_lt (Nat.lt_of_lt_of_le ha hp)
  have hb' : b % 2 ^ k.bits = b := Nat.mod_eq_of_lt (Nat.lt_of_lt_of_le hb hp)
  have cast : ∀ n : Nat, n < 2 ^ j → ((n : Nat) : Int) < 2 ^ j := fun n h => by exact_mod_cast h
  simp only [Go.bits, BitVec.ofInt_natCast, BitVec.toNat_xor, BitVec.toNat_ofNat, ha', hb']
  exact hk _ (Int.natCast_nonneg _) (cast _ (Nat.xor_lt_two_pow ha hb))
theorem wrap_u64 (n : Int) : IntKind.u64.wrap n = n % 18446744073709551616 := by simp [IntKind.wrap, IntKind.bits, IntKind.signed]
theorem wrap_u8 (n : Int) : IntKind.u8.wrap n = n % 256 := IntKind.wrap_u8 n
theorem wrap_u32 (n : Int) : IntKind.u32.wrap n = n % 4294967296 := IntKind.wrap_u32 n
theorem wraps_u32 (n : Int) (h₀ : 0 ≤ n) (h₁ : n < 2 ^ 32) : IntKind.u32.wrap n = n := by rw [IntKind.wrap_u32]; omega
theorem wraps_u64 (n : Int) (h₀ : 0 ≤ n) (h₁ : n < 2 ^ 64) : IntKind.u64.wrap n = n := by rw [wrap_u64]; omega
theorem wraps_i64 (n : Int) (h₀ : 0 ≤ n) (h₁ : n < 2 ^ 63) : IntKind.i64.wrap n = n := by rw [IntKind.wrap_i64]; omega
theorem x8 {a b : Nat} (ha : a < 256) (hb : b < 256) : Go.bits .xor .u8 a b = ((a ^^^ b : Nat) : Int) := xor_nat .u8 8 (by decide) wraps_u8 a b ha hb
theorem x32 {a b : Nat} (ha : a < 4294967296) (hb : b < 4294967296) : Go.bits .xor .u32 a b = ((a ^^^ b : Nat) : Int) := xor_nat .u32 32 (by decide) wraps_u32 a b ha hb
theorem x64 {a b : Nat} (ha : a < 9223372036854775808) (hb : b < 9223372036854775808) : Go.bits .xor .i64 a b = ((a ^^^ b : Nat) : Int) := xor_nat .i64 63 (by decide) wraps_i64 a b ha hb
theorem xu64 {a b : Nat} (ha : a < 18446744073709551616) (hb : b < 18446744073709551616) : Go.bits .xor .u64 a b = ((a ^^^ b : Nat) : Int) := xor_nat .u64 64 (by decide) wraps_u64 a b ha hb
/-- A mask of the lowest bits: of 64 bits, negative numbers, too. -/
theorem and1_8 {a : Nat} (ha : a < 256) : Go.bits .and .u8 a 1 = ((a % 2 : Nat) : Int) := by
  have := bits_mask .u8 8 (by decide) wraps_u8 1 (by decide) a (by omega) (by omega)
  simpa using this
theorem and1_32 {a : Nat} (ha : a < 4294967296) : Go.bits .and .u32 a 1 = ((a % 2 : Nat) : Int) := by
  have := bits_mask .u32 32 (by decide) wraps_u32 1 (by decide) a (by omega) (by omega)
  simpa using this
theorem and1_64 {a : Nat} (ha : a < 9223372036854775808) : Go.bits .and .i64 a 1 = ((a % 2 : Nat) : Int) := by
  have := bits_mask .i64 63 (by decide) wraps_i64 1 (by decide) a (by omega) (by omega)
  simpa using this
theorem mask64 (x : Int) (j : Nat) (hj : j ≤ 62) : Go.bits .and .i64 x (2 ^ j - 1) = x % 2 ^ j := by
  have h1 : (2 : Int) ^ j ≤ 2 ^ 62 := by exact_mod_cast Nat.pow_le_pow_right (by decide : 0 < 2) hj
  have h0 : (0 : Int) < 2 ^ j := by exact_mod_cast Nat.two_pow_pos j
  have hc : ((2 : Int) ^ j - 1) = ((2 ^ j - 1 : Nat) : Int) := by
    rw [Int.natCast_sub (Nat.two_pow_pos j)]; simp
  have hm : 2 ^ j - 1 < 2 ^ 64 := by
    have : 2 ^ j ≤ 2 ^ 62 := Nat.pow_le_pow_right (by decide) hj
    omega
  have e : (BitVec.ofInt 64 x &&& BitVec.ofInt 64 ((2 : Int) ^ j - 1)).toNat = (x % 2 ^ j).toNat := by
    rw [hc, BitVec.ofInt_natCast, BitVec.toNat_and, BitVec.toNat_ofNat, Nat.mod_eq_of_lt hm, Nat.and_two_pow_sub_one_eq_mod, BitVec.toNat_ofInt]
    have h2 : (0 : Int) ≤ x % ((2 ^ 64 : Nat) : Int) := Int.emod_nonneg _ (by decide)
    have h4 : ((2 : Int) ^ j) ∣ ((2 ^ 64 : Nat) : Int) := by
      have : (2 ^ j : Nat) ∣ 2 ^ 64 := Nat.pow_dvd_pow 2 (by omega)
      exact_mod_cast this
    have h3 : x % 2 ^ j = (x % ((2 ^ 64 : Nat) : Int)) % 2 ^ j := (Int.emod_emod_of_dvd x h4).symm
    rw [h3]
    obtain ⟨m, hm⟩ := Int.eq_ofNat_of_zero_le h2
    rw [hm, Int.toNat_natCast]
    have : ((m : Int) % 2 ^ j) = ((m % 2 ^ j : Nat) : Int) := by simp
    rw [this, Int.toNat_natCast]
  have hl : (x % 2 ^ j) < 2 ^ j := Int.emod_lt_of_pos _ h0
  have hn : 0 ≤ x % 2 ^ j := Int.emod_nonneg _ (by omega)
  show IntKind.i64.wrap ((BitVec.ofInt 64 x &&& BitVec.ofInt 64 ((2 : Int) ^ j - 1)).toNat) = _
  rw [e, wraps_i64 _ (by omega) (by omega)]
  omega
theorem wrap_ok {n : Int} (h0 : -9223372036854775808 ≤ n) (h1 : n < 9223372036854775808) : wrap64 n = n := by unfold wrap64; omega
theorem bt_nat (s : ByteArray) (i : Nat) (h : i < s.size) : bt s (i : Int) = ((s.data.toList.map UInt8.toNat).getD i 0 : Nat) := by
  have h' : i < s.data.size := h
  have e : (s.data.toList.map UInt8.toNat).getD i 0 = (s.data[i]'h').toNat := by
    rw [List.getD_eq_getElem?_getD, List.getElem?_map, Array.getElem?_toList, Array.getElem?_eq_getElem h']
    rfl
  rw [e]
  unfold bt
  rw [dif_pos (by simpa using h)]
  rfl
theorem tmod2 (q : Nat) : Int.tmod (q : Int) 2 = ((q % 2 : Nat) : Int) := by rw [Int.tmod_eq_emod_of_nonneg (by omega)]; omega
theorem cast1 {q : Nat} (h : q = 1) : ((q : Nat) : Int) = 1 := by rw [h]; rfl
theorem cast1n {q : Nat} (h : ¬ q = 1) : ¬ ((q : Nat) : Int) = 1 := by omega
theorem shr_nat {k : IntKind} (n i : Nat) (h : i ≤ k.bits) : shr k (n : Int) (i : Int) = ((n / 2 ^ i : Nat) : Int) := by
  unfold shr
  rw [Int.toNat_natCast, Nat.min_eq_left h]
  simp
theorem shl_64 (n i : Nat) (h : i ≤ 64) (hb : n * 2 ^ i < 9223372036854775808) : shl .i64 (n : Int) (i : Int) = ((n * 2 ^ i : Nat) : Int) := by
  unfold shl
  rw [Int.toNat_natCast, Nat.min_eq_left (show i ≤ IntKind.i64.bits from h)]
  have e : (n : Int) * 2 ^ i = ((n * 2 ^ i : Nat) : Int) := by simp
  rw [e, wraps_i64 _ (by omega) (by omega)]
theorem wf_u8 {a : Int} (h : (Lit.int .u8 a).wf = true) : 0 ≤ a ∧ a ≤ 255 := by
  simp [Lit.wf, IntKind.min, IntKind.max, IntKind.bits, IntKind.signed] at h
  omega
theorem wf_u32 {a : Int} (h : (Lit.int .u32 a).wf = true) : 0 ≤ a ∧ a ≤ 4294967295 := by
  simp [Lit.wf, IntKind.min, IntKind.max, IntKind.bits, IntKind.signed] at h
  omega
theorem wf_u64 {a : Int} (h : (Lit.int .u64 a).wf = true) : 0 ≤ a ∧ a ≤ 18446744073709551615 := by
  simp [Lit.wf, IntKind.min, IntKind.max, IntKind.bits, IntKind.signed] at h
  omega
theorem wf_i64 {a : Int} (h : (Lit.int .i64 a).wf = true) : -9223372036854775808 ≤ a ∧ a ≤ 9223372036854775807 := by
  simp [Lit.wf, IntKind.min, IntKind.max, IntKind.bits, IntKind.signed] at h
  omega
end Go.Proofs.Ytomenklhgofjaaa.Bt
