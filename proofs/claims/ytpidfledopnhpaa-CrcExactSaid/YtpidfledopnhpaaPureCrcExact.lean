/- The check of every text (its first 500 bytes) is the reference check. For every input. -/
import Derived.Test.YtpidfledopnhpaaXCrcExactx1
import Derived.Test.YtpidfledopnhpaaMBits
import Derived.Test.YtpidfledopnhpaaCrc
namespace Go.Proofs.Ytpidfledopnhpaa.Pure
open Go.RowKit Go.Proofs.Ytpidfledopnhpaa Go.Proofs.Ytpidfledopnhpaa.XCrcExact Go.Proofs.YtpidfledopnhpaaW.PrintWords Go.Proofs.YtpidfledopnhpaaW.PrintLast Go.Proofs.YtpidfledopnhpaaW.PrintMore
/-! the program's check -/
def bytesN (s : ByteArray) : List Nat := s.data.toList.map UInt8.toNat
theorem bytesN_len (s : ByteArray) : (bytesN s).length = s.size := by unfold bytesN; simp
theorem bytesN_lt (s : ByteArray) : ∀ x ∈ bytesN s, x < 256 := by
  intro x hx
  unfold bytesN at hx
  obtain ⟨y, _, rfl⟩ := List.mem_map.1 hx
  exact y.toNat_lt
theorem bytesN_drop (s : ByteArray) (i : Nat) (h : i < s.size) : (bytesN s).drop i = (bytesN s).getD i 0 :: (bytesN s).drop (i + 1) := by
  have hl : i < (bytesN s).length := by rw [bytesN_len]; exact h
  rw [List.drop_eq_getElem_cons hl, List.getD_eq_getElem?_getD, List.getElem?_eq_getElem hl]
  rfl
theorem getD_lt (s : ByteArray) (i : Nat) : (bytesN s).getD i 0 < 256 := by
  rw [List.getD_eq_getElem?_getD]
  by_cases h : i < (bytesN s).length
  · rw [List.getElem?_eq_getElem h]
    exact bytesN_lt s _ (List.getElem_mem h)
  · rw [List.getElem?_eq_none (by omega)]
    decide
theorem more_l1 (s : ByteArray) (x10 : Int) (i : Nat) (hi : i < 9223372036854775807) : ∀ (d : Nat), d ≤ 8 → ∀ (k c : Nat) (x20 : Int), c < 4294967296 → x20 = 8 - (d : Int) →
    crc_More.l1 (k + d + 1) s (c : Int) x10 (i : Int) x20 = crc_More.l0 k s ((Cm.it d c : Nat) : Int) x10 ((i + 1 : Nat) : Int) := by
  intro d
  induction d with
  | zero =>
    intro _ k c x20 hc hx
    rw [crc_More.l1, if_neg (by omega), Bt.wrap_ok (by omega) (by omega)]
    rfl
  | succ d ih =>
    intro hd k c x20 hc hx
    have hst := Cm.st_lt hc
    have h2 : (c : Int) / 2 = ((c / 2 : Nat) : Int) := by omega
    have hw : wrap64 (x20 + 1) = x20 + 1 := Bt.wrap_ok (by omega) (by omega)
    have ih' := ih (by omega) k (Cm.st c) (x20 + 1) hst (by omega)
    rw [show k + (d + 1) + 1 = (k + d + 1) + 1 by omega, crc_More.l1, if_pos (by omega), Bt.and1_32 hc, h2, hw]
    show _ = crc_More.l0 k s ((Cm.it d (Cm.st c) : Nat) : Int) x10 ((i + 1 : Nat) : Int)
    rw [← ih']
    by_cases h : c % 2 = 1
    · rw [if_pos (by omega), show (2197175160 : Int) = ((2197175160 : Nat) : Int) from rfl, Bt.x32 (by omega) (by decide)]
      unfold Cm.st
      rw [if_pos h]
    · rw [if_neg (by omega)]
      unfold Cm.st
      rw [if_neg h]
theorem more_l0 (s : ByteArray) (hs : s.size ≤ 140737488351232) : ∀ (m : Nat), m ≤ s.size → ∀ (k c : Nat) (i : Nat), c < 4294967296 → i + m = s.size →
    crc_More.l0 (k + 10 * m + 1) s (c : Int) (s.size : Int) (i : Int) = some ((Cm.run c ((bytesN s).drop i) ^^^ 4294967295 : Nat) : Int) := by
  intro m
  induction m with
  | zero =>
    intro _ k c i hc hi
    rw [crc_More.l0, if_neg (by omega), show (4294967295 : Int) = ((4294967295 : Nat) : Int) from rfl, Bt.x32 hc (by decide)]
    rw [List.drop_eq_nil_of_le (by rw [bytesN_len]; omega)]
    rfl
  | succ m ih =>
    intro hm k c i hc hi
    have hb := getD_lt s i
    have hbt : bt s (i : Int) % 4294967296 = (((bytesN s).getD i 0 : Nat) : Int) := by rw [Bt.bt_nat s i (by omega)]; show (((bytesN s).getD i 0 : Nat) : Int) % _ = _; omega
    have hx := Cm.xor32 hc (by omega : (bytesN s).getD i 0 < 4294967296)
    rw [show k + 10 * (m + 1) + 1 = ((k + 10 * m + 1) + 8 + 1) + 1 by omega, crc_More.l0, if_pos (by omega), if_pos (by omega), if_pos (by omega), hbt, Bt.x32 hc (by omega)]
    rw [more_l1 s _ i (by omega) 8 (by omega) _ _ 0 hx rfl, ih (by omega) k _ (i + 1) (Cm.it_lt 8 hx) (by omega), bytesN_drop s i (by omega), Cm.run_cons]
    rfl
theorem ones_xor {a : Nat} : (4294967295 ^^^ a) ^^^ 4294967295 = a := by rw [Nat.xor_comm 4294967295 a, Nat.xor_assoc, Nat.xor_self, Nat.xor_zero]
theorem more_f (s : ByteArray) (hs : s.size ≤ 140737488351232) (a : Nat) (ha : a < 4294967296) (k : Nat) (hk : 10 * s.size + 1 ≤ k) :
    crc_More.f k (a : Int) s = some ((Cm.run (4294967295 ^^^ a) (bytesN s) ^^^ 4294967295 : Nat) : Int) := by
  obtain ⟨j, rfl⟩ : ∃ j, k = j + 10 * s.size + 1 := ⟨k - (10 * s.size + 1), by omega⟩
  unfold crc_More.f
  rw [show (4294967295 : Int) = ((4294967295 : Nat) : Int) from rfl, Bt.x32 (by decide) ha]
  have := more_l0 s hs s.size (Nat.le_refl _) j _ 0 (Cm.xor32 (by decide : 4294967295 < 4294967296) ha) (by omega)
  rwa [List.drop_zero] at this
theorem sum_f (s : ByteArray) (hs : s.size ≤ 140737488351232) (k : Nat) (hk : 10 * s.size + 1 ≤ k) : crc_Sum.f k s = some ((Cm.crc (bytesN s) : Nat) : Int) := by
  unfold crc_Sum.f
  rw [show (0 : Int) = ((0 : Nat) : Int) from rfl, more_f s hs 0 (by decide) k hk, Nat.xor_zero]
  rfl
theorem crc_lt (s : ByteArray) : Cm.crc (bytesN s) < 4294967296 := Cm.xor32 (Cm.run_lt _ (by decide) (bytesN_lt s)) (by decide)
theorem awake_f (k : Nat) (hk : 100 ≤ k) : tinderboxlaw01_awake.f k = some true := by
  unfold tinderboxlaw01_awake.f
  have h1 : (⟨#[49, 50, 51, 52, 53, 54, 55, 56, 57]⟩ : ByteArray).size = 9 := rfl
  have h2 : (⟨#[]⟩ : ByteArray).size = 0 := rfl
  rw [sum_f _ (by omega) k (by omega), sum_f _ (by omega) k (by omega), show bytesN (⟨#[49, 50, 51, 52, 53, 54, 55, 56, 57]⟩ : ByteArray) = [49, 50, 51, 52, 53, 54, 55, 56, 57] from rfl, Cm.awake]
  rfl
theorem few_f (s : ByteArray) : ∃ t : ByteArray, tinderboxlaw01_few.f s = some t ∧ t.size ≤ 500 ∧ t.size ≤ s.size := by
  unfold tinderboxlaw01_few.f
  by_cases h : (s.size : Int) > 500
  · rw [if_pos h, if_pos (by decide), if_pos (by omega)]
    refine ⟨_, rfl, ?_, ?_⟩ <;> rw [ByteArray.size_extract] <;> omega
  · rw [if_neg h]
    exact ⟨s, rfl, by omega, by omega⟩
/-! the reference's check -/
theorem turned_l0 : ∀ (d k : Nat) (n o : Nat) (x1 x6 : Int), n < 4294967296 → o < 4294967296 → 0 ≤ x6 → x1 - x6 = d → x1 ≤ 64 →
    tinderboxref01_turned.l0 (k + d + 1) (n : Int) x1 (o : Int) x6 = some ((Cm.rv d n o : Nat) : Int) := by
  intro d
  induction d with
  | zero =>
    intro k n o x1 x6 hn ho h0 hd h1
    rw [tinderboxref01_turned.l0, if_neg (by omega)]
    rfl
  | succ d ih =>
    intro k n o x1 x6 hn ho h0 hd h1
    rw [show k + (d + 1) + 1 = (k + d + 1) + 1 by omega, tinderboxref01_turned.l0, if_pos (by omega), Bt.wrap_ok (by omega) (by omega)]
    have e1 : (Int.tdiv (n : Int) 2) % 4294967296 = ((n / 2 : Nat) : Int) := by
      rw [Int.tdiv_eq_ediv_of_nonneg (by omega)]; omega
    have e2 : (((o : Int) * 2) % 4294967296 + Int.tmod (n : Int) 2) % 4294967296 = (((o * 2 + n % 2) % 4294967296 : Nat) : Int) := by
      rw [Int.tmod_eq_emod_of_nonneg (by omega)]; omega
    rw [e1, e2, ih k _ _ x1 (x6 + 1) (by omega) (Nat.mod_lt _ (by decide)) (by omega) (by omega) h1]
    rfl
theorem turned_f (n b k : Nat) (hn : n < 4294967296) (hb : b ≤ 64) (hk : b < k) : tinderboxref01_turned.f k (n : Int) (b : Int) = some ((Cm.rv b n 0 : Nat) : Int) := by
  obtain ⟨j, rfl⟩ : ∃ j, k = j + b + 1 := ⟨k - (b + 1), by omega⟩
  exact turned_l0 b j n 0 b 0 hn (by decide) (by omega) (by omega) (by omega)
theorem rsum_l1 (s : ByteArray) (i : Nat) (hi : i < 9223372036854775807) : ∀ (d : Nat), d ≤ 8 → ∀ (k c : Nat) (x : Int), c < 4294967296 → x = 8 - (d : Int) →
    tinderboxref01_Sum.l1 (k + d + 1) s (c : Int) (i : Int) x = tinderboxref01_Sum.l0 k s ((Cm.sit d c : Nat) : Int) ((i + 1 : Nat) : Int) := by
  intro d
  induction d with
  | zero =>
    intro _ k c x hc hx
    rw [tinderboxref01_Sum.l1, if_neg (by omega), Bt.wrap_ok (by omega) (by omega)]
    rfl
  | succ d ih =>
    intro hd k c x hc hx
    have hw : wrap64 (x + 1) = x + 1 := Bt.wrap_ok (by omega) (by omega)
    have h2 : ((c : Int) * 2) % 4294967296 = ((c * 2 % 4294967296 : Nat) : Int) := by omega
    rw [show k + (d + 1) + 1 = (k + d + 1) + 1 by omega, tinderboxref01_Sum.l1, if_pos (by omega), h2, hw]
    show _ = tinderboxref01_Sum.l0 k s ((Cm.sit d (Cm.sr c) : Nat) : Int) ((i + 1 : Nat) : Int)
    rw [← ih (by omega) k (Cm.sr c) (x + 1) (Cm.sr_lt c) (by omega)]
    by_cases h : c ≥ 2147483648
    · rw [if_pos (by omega), show (517762881 : Int) = ((517762881 : Nat) : Int) from rfl, Bt.x32 (by omega) (by decide)]
      unfold Cm.sr
      rw [if_pos h]
    · rw [if_neg (by omega)]
      unfold Cm.sr
      rw [if_neg h]
theorem rsum_l0 (s : ByteArray) (hs : s.size ≤ 140737488351232) : ∀ (m : Nat), m ≤ s.size → ∀ (k c : Nat) (i : Nat), c < 4294967296 → i + m = s.size →
    tinderboxref01_Sum.l0 (k + 100 + 10 * m + 1) s (c : Int) (i : Int) = some ((Cm.rv 32 (((bytesN s).drop i).foldl Cm.sbyte c) 0 ^^^ 4294967295 : Nat) : Int) := by
  intro m
  induction m with
  | zero =>
    intro _ k c i hc hi
    rw [tinderboxref01_Sum.l0, if_neg (by omega), show (32 : Int) = ((32 : Nat) : Int) from rfl, turned_f c 32 _ hc (by decide) (by omega)]
    rw [Option.bind_some, show (4294967295 : Int) = ((4294967295 : Nat) : Int) from rfl, Bt.x32 (Cm.rv_lt 32 _ (by decide)) (by decide)]
    rw [List.drop_eq_nil_of_le (by rw [bytesN_len]; omega), List.foldl_nil]
  | succ m ih =>
    intro hm k c i hc hi
    have hb := getD_lt s i
    have hbt : bt s (i : Int) % 4294967296 = (((bytesN s).getD i 0 : Nat) : Int) := by rw [Bt.bt_nat s i (by omega)]; show (((bytesN s).getD i 0 : Nat) : Int) % _ = _; omega
    have h3 : (((Cm.rv 8 ((bytesN s).getD i 0) 0 : Nat) : Int) * 16777216) % 4294967296 = ((Cm.rv 8 ((bytesN s).getD i 0) 0 * 16777216 % 4294967296 : Nat) : Int) := by omega
    rw [show k + 100 + 10 * (m + 1) + 1 = ((k + 100 + 10 * m + 1) + 8 + 1) + 1 by omega, tinderboxref01_Sum.l0, if_pos (by omega), if_pos (by omega), hbt, show (8 : Int) = ((8 : Nat) : Int) from rfl, turned_f _ 8 _ (by omega) (by decide) (by omega)]
    rw [Option.bind_some, h3, Bt.x32 hc (Nat.mod_lt _ (by decide))]
    rw [rsum_l1 s i (by omega) 8 (by omega) _ _ 0 (Cm.xor32 hc (Nat.mod_lt _ (by decide))) rfl]
    have := ih (by omega) k (Cm.sbyte c ((bytesN s).getD i 0)) (i + 1) (Cm.sbyte_lt hc) (by omega)
    rw [bytesN_drop s i (by omega), List.foldl_cons]
    exact this
theorem rsum_f (s : ByteArray) (hs : s.size ≤ 140737488351232) (k : Nat) (hk : 10 * s.size + 101 ≤ k) : tinderboxref01_Sum.f k s = some ((Cm.crc (bytesN s) : Nat) : Int) := by
  obtain ⟨j, rfl⟩ : ∃ j, k = j + 100 + 10 * s.size + 1 := ⟨k - (10 * s.size + 101), by omega⟩
  unfold tinderboxref01_Sum.f
  have h := rsum_l0 s hs s.size (Nat.le_refl _) j 4294967295 0 (by decide) (by omega)
  rw [List.drop_zero, Cm.rv_run _ (by decide) (bytesN_lt s), Cm.rv_ones] at h
  exact h

theorem CrcExact : tinderboxlaw01_CrcExact.Pure := by
  intro s hs
  refine ⟨10000, ?_⟩
  obtain ⟨t, ht, h5, _⟩ := few_f s
  unfold tinderboxlaw01_CrcExact.f
  rw [awake_f _ (by decide), ht, Option.bind_some, if_pos rfl, Option.bind_some, sum_f t (by omega) _ (by omega), Option.bind_some, rsum_f t (by omega) _ (by omega), Option.bind_some]
  simp
end Go.Proofs.Ytpidfledopnhpaa.Pure
