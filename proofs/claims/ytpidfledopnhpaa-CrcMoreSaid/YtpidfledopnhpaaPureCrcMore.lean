/- The check of bytes behind others is reckoned from the check of the others alone, for texts of which the first 500 bytes are taken. For every input. -/
import Derived.Test.YtpidfledopnhpaaXCrcMorex1
import Derived.Test.YtpidfledopnhpaaMBits
import Derived.Test.YtpidfledopnhpaaCrc
namespace Go.Proofs.Ytpidfledopnhpaa.Pure
open Go.RowKit Go.Proofs.Ytpidfledopnhpaa Go.Proofs.Ytpidfledopnhpaa.XCrcMore Go.Proofs.YtpidfledopnhpaaW.PrintWords Go.Proofs.YtpidfledopnhpaaW.PrintLast Go.Proofs.YtpidfledopnhpaaW.PrintMore
/-! the program's check -/
def bytesN (s : ByteArray) : List Nat := s.data.toList.map UInt8.toNat
theorem bytesN_len (s : ByteArray) : (bytesN s).length = s.size := by unfold bytesN; simp
theorem bytesN_lt (s : ByteArray) : ∀ x ∈ bytesN s, x < 256 := by
  intro x hx
  unfold bytesN at hx
  obtain ⟨y, _, rfl⟩ := List.mem_map.1 hx
  exact y.toNat_lt
theorem bytesN_drop (s : ByteArray) (i : Nat) (h : i < s.size) : (bytesN s).drop i = (bytesN s).getD i 0 :: (bytesN s).drop (i + 1) := by
  have hl : i < (bytesN s).length := by rw [bytesN_len]; exact h
  rw [List.drop_eq_getElem_cons hl, List.getD_eq_getElem?_getD, List.getElem?_eq_getElem hl]
  rfl
theorem getD_lt (s : ByteArray) (i : Nat) : (bytesN s).getD i 0 < 256 := by
  rw [List.getD_eq_getElem?_getD]
  by_cases h : i < (bytesN s).length
  · rw [List.getElem?_eq_getElem h]
    exact bytesN_lt s _ (List.getElem_mem h)
  · rw [List.getElem?_eq_none (by omega)]
    decide
theorem more_l1 (s : ByteArray) (x10 : Int) (i : Nat) (hi : i < 9223372036854775807) : ∀ (d : Nat), d ≤ 8 → ∀ (k c : Nat) (x20 : Int), c < 4294967296 → x20 = 8 - (d : Int) →
    crc_More.l1 (k + d + 1) s (c : Int) x10 (i : Int) x20 = crc_More.l0 k s ((Cm.it d c : Nat) : Int) x10 ((i + 1 : Nat) : Int) := by
  intro d
  induction d with
  | zero =>
    intro _ k c x20 hc hx
    rw [crc_More.l1, if_neg (by omega), Bt.wrap_ok (by omega) (by omega)]
    rfl
  | succ d ih =>
    intro hd k c x20 hc hx
    have hst := Cm.st_lt hc
    have h2 : (c : Int) / 2 = ((c / 2 : Nat) : Int) := by omega
    have hw : wrap64 (x20 + 1) = x20 + 1 := Bt.wrap_ok (by omega) (by omega)
    have ih' := ih (by omega) k (Cm.st c) (x20 + 1) hst (by omega)
    rw [show k + (d + 1) + 1 = (k + d + 1) + 1 by omega, crc_More.l1, if_pos (by omega), Bt.and1_32 hc, h2, hw]
    show _ = crc_More.l0 k s ((Cm.it d (Cm.st c) : Nat) : Int) x10 ((i + 1 : Nat) : Int)
    rw [← ih']
    by_cases h : c % 2 = 1
    · rw [if_pos (by omega), show (2197175160 : Int) = ((2197175160 : Nat) : Int) from rfl, Bt.x32 (by omega) (by decide)]
      unfold Cm.st
      rw [if_pos h]
    · rw [if_neg (by omega)]
      unfold Cm.st
      rw [if_neg h]
theorem more_l0 (s : ByteArray) (hs : s.size ≤ 140737488351232) : ∀ (m : Nat), m ≤ s.size → ∀ (k c : Nat) (i : Nat), c < 4294967296 → i + m = s.size →
    crc_More.l0 (k + 10 * m + 1) s (c : Int) (s.size : Int) (i : Int) = some ((Cm.run c ((bytesN s).drop i) ^^^ 4294967295 : Nat) : Int) := by
  intro m
  induction m with
  | zero =>
    intro _ k c i hc hi
    rw [crc_More.l0, if_neg (by omega), show (4294967295 : Int) = ((4294967295 : Nat) : Int) from rfl, Bt.x32 hc (by decide)]
    rw [List.drop_eq_nil_of_le (by rw [bytesN_len]; omega)]
    rfl
  | succ m ih =>
    intro hm k c i hc hi
    have hb := getD_lt s i
    have hbt : bt s (i : Int) % 4294967296 = (((bytesN s).getD i 0 : Nat) : Int) := by rw [Bt.bt_nat s i (by omega)]; show (((bytesN s).getD i 0 : Nat) : Int) % _ = _; omega
    have hx := Cm.xor32 hc (by omega : (bytesN s).getD i 0 < 4294967296)
    rw [show k + 10 * (m + 1) + 1 = ((k + 10 * m + 1) + 8 + 1) + 1 by omega, crc_More.l0, if_pos (by omega), if_pos (by omega), if_pos (by omega), hbt, Bt.x32 hc (by omega)]
    rw [more_l1 s _ i (by omega) 8 (by omega) _ _ 0 hx rfl, ih (by omega) k _ (i + 1) (Cm.it_lt 8 hx) (by omega), bytesN_drop s i (by omega), Cm.run_cons]
    rfl
theorem ones_xor {a : Nat} : (4294967295 ^^^ a) ^^^ 4294967295 = a := by rw [Nat.xor_comm 4294967295 a, Nat.xor_assoc, Nat.xor_self, Nat.xor_zero]
theorem more_f (s : ByteArray) (hs : s.size ≤ 140737488351232) (a : Nat) (ha : a < 4294967296) (k : Nat) (hk : 10 * s.size + 1 ≤ k) :
    crc_More.f k (a : Int) s = some ((Cm.run (4294967295 ^^^ a) (bytesN s) ^^^ 4294967295 : Nat) : Int) := by
  obtain ⟨j, rfl⟩ : ∃ j, k = j + 10 * s.size + 1 := ⟨k - (10 * s.size + 1), by omega⟩
  unfold crc_More.f
  rw [show (4294967295 : Int) = ((4294967295 : Nat) : Int) from rfl, Bt.x32 (by decide) ha]
  have := more_l0 s hs s.size (Nat.le_refl _) j _ 0 (Cm.xor32 (by decide : 4294967295 < 4294967296) ha) (by omega)
  rwa [List.drop_zero] at this
theorem sum_f (s : ByteArray) (hs : s.size ≤ 140737488351232) (k : Nat) (hk : 10 * s.size + 1 ≤ k) : crc_Sum.f k s = some ((Cm.crc (bytesN s) : Nat) : Int) := by
  unfold crc_Sum.f
  rw [show (0 : Int) = ((0 : Nat) : Int) from rfl, more_f s hs 0 (by decide) k hk, Nat.xor_zero]
  rfl
theorem crc_lt (s : ByteArray) : Cm.crc (bytesN s) < 4294967296 := Cm.xor32 (Cm.run_lt _ (by decide) (bytesN_lt s)) (by decide)
theorem awake_f (k : Nat) (hk : 100 ≤ k) : tinderboxlaw01_awake.f k = some true := by
  unfold tinderboxlaw01_awake.f
  have h1 : (⟨#[49, 50, 51, 52, 53, 54, 55, 56, 57]⟩ : ByteArray).size = 9 := rfl
  have h2 : (⟨#[]⟩ : ByteArray).size = 0 := rfl
  rw [sum_f _ (by omega) k (by omega), sum_f _ (by omega) k (by omega), show bytesN (⟨#[49, 50, 51, 52, 53, 54, 55, 56, 57]⟩ : ByteArray) = [49, 50, 51, 52, 53, 54, 55, 56, 57] from rfl, Cm.awake]
  rfl
theorem few_f (s : ByteArray) : ∃ t : ByteArray, tinderboxlaw01_few.f s = some t ∧ t.size ≤ 500 ∧ t.size ≤ s.size := by
  unfold tinderboxlaw01_few.f
  by_cases h : (s.size : Int) > 500
  · rw [if_pos h, if_pos (by decide), if_pos (by omega)]
    refine ⟨_, rfl, ?_, ?_⟩ <;> rw [ByteArray.size_extract] <;> omega
  · rw [if_neg h]
    exact ⟨s, rfl, by omega, by omega⟩
theorem bytesN_append (s t : ByteArray) : bytesN (s ++ t) = bytesN s ++ bytesN t := by
  unfold bytesN
  rw [← List.map_append]
  simp
theorem CrcMore : tinderboxlaw01_CrcMore.Pure := by
  intro a b ha hb
  refine ⟨20000, ?_⟩
  obtain ⟨s, hs, h5, _⟩ := few_f a
  obtain ⟨t, ht, h6, _⟩ := few_f b
  have hst : (s ++ t).size = s.size + t.size := ByteArray.size_append
  have e1 : Cm.run (4294967295 ^^^ Cm.crc (bytesN s)) (bytesN t) ^^^ 4294967295 = Cm.crc (bytesN (s ++ t)) := by
    have hx : (4294967295 : Nat) ^^^ Cm.crc (bytesN s) = Cm.run 4294967295 (bytesN s) := by
      unfold Cm.crc
      rw [Nat.xor_comm (Cm.run _ _) 4294967295, Cm.xor_cancel]
    rw [hx]
    unfold Cm.crc
    rw [bytesN_append, Cm.run_append]
  have e2 : Cm.run (4294967295 ^^^ Cm.crc (bytesN s)) (bytesN (⟨#[]⟩ : ByteArray)) ^^^ 4294967295 = Cm.crc (bytesN s) := by
    show (4294967295 ^^^ Cm.crc (bytesN s)) ^^^ 4294967295 = _
    exact ones_xor
  have e3 : Cm.run (4294967295 ^^^ 0) (bytesN s) ^^^ 4294967295 = Cm.crc (bytesN s) := by rw [Nat.xor_zero]; rfl
  have z0 : (0 : Int) = ((0 : Nat) : Int) := rfl
  unfold tinderboxlaw01_CrcMore.f
  rw [hs, Option.bind_some, ht, Option.bind_some, awake_f _ (by decide), Option.bind_some, if_pos rfl, sum_f s (by omega) _ (by omega), Option.bind_some,
    more_f t (by omega) _ (crc_lt s) _ (by omega), Option.bind_some, if_pos (by omega), sum_f (s ++ t) (by omega) _ (by omega), Option.bind_some, e1, if_pos rfl,
    z0, more_f s (by omega) 0 (by decide) _ (by omega), Option.bind_some, e3, if_pos rfl, more_f (⟨#[]⟩ : ByteArray) (by decide) _ (crc_lt s) _ (by decide), Option.bind_some, e2]
  simp
end Go.Proofs.Ytpidfledopnhpaa.Pure
