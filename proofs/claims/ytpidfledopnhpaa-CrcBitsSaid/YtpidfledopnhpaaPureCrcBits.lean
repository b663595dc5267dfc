/- Of two texts that differ just within four bytes that follow one another the checks are unlike. For every input. -/
import Derived.Test.YtpidfledopnhpaaXCrcBitsx1
import Derived.Test.YtpidfledopnhpaaMBits
import Derived.Test.YtpidfledopnhpaaMText
import Derived.Test.YtpidfledopnhpaaCrc
namespace Go.Proofs.Ytpidfledopnhpaa.Pure
open Go.RowKit Go.Proofs.Ytpidfledopnhpaa Go.Proofs.Ytpidfledopnhpaa.XCrcBits Go.Proofs.YtpidfledopnhpaaW.PrintWords Go.Proofs.YtpidfledopnhpaaW.PrintLast Go.Proofs.YtpidfledopnhpaaW.PrintMore
set_option linter.unusedVariables false
set_option linter.unusedSimpArgs false
/-! the program's check -/
def bytesN (s : ByteArray) : List Nat := s.data.toList.map UInt8.toNat
theorem bytesN_len (s : ByteArray) : (bytesN s).length = s.size := by unfold bytesN; simp
theorem bytesN_lt (s : ByteArray) : ∀ x ∈ bytesN s, x < 256 := by
  intro x hx
  unfold bytesN at hx
  obtain ⟨y, _, rfl⟩ := List.mem_map.1 hx
  exact y.toNat_lt
theorem bytesN_drop (s : ByteArray) (i : Nat) (h : i < s.size) : (bytesN s).drop i = (bytesN s).getD i 0 :: (bytesN s).drop (i + 1) := by
  have hl : i < (bytesN s).length := by rw [bytesN_len]; exact h
  rw [List.drop_eq_getElem_cons hl, List.getD_eq_getElem?_getD, List.getElem?_eq_getElem hl]
  rfl
theorem getD_lt (s : ByteArray) (i : Nat) : (bytesN s).getD i 0 < 256 := by
  rw [List.getD_eq_getElem?_getD]
  by_cases h : i < (bytesN s).length
  · rw [List.getElem?_eq_getElem h]
    exact bytesN_lt s _ (List.getElem_mem h)
  · rw [List.getElem?_eq_none (by omega)]
    decide
theorem more_l1 (s : ByteArray) (x10 : Int) (i : Nat) (hi : i < 9223372036854775807) : ∀ (d : Nat), d ≤ 8 → ∀ (k c : Nat) (x20 : Int), c < 4294967296 → x20 = 8 - (d : Int) →
    crc_More.l1 (k + d + 1) s (c : Int) x10 (i : Int) x20 = crc_More.l0 k s ((Cm.it d c : Nat) : Int) x10 ((i + 1 : Nat) : Int) := by
  intro d
  induction d with
  | zero =>
    intro _ k c x20 hc hx
    rw [crc_More.l1, if_neg (by omega), Bt.wrap_ok (by omega) (by omega)]
    rfl
  | succ d ih =>
    intro hd k c x20 hc hx
    have hst := Cm.st_lt hc
    have h2 : (c : Int) / 2 = ((c / 2 : Nat) : Int) := by omega
    have hw : wrap64 (x20 + 1) = x20 + 1 := Bt.wrap_ok (by omega) (by omega)
    have ih' := ih (by omega) k (Cm.st c) (x20 + 1) hst (by omega)
    rw [show k + (d + 1) + 1 = (k + d + 1) + 1 by omega, crc_More.l1, if_pos (by omega), Bt.and1_32 hc, h2, hw]
    show _ = crc_More.l0 k s ((Cm.it d (Cm.st c) : Nat) : Int) x10 ((i + 1 : Nat) : Int)
    rw [← ih']
    by_cases h : c % 2 = 1
    · rw [if_pos (by omega), show (2197175160 : Int) = ((2197175160 : Nat) : Int) from rfl, Bt.x32 (by omega) (by decide)]
      unfold Cm.st
      rw [if_pos h]
    · rw [if_neg (by omega)]
      unfold Cm.st
      rw [if_neg h]
theorem more_l0 (s : ByteArray) (hs : s.size ≤ 140737488351232) : ∀ (m : Nat), m ≤ s.size → ∀ (k c : Nat) (i : Nat), c < 4294967296 → i + m = s.size →
    crc_More.l0 (k + 10 * m + 1) s (c : Int) (s.size : Int) (i : Int) = some ((Cm.run c ((bytesN s).drop i) ^^^ 4294967295 : Nat) : Int) := by
  intro m
  induction m with
  | zero =>
    intro _ k c i hc hi
    rw [crc_More.l0, if_neg (by omega), show (4294967295 : Int) = ((4294967295 : Nat) : Int) from rfl, Bt.x32 hc (by decide)]
    rw [List.drop_eq_nil_of_le (by rw [bytesN_len]; omega)]
    rfl
  | succ m ih =>
    intro hm k c i hc hi
    have hb := getD_lt s i
    have hbt : bt s (i : Int) % 4294967296 = (((bytesN s).getD i 0 : Nat) : Int) := by rw [Bt.bt_nat s i (by omega)]; show (((bytesN s).getD i 0 : Nat) : Int) % _ = _; omega
    have hx := Cm.xor32 hc (by omega : (bytesN s).getD i 0 < 4294967296)
    rw [show k + 10 * (m + 1) + 1 = ((k + 10 * m + 1) + 8 + 1) + 1 by omega, crc_More.l0, if_pos (by omega), if_pos (by omega), if_pos (by omega), hbt, Bt.x32 hc (by omega)]
    rw [more_l1 s _ i (by omega) 8 (by omega) _ _ 0 hx rfl, ih (by omega) k _ (i + 1) (Cm.it_lt 8 hx) (by omega), bytesN_drop s i (by omega), Cm.run_cons]
    rfl
theorem ones_xor {a : Nat} : (4294967295 ^^^ a) ^^^ 4294967295 = a := by rw [Nat.xor_comm 4294967295 a, Nat.xor_assoc, Nat.xor_self, Nat.xor_zero]
theorem more_f (s : ByteArray) (hs : s.size ≤ 140737488351232) (a : Nat) (ha : a < 4294967296) (k : Nat) (hk : 10 * s.size + 1 ≤ k) :
    crc_More.f k (a : Int) s = some ((Cm.run (4294967295 ^^^ a) (bytesN s) ^^^ 4294967295 : Nat) : Int) := by
  obtain ⟨j, rfl⟩ : ∃ j, k = j + 10 * s.size + 1 := ⟨k - (10 * s.size + 1), by omega⟩
  unfold crc_More.f
  rw [show (4294967295 : Int) = ((4294967295 : Nat) : Int) from rfl, Bt.x32 (by decide) ha]
  have := more_l0 s hs s.size (Nat.le_refl _) j _ 0 (Cm.xor32 (by decide : 4294967295 < 4294967296) ha) (by omega)
  rwa [List.drop_zero] at this
theorem sum_f (s : ByteArray) (hs : s.size ≤ 140737488351232) (k : Nat) (hk : 10 * s.size + 1 ≤ k) : crc_Sum.f k s = some ((Cm.crc (bytesN s) : Nat) : Int) := by
  unfold crc_Sum.f
  rw [show (0 : Int) = ((0 : Nat) : Int) from rfl, more_f s hs 0 (by decide) k hk, Nat.xor_zero]
  rfl
theorem crc_lt (s : ByteArray) : Cm.crc (bytesN s) < 4294967296 := Cm.xor32 (Cm.run_lt _ (by decide) (bytesN_lt s)) (by decide)
theorem awake_f (k : Nat) (hk : 100 ≤ k) : tinderboxlaw01_awake.f k = some true := by
  unfold tinderboxlaw01_awake.f
  have h1 : (⟨#[49, 50, 51, 52, 53, 54, 55, 56, 57]⟩ : ByteArray).size = 9 := rfl
  have h2 : (⟨#[]⟩ : ByteArray).size = 0 := rfl
  rw [sum_f _ (by omega) k (by omega), sum_f _ (by omega) k (by omega), show bytesN (⟨#[49, 50, 51, 52, 53, 54, 55, 56, 57]⟩ : ByteArray) = [49, 50, 51, 52, 53, 54, 55, 56, 57] from rfl, Cm.awake]
  rfl
theorem few_f (s : ByteArray) : ∃ t : ByteArray, tinderboxlaw01_few.f s = some t ∧ t.size ≤ 500 ∧ t.size ≤ s.size := by
  unfold tinderboxlaw01_few.f
  by_cases h : (s.size : Int) > 500
  · rw [if_pos h, if_pos (by decide), if_pos (by omega)]
    refine ⟨_, rfl, ?_, ?_⟩ <;> rw [ByteArray.size_extract] <;> omega
  · rw [if_neg h]
    exact ⟨s, rfl, by omega, by omega⟩
theorem bytesOf_B {l : List Nat} (h : Tx.By l) : bytesOf (Tx.B l) = Tx.I l := by
  unfold bytesOf Tx.B Tx.I
  show (l.map UInt8.ofNat).toArray.toList.map _ = _
  rw [List.map_map]
  refine List.map_congr_left fun x hx => ?_
  have := h x hx
  show ((UInt8.ofNat x).toNat : Int) = (x : Int)
  rw [UInt8.toNat_ofNat']
  omega
theorem bytesN_B {l : List Nat} (h : Tx.By l) : bytesN (Tx.B l) = l := by
  unfold bytesN Tx.B
  show (l.map UInt8.ofNat).toArray.toList.map _ = _
  rw [List.map_map]
  conv => rhs; rw [← List.map_id l]
  refine List.map_congr_left fun x hx => ?_
  have := h x hx
  show (UInt8.ofNat x).toNat = x
  rw [UInt8.toNat_ofNat']
  omega
theorem flip_one (P R : List Nat) (x v : Nat) (hx : x < 256) (L : List Int) (q i : Nat) (b : Int) (hq : q + i = P.length) (h : flip4 L q b i = (Tx.I (P ++ x :: R), (v : Int))) :
    flip4 L q b (i + 1) = (Tx.I (P ++ (x ^^^ v % 256) :: R), ((v / 256 : Nat) : Int)) := by
  have e : flip4 L q b (i + 1) = ((flip4 L q b i).1.set (q + i) (Go.bits .xor .u8 ((flip4 L q b i).1.getD (q + i) 0) ((flip4 L q b i).2 % 256)), (flip4 L q b i).2 / 256) := rfl
  have g : (Tx.I (P ++ x :: R)).getD P.length 0 = (x : Int) := by
    have := Tx.I_rd (P ++ x :: R) P.length
    unfold rd at this
    rw [Int.toNat_natCast] at this
    rw [this, Tx.co_append, if_neg (by omega), Nat.sub_self]
    rfl
  have hv : ((v : Int) % 256) = ((v % 256 : Nat) : Int) := by omega
  rw [e, h]
  dsimp only
  rw [hq, g, hv, Bt.x8 hx (Nat.mod_lt _ (by decide)), Tx.I_set, List.set_append_right _ _ (Nat.le_refl _), Nat.sub_self, List.set_cons_zero]
  rfl
theorem flip_four (A C : List Nat) (b0 b1 b2 b3 w : Nat) (h0 : b0 < 256) (h1 : b1 < 256) (h2 : b2 < 256) (h3 : b3 < 256) :
    (flip4 (Tx.I (A ++ b0 :: b1 :: b2 :: b3 :: C)) A.length (w : Int) 4).1 = Tx.I (A ++ (b0 ^^^ w % 256) :: (b1 ^^^ w / 256 % 256) :: (b2 ^^^ w / 256 / 256 % 256) :: (b3 ^^^ w / 256 / 256 / 256 % 256) :: C) := by
  have s1 := flip_one A (b1 :: b2 :: b3 :: C) b0 w h0 (Tx.I (A ++ b0 :: b1 :: b2 :: b3 :: C)) A.length 0 (w : Int) rfl rfl
  rw [show A ++ (b0 ^^^ w % 256) :: b1 :: b2 :: b3 :: C = (A ++ [b0 ^^^ w % 256]) ++ b1 :: b2 :: b3 :: C by simp] at s1
  have s2 := flip_one _ (b2 :: b3 :: C) b1 (w / 256) h1 _ A.length 1 (w : Int) (by simp) s1
  rw [show (A ++ [b0 ^^^ w % 256]) ++ (b1 ^^^ w / 256 % 256) :: b2 :: b3 :: C = (A ++ [b0 ^^^ w % 256, b1 ^^^ w / 256 % 256]) ++ b2 :: b3 :: C by simp] at s2
  have s3 := flip_one _ (b3 :: C) b2 (w / 256 / 256) h2 _ A.length 2 (w : Int) (by simp) s2
  rw [show (A ++ [b0 ^^^ w % 256, b1 ^^^ w / 256 % 256]) ++ (b2 ^^^ w / 256 / 256 % 256) :: b3 :: C = (A ++ [b0 ^^^ w % 256, b1 ^^^ w / 256 % 256, b2 ^^^ w / 256 / 256 % 256]) ++ b3 :: C by simp] at s3
  have s4 := flip_one _ C b3 (w / 256 / 256 / 256) h3 _ A.length 3 (w : Int) (by simp) s3
  rw [s4]
  simp
theorem four_split (l : List Nat) (q : Nat) (h : q + 3 < l.length) : ∃ b0 b1 b2 b3 C, l = l.take q ++ b0 :: b1 :: b2 :: b3 :: C := by
  refine ⟨Tx.co l q, Tx.co l (q + 1), Tx.co l (q + 1 + 1), Tx.co l (q + 1 + 1 + 1), l.drop (q + 1 + 1 + 1 + 1), ?_⟩
  rw [← Tx.drop_co (by omega), ← Tx.drop_co (by omega), ← Tx.drop_co (by omega), ← Tx.drop_co (by omega), List.take_append_drop]
theorem crc_ne (A C : List Nat) (b0 b1 b2 b3 w : Nat) (hb : Tx.By (A ++ b0 :: b1 :: b2 :: b3 :: C)) (hw : w < 4294967296) (h0 : w ≠ 0) :
    Cm.crc (A ++ (b0 ^^^ w % 256) :: (b1 ^^^ w / 256 % 256) :: (b2 ^^^ w / 256 / 256 % 256) :: (b3 ^^^ w / 256 / 256 / 256 % 256) :: C) ≠ Cm.crc (A ++ b0 :: b1 :: b2 :: b3 :: C) := by
  intro e
  have hA : ∀ x ∈ A, x < 256 := fun x hx => hb x (List.mem_append_left _ hx)
  have hB : ∀ x ∈ b0 :: b1 :: b2 :: b3 :: C, x < 256 := fun x hx => hb x (List.mem_append_right _ hx)
  have k0 : b0 < 256 := hB b0 (by simp)
  have k1 : b1 < 256 := hB b1 (by simp)
  have k2 : b2 < 256 := hB b2 (by simp)
  have k3 : b3 < 256 := hB b3 (by simp)
  unfold Cm.crc at e
  have e1 := congrArg (fun z => 4294967295 ^^^ z) e
  simp only [Nat.xor_comm _ 4294967295, Cm.xor_cancel] at e1
  rw [show A ++ (b0 ^^^ w % 256) :: (b1 ^^^ w / 256 % 256) :: (b2 ^^^ w / 256 / 256 % 256) :: (b3 ^^^ w / 256 / 256 / 256 % 256) :: C = A ++ ([b0 ^^^ w % 256, b1 ^^^ w / 256 % 256, b2 ^^^ w / 256 / 256 % 256, b3 ^^^ w / 256 / 256 / 256 % 256] ++ C) by simp,
    show A ++ b0 :: b1 :: b2 :: b3 :: C = A ++ ([b0, b1, b2, b3] ++ C) by simp, Cm.run_append, Cm.run_append, Cm.run_append, Cm.run_append] at e1
  have hc := Cm.run_lt A (c := 4294967295) (by decide) hA
  have x8 : ∀ a b : Nat, a < 256 → a ^^^ b % 256 < 256 := fun a b ha => Nat.xor_lt_two_pow (n := 8) ha (Nat.mod_lt _ (by decide))
  have e2 := Cm.run_ne C (Cm.run_lt _ hc (by intro x hx; simp at hx; rcases hx with rfl | rfl | rfl | rfl; exact x8 _ _ k0; exact x8 _ _ k1; exact x8 _ _ k2; exact x8 _ _ k3)) (Cm.run_lt _ hc (by intro x hx; simp at hx; rcases hx with rfl | rfl | rfl | rfl <;> assumption)) e1
  exact Cm.four_ne w _ hw h0 b0 b1 b2 b3 e2.symm
theorem CrcBits : tinderboxlaw01_CrcBits.Pure := by
  intro a0 a1 a2 _ _ w2
  have hr := Bt.wf_u32 w2
  obtain ⟨t, ht, hs, _⟩ := few_f a0
  obtain ⟨k, hk⟩ : ∃ k, k = 6000 := ⟨_, rfl⟩
  have aw := awake_f k (by omega)
  refine ⟨k, ?_⟩
  unfold tinderboxlaw01_CrcBits.f
  rw [ht, Option.bind_some, if_pos hs]
  unfold tinderboxlaw01_CrcBits.g
  by_cases hc : t.size < 4 ∨ a2 = 0
  · rw [if_pos hc]; exact aw
  · obtain ⟨l, rfl, hb⟩ := Tx.of_text t
    rw [Tx.B_size] at hc hs
    have hp := place4_in l.length a1 (by omega)
    obtain ⟨w, rfl⟩ : ∃ w : Nat, a2 = (w : Int) := ⟨a2.toNat, by omega⟩
    obtain ⟨q, hq⟩ : ∃ q : Nat, place4 l.length a1 = (q : Int) := ⟨(place4 l.length a1).toNat, by omega⟩
    obtain ⟨b0, b1, b2, b3, C, hl⟩ := four_split l q (by omega)
    obtain ⟨A, hA⟩ : ∃ A, A = l.take q := ⟨_, rfl⟩
    have hAl : A.length = q := by rw [hA, List.length_take]; omega
    rw [← hA] at hl
    have hB : ∀ x ∈ b0 :: b1 :: b2 :: b3 :: C, x < 256 := fun x hx => hb x (by rw [hl]; exact List.mem_append_right _ hx)
    have k0 : b0 < 256 := hB b0 (by simp)
    have k1 : b1 < 256 := hB b1 (by simp)
    have k2 : b2 < 256 := hB b2 (by simp)
    have k3 : b3 < 256 := hB b3 (by simp)
    have hf := flip_four A C b0 b1 b2 b3 w k0 k1 k2 k3
    rw [← hl, hAl] at hf
    have hne := crc_ne A C b0 b1 b2 b3 w (by rw [← hl]; exact hb) (by omega) (by intro e; subst e; exact hc (.inr rfl))
    rw [← hl] at hne
    obtain ⟨m, hm⟩ : ∃ m, m = A ++ (b0 ^^^ w % 256) :: (b1 ^^^ w / 256 % 256) :: (b2 ^^^ w / 256 / 256 % 256) :: (b3 ^^^ w / 256 / 256 / 256 % 256) :: C := ⟨_, rfl⟩
    rw [← hm] at hf hne
    have hml : m.length = l.length := by rw [hm, hl]; simp
    have x8 : ∀ a b : Nat, a < 256 → a ^^^ b % 256 < 256 := fun a b ha => Nat.xor_lt_two_pow (n := 8) ha (Nat.mod_lt _ (by decide))
    have hmb : Tx.By m := by
      rw [hm]
      refine Tx.By.append (by rw [hA]; exact hb.take q) (Tx.By.cons (x8 _ _ k0) (Tx.By.cons (x8 _ _ k1) (Tx.By.cons (x8 _ _ k2) (Tx.By.cons (x8 _ _ k3) ?_))))
      intro x hx
      exact hB x (by simp [hx])
    rw [if_neg (by rw [Tx.B_size]; exact hc), aw, Option.bind_some, Tx.B_size, hq, Int.toNat_natCast, bytesOf_B hb, hf, Tx.strOfNums_I, sum_f _ (by rw [Tx.B_size]; omega) k (by rw [Tx.B_size]; omega), Option.bind_some, sum_f _ (by rw [Tx.B_size]; omega) k (by rw [Tx.B_size]; omega), Option.bind_some, bytesN_B hb, bytesN_B hmb]
    refine congrArg some ?_
    rw [bne_iff_ne]
    omega
end Go.Proofs.Ytpidfledopnhpaa.Pure
