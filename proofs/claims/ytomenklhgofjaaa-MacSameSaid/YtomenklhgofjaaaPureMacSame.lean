/- Two texts are held against each other byte by byte. For every input. -/
import Derived.Test.YtomenklhgofjaaaXMacSamex1
import Derived.Test.YtomenklhgofjaaaXMacSamex2
import Derived.Test.YtomenklhgofjaaaMBits
namespace Go.Proofs.Ytomenklhgofjaaa.Pure
open Go.RowKit Go.Proofs.Ytomenklhgofjaaa Go.Proofs.Ytomenklhgofjaaa.XMacSame Go.Proofs.YtomenklhgofjaaaW.PrintWords Go.Proofs.YtomenklhgofjaaaW.PrintLast Go.Proofs.YtomenklhgofjaaaW.PrintMore
set_option linter.unusedVariables false
set_option linter.unusedSimpArgs false
/-! two texts held against each other -/
theorem or8 {a b : Nat} (ha : a < 256) (hb : b < 256) : Go.bits .or .u8 a b = ((a ||| b : Nat) : Int) := by
  have ha' : a % 2 ^ IntKind.u8.bits = a := Nat.mod_eq_of_lt ha
  have hb' : b % 2 ^ IntKind.u8.bits = b := Nat.mod_eq_of_lt hb
  have hlt : a ||| b < 2 ^ 8 := Nat.or_lt_two_pow ha hb
  simp only [Go.bits, BitVec.ofInt_natCast, BitVec.toNat_or, BitVec.toNat_ofNat, ha', hb']
  rw [Bt.wrap_u8]
  omega
theorem xor_zero {x y : Nat} : x ^^^ y = 0 ↔ x = y := by
  constructor
  · intro h
    refine Nat.eq_of_testBit_eq fun i => ?_
    have h1 : (x ^^^ y).testBit i = false := by rw [h]; exact Nat.zero_testBit i
    rw [Nat.testBit_xor] at h1
    cases hx : x.testBit i <;> cases hy : y.testBit i <;> simp_all
  · intro h
    rw [h]
    exact Nat.xor_self y
theorem w64n (i : Nat) (h : i < 1000000) : wrap64 ((i : Int) + 1) = ((i + 1 : Nat) : Int) := by unfold wrap64; omega
theorem bt_drop (xs : ByteArray) (i : Nat) (a : UInt8) (l : List UInt8) (h : xs.data.toList.drop i = a :: l) : bt xs (i : Int) = a.toNat ∧ i < xs.size := by
  have hl : i < xs.data.toList.length := by
    rcases Nat.lt_or_ge i xs.data.toList.length with h1 | h1
    · exact h1
    · rw [List.drop_eq_nil_of_le h1] at h
      cases h
  have hz := data_length xs
  refine ⟨?_, by omega⟩
  rw [Sh.bt_get]
  have he : xs.data.toList[i] = a := by
    rw [List.drop_eq_getElem_cons hl] at h
    injection h
  unfold bytesOf
  rw [List.getD_eq_getElem?_getD, List.getElem?_eq_getElem (by rw [List.length_map]; exact hl), Option.getD_some, List.getElem_map, he]
theorem same_l (a b : ByteArray) (hab : a.size = b.size) (ha : a.size ≤ 1000) (j : Nat) : ∀ (xs ys : List UInt8) (i x : Nat), x < 256 → xs.length = ys.length → a.data.toList.drop i = xs → b.data.toList.drop i = ys → i + xs.length = a.size →
    mac_Same.l0 (xs.length + 1 + j) a b (x : Int) (a.size : Int) (i : Int) = some (decide (x = 0 ∧ xs = ys)) := by
  intro xs
  induction xs with
  | nil =>
    intro ys i x hx hl h1 h2 h3
    obtain rfl : ys = [] := List.eq_nil_of_length_eq_zero hl.symm
    rw [show ([] : List UInt8).length + 1 + j = j + 1 by simp; omega]
    rw [mac_Same.l0]
    rw [if_neg (by simp at h3; omega)]
    congr 1
    by_cases h0 : x = 0
    · subst h0; rfl
    · rw [decide_eq_false (by intro h; exact h0 h.1)]
      exact beq_eq_false_iff_ne.mpr (by omega)
  | cons c xs ih =>
    intro ys i x hx hl h1 h2 h3
    cases ys with
    | nil => simp at hl
    | cons d ys =>
      obtain ⟨b1, l1⟩ := bt_drop a i c xs h1
      obtain ⟨b2, l2⟩ := bt_drop b i d ys h2
      have hc := c.toNat_lt
      have hd := d.toNat_lt
      have hx1 : c.toNat ^^^ d.toNat < 256 := Nat.xor_lt_two_pow (n := 8) hc hd
      have hx2 : x ||| (c.toNat ^^^ d.toNat) < 256 := Nat.or_lt_two_pow (n := 8) hx hx1
      have i2 := ih ys (i + 1) (x ||| (c.toNat ^^^ d.toNat)) hx2 (by simpa using hl) (by rw [← List.drop_drop, h1]; rfl) (by rw [← List.drop_drop, h2]; rfl) (by rw [List.length_cons] at h3; omega)
      rw [show (c :: xs).length + 1 + j = (xs.length + 1 + j) + 1 by simp; omega]
      rw [mac_Same.l0]
      rw [if_pos (by omega), if_pos (by omega), if_pos (by omega), if_pos (by omega), b1, b2, Bt.x8 hc hd, or8 hx hx1, w64n i (by omega), i2]
      congr 1
      rw [decide_eq_decide, Nat.or_eq_zero_iff, xor_zero, List.cons.injEq, UInt8.toNat_inj, and_assoc]
theorem same_f (a b : ByteArray) (j : Nat) (ha : a.size ≤ 100) : mac_Same.f (200 + j) a b = some (decide (a.data.toList = b.data.toList)) := by
  unfold mac_Same.f
  have za := data_length a
  have zb := data_length b
  by_cases h : a.size = b.size
  · rw [if_pos (by omega)]
    have h1 := same_l a b h (by omega) (200 + j - (a.data.toList.length + 1)) a.data.toList b.data.toList 0 0 (by decide) (by omega) rfl rfl (by omega)
    rw [show a.data.toList.length + 1 + (200 + j - (a.data.toList.length + 1)) = 200 + j by omega] at h1
    refine h1.trans ?_
    congr 1
    rw [decide_eq_decide]
    exact ⟨fun h => h.2, fun h => ⟨rfl, h⟩⟩
  · rw [if_neg (by omega), decide_eq_false]
    intro e
    have : a.data.toList.length = b.data.toList.length := by rw [e]
    omega
/-! seals -/
theorem few_f (a0 : ByteArray) : ∃ t, tinderboxlaw33_few.f a0 = some t ∧ t.size ≤ 100 := by
  unfold tinderboxlaw33_few.f
  by_cases h : (a0.size : Int) > 100
  · rw [if_pos h, if_pos (by decide), if_pos (by omega)]
    exact ⟨_, rfl, by rw [ByteArray.size_extract]; omega⟩
  · rw [if_neg h]
    exact ⟨_, rfl, by omega⟩
theorem sha_f (t : ByteArray) (h : t.size ≤ 1000000) : sha_Sum.f t = some (Sh.SHA t) := if_pos (by omega)
/-- A key's bytes, filled up to a block. -/
def padL (k : ByteArray) (x : Int) : List Int := (List.range 64).map fun i => Go.bits .xor .u8 (if i < k.size then bt k i else 0) x
def padF (key : ByteArray) (x : Int) : ByteArray := strOfNums (padL (if key.size > 64 then Sh.SHA key else key) x)
theorem padL_len (k : ByteArray) (x : Int) : (padL k x).length = 64 := by unfold padL; rw [List.length_map, List.length_range]
theorem padF_size (key : ByteArray) (x : Int) : (padF key x).size = 64 := by unfold padF; rw [strOfNums_size, padL_len]
theorem set_mid (pre r : List Int) (v y : Int) : (pre ++ v :: r).set ((pre.length : Nat) : Int).toNat y = (pre ++ [y]) ++ r := by
  rw [Int.toNat_natCast, List.set_append_right _ _ (Nat.le_refl _), Nat.sub_self]
  simp
theorem rd_mid (pre r : List Int) (v : Int) : rd (pre ++ v :: r) ((pre.length : Nat) : Int) = v := by
  unfold rd
  rw [Int.toNat_natCast, List.getD_eq_getElem?_getD, List.getElem?_append_right (Nat.le_refl _), Nat.sub_self]
  rfl
theorem pad_l (x : Int) (j : Nat) : ∀ (suf pre : List Int), (pre ++ suf).length ≤ 1000 → mac_pad.l0 (suf.length + 1 + j) x (pre ++ suf) ((pre ++ suf).length : Int) (pre.length : Int) = some (strOfNums (pre ++ suf.map fun v => Go.bits .xor .u8 v x)) := by
  intro suf
  induction suf with
  | nil =>
    intro pre h
    rw [show ([] : List Int).length + 1 + j = j + 1 by simp; omega]
    rw [mac_pad.l0]
    rw [if_neg (by simp)]
    rfl
  | cons v r ih =>
    intro pre h
    have h1 := h
    rw [List.length_append, List.length_cons] at h1
    have i2 := ih (pre ++ [Go.bits .xor .u8 v x]) (by simp; omega)
    rw [show (v :: r).length + 1 + j = (r.length + 1 + j) + 1 by simp; omega]
    rw [mac_pad.l0]
    rw [if_pos (by rw [List.length_append, List.length_cons]; omega), if_pos (by omega), if_pos (by rw [List.length_append, List.length_cons]; omega), rd_mid, set_mid, w64n _ (by omega)]
    rw [show ((pre ++ [Go.bits .xor .u8 v x]).length) = pre.length + 1 by simp] at i2
    rw [show ((pre ++ v :: r).length) = (pre ++ [Go.bits .xor .u8 v x] ++ r).length by simp]
    rw [i2]
    simp
theorem numsOf_get (k : ByteArray) (i : Nat) (h : i < k.size) : (Xc.numsOf k).getD i 0 = bt k (i : Int) := (Sh.bt_get k i).symm
theorem pad_list (k : ByteArray) (x : Int) : ((Xc.copyL (List.replicate 64 0) (Xc.numsOf k)).map fun v => Go.bits .xor .u8 v x) = padL k x := by
  unfold padL
  refine List.ext_getElem (by rw [List.length_map, List.length_map, Xc.copyL_length, List.length_replicate, List.length_range]) ?_
  intro i h1 h2
  rw [List.length_map, List.length_range] at h2
  rw [List.getElem_map, List.getElem_map, List.getElem_range]
  have hg := Xc.copyL_getD (List.replicate 64 0) (Xc.numsOf k) i (by rw [List.length_replicate]; exact h2)
  rw [Xc.numsOf_length] at hg
  have hl : i < (Xc.copyL (List.replicate 64 0) (Xc.numsOf k)).length := by rw [Xc.copyL_length, List.length_replicate]; exact h2
  have e : (Xc.copyL (List.replicate 64 0) (Xc.numsOf k))[i] = if i < k.size then bt k (i : Int) else 0 := by
    rw [show (Xc.copyL (List.replicate 64 0) (Xc.numsOf k))[i] = (Xc.copyL (List.replicate 64 0) (Xc.numsOf k)).getD i 0 by rw [List.getD_eq_getElem?_getD, List.getElem?_eq_getElem hl]; rfl, hg]
    by_cases hi : i < k.size
    · rw [if_pos hi, if_pos hi, numsOf_get k i hi]
    · rw [if_neg hi, if_neg hi, List.getD_eq_getElem?_getD, List.getElem?_replicate, if_pos h2]
      rfl
  rw [e]
theorem pad_j (k : ByteArray) (x : Int) (j : Nat) : mac_pad.j0 (66 + j) k x = some (strOfNums (padL k x)) := by
  rw [show 66 + j = (64 + 1 + j) + 1 by omega]
  rw [mac_pad.j0]
  rw [if_pos (by decide), Option.bind_some]
  have h := pad_l x j (Xc.copyL (List.replicate 64 0) (Xc.numsOf k)) [] (by rw [List.nil_append, Xc.copyL_length, List.length_replicate]; decide)
  rw [List.nil_append, Xc.copyL_length, List.length_replicate, pad_list] at h
  rw [Xc.copyL_length, List.length_replicate]
  exact h
theorem pad_f (k : ByteArray) (x : Int) (j : Nat) (h : k.size ≤ 1000000) : mac_pad.f (66 + j) k x = some (padF k x) := by
  unfold mac_pad.f padF
  by_cases hk : k.size > 64
  · rw [if_pos (by omega), sha_f k h, Option.bind_some, if_pos hk]
    exact pad_j _ x j
  · rw [if_neg (by omega), if_neg hk]
    exact pad_j _ x j
/-- A seal. -/
def macF (key text : ByteArray) : ByteArray := Sh.SHA (padF key 92 ++ Sh.SHA (padF key 54 ++ text))
theorem macF_size (key text : ByteArray) : (macF key text).size = 32 := Sh.SHA_size _
theorem mac_f (k t : ByteArray) (j : Nat) (h : k.size ≤ 100000) (ht : t.size ≤ 100000) : mac_Sum.f (66 + j) k t = some (macF k t) := by
  unfold mac_Sum.f
  have p1 := padF_size k 54
  have p2 := padF_size k 92
  have p3 := Sh.SHA_size (padF k 54 ++ t)
  rw [pad_f k 92 j (by omega), Option.bind_some, pad_f k 54 j (by omega), Option.bind_some, if_pos (by omega), sha_f _ (by rw [ByteArray.size_append]; omega), Option.bind_some, if_pos (by omega), sha_f _ (by rw [ByteArray.size_append]; omega), Option.bind_some]
  rfl
set_option maxRecDepth 100000 in
theorem awake_f : tinderboxlaw33_awake.f 300 = some true := by decide +kernel
theorem MacSame : tinderboxlaw33_MacSame.Pure := by
  intro a0 a1 _ _
  obtain ⟨t, ht, hs⟩ := few_f a0
  obtain ⟨u, hu, hv⟩ := few_f a1
  refine ⟨300, ?_⟩
  unfold tinderboxlaw33_MacSame.f
  have e1 : (decide (t.data.toList = u.data.toList) == (t.toList == u.toList)) = true := by
    rw [ByteArray.toList_eq, ByteArray.toList_eq]
    by_cases h : t.data.toList = u.data.toList
    · rw [decide_eq_true h, h, beq_self_eq_true]; rfl
    · rw [decide_eq_false h, beq_eq_false_iff_ne.mpr h]; rfl
  rw [ht, Option.bind_some, hu, Option.bind_some, awake_f, Option.bind_some, if_pos rfl, show 300 = 200 + 100 from rfl, same_f t u 100 (by omega), Option.bind_some, if_pos e1, same_f t t 100 (by omega), Option.bind_some]
  exact congrArg some (decide_eq_true rfl)
end Go.Proofs.Ytomenklhgofjaaa.Pure
