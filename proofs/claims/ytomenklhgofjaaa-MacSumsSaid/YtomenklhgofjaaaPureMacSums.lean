/- Seals are the reference seals, of keys of any length. For every input. -/
import Derived.Test.YtomenklhgofjaaaXMacSumsx1
import Derived.Test.YtomenklhgofjaaaXMacSumsx2
import Derived.Test.YtomenklhgofjaaaMBits
namespace Go.Proofs.Ytomenklhgofjaaa.Pure
open Go.RowKit Go.Proofs.Ytomenklhgofjaaa Go.Proofs.Ytomenklhgofjaaa.XMacSums Go.Proofs.YtomenklhgofjaaaW.PrintWords Go.Proofs.YtomenklhgofjaaaW.PrintLast Go.Proofs.YtomenklhgofjaaaW.PrintMore
set_option linter.unusedVariables false
set_option linter.unusedSimpArgs false
theorem w64n (i : Nat) (h : i < 1000000) : wrap64 ((i : Int) + 1) = ((i + 1 : Nat) : Int) := by unfold wrap64; omega
/-! seals -/
theorem few_f (a0 : ByteArray) : ∃ t, tinderboxlaw33_few.f a0 = some t ∧ t.size ≤ 100 := by
  unfold tinderboxlaw33_few.f
  by_cases h : (a0.size : Int) > 100
  · rw [if_pos h, if_pos (by decide), if_pos (by omega)]
    exact ⟨_, rfl, by rw [ByteArray.size_extract]; omega⟩
  · rw [if_neg h]
    exact ⟨_, rfl, by omega⟩
theorem sha_f (t : ByteArray) (h : t.size ≤ 1000000) : sha_Sum.f t = some (Sh.SHA t) := if_pos (by omega)
/-- A key's bytes, filled up to a block. -/
def padL (k : ByteArray) (x : Int) : List Int := (List.range 64).map fun i => Go.bits .xor .u8 (if i < k.size then bt k i else 0) x
def padF (key : ByteArray) (x : Int) : ByteArray := strOfNums (padL (if key.size > 64 then Sh.SHA key else key) x)
theorem padL_len (k : ByteArray) (x : Int) : (padL k x).length = 64 := by unfold padL; rw [List.length_map, List.length_range]
theorem padF_size (key : ByteArray) (x : Int) : (padF key x).size = 64 := by unfold padF; rw [strOfNums_size, padL_len]
theorem set_mid (pre r : List Int) (v y : Int) : (pre ++ v :: r).set ((pre.length : Nat) : Int).toNat y = (pre ++ [y]) ++ r := by
  rw [Int.toNat_natCast, List.set_append_right _ _ (Nat.le_refl _), Nat.sub_self]
  simp
theorem rd_mid (pre r : List Int) (v : Int) : rd (pre ++ v :: r) ((pre.length : Nat) : Int) = v := by
  unfold rd
  rw [Int.toNat_natCast, List.getD_eq_getElem?_getD, List.getElem?_append_right (Nat.le_refl _), Nat.sub_self]
  rfl
theorem pad_l (x : Int) (j : Nat) : ∀ (suf pre : List Int), (pre ++ suf).length ≤ 1000 → mac_pad.l0 (suf.length + 1 + j) x (pre ++ suf) ((pre ++ suf).length : Int) (pre.length : Int) = some (strOfNums (pre ++ suf.map fun v => Go.bits .xor .u8 v x)) := by
  intro suf
  induction suf with
  | nil =>
    intro pre h
    rw [show ([] : List Int).length + 1 + j = j + 1 by simp; omega]
    rw [mac_pad.l0]
    rw [if_neg (by simp)]
    rfl
  | cons v r ih =>
    intro pre h
    have h1 := h
    rw [List.length_append, List.length_cons] at h1
    have i2 := ih (pre ++ [Go.bits .xor .u8 v x]) (by simp; omega)
    rw [show (v :: r).length + 1 + j = (r.length + 1 + j) + 1 by simp; omega]
    rw [mac_pad.l0]
    rw [if_pos (by rw [List.length_append, List.length_cons]; omega), if_pos (by omega), if_pos (by rw [List.length_append, List.length_cons]; omega), rd_mid, set_mid, w64n _ (by omega)]
    rw [show ((pre ++ [Go.bits .xor .u8 v x]).length) = pre.length + 1 by simp] at i2
    rw [show ((pre ++ v :: r).length) = (pre ++ [Go.bits .xor .u8 v x] ++ r).length by simp]
    rw [i2]
    simp
theorem numsOf_get (k : ByteArray) (i : Nat) (h : i < k.size) : (Xc.numsOf k).getD i 0 = bt k (i : Int) := (Sh.bt_get k i).symm
theorem pad_list (k : ByteArray) (x : Int) : ((Xc.copyL (List.replicate 64 0) (Xc.numsOf k)).map fun v => Go.bits .xor .u8 v x) = padL k x := by
  unfold padL
  refine List.ext_getElem (by rw [List.length_map, List.length_map, Xc.copyL_length, List.length_replicate, List.length_range]) ?_
  intro i h1 h2
  rw [List.length_map, List.length_range] at h2
  rw [List.getElem_map, List.getElem_map, List.getElem_range]
  have hg := Xc.copyL_getD (List.replicate 64 0) (Xc.numsOf k) i (by rw [List.length_replicate]; exact h2)
  rw [Xc.numsOf_length] at hg
  have hl : i < (Xc.copyL (List.replicate 64 0) (Xc.numsOf k)).length := by rw [Xc.copyL_length, List.length_replicate]; exact h2
  have e : (Xc.copyL (List.replicate 64 0) (Xc.numsOf k))[i] = if i < k.size then bt k (i : Int) else 0 := by
    rw [show (Xc.copyL (List.replicate 64 0) (Xc.numsOf k))[i] = (Xc.copyL (List.replicate 64 0) (Xc.numsOf k)).getD i 0 by rw [List.getD_eq_getElem?_getD, List.getElem?_eq_getElem hl]; rfl, hg]
    by_cases hi : i < k.size
    · rw [if_pos hi, if_pos hi, numsOf_get k i hi]
    · rw [if_neg hi, if_neg hi, List.getD_eq_getElem?_getD, List.getElem?_replicate, if_pos h2]
      rfl
  rw [e]
theorem pad_j (k : ByteArray) (x : Int) (j : Nat) : mac_pad.j0 (66 + j) k x = some (strOfNums (padL k x)) := by
  rw [show 66 + j = (64 + 1 + j) + 1 by omega]
  rw [mac_pad.j0]
  rw [if_pos (by decide), Option.bind_some]
  have h := pad_l x j (Xc.copyL (List.replicate 64 0) (Xc.numsOf k)) [] (by rw [List.nil_append, Xc.copyL_length, List.length_replicate]; decide)
  rw [List.nil_append, Xc.copyL_length, List.length_replicate, pad_list] at h
  rw [Xc.copyL_length, List.length_replicate]
  exact h
theorem pad_f (k : ByteArray) (x : Int) (j : Nat) (h : k.size ≤ 1000000) : mac_pad.f (66 + j) k x = some (padF k x) := by
  unfold mac_pad.f padF
  by_cases hk : k.size > 64
  · rw [if_pos (by omega), sha_f k h, Option.bind_some, if_pos hk]
    exact pad_j _ x j
  · rw [if_neg (by omega), if_neg hk]
    exact pad_j _ x j
/-- A seal. -/
def macF (key text : ByteArray) : ByteArray := Sh.SHA (padF key 92 ++ Sh.SHA (padF key 54 ++ text))
theorem macF_size (key text : ByteArray) : (macF key text).size = 32 := Sh.SHA_size _
theorem mac_f (k t : ByteArray) (j : Nat) (h : k.size ≤ 100000) (ht : t.size ≤ 100000) : mac_Sum.f (66 + j) k t = some (macF k t) := by
  unfold mac_Sum.f
  have p1 := padF_size k 54
  have p2 := padF_size k 92
  have p3 := Sh.SHA_size (padF k 54 ++ t)
  rw [pad_f k 92 j (by omega), Option.bind_some, pad_f k 54 j (by omega), Option.bind_some, if_pos (by omega), sha_f _ (by rw [ByteArray.size_append]; omega), Option.bind_some, if_pos (by omega), sha_f _ (by rw [ByteArray.size_append]; omega), Option.bind_some]
  rfl
set_option maxRecDepth 100000 in
theorem awake_f : tinderboxlaw33_awake.f 300 = some true := by decide +kernel
theorem refsha_f (t : ByteArray) (h : t.size ≤ 1000000) : tinderboxref02_Sum.f t = some (Sh.SHA t) := if_pos (by omega)
theorem with_l (k : ByteArray) (x : Int) (j : Nat) : ∀ (n i : Nat), i + n = 64 → tinderboxref33_with.l0 (n + 1 + j) x k ((List.range i).map fun i => Go.bits .xor .u8 (if i < k.size then bt k i else 0) x) (i : Int) = some (strOfNums (padL k x)) := by
  intro n
  induction n with
  | zero =>
    intro i h
    obtain rfl : i = 64 := by omega
    rw [show 0 + 1 + j = j + 1 by omega]
    rw [tinderboxref33_with.l0]
    rw [if_neg (by decide)]
    rfl
  | succ n ih =>
    intro i h
    have i2 := ih (i + 1) (by omega)
    rw [List.range_succ, List.map_append, List.map_cons, List.map_nil] at i2
    rw [show n + 1 + 1 + j = (n + 1 + j) + 1 by omega]
    rw [tinderboxref33_with.l0]
    rw [if_pos (by omega)]
    by_cases hi : i < k.size
    · rw [if_pos hi] at i2
      rw [if_pos (by omega), if_pos (by omega), if_pos (by rw [List.length_map, List.length_range]; omega), w64n _ (by omega)]
      exact i2
    · rw [if_neg hi] at i2
      rw [if_neg (by omega), if_pos (by rw [List.length_map, List.length_range]; omega), w64n _ (by omega)]
      exact i2
theorem with_j (k : ByteArray) (x : Int) (j : Nat) : tinderboxref33_with.j0 (66 + j) x k = some (strOfNums (padL k x)) := by
  rw [show 66 + j = (64 + 1 + j) + 1 by omega]
  rw [tinderboxref33_with.j0]
  exact with_l k x j 64 0 rfl
theorem with_f (k : ByteArray) (x : Int) (j : Nat) (h : k.size ≤ 1000000) : tinderboxref33_with.f (66 + j) k x = some (padF k x) := by
  unfold tinderboxref33_with.f padF
  by_cases hk : k.size > 64
  · rw [if_pos (by omega), refsha_f k h, Option.bind_some, if_pos hk]
    exact with_j _ x j
  · rw [if_neg (by omega), if_neg hk]
    exact with_j _ x j
theorem ref33_f (k t : ByteArray) (j : Nat) (h : k.size ≤ 100000) (ht : t.size ≤ 100000) : tinderboxref33_Sum.f (66 + j) k t = some (macF k t) := by
  unfold tinderboxref33_Sum.f
  have p1 := padF_size k 54
  have p2 := padF_size k 92
  have p3 := Sh.SHA_size (padF k 54 ++ t)
  rw [with_f k 92 j (by omega), Option.bind_some, with_f k 54 j (by omega), Option.bind_some, if_pos (by omega), refsha_f _ (by rw [ByteArray.size_append]; omega), Option.bind_some, if_pos (by omega), refsha_f _ (by rw [ByteArray.size_append]; omega), Option.bind_some]
  rfl
theorem MacSums : tinderboxlaw33_MacSums.Pure := by
  intro a0 a1 _ _
  obtain ⟨t, ht, hs⟩ := few_f a0
  obtain ⟨u, hu, hv⟩ := few_f a1
  refine ⟨300, ?_⟩
  unfold tinderboxlaw33_MacSums.f
  rw [ht, Option.bind_some, hu, Option.bind_some, awake_f, Option.bind_some, if_pos rfl, show 300 = 66 + 234 from rfl, mac_f t u 234 (by omega) (by omega), Option.bind_some, ref33_f t u 234 (by omega) (by omega), Option.bind_some]
  exact congrArg some (beq_self_eq_true _)
end Go.Proofs.Ytomenklhgofjaaa.Pure
