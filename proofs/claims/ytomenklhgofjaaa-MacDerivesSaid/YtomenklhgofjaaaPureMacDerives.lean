/- Keys that are drawn out are the reference keys, as many bytes as are asked for; fewer are the beginning of more. For every input. -/
import Derived.Test.YtomenklhgofjaaaXMacDerivesx1
import Derived.Test.YtomenklhgofjaaaXMacDerivesx2
import Derived.Test.YtomenklhgofjaaaXMacDerivesx3
import Derived.Test.YtomenklhgofjaaaMBits
namespace Go.Proofs.Ytomenklhgofjaaa.Pure
open Go.RowKit Go.Proofs.Ytomenklhgofjaaa Go.Proofs.Ytomenklhgofjaaa.XMacDerives Go.Proofs.YtomenklhgofjaaaW.PrintWords Go.Proofs.YtomenklhgofjaaaW.PrintLast Go.Proofs.YtomenklhgofjaaaW.PrintMore
set_option linter.unusedVariables false
set_option linter.unusedSimpArgs false
theorem w64n (i : Nat) (h : i < 1000000) : wrap64 ((i : Int) + 1) = ((i + 1 : Nat) : Int) := by unfold wrap64; omega
/-! seals -/
theorem few_f (a0 : ByteArray) : ∃ t, tinderboxlaw33_few.f a0 = some t ∧ t.size ≤ 100 := by
  unfold tinderboxlaw33_few.f
  by_cases h : (a0.size : Int) > 100
  · rw [if_pos h, if_pos (by decide), if_pos (by omega)]
    exact ⟨_, rfl, by rw [ByteArray.size_extract]; omega⟩
  · rw [if_neg h]
    exact ⟨_, rfl, by omega⟩
theorem sha_f (t : ByteArray) (h : t.size ≤ 1000000) : sha_Sum.f t = some (Sh.SHA t) := if_pos (by omega)
/-- A key's bytes, filled up to a block. -/
def padL (k : ByteArray) (x : Int) : List Int := (List.range 64).map fun i => Go.bits .xor .u8 (if i < k.size then bt k i else 0) x
def padF (key : ByteArray) (x : Int) : ByteArray := strOfNums (padL (if key.size > 64 then Sh.SHA key else key) x)
theorem padL_len (k : ByteArray) (x : Int) : (padL k x).length = 64 := by unfold padL; rw [List.length_map, List.length_range]
theorem padF_size (key : ByteArray) (x : Int) : (padF key x).size = 64 := by unfold padF; rw [strOfNums_size, padL_len]
theorem set_mid (pre r : List Int) (v y : Int) : (pre ++ v :: r).set ((pre.length : Nat) : Int).toNat y = (pre ++ [y]) ++ r := by
  rw [Int.toNat_natCast, List.set_append_right _ _ (Nat.le_refl _), Nat.sub_self]
  simp
theorem rd_mid (pre r : List Int) (v : Int) : rd (pre ++ v :: r) ((pre.length : Nat) : Int) = v := by
  unfold rd
  rw [Int.toNat_natCast, List.getD_eq_getElem?_getD, List.getElem?_append_right (Nat.le_refl _), Nat.sub_self]
  rfl
theorem pad_l (x : Int) (j : Nat) : ∀ (suf pre : List Int), (pre ++ suf).length ≤ 1000 → mac_pad.l0 (suf.length + 1 + j) x (pre ++ suf) ((pre ++ suf).length : Int) (pre.length : Int) = some (strOfNums (pre ++ suf.map fun v => Go.bits .xor .u8 v x)) := by
  intro suf
  induction suf with
  | nil =>
    intro pre h
    rw [show ([] : List Int).length + 1 + j = j + 1 by simp; omega]
    rw [mac_pad.l0]
    rw [if_neg (by simp)]
    rfl
  | cons v r ih =>
    intro pre h
    have h1 := h
    rw [List.length_append, List.length_cons] at h1
    have i2 := ih (pre ++ [Go.bits .xor .u8 v x]) (by simp; omega)
    rw [show (v :: r).length + 1 + j = (r.length + 1 + j) + 1 by simp; omega]
    rw [mac_pad.l0]
    rw [if_pos (by rw [List.length_append, List.length_cons]; omega), if_pos (by omega), if_pos (by rw [List.length_append, List.length_cons]; omega), rd_mid, set_mid, w64n _ (by omega)]
    rw [show ((pre ++ [Go.bits .xor .u8 v x]).length) = pre.length + 1 by simp] at i2
    rw [show ((pre ++ v :: r).length) = (pre ++ [Go.bits .xor .u8 v x] ++ r).length by simp]
    rw [i2]
    simp
theorem numsOf_get (k : ByteArray) (i : Nat) (h : i < k.size) : (Xc.numsOf k).getD i 0 = bt k (i : Int) := (Sh.bt_get k i).symm
theorem pad_list (k : ByteArray) (x : Int) : ((Xc.copyL (List.replicate 64 0) (Xc.numsOf k)).map fun v => Go.bits .xor .u8 v x) = padL k x := by
  unfold padL
  refine List.ext_getElem (by rw [List.length_map, List.length_map, Xc.copyL_length, List.length_replicate, List.length_range]) ?_
  intro i h1 h2
  rw [List.length_map, List.length_range] at h2
  rw [List.getElem_map, List.getElem_map, List.getElem_range]
  have hg := Xc.copyL_getD (List.replicate 64 0) (Xc.numsOf k) i (by rw [List.length_replicate]; exact h2)
  rw [Xc.numsOf_length] at hg
  have hl : i < (Xc.copyL (List.replicate 64 0) (Xc.numsOf k)).length := by rw [Xc.copyL_length, List.length_replicate]; exact h2
  have e : (Xc.copyL (List.replicate 64 0) (Xc.numsOf k))[i] = if i < k.size then bt k (i : Int) else 0 := by
    rw [show (Xc.copyL (List.replicate 64 0) (Xc.numsOf k))[i] = (Xc.copyL (List.replicate 64 0) (Xc.numsOf k)).getD i 0 by rw [List.getD_eq_getElem?_getD, List.getElem?_eq_getElem hl]; rfl, hg]
    by_cases hi : i < k.size
    · rw [if_pos hi, if_pos hi, numsOf_get k i hi]
    · rw [if_neg hi, if_neg hi, List.getD_eq_getElem?_getD, List.getElem?_replicate, if_pos h2]
      rfl
  rw [e]
theorem pad_j (k : ByteArray) (x : Int) (j : Nat) : mac_pad.j0 (66 + j) k x = some (strOfNums (padL k x)) := by
  rw [show 66 + j = (64 + 1 + j) + 1 by omega]
  rw [mac_pad.j0]
  rw [if_pos (by decide), Option.bind_some]
  have h := pad_l x j (Xc.copyL (List.replicate 64 0) (Xc.numsOf k)) [] (by rw [List.nil_append, Xc.copyL_length, List.length_replicate]; decide)
  rw [List.nil_append, Xc.copyL_length, List.length_replicate, pad_list] at h
  rw [Xc.copyL_length, List.length_replicate]
  exact h
theorem pad_f (k : ByteArray) (x : Int) (j : Nat) (h : k.size ≤ 1000000) : mac_pad.f (66 + j) k x = some (padF k x) := by
  unfold mac_pad.f padF
  by_cases hk : k.size > 64
  · rw [if_pos (by omega), sha_f k h, Option.bind_some, if_pos hk]
    exact pad_j _ x j
  · rw [if_neg (by omega), if_neg hk]
    exact pad_j _ x j
/-- A seal. -/
def macF (key text : ByteArray) : ByteArray := Sh.SHA (padF key 92 ++ Sh.SHA (padF key 54 ++ text))
theorem macF_size (key text : ByteArray) : (macF key text).size = 32 := Sh.SHA_size _
theorem mac_f (k t : ByteArray) (j : Nat) (h : k.size ≤ 100000) (ht : t.size ≤ 100000) : mac_Sum.f (66 + j) k t = some (macF k t) := by
  unfold mac_Sum.f
  have p1 := padF_size k 54
  have p2 := padF_size k 92
  have p3 := Sh.SHA_size (padF k 54 ++ t)
  rw [pad_f k 92 j (by omega), Option.bind_some, pad_f k 54 j (by omega), Option.bind_some, if_pos (by omega), sha_f _ (by rw [ByteArray.size_append]; omega), Option.bind_some, if_pos (by omega), sha_f _ (by rw [ByteArray.size_append]; omega), Option.bind_some]
  rfl
set_option maxRecDepth 100000 in
theorem awake_f : tinderboxlaw33_awake.f 300 = some true := by decide +kernel
theorem refsha_f (t : ByteArray) (h : t.size ≤ 1000000) : tinderboxref02_Sum.f t = some (Sh.SHA t) := if_pos (by omega)
theorem with_l (k : ByteArray) (x : Int) (j : Nat) : ∀ (n i : Nat), i + n = 64 → tinderboxref33_with.l0 (n + 1 + j) x k ((List.range i).map fun i => Go.bits .xor .u8 (if i < k.size then bt k i else 0) x) (i : Int) = some (strOfNums (padL k x)) := by
  intro n
  induction n with
  | zero =>
    intro i h
    obtain rfl : i = 64 := by omega
    rw [show 0 + 1 + j = j + 1 by omega]
    rw [tinderboxref33_with.l0]
    rw [if_neg (by decide)]
    rfl
  | succ n ih =>
    intro i h
    have i2 := ih (i + 1) (by omega)
    rw [List.range_succ, List.map_append, List.map_cons, List.map_nil] at i2
    rw [show n + 1 + 1 + j = (n + 1 + j) + 1 by omega]
    rw [tinderboxref33_with.l0]
    rw [if_pos (by omega)]
    by_cases hi : i < k.size
    · rw [if_pos hi] at i2
      rw [if_pos (by omega), if_pos (by omega), if_pos (by rw [List.length_map, List.length_range]; omega), w64n _ (by omega)]
      exact i2
    · rw [if_neg hi] at i2
      rw [if_neg (by omega), if_pos (by rw [List.length_map, List.length_range]; omega), w64n _ (by omega)]
      exact i2
theorem with_j (k : ByteArray) (x : Int) (j : Nat) : tinderboxref33_with.j0 (66 + j) x k = some (strOfNums (padL k x)) := by
  rw [show 66 + j = (64 + 1 + j) + 1 by omega]
  rw [tinderboxref33_with.j0]
  exact with_l k x j 64 0 rfl
theorem with_f (k : ByteArray) (x : Int) (j : Nat) (h : k.size ≤ 1000000) : tinderboxref33_with.f (66 + j) k x = some (padF k x) := by
  unfold tinderboxref33_with.f padF
  by_cases hk : k.size > 64
  · rw [if_pos (by omega), refsha_f k h, Option.bind_some, if_pos hk]
    exact with_j _ x j
  · rw [if_neg (by omega), if_neg hk]
    exact with_j _ x j
theorem ref33_f (k t : ByteArray) (j : Nat) (h : k.size ≤ 100000) (ht : t.size ≤ 100000) : tinderboxref33_Sum.f (66 + j) k t = some (macF k t) := by
  unfold tinderboxref33_Sum.f
  have p1 := padF_size k 54
  have p2 := padF_size k 92
  have p3 := Sh.SHA_size (padF k 54 ++ t)
  rw [with_f k 92 j (by omega), Option.bind_some, with_f k 54 j (by omega), Option.bind_some, if_pos (by omega), refsha_f _ (by rw [ByteArray.size_append]; omega), Option.bind_some, if_pos (by omega), refsha_f _ (by rw [ByteArray.size_append]; omega), Option.bind_some]
  rfl
def nb (i : Nat) : ByteArray := strOfNums [(((i + 1 : Nat) : Int)) % 256]
def T (k u : ByteArray) : Nat → ByteArray
  | 0 => ⟨#[]⟩
  | i + 1 => macF k ((T k u i ++ u) ++ nb i)
def cat (k u : ByteArray) : Nat → ByteArray
  | 0 => ⟨#[]⟩
  | i + 1 => cat k u i ++ T k u (i + 1)
theorem T_size (k u : ByteArray) (i : Nat) : (T k u i).size ≤ 32 := by
  cases i with
  | zero => exact Nat.zero_le _
  | succ i => exact Nat.le_of_eq (macF_size _ _)
theorem cat_size (k u : ByteArray) : ∀ i, (cat k u i).size = 32 * i
  | 0 => rfl
  | i + 1 => by
    have h : (T k u (i + 1)).size = 32 := macF_size _ _
    show (cat k u i ++ T k u (i + 1)).size = _
    rw [ByteArray.size_append, cat_size k u i, h]
    omega
theorem nb_size (i : Nat) : (nb i).size = 1 := strOfNums_size _
theorem catL_prefix (k u : ByteArray) (s : Nat) : ∀ d, ∃ r, bytesOf (cat k u (s + d)) = bytesOf (cat k u s) ++ r
  | 0 => ⟨[], (List.append_nil _).symm⟩
  | d + 1 => by
    obtain ⟨r, hr⟩ := catL_prefix k u s d
    refine ⟨r ++ bytesOf (T k u (s + d + 1)), ?_⟩
    show bytesOf (cat k u (s + d) ++ T k u (s + d + 1)) = _
    rw [Sh.bytes_app, hr, List.append_assoc]
theorem str_take (t : ByteArray) (q : Nat) : strOfNums ((bytesOf t).take q) = t.extract 0 q := by
  apply ByteArray.ext
  apply Array.toList_inj.1
  rw [strOfNums_data, ByteArray.data_extract, Array.toList_extract, List.map_take]
  unfold bytesOf
  rw [List.map_map]
  have : (fun n : Int => UInt8.ofNat n.toNat) ∘ (fun b : UInt8 => (b.toNat : Int)) = id := by
    funext b
    simp
  rw [this, List.map_id]
  simp [List.extract]
theorem str_of (t : ByteArray) : strOfNums (bytesOf t) = t := by
  have h := str_take t t.size
  rw [List.take_of_length_le (by rw [bytesOf_length]; exact Nat.le_refl _)] at h
  rw [h]
  exact ByteArray.extract_zero_size
theorem derive_l (k u : ByteArray) (m : Int) (j : Nat) (hk : k.size ≤ 1000) (hu : u.size ≤ 1000) : ∀ (n i : Nat), i + n = 63 → ∃ s : Nat, i ≤ s ∧ s ≤ 63 ∧ (s = 63 ∨ m ≤ 32 * (s : Int)) ∧ (s = i ∨ 32 * ((s : Int) - 1) < m) ∧
    mac_Derive.l0 (n + 67 + j) k u m (bytesOf (cat k u i)) (T k u i) ((i + 1 : Nat) : Int) = some (strOfNums ((bytesOf (cat k u s)).take (mx 0 (mn m (32 * (s : Int)))).toNat)) := by
  intro n
  induction n with
  | zero =>
    intro i hi
    obtain rfl : i = 63 := by omega
    refine ⟨63, by omega, by omega, .inl rfl, .inl rfl, ?_⟩
    have hl : (bytesOf (cat k u 63)).length = 32 * 63 := by rw [bytesOf_length, cat_size]
    have q0 : 0 ≤ mx 0 (mn m (((32 * 63 : Nat)) : Int)) ∧ mx 0 (mn m (((32 * 63 : Nat)) : Int)) ≤ (((32 * 63 : Nat)) : Int) := by unfold mx mn; split <;> split <;> omega
    rw [show 0 + 67 + j = (66 + j) + 1 by omega]
    rw [mac_Derive.l0]
    rw [hl]
    by_cases h1 : (((32 * 63 : Nat)) : Int) < m
    · rw [if_pos h1, if_neg (by omega), if_pos q0.1, if_pos q0.2]
      rfl
    · rw [if_neg h1, if_pos q0.1, if_pos q0.2]
      rfl
  | succ n ih =>
    intro i hi
    have hl : (bytesOf (cat k u i)).length = 32 * i := by rw [bytesOf_length, cat_size]
    rw [show n + 1 + 67 + j = (66 + (n + 1 + j)) + 1 by omega]
    by_cases h1 : (((32 * i : Nat)) : Int) < m
    · obtain ⟨s, s1, s2, s3, s4, s5⟩ := ih (i + 1) (by omega)
      refine ⟨s, by omega, s2, s3, .inr (by omega), ?_⟩
      have ht := T_size k u i
      have hn := nb_size i
      rw [mac_Derive.l0]
      rw [hl, if_pos h1, if_pos (by omega), if_pos (by omega), Option.bind_some]
      rw [show strOfNums [(((i + 1 : Nat) : Int)) % 256] = nb i from rfl, if_pos (by rw [ByteArray.size_append, hn]; omega), mac_f k _ _ (by omega) (by rw [ByteArray.size_append, ByteArray.size_append, hn]; omega), Option.bind_some, macF_size, if_pos (by omega), w64n (i + 1) (by omega)]
      rw [show 66 + (n + 1 + j) = n + 67 + j by omega]
      have e : bytesOf (cat k u i) ++ bytesOf (macF k ((T k u i ++ u) ++ nb i)) = bytesOf (cat k u (i + 1)) := (Sh.bytes_app _ _).symm
      rw [e]
      exact s5
    · refine ⟨i, Nat.le_refl _, by omega, .inr (by omega), .inl rfl, ?_⟩
      have q0 : 0 ≤ mx 0 (mn m (((32 * i : Nat)) : Int)) ∧ mx 0 (mn m (((32 * i : Nat)) : Int)) ≤ (((32 * i : Nat)) : Int) := by unfold mx mn; split <;> split <;> omega
      rw [mac_Derive.l0]
      rw [hl, if_neg h1, if_pos q0.1, if_pos q0.2]
      rw [show (((32 * i : Nat)) : Int) = 32 * (i : Int) by omega]
theorem derive_f (k u : ByteArray) (m : Int) (j : Nat) (hk : k.size ≤ 1000) (hu : u.size ≤ 1000) : ∃ s : Nat, s ≤ 63 ∧ (s = 63 ∨ m ≤ 32 * (s : Int)) ∧ (s = 0 ∨ 32 * ((s : Int) - 1) < m) ∧ mac_Derive.f (130 + j) k u m = some (strOfNums ((bytesOf (cat k u s)).take (mx 0 (mn m (32 * (s : Int)))).toNat)) := by
  obtain ⟨s, _, s2, s3, s4, s5⟩ := derive_l k u m j hk hu 63 0 rfl
  exact ⟨s, s2, s3, s4, s5⟩
/-- As long as it is asked for, a part of the first four. -/
theorem derive_few (k u : ByteArray) (m : Int) (j : Nat) (hk : k.size ≤ 1000) (hu : u.size ≤ 1000) (hm : m ≤ 120) : mac_Derive.f (130 + j) k u m = some ((cat k u 4).extract 0 (mx 0 m).toNat) := by
  obtain ⟨s, s1, s2, s3, s4⟩ := derive_f k u m j hk hu
  rw [s4]
  have h4 : s ≤ 4 := by omega
  have hm2 : m ≤ 32 * (s : Int) := by omega
  obtain ⟨r, hr⟩ := catL_prefix k u s (4 - s)
  rw [show s + (4 - s) = 4 by omega] at hr
  have e1 : mn m (32 * (s : Int)) = m := by unfold mn; rw [if_neg (by omega)]
  have hq : (mx 0 m).toNat ≤ (bytesOf (cat k u s)).length := by
    rw [bytesOf_length, cat_size]
    unfold mx
    split <;> omega
  rw [e1, ← str_take, hr, List.take_append_of_le_length hq]
theorem derive_long (k u : ByteArray) (j : Nat) (hk : k.size ≤ 1000) (hu : u.size ≤ 1000) : ∃ t, mac_Derive.f (130 + j) k u 5000 = some t ∧ t.size = 2016 := by
  obtain ⟨s, s1, s2, s3, s4⟩ := derive_f k u 5000 j hk hu
  refine ⟨_, s4, ?_⟩
  obtain rfl : s = 63 := by omega
  rw [strOfNums_size, List.length_take, bytesOf_length, cat_size]
  decide
theorem law_end (k u : ByteArray) (m : Int) (j : Nat) (hk : k.size ≤ 100) (hu : u.size ≤ 100) (hm : m ≤ 119) : tinderboxlaw33_MacDerives.l0 (130 + j + 1) k u m (cat k u 4) (T k u 4) 5 = some true := by
  obtain ⟨t, t1, t2⟩ := derive_long (⟨#[107]⟩ : ByteArray) (⟨#[117]⟩ : ByteArray) j (by decide) (by decide)
  have hd := derive_few k u m j (by omega) (by omega) (by omega)
  have hz := cat_size k u 4
  rw [tinderboxlaw33_MacDerives.l0]
  rw [if_neg (by decide)]
  by_cases h : m > 0
  · have e : mx 0 m = m := by unfold mx; rw [if_pos h]
    rw [e] at hd
    rw [if_pos h, if_pos (by omega), if_pos (by omega), hd, Option.bind_some, if_pos rfl, t1, Option.bind_some, t2]
    rfl
  · have e : mx 0 m = 0 := by unfold mx; rw [if_neg h]
    rw [e] at hd
    have e0 : ((cat k u 4).extract 0 (0 : Int).toNat).toList = [] := by
      rw [ByteArray.toList_eq, ByteArray.data_extract, Array.toList_extract]
      simp [List.extract]
    rw [if_neg h, hd, Option.bind_some, if_pos e0, t1, Option.bind_some, t2]
    rfl
theorem law_step (k u : ByteArray) (m : Int) (j i : Nat) (hk : k.size ≤ 100) (hu : u.size ≤ 100) (hi : i < 4) (hj : 66 ≤ j) (h : tinderboxlaw33_MacDerives.l0 j k u m (cat k u (i + 1)) (T k u (i + 1)) ((i + 2 : Nat) : Int) = some true) :
    tinderboxlaw33_MacDerives.l0 (j + 1) k u m (cat k u i) (T k u i) ((i + 1 : Nat) : Int) = some true := by
  obtain ⟨d, rfl⟩ : ∃ d, j = 66 + d := ⟨j - 66, by omega⟩
  have ht := T_size k u i
  have hn := nb_size i
  have hc := cat_size k u i
  rw [tinderboxlaw33_MacDerives.l0]
  rw [if_pos (by omega), if_pos (by omega), Option.bind_some]
  rw [show strOfNums [(((i + 1 : Nat) : Int)) % 256] = nb i from rfl, if_pos (by rw [ByteArray.size_append, hn]; omega), ref33_f k _ _ (by omega) (by rw [ByteArray.size_append, ByteArray.size_append, hn]; omega), Option.bind_some, macF_size, if_pos (by omega), w64n (i + 1) (by omega)]
  exact h
theorem MacDerives : tinderboxlaw33_MacDerives.Pure := by
  intro a0 a1 a2 _ _ _
  obtain ⟨t, ht, hs⟩ := few_f a0
  obtain ⟨u, hu, hv⟩ := few_f a1
  have hm : Int.tmod a2 120 ≤ 119 := by
    have := Int.tmod_lt_of_pos a2 (show (0 : Int) < 120 by decide)
    omega
  refine ⟨300, ?_⟩
  unfold tinderboxlaw33_MacDerives.f
  rw [ht, Option.bind_some, hu, Option.bind_some, awake_f, Option.bind_some, if_pos rfl]
  exact law_step t u _ 299 0 hs hv (by decide) (by decide) (law_step t u _ 298 1 hs hv (by decide) (by decide) (law_step t u _ 297 2 hs hv (by decide) (by decide) (law_step t u _ 296 3 hs hv (by decide) (by decide) (law_end t u _ 165 hs hv hm))))
end Go.Proofs.Ytomenklhgofjaaa.Pure
