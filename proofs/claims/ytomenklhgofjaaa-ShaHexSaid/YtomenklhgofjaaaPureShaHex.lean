/- Bytes written by digits, and read again: the law, in plain words. For every input. -/
import Derived.Test.YtomenklhgofjaaaXShaHexx2
set_option linter.unusedVariables false
namespace Go.Proofs.Ytomenklhgofjaaa.Pure
open Go.RowKit Go.Proofs.Ytomenklhgofjaaa.XShaHex Go.Proofs.YtomenklhgofjaaaW.PrintWords Go.Proofs.YtomenklhgofjaaaW.PrintLast
namespace Hx
open Sh (hexd hexs hexDigits)
theorem wok {n : Int} (h0 : -9223372036854775808 ≤ n) (h1 : n < 9223372036854775808) : wrap64 n = n := by unfold wrap64; omega
def ixb (a : UInt8) : Int := Lib.indexByte hexDigits.data.toList a
def val (x y : Int) : Int := (Go.bits .or .i64 (wrap64 (x * 16)) y) % 256
def dig (a : UInt8) : Bool := (48 ≤ a.toNat && a.toNat ≤ 57) || (97 ≤ a.toNat && a.toNat ≤ 102)
set_option maxRecDepth 100000 in
theorem t1 : ∀ n : Fin 256, (if dig n.val.toUInt8 = true then 0 ≤ ixb n.val.toUInt8 ∧ ixb n.val.toUInt8 < 16 ∧ hexd (ixb n.val.toUInt8).toNat = n.val.toUInt8 else ixb n.val.toUInt8 < 0) := by decide +kernel
set_option maxRecDepth 100000 in
theorem t2 : ∀ n : Fin 16, 0 ≤ ixb (hexd n.val) ∧ ixb (hexd n.val) = n.val := by decide +kernel
set_option maxRecDepth 100000 in
theorem t3 : ∀ x : Fin 16, ∀ y : Fin 16, val x.val y.val = ((x.val * 16 + y.val : Nat) : Int) := by decide +kernel
theorem u8 (a : UInt8) : a.toNat.toUInt8 = a := by simp
theorem ix_yes (a : UInt8) (h : dig a = true) : 0 ≤ ixb a ∧ ixb a < 16 ∧ hexd (ixb a).toNat = a := by
  have t := t1 ⟨a.toNat, a.toNat_lt⟩
  simp only [u8] at t
  rw [if_pos h] at t
  exact t
theorem ix_no (a : UInt8) (h : dig a = false) : ixb a < 0 := by
  have t := t1 ⟨a.toNat, a.toNat_lt⟩
  simp only [u8] at t
  rw [if_neg (by simp [h])] at t
  exact t
theorem ix_hexd (n : Nat) (h : n < 16) : ixb (hexd n) = n := (t2 ⟨n, h⟩).2
theorem val_nat (x y : Nat) (hx : x < 16) (hy : y < 16) : val x y = ((x * 16 + y : Nat) : Int) := t3 ⟨x, hx⟩ ⟨y, hy⟩
/-- What pairs of digits become. -/
def rdp : List UInt8 → Option (List Int)
  | a :: b :: l => if ixb a < 0 then none else if ixb b < 0 then none else (rdp l).map (val (ixb a) (ixb b) :: ·)
  | _ => some []
theorem rdp_hexs (l : List UInt8) : rdp (hexs l) = some (l.map fun x => (x.toNat : Int)) := by
  induction l with
  | nil => rfl
  | cons x l ih =>
    have hx := x.toNat_lt
    have h1 : x.toNat / 16 < 16 := by omega
    have h2 : x.toNat % 16 < 16 := by omega
    unfold hexs rdp
    rw [ix_hexd _ h1, ix_hexd _ h2, if_neg (by omega), if_neg (by omega), ih, val_nat _ _ h1 h2]
    simp only [Option.map_some, List.map_cons]
    rw [show x.toNat / 16 * 16 + x.toNat % 16 = x.toNat by omega]
theorem rdp_some : ∀ (m : Nat) (l : List UInt8) (r : List Int), l.length = 2 * m → rdp l = some r → l.all dig = true ∧ hexs (r.map fun v => v.toNat.toUInt8) = l ∧ r.length = m ∧ ∀ v ∈ r, 0 ≤ v ∧ v < 256
  | 0, l, r, hl, h => by
    obtain rfl : l = [] := List.eq_nil_of_length_eq_zero (by omega)
    obtain rfl := Option.some.inj h
    simp [hexs]
  | m + 1, l, r, hl, h => by
    match l, hl with
    | a :: b :: l, hl =>
      unfold rdp at h
      by_cases ha : ixb a < 0
      · rw [if_pos ha] at h; cases h
      rw [if_neg ha] at h
      by_cases hb : ixb b < 0
      · rw [if_pos hb] at h; cases h
      rw [if_neg hb] at h
      obtain ⟨q, hq, rfl⟩ := Option.map_eq_some_iff.1 h
      obtain ⟨i1, i2, i3, i4⟩ := rdp_some m l q (by simp at hl; omega) hq
      have da : dig a = true := by cases hd : dig a with | true => rfl | false => exact absurd (ix_no a hd) ha
      have db : dig b = true := by cases hd : dig b with | true => rfl | false => exact absurd (ix_no b hd) hb
      obtain ⟨a1, a2, a3⟩ := ix_yes a da
      obtain ⟨b1, b2, b3⟩ := ix_yes b db
      obtain ⟨x, hx⟩ : ∃ x : Nat, ixb a = x := ⟨(ixb a).toNat, by omega⟩
      obtain ⟨y, hy⟩ : ∃ y : Nat, ixb b = y := ⟨(ixb b).toNat, by omega⟩
      rw [hx] at a2 a3; rw [hy] at b2 b3
      have hv := val_nat x y (by omega) (by omega)
      rw [hx, hy, hv]
      refine ⟨by simp [da, db, i1], ?_, by simp [i3], ?_⟩
      · simp only [List.map_cons, hexs]
        have e : ((x * 16 + y : Nat) : Int).toNat.toUInt8.toNat = x * 16 + y := by simp; omega
        rw [e, i2, show (x * 16 + y) / 16 = x by omega, show (x * 16 + y) % 16 = y by omega]
        rw [show hexd x = a from a3, show hexd y = b from b3]
      · intro v hv'
        rcases List.mem_cons.1 hv' with rfl | h'
        · omega
        · exact i4 v h'
theorem rdp_none : ∀ (m : Nat) (l : List UInt8), l.length = 2 * m → rdp l = none → l.all dig = false
  | 0, l, hl, h => by
    obtain rfl : l = [] := List.eq_nil_of_length_eq_zero (by omega)
    cases h
  | m + 1, l, hl, h => by
    match l, hl with
    | a :: b :: l, hl =>
      unfold rdp at h
      by_cases ha : ixb a < 0
      · have : dig a = false := by cases hd : dig a with | false => rfl | true => exact absurd (ix_yes a hd).1 (by omega)
        simp [this]
      rw [if_neg ha] at h
      by_cases hb : ixb b < 0
      · have : dig b = false := by cases hd : dig b with | false => rfl | true => exact absurd (ix_yes b hd).1 (by omega)
        simp [this]
      rw [if_neg hb] at h
      have i := rdp_none m l (by simp at hl; omega) (Option.map_eq_none_iff.1 h)
      simp only [List.all_cons, i, Bool.and_false]
theorem bt_drop (xs : ByteArray) (i : Nat) (a : UInt8) (l : List UInt8) (h : xs.data.toList.drop i = a :: l) : bt xs (i : Int) = a.toNat ∧ i < xs.size ∧ xs.data.toList.drop (i + 1) = l := by
  have hi : i < xs.data.toList.length := by
    rcases Nat.lt_or_ge i xs.data.toList.length with h' | h'
    · exact h'
    · rw [List.drop_of_length_le h'] at h; cases h
  rw [List.drop_eq_getElem_cons hi] at h
  have hi' : i < xs.size := by simpa using hi
  injection h with h1 h2
  refine ⟨?_, hi', h2⟩
  rw [← h1]
  have := bt_at xs (i : Int) (show (i : Int).toNat < xs.size by simpa using hi')
  rw [← this]
  rfl
theorem ix_f (a : UInt8) : strings_IndexByte.f (⟨#[48, 49, 50, 51, 52, 53, 54, 55, 56, 57, 97, 98, 99, 100, 101, 102]⟩ : ByteArray) (a.toNat : Int) = some (ixb a) := by
  show some (Lib.indexByte hexDigits.data.toList ((a.toNat : Int).toNat.toUInt8)) = some (ixb a)
  rw [Int.toNat_natCast, u8]
  rfl
theorem bytes_end (xs : ByteArray) (k i : Nat) (acc : List Int) (h : xs.size ≤ i) : sha_Bytes.l0 (k + 1) xs acc i = some (strOfNums acc, 0) := by
  unfold sha_Bytes.l0
  rw [if_neg (by omega)]
theorem bytes_step (xs : ByteArray) (hs : xs.size ≤ 1000000) (k i : Nat) (acc : List Int) (a b : UInt8) (cs : List UInt8) (hd : xs.data.toList.drop i = a :: b :: cs) (ha : acc.length ≤ i) :
    xs.data.toList.drop (i + 2) = cs ∧ sha_Bytes.l0 (k + 1) xs acc i = (if ixb a < 0 then some ((⟨#[]⟩ : ByteArray), 3) else if ixb b < 0 then some ((⟨#[]⟩ : ByteArray), 3) else sha_Bytes.l0 k xs (acc ++ [val (ixb a) (ixb b)]) ((i + 2 : Nat) : Int)) := by
  obtain ⟨ea, la, da⟩ := bt_drop xs i a _ hd
  obtain ⟨eb, lb, db⟩ := bt_drop xs (i + 1) b _ da
  have w1 : wrap64 ((i : Int) + 1) = ((i + 1 : Nat) : Int) := by rw [wok (by omega) (by omega)]; omega
  have w2 : wrap64 ((i : Int) + 2) = ((i + 2 : Nat) : Int) := by rw [wok (by omega) (by omega)]; omega
  refine ⟨db, ?_⟩
  have p1 : (i : Int) < (xs.size : Int) := by omega
  have p2 : 0 ≤ (i : Int) := by omega
  have p3 : 0 ≤ ((i + 1 : Nat) : Int) := by omega
  have p4 : ((i + 1 : Nat) : Int) < (xs.size : Int) := by omega
  have p5 : acc.length < 140737488355328 := by omega
  rw [sha_Bytes.l0]
  rw [if_pos p1, if_pos p2, ea, ix_f, Option.bind_some, w1, if_pos p3, if_pos p4, eb, ix_f, Option.bind_some, w2, if_pos p5]
  rfl
theorem bytes_l (xs : ByteArray) (hs : xs.size ≤ 1000000) (j : Nat) : ∀ (k i : Nat) (acc : List Int) (cs : List UInt8), j < k → xs.data.toList.drop i = cs → cs.length = 2 * j → acc.length ≤ i →
    sha_Bytes.l0 k xs acc i = some (match rdp cs with | none => ((⟨#[]⟩ : ByteArray), 3) | some r => (strOfNums (acc ++ r), 0)) := by
  induction j with
  | zero =>
    intro k i acc cs hk hd hc ha
    obtain ⟨k, rfl⟩ : ∃ m, k = m + 1 := ⟨k - 1, by omega⟩
    obtain rfl : cs = [] := List.eq_nil_of_length_eq_zero (by omega)
    have : xs.size ≤ i := by have := congrArg List.length hd; simp at this; omega
    rw [bytes_end xs k i acc this]
    simp [rdp]
  | succ j ih =>
    intro k i acc cs hk hd hc ha
    obtain ⟨k, rfl⟩ : ∃ m, k = m + 1 := ⟨k - 1, by omega⟩
    match cs, hc with
    | a :: b :: cs, hc =>
      obtain ⟨db, st⟩ := bytes_step xs hs k i acc a b cs hd ha
      rw [st, rdp]
      by_cases ha' : ixb a < 0
      · rw [if_pos ha', if_pos ha']
      rw [if_neg ha', if_neg ha']
      by_cases hb' : ixb b < 0
      · rw [if_pos hb', if_pos hb']
      rw [if_neg hb', if_neg hb']
      rw [ih k (i + 2) _ cs (by omega) db (by simp at hc; omega) (by simp; omega)]
      cases rdp cs with
      | none => rfl
      | some r => simp only [Option.map_some, List.append_assoc, List.singleton_append]
theorem bytes_f (xs : ByteArray) (hs : xs.size ≤ 1000000) (k : Nat) (hk : xs.size < k) (he : xs.size % 2 = 0) :
    sha_Bytes.f k xs = some (match rdp xs.data.toList with | none => ((⟨#[]⟩ : ByteArray), 3) | some r => (strOfNums r, 0)) := by
  unfold sha_Bytes.f
  rw [if_neg (by omega)]
  have h := bytes_l xs hs (xs.size / 2) k 0 [] xs.data.toList (by omega) rfl (by simp; omega) (by simp)
  simpa using h
theorem bytes_odd (xs : ByteArray) (k : Nat) (he : xs.size % 2 = 1) : sha_Bytes.f k xs = some ((⟨#[]⟩ : ByteArray), 2) := by
  unfold sha_Bytes.f
  rw [if_pos (by omega)]
def hx (v : Int) : List Int := if v < 10 then [(48 + v) % 256] else [(((97 + v) % 256) - 10) % 256]
set_option maxRecDepth 100000 in
theorem t4 : ∀ n : Fin 16, (strOfNums (hx n.val)).data.toList = [hexd n.val] := by decide +kernel
theorem hx_str (v : Int) (h0 : 0 ≤ v) (h1 : v < 16) : (strOfNums (hx v)).data.toList = [hexd v.toNat] := by
  have t := t4 ⟨v.toNat, by omega⟩
  simp only [show ((v.toNat : Nat) : Int) = v by omega] at t
  exact t
theorem ref1 (k : Nat) (x0 x3 : ByteArray) (x4 : Int) (y : List Int) (n i : Nat) (v : Int) (hy : rd y (i : Int) = v) (h0 : 0 ≤ v) (h1 : v < 16) (hn : y.length = n) (hi : i < n) (hn2 : n < 100) (hs : x3.size ≤ 1000000) :
    tinderboxref02_Hex.l1 (k + 1) x0 x3 x4 y (n : Int) (i : Int) = tinderboxref02_Hex.l1 k x0 (x3 ++ strOfNums (hx v)) x4 y (n : Int) ((i + 1 : Nat) : Int) := by
  have w1 : wrap64 ((i : Int) + 1) = ((i + 1 : Nat) : Int) := by rw [wok (by omega) (by omega)]; omega
  have sz : (strOfNums (hx v)).size = 1 := by
    have h := congrArg List.length (hx_str v h0 h1)
    simpa using h
  have p1 : (i : Int) < (n : Int) := by omega
  have p2 : 0 ≤ (i : Int) := by omega
  have p3 : (i : Int) < (y.length : Int) := by omega
  rw [tinderboxref02_Hex.l1, if_pos p1, if_pos p2, if_pos p3, hy, w1]
  by_cases h : v < 10
  · rw [if_pos h]
    have e : hx v = [(48 + v) % 256] := if_pos h
    rw [← e, Option.bind_some, if_pos (by omega)]
  · rw [if_neg h]
    have e : hx v = [(((97 + v) % 256) - 10) % 256] := if_neg h
    rw [← e, Option.bind_some, if_pos (by omega)]
theorem law_step (xs x6 : ByteArray) (x7 x8 : Int) (k i : Nat) (a : UInt8) (cs : List UInt8) (hs : xs.size ≤ 1000000) (hd : xs.data.toList.drop i = a :: cs) :
    tinderboxlaw02_ShaHex.l0 (k + 1) xs x6 x7 x8 (i : Int) = tinderboxlaw02_ShaHex.l0 k xs x6 x7 (if dig a = true then x8 else 3) ((i + 1 : Nat) : Int) := by
  obtain ⟨ea, la, da⟩ := bt_drop xs i a _ hd
  have w1 : wrap64 ((i : Int) + 1) = ((i + 1 : Nat) : Int) := by rw [wok (by omega) (by omega)]; omega
  have p1 : (i : Int) < (xs.size : Int) := by omega
  have p2 : 0 ≤ (i : Int) := by omega
  rw [tinderboxlaw02_ShaHex.l0, if_pos p1, if_pos p2, ea, w1]
  by_cases h1 : 48 ≤ a.toNat
  · rw [if_pos (show (a.toNat : Int) ≥ 48 by omega)]
    by_cases h2 : a.toNat ≤ 57
    · rw [if_pos (show (a.toNat : Int) ≤ 57 by omega), if_pos (by simp [dig, h1, h2])]
    · rw [if_neg (show ¬ (a.toNat : Int) ≤ 57 by omega)]
      by_cases h3 : 97 ≤ a.toNat
      · rw [if_pos (show (a.toNat : Int) ≥ 97 by omega)]
        by_cases h4 : a.toNat ≤ 102
        · rw [if_pos (show (a.toNat : Int) ≤ 102 by omega), if_pos (by simp [dig, h3, h4])]
        · rw [if_neg (show ¬ (a.toNat : Int) ≤ 102 by omega), if_neg (by simp [dig]; omega)]
      · rw [if_neg (show ¬ (a.toNat : Int) ≥ 97 by omega), if_neg (by simp [dig]; omega)]
  · rw [if_neg (show ¬ (a.toNat : Int) ≥ 48 by omega), if_neg (show ¬ (a.toNat : Int) ≥ 97 by omega), if_neg (by simp [dig]; omega)]
theorem law_l (xs x6 : ByteArray) (x7 : Int) (hs : xs.size ≤ 1000000) (j : Nat) : ∀ (k i : Nat) (x8 : Int) (cs : List UInt8), j < k → xs.data.toList.drop i = cs → cs.length = j → i ≤ xs.size →
    ∃ m, tinderboxlaw02_ShaHex.l0 k xs x6 x7 x8 (i : Int) = tinderboxlaw02_ShaHex.l0 (m + 1) xs x6 x7 (if cs.all dig = true then x8 else 3) (xs.size : Int) := by
  induction j with
  | zero =>
    intro k i x8 cs hk hd hc hi
    obtain ⟨k, rfl⟩ : ∃ m, k = m + 1 := ⟨k - 1, by omega⟩
    obtain rfl : cs = [] := List.eq_nil_of_length_eq_zero hc
    have : xs.size ≤ i := by have := congrArg List.length hd; simp at this; omega
    exact ⟨k, by rw [show i = xs.size by omega]; rfl⟩
  | succ j ih =>
    intro k i x8 cs hk hd hc hi
    obtain ⟨k, rfl⟩ : ∃ m, k = m + 1 := ⟨k - 1, by omega⟩
    match cs, hc with
    | a :: cs, hc =>
      obtain ⟨ea, la, da⟩ := bt_drop xs i a _ hd
      obtain ⟨m, hm⟩ := ih k (i + 1) (if dig a = true then x8 else 3) cs (by omega) da (by simpa using hc) (by omega)
      refine ⟨m, ?_⟩
      rw [law_step xs x6 x7 x8 k i a cs hs hd, hm]
      cases hA : dig a <;> cases hB : cs.all dig <;> simp [hA, hB]
theorem ref_step (xs x3 : ByteArray) (k i : Nat) (a : UInt8) (cs : List UInt8) (hs : xs.size ≤ 1000000) (h3 : x3.size ≤ 900000) (hd : xs.data.toList.drop i = a :: cs) :
    tinderboxref02_Hex.l0 (k + 4) xs x3 (i : Int) = tinderboxref02_Hex.l0 k xs (x3 ++ strOfNums (hx ((a.toNat / 16 : Nat) : Int)) ++ strOfNums (hx ((a.toNat % 16 : Nat) : Int))) ((i + 1 : Nat) : Int) := by
  obtain ⟨ea, la, da⟩ := bt_drop xs i a _ hd
  have hx8 := a.toNat_lt
  have w1 : wrap64 ((i : Int) + 1) = ((i + 1 : Nat) : Int) := by rw [wok (by omega) (by omega)]; omega
  have p1 : (i : Int) < (xs.size : Int) := by omega
  have p2 : 0 ≤ (i : Int) := by omega
  have e1 : Int.tdiv (a.toNat : Int) 16 % 256 = ((a.toNat / 16 : Nat) : Int) := by rw [Int.tdiv_eq_ediv_of_nonneg (by omega)]; omega
  have e2 : Int.tmod (a.toNat : Int) 16 = ((a.toNat % 16 : Nat) : Int) := by rw [Int.tmod_eq_emod_of_nonneg (by omega)]; omega
  have sz : (strOfNums (hx ((a.toNat / 16 : Nat) : Int))).size = 1 := by
    have h := congrArg List.length (hx_str ((a.toNat / 16 : Nat) : Int) (by omega) (by omega))
    simpa using h
  rw [tinderboxref02_Hex.l0, if_pos p1, if_pos p2, ea, Option.bind_some, e1, e2]
  obtain ⟨u, hu⟩ : ∃ u : Nat, a.toNat / 16 = u := ⟨_, rfl⟩
  obtain ⟨v, hv⟩ : ∃ v : Nat, a.toNat % 16 = v := ⟨_, rfl⟩
  rw [hu] at sz
  rw [hu, hv]
  show tinderboxref02_Hex.l1 (k + 2 + 1) xs x3 i [(u : Int), (v : Int)] ((2 : Nat) : Int) ((0 : Nat) : Int) = _
  rw [ref1 (k + 2) xs x3 i [(u : Int), (v : Int)] 2 0 u rfl (by omega) (by omega) rfl (by omega) (by omega) (by omega)]
  rw [ref1 (k + 1) xs _ i [(u : Int), (v : Int)] 2 (0 + 1) v rfl (by omega) (by omega) rfl (by omega) (by omega) (by rw [ByteArray.size_append]; omega)]
  rw [tinderboxref02_Hex.l1, if_neg (by omega), w1]
theorem ref_l (xs : ByteArray) (hs : xs.size ≤ 300) (j : Nat) : ∀ (k i : Nat) (x3 : ByteArray) (cs : List UInt8), 4 * j < k → xs.data.toList.drop i = cs → cs.length = j → x3.size ≤ 2 * i → i ≤ xs.size →
    ∃ r, tinderboxref02_Hex.l0 k xs x3 (i : Int) = some r ∧ r.data.toList = x3.data.toList ++ hexs cs := by
  induction j with
  | zero =>
    intro k i x3 cs hk hd hc h3 hi
    obtain ⟨k, rfl⟩ : ∃ m, k = m + 1 := ⟨k - 1, by omega⟩
    obtain rfl : cs = [] := List.eq_nil_of_length_eq_zero hc
    have : xs.size ≤ i := by have := congrArg List.length hd; simp at this; omega
    exact ⟨x3, by rw [tinderboxref02_Hex.l0, if_neg (by omega)], by simp [hexs]⟩
  | succ j ih =>
    intro k i x3 cs hk hd hc h3 hi
    obtain ⟨k, rfl⟩ : ∃ m, k = m + 4 := ⟨k - 4, by omega⟩
    match cs, hc with
    | a :: cs, hc =>
      obtain ⟨ea, la, da⟩ := bt_drop xs i a _ hd
      have hx8 := a.toNat_lt
      have u := hx_str ((a.toNat / 16 : Nat) : Int) (by omega) (by omega)
      have v := hx_str ((a.toNat % 16 : Nat) : Int) (by omega) (by omega)
      have su : (strOfNums (hx ((a.toNat / 16 : Nat) : Int))).size = 1 := by have h := congrArg List.length u; simpa using h
      have sv : (strOfNums (hx ((a.toNat % 16 : Nat) : Int))).size = 1 := by have h := congrArg List.length v; simpa using h
      obtain ⟨r, e1, e2⟩ := ih k (i + 1) (x3 ++ strOfNums (hx ((a.toNat / 16 : Nat) : Int)) ++ strOfNums (hx ((a.toNat % 16 : Nat) : Int))) cs (by omega) da (by simpa using hc) (by rw [ByteArray.size_append, ByteArray.size_append]; omega) (by omega)
      refine ⟨r, by rw [ref_step xs x3 k i a cs (by omega) (by omega) hd]; exact e1, ?_⟩
      rw [e2]
      simp only [ByteArray.data_append, Array.toList_append, u, v, Int.toNat_natCast, hexs, List.append_assoc, List.cons_append, List.nil_append]
end Hx
theorem few_f (a0 : ByteArray) : ∃ t, tinderboxlaw02_few.f a0 = some t ∧ t.size ≤ 300 := by
  unfold tinderboxlaw02_few.f
  by_cases h : (a0.size : Int) > 300
  · rw [if_pos h, if_pos (by omega), if_pos (by omega)]
    exact ⟨_, rfl, by rw [ByteArray.size_extract]; omega⟩
  · rw [if_neg h]
    exact ⟨_, rfl, by omega⟩
theorem hex_f (t : ByteArray) (h : t.size ≤ 1000000) : sha_Hex.f t = some ⟨(Sh.hexs t.data.toList).toArray⟩ := if_pos (by omega)
theorem str_map (l : List UInt8) : (strOfNums (l.map fun x => (x.toNat : Int))).data.toList = l := by
  induction l with
  | nil => rfl
  | cons a l ih => simp [strOfNums] at ih ⊢; exact ih
theorem j0_no (k : Nat) (t x : ByteArray) (y : Int) : tinderboxlaw02_ShaHex.j0 (k + 1) t x y false = tinderboxlaw02_ShaHex.l0 k t x y 0 0 := by
  rw [tinderboxlaw02_ShaHex.j0, if_neg (by decide)]
theorem ShaHex : tinderboxlaw02_ShaHex.Pure := by
  intro a0 _
  obtain ⟨t, ht, hs⟩ := few_f a0
  refine ⟨2000, ?_⟩
  unfold tinderboxlaw02_ShaHex.f
  have hsz : (⟨(Sh.hexs t.data.toList).toArray⟩ : ByteArray).size = 2 * t.size := by
    show (Sh.hexs t.data.toList).toArray.size = _
    rw [List.size_toArray, Sh.hexs_len]; simp
  have aw : tinderboxlaw02_awake.f = some true := by decide +kernel
  obtain ⟨rh, hr1, hr2⟩ := Hx.ref_l t hs t.size 2000 0 ⟨#[]⟩ t.data.toList (by omega) rfl (by simp) (Nat.le_refl 0) (by omega)
  have hr0 : (⟨#[]⟩ : ByteArray) = ByteArray.empty := rfl
  have hr : tinderboxref02_Hex.f 2000 t = some rh := hr1
  have hr3 : rh.data.toList = Sh.hexs t.data.toList := by simpa using hr2
  rw [ht, Option.bind_some, hex_f t (by omega), Option.bind_some, Hx.bytes_f _ (by omega) 2000 (by omega) (by omega), Option.bind_some]
  have e1 : Hx.rdp (⟨(Sh.hexs t.data.toList).toArray⟩ : ByteArray).data.toList = some (t.data.toList.map fun x => (x.toNat : Int)) := Hx.rdp_hexs _
  rw [e1]
  have tail : ∀ (b : ByteArray × Int), sha_Bytes.f 2000 t = some b → (∃ m, tinderboxlaw02_ShaHex.l0 (m + 1) t b.1 b.2 (if t.data.toList.all Hx.dig = true then 0 else 3) (t.size : Int) = some true) → ∀ k, k = 1999 → tinderboxlaw02_ShaHex.l0 k t b.1 b.2 0 0 = some true := by
    intro b hb hm k hk
    obtain ⟨m, hm⟩ := hm
    obtain ⟨m', e⟩ := Hx.law_l t b.1 b.2 (by omega) t.size k 0 0 t.data.toList (by omega) rfl (by simp) (by omega)
    have e' : tinderboxlaw02_ShaHex.l0 k t b.1 b.2 0 0 = _ := e
    rw [e']
    unfold tinderboxlaw02_ShaHex.l0 at hm ⊢
    rw [if_neg (by omega)] at hm ⊢
    exact hm
  have whole : ∃ b, sha_Bytes.f 2000 t = some b ∧ ∃ m, tinderboxlaw02_ShaHex.l0 (m + 1) t b.1 b.2 (if t.data.toList.all Hx.dig = true then 0 else 3) (t.size : Int) = some true := by
    by_cases hodd : t.size % 2 = 1
    · refine ⟨_, Hx.bytes_odd t 2000 hodd, 0, ?_⟩
      unfold tinderboxlaw02_ShaHex.l0
      rw [if_neg (by omega), if_pos (by omega)]
      refine (if_pos rfl).trans ((if_neg (by decide)).trans ?_)
      first | decide +kernel | simp
    · refine ⟨_, Hx.bytes_f t (by omega) 2000 (by omega) (by omega), 0, ?_⟩
      unfold tinderboxlaw02_ShaHex.l0
      rw [if_neg (by omega), if_neg (by omega)]
      cases hq : Hx.rdp t.data.toList with
      | none =>
        have hn := Hx.rdp_none (t.size / 2) t.data.toList (by simp; omega) hq
        rw [hn]
        refine (if_pos rfl).trans ((if_neg (by decide)).trans ?_)
        first | decide +kernel | simp
      | some r =>
        obtain ⟨q1, q2, q3, q4⟩ := Hx.rdp_some (t.size / 2) t.data.toList r (by simp; omega) hq
        have hst : (strOfNums r).data.toList = r.map fun v => v.toNat.toUInt8 := by simp [strOfNums]
        have hz : (strOfNums r).size ≤ 1000000 := by
          have h := congrArg List.length hst
          simp at h
          omega
        rw [q1]
        show (if (0 : Int) = 0 then (if (0 : Int) = 0 then _ else _) else _) = _
        rw [if_pos rfl, if_pos rfl, hex_f _ hz, Option.bind_some, if_pos]
        have hb : (⟨(Sh.hexs (strOfNums r).data.toList).toArray⟩ : ByteArray) = t := ByteArray.ext (Array.toList_inj.1 (show (Sh.hexs (strOfNums r).data.toList).toArray.toList = t.data.toList by rw [hst, q2]))
        rw [hb]
  obtain ⟨b, hb, hm⟩ := whole
  rw [hb, Option.bind_some, aw, Option.bind_some, if_pos rfl, Option.bind_some, hr, Option.bind_some]
  have hrb : (⟨(Sh.hexs t.data.toList).toArray⟩ : ByteArray) = rh := ByteArray.ext (Array.toList_inj.1 (show (Sh.hexs t.data.toList).toArray.toList = rh.data.toList by rw [hr3]))
  rw [hrb, if_pos rfl]
  rw [if_pos rfl]
  have hne : ((strOfNums (t.data.toList.map fun x => (x.toNat : Int))).toList != t.toList) = false := by
    have h := str_map t.data.toList
    have h2 : strOfNums (t.data.toList.map fun x => (x.toNat : Int)) = t := by
      apply ByteArray.ext
      apply Array.toList_inj.1
      exact h
    rw [h2]; simp
  rw [hne]
  exact (j0_no 1999 t b.1 b.2).trans (tail b hb hm 1999 rfl)
end Go.Proofs.Ytomenklhgofjaaa.Pure
