/- A manifest has the lines of the reference, and is read again. For every input. -/
import Derived.Test.YtjmabdgebhndhaaDoorXManifestTextsx1
import Derived.Test.YtjmabdgebhndhaaDoorXManifestTextsx2
import Derived.Test.YtjmabdgebhndhaaDoorXManifestTextsx3
import Derived.Test.YtjmabdgebhndhaaDoorXManifestTextsx4
import Derived.Test.YtjmabdgebhndhaaDoorXManifestTextsx5
import Derived.Test.YtjmabdgebhndhaaDoorMBits
import Derived.Test.YtjmabdgebhndhaaDoorMText
namespace Go.Proofs.YtjmabdgebhndhaaDoor.Pure
open Go.RowKit Go.Proofs.YtjmabdgebhndhaaDoor Go.Proofs.YtjmabdgebhndhaaDoor.XManifestTexts Go.Proofs.YtjmabdgebhndhaaDoorW.PrintWords Go.Proofs.YtjmabdgebhndhaaDoorW.PrintLast Go.Proofs.YtjmabdgebhndhaaDoorW.PrintMore
set_option linter.unusedVariables false
set_option linter.unusedSimpArgs false
set_option maxRecDepth 100000 in
theorem awake_f : tinderboxlaw20_awake.f 400 = some true := by decide +kernel
theorem few_f (a0 : ByteArray) : ∃ t, tinderboxlaw20_few.f a0 = some t ∧ t.size ≤ 400 := by
  unfold tinderboxlaw20_few.f
  by_cases h : (a0.size : Int) > 400
  · rw [if_pos h, if_pos (by decide), if_pos (by omega)]
    exact ⟨_, rfl, by rw [ByteArray.size_extract]; omega⟩
  · rw [if_neg h]
    exact ⟨_, rfl, by omega⟩
/-! texts as lists of bytes; decimal digits; lines -/
def S (l : List UInt8) : ByteArray := ⟨l.toArray⟩
theorem S_data (l : List UInt8) : (S l).data.toList = l := by simp [S]
theorem S_size (l : List UInt8) : (S l).size = l.length := by rw [Lib.size_eq, S_data]
theorem S_toList (l : List UInt8) : (S l).toList = l := by rw [Lib.toList_data, S_data]
theorem S_of (b : ByteArray) : S b.data.toList = b := by cases b; simp [S]
theorem S_append (a b : List UInt8) : S a ++ S b = S (a ++ b) := by
  have h : (S a ++ S b).data.toList = (S (a ++ b)).data.toList := by rw [ByteArray.data_append, Array.toList_append, S_data, S_data, S_data]
  rw [← S_of (S a ++ S b), h, S_of]
theorem S_inj {a b : List UInt8} (h : S a = S b) : a = b := by rw [← S_data a, h, S_data]
theorem S_get (l : List UInt8) (i : Nat) (h : i < (S l).size) : (S l)[i] = l[i]'(by rw [S_size] at h; exact h) := by simp [S]; rfl
theorem S_extract (l : List UInt8) (i j : Nat) : (S l).extract i j = S ((l.drop i).take (j - i)) := by
  rw [← S_of ((S l).extract i j)]
  congr 1
  rw [Lib.extract_data, S_data]
def dg (n : Nat) : UInt8 := (48 + n).toUInt8
def dec (n : Nat) : List UInt8 := if h : n < 10 then [dg n] else dec (n / 10) ++ [dg (n % 10)]
termination_by n
decreasing_by omega
theorem dec_lt {n : Nat} (h : n < 10) : dec n = [dg n] := by rw [dec, dif_pos h]
theorem dec_ge {n : Nat} (h : ¬ n < 10) : dec n = dec (n / 10) ++ [dg (n % 10)] := by rw [dec, dif_neg h]
theorem dec_len : ∀ (k n : Nat), n < 10 ^ (k + 1) → (dec n).length ≤ k + 1 ∧ 1 ≤ (dec n).length
  | 0, n, h => by rw [dec_lt (by omega)]; exact ⟨Nat.le_refl _, Nat.le_refl _⟩
  | k + 1, n, h => by
    by_cases h1 : n < 10
    · rw [dec_lt h1]; exact ⟨by simp, by simp⟩
    · have hp : 10 ^ (k + 1 + 1) = 10 ^ (k + 1) * 10 := Nat.pow_succ ..
      have := dec_len k (n / 10) (by omega)
      rw [dec_ge h1, List.length_append]
      simp
      omega
theorem dg_nat {n : Nat} (h : n < 10) : (dg n).toNat = 48 + n := by
  unfold dg
  rw [UInt8.toNat_ofNat']
  omega
theorem str1 : ∀ x : Fin 10, (strOfNums ([(wrap64 (48 + (x.val : Int))) % 256] : List Int)) = S [dg x.val] := by decide +kernel
theorem str_d {n : Nat} (h : n < 10) : (strOfNums ([(wrap64 (48 + (n : Int))) % 256] : List Int)) = S [dg n] := str1 ⟨n, h⟩
theorem tdiv10 (n : Nat) (h : n < 9223372036854775808) : wrap64 (Int.tdiv (n : Int) 10) = ((n / 10 : Nat) : Int) := by
  rw [Int.tdiv_eq_ediv_of_nonneg (by omega)]; unfold wrap64; omega
theorem tmod10 (n : Nat) : Int.tmod (n : Int) 10 = ((n % 10 : Nat) : Int) := by rw [Int.tmod_eq_emod_of_nonneg (by omega)]; omega
/-- What a digit adds. -/
def pv (l : List UInt8) : Nat := l.foldl (fun a c => a * 10 + (c.toNat - 48)) 0
theorem pv_snoc (l : List UInt8) (c : UInt8) : pv (l ++ [c]) = pv l * 10 + (c.toNat - 48) := by unfold pv; rw [List.foldl_append]; rfl
theorem pv_dec : ∀ (m n : Nat), n ≤ m → pv (dec n) = n
  | 0, n, h => by obtain rfl : n = 0 := by omega
                  rw [dec_lt (by omega)]; rfl
  | m + 1, n, h => by
    by_cases h1 : n < 10
    · rw [dec_lt h1]
      show 0 * 10 + ((dg n).toNat - 48) = n
      rw [dg_nat h1]; omega
    · rw [dec_ge h1, pv_snoc, pv_dec m (n / 10) (by omega), dg_nat (by omega)]
      omega
theorem dec_dig : ∀ (m n : Nat), n ≤ m → ∀ c ∈ dec n, 48 ≤ c.toNat ∧ c.toNat ≤ 57
  | 0, n, h, c, hc => by
    rw [dec_lt (by omega)] at hc
    obtain rfl := List.mem_singleton.1 hc
    rw [dg_nat (by omega)]; omega
  | m + 1, n, h, c, hc => by
    by_cases h1 : n < 10
    · rw [dec_lt h1] at hc
      obtain rfl := List.mem_singleton.1 hc
      rw [dg_nat h1]; omega
    · rw [dec_ge h1] at hc
      rcases List.mem_append.1 hc with hc | hc
      · exact dec_dig m (n / 10) (by omega) c hc
      · obtain rfl := List.mem_singleton.1 hc
        rw [dg_nat (by omega)]; omega
/-- A true beginning of a number's digits is no nought. -/
theorem dec_head : ∀ (m n : Nat), n ≤ m → ∀ p q, dec n = p ++ q → p ≠ [] → q ≠ [] → pv p ≠ 0
  | 0, n, h, p, q, e, hp, hq => by
    rw [dec_lt (by omega)] at e
    have h9 := congrArg List.length e
    rw [List.length_append] at h9
    have h7 := List.length_pos_iff.2 hp
    have h8 := List.length_pos_iff.2 hq
    exact absurd h9 (by show ¬ 1 = _; omega)
  | m + 1, n, h, p, q, e, hp, hq => by
    by_cases h1 : n < 10
    · rw [dec_lt h1] at e
      have h9 := congrArg List.length e
      rw [List.length_append] at h9
      have h7 := List.length_pos_iff.2 hp
      have h8 := List.length_pos_iff.2 hq
      exact absurd h9 (by show ¬ 1 = _; omega)
    · rw [dec_ge h1] at e
      obtain ⟨q', d, rfl⟩ : ∃ q' d, q = q' ++ [d] := ⟨q.dropLast, q.getLast hq, (List.dropLast_concat_getLast hq).symm⟩
      rw [← List.append_assoc] at e
      have e1 := (List.append_inj' e rfl).1
      by_cases hq' : q' = []
      · subst hq'
        rw [List.append_nil] at e1
        rw [← e1, pv_dec (n / 10) _ (Nat.le_refl _)]
        omega
      · exact dec_head m (n / 10) (by omega) p q' e1 hp hq'
theorem pv_mono (a b : List UInt8) : pv a ≤ pv (a ++ b) := by
  induction b generalizing a with
  | nil => rw [List.append_nil]; exact Nat.le_refl _
  | cons c b ih =>
    have h := ih (a ++ [c])
    rw [pv_snoc, List.append_assoc] at h
    exact Nat.le_trans (by omega) h
/-- The count of digits. -/
theorem cnt_digits : ∀ (rest pre : List UInt8), (∀ c ∈ rest, 48 ≤ c.toNat ∧ c.toNat ≤ 57) → (∀ p q, pre ++ rest = p ++ q → p ≠ [] → q ≠ [] → pv p ≠ 0) → pv (pre ++ rest) < 2147483648 →
    Mf.cnt (S (pre ++ rest)) rest.length pre.length (pv pre : Nat) = (((pv (pre ++ rest) : Nat) : Int), !(pre ++ rest).isEmpty)
  | [], pre, h1, h2, h3 => by
    show Mf.cnt _ 0 _ _ = _
    rw [Mf.cnt, List.append_nil, S_toList]
  | c :: rest, pre, h1, h2, h3 => by
    have hc := h1 c List.mem_cons_self
    have hl : pre.length < (S (pre ++ c :: rest)).size := by rw [S_size, List.length_append]; simp
    have hg : (S (pre ++ c :: rest))[pre.length]'hl = c := by rw [S_get]; simp
    have e : pre ++ c :: rest = (pre ++ [c]) ++ rest := by simp
    have hm := pv_mono (pre ++ [c]) rest
    rw [← e, pv_snoc] at hm
    have ih := cnt_digits rest (pre ++ [c]) (fun x hx => h1 x (List.mem_cons_of_mem _ hx)) (by rw [← e]; exact h2) (by rw [← e]; exact h3)
    rw [← e, pv_snoc, List.length_append] at ih
    show Mf.cnt _ (rest.length + 1) _ _ = _
    rw [Mf.cnt, dif_pos hl, hg, if_neg (by omega), if_neg (by omega), if_neg (fun hz => h2 pre (c :: rest) rfl (fun he => by rw [he] at hz; simp at hz) (by simp) (by omega)), if_neg (by omega)]
    have e2 : (pv pre : Int) * 10 + ((c.toNat : Int) - 48) = ((pv pre * 10 + (c.toNat - 48) : Nat) : Int) := by omega
    rw [e2]
    exact ih
theorem cnt_dec {n : Nat} (h : n < 2147483648) : Mf.cnt (S (dec n)) (S (dec n)).size 0 0 = ((n : Int), true) := by
  have hp := pv_dec n n (Nat.le_refl _)
  have q := cnt_digits (dec n) [] (dec_dig n n (Nat.le_refl _)) (dec_head n n (Nat.le_refl _)) (by rw [List.nil_append, hp]; exact h)
  rw [List.nil_append, hp] at q
  rw [S_size]
  have hl := (dec_len 9 n (by omega)).2
  have e : (!(dec n).isEmpty) = true := by
    cases hd : dec n with
    | nil => rw [hd] at hl; simp at hl
    | cons a b => rfl
  rw [e] at q
  exact q
/-! lines -/
theorem ix_miss (a : List UInt8) (h : (10 : UInt8) ∉ a) : Lib.indexByte a 10 = -1 := by
  induction a with
  | nil => rfl
  | cons x a ih =>
    rw [Lib.indexByte, if_neg (by intro e; exact h (by rw [beq_iff_eq.1 e]; exact List.mem_cons_self)), ih (fun hh => h (List.mem_cons_of_mem _ hh)), if_pos (by rfl)]
theorem ix_hit (a b : List UInt8) (h : (10 : UInt8) ∉ a) : Lib.indexByte (a ++ 10 :: b) 10 = (a.length : Int) := by
  induction a with
  | nil => rfl
  | cons x a ih =>
    rw [List.cons_append, Lib.indexByte, if_neg (by intro e; exact h (by rw [beq_iff_eq.1 e]; exact List.mem_cons_self)), ih (fun hh => h (List.mem_cons_of_mem _ hh)), if_neg (by simp)]
    rfl
theorem indexB_S (l : List UInt8) : Lib.indexB (S l) ⟨#[10]⟩ = Lib.indexByte l 10 := by
  show Lib.index (S l).data.toList [10] = _
  rw [Lib.index_one, S_data]
theorem pieces_one (a : List UInt8) (h : (10 : UInt8) ∉ a) : Mf.pieces (S a) = [S a] := by
  unfold Mf.pieces
  exact Lib.splitB_miss _ _ _ _ (by rw [indexB_S, ix_miss a h])
theorem pieces_cons (a b : List UInt8) (h : (10 : UInt8) ∉ a) : Mf.pieces (S (a ++ 10 :: b)) = S a :: Mf.pieces (S b) := by
  have hi : Lib.indexB (S (a ++ 10 :: b)) ⟨#[10]⟩ = (a.length : Int) := by rw [indexB_S, ix_hit a b h]
  have hx : (S (a ++ 10 :: b)).extract (a.length + 1) (S (a ++ 10 :: b)).size = S b := by
    rw [S_extract, S_size]
    congr 1
    rw [show a ++ 10 :: b = (a ++ [10]) ++ b by simp, List.drop_left' (by simp)]
    rw [List.take_of_length_le (by simp; omega)]
  have hc := Lib.countB_hit (S (a ++ 10 :: b)) ⟨#[10]⟩ a.length (by decide) hi
  have h1 : (⟨#[10]⟩ : ByteArray).size = 1 := rfl
  rw [h1, hx] at hc
  unfold Mf.pieces
  rw [hc, Nat.add_comm 1, Lib.splitB_hit _ _ _ _ a.length hi, h1, hx]
  congr 1
  rw [Nat.add_zero, S_extract, List.drop_zero, Nat.sub_zero, List.take_left' rfl]
/-! the beginning of a line -/
theorem ls_beq (a b : List UInt8) : (a == b) = decide (a = b) := by
  by_cases h : a = b
  · subst h; simp
  · simp [h]
/-! bytes in digits, written and read -/
namespace Hx
open Go.Proofs.YtjmabdgebhndhaaDoor.Sh (hexd hexs hexDigits)
theorem wok {n : Int} (h0 : -9223372036854775808 ≤ n) (h1 : n < 9223372036854775808) : wrap64 n = n := by unfold wrap64; omega
def ixb (a : UInt8) : Int := Lib.indexByte hexDigits.data.toList a
def val (x y : Int) : Int := (Go.bits .or .i64 (wrap64 (x * 16)) y) % 256
def dig (a : UInt8) : Bool := (48 ≤ a.toNat && a.toNat ≤ 57) || (97 ≤ a.toNat && a.toNat ≤ 102)
set_option maxRecDepth 100000 in
theorem t1 : ∀ n : Fin 256, (if dig n.val.toUInt8 = true then 0 ≤ ixb n.val.toUInt8 ∧ ixb n.val.toUInt8 < 16 ∧ hexd (ixb n.val.toUInt8).toNat = n.val.toUInt8 else ixb n.val.toUInt8 < 0) := by decide +kernel
set_option maxRecDepth 100000 in
theorem t2 : ∀ n : Fin 16, 0 ≤ ixb (hexd n.val) ∧ ixb (hexd n.val) = n.val := by decide +kernel
set_option maxRecDepth 100000 in
theorem t3 : ∀ x : Fin 16, ∀ y : Fin 16, val x.val y.val = ((x.val * 16 + y.val : Nat) : Int) := by decide +kernel
theorem u8 (a : UInt8) : a.toNat.toUInt8 = a := by simp
theorem ix_yes (a : UInt8) (h : dig a = true) : 0 ≤ ixb a ∧ ixb a < 16 ∧ hexd (ixb a).toNat = a := by
  have t := t1 ⟨a.toNat, a.toNat_lt⟩
  simp only [u8] at t
  rw [if_pos h] at t
  exact t
theorem ix_no (a : UInt8) (h : dig a = false) : ixb a < 0 := by
  have t := t1 ⟨a.toNat, a.toNat_lt⟩
  simp only [u8] at t
  rw [if_neg (by simp [h])] at t
  exact t
theorem ix_hexd (n : Nat) (h : n < 16) : ixb (hexd n) = n := (t2 ⟨n, h⟩).2
theorem val_nat (x y : Nat) (hx : x < 16) (hy : y < 16) : val x y = ((x * 16 + y : Nat) : Int) := t3 ⟨x, hx⟩ ⟨y, hy⟩
/-- What pairs of digits become. -/
def rdp : List UInt8 → Option (List Int)
  | a :: b :: l => if ixb a < 0 then none else if ixb b < 0 then none else (rdp l).map (val (ixb a) (ixb b) :: ·)
  | _ => some []
theorem rdp_hexs (l : List UInt8) : rdp (hexs l) = some (l.map fun x => (x.toNat : Int)) := by
  induction l with
  | nil => rfl
  | cons x l ih =>
    have hx := x.toNat_lt
    have h1 : x.toNat / 16 < 16 := by omega
    have h2 : x.toNat % 16 < 16 := by omega
    unfold hexs rdp
    rw [ix_hexd _ h1, ix_hexd _ h2, if_neg (by omega), if_neg (by omega), ih, val_nat _ _ h1 h2]
    simp only [Option.map_some, List.map_cons]
    rw [show x.toNat / 16 * 16 + x.toNat % 16 = x.toNat by omega]
theorem rdp_some : ∀ (m : Nat) (l : List UInt8) (r : List Int), l.length = 2 * m → rdp l = some r → l.all dig = true ∧ hexs (r.map fun v => v.toNat.toUInt8) = l ∧ r.length = m ∧ ∀ v ∈ r, 0 ≤ v ∧ v < 256
  | 0, l, r, hl, h => by
    obtain rfl : l = [] := List.eq_nil_of_length_eq_zero (by omega)
    obtain rfl := Option.some.inj h
    simp [hexs]
  | m + 1, l, r, hl, h => by
    match l, hl with
    | a :: b :: l, hl =>
      unfold rdp at h
      by_cases ha : ixb a < 0
      · rw [if_pos ha] at h; cases h
      rw [if_neg ha] at h
      by_cases hb : ixb b < 0
      · rw [if_pos hb] at h; cases h
      rw [if_neg hb] at h
      obtain ⟨q, hq, rfl⟩ := Option.map_eq_some_iff.1 h
      obtain ⟨i1, i2, i3, i4⟩ := rdp_some m l q (by simp at hl; omega) hq
      have da : dig a = true := by cases hd : dig a with | true => rfl | false => exact absurd (ix_no a hd) ha
      have db : dig b = true := by cases hd : dig b with | true => rfl | false => exact absurd (ix_no b hd) hb
      obtain ⟨a1, a2, a3⟩ := ix_yes a da
      obtain ⟨b1, b2, b3⟩ := ix_yes b db
      obtain ⟨x, hx⟩ : ∃ x : Nat, ixb a = x := ⟨(ixb a).toNat, by omega⟩
      obtain ⟨y, hy⟩ : ∃ y : Nat, ixb b = y := ⟨(ixb b).toNat, by omega⟩
      rw [hx] at a2 a3; rw [hy] at b2 b3
      have hv := val_nat x y (by omega) (by omega)
      rw [hx, hy, hv]
      refine ⟨by simp [da, db, i1], ?_, by simp [i3], ?_⟩
      · simp only [List.map_cons, hexs]
        have e : ((x * 16 + y : Nat) : Int).toNat.toUInt8.toNat = x * 16 + y := by simp; omega
        rw [e, i2, show (x * 16 + y) / 16 = x by omega, show (x * 16 + y) % 16 = y by omega]
        rw [show hexd x = a from a3, show hexd y = b from b3]
      · intro v hv'
        rcases List.mem_cons.1 hv' with rfl | h'
        · omega
        · exact i4 v h'
theorem rdp_none : ∀ (m : Nat) (l : List UInt8), l.length = 2 * m → rdp l = none → l.all dig = false
  | 0, l, hl, h => by
    obtain rfl : l = [] := List.eq_nil_of_length_eq_zero (by omega)
    cases h
  | m + 1, l, hl, h => by
    match l, hl with
    | a :: b :: l, hl =>
      unfold rdp at h
      by_cases ha : ixb a < 0
      · have : dig a = false := by cases hd : dig a with | false => rfl | true => exact absurd (ix_yes a hd).1 (by omega)
        simp [this]
      rw [if_neg ha] at h
      by_cases hb : ixb b < 0
      · have : dig b = false := by cases hd : dig b with | false => rfl | true => exact absurd (ix_yes b hd).1 (by omega)
        simp [this]
      rw [if_neg hb] at h
      have i := rdp_none m l (by simp at hl; omega) (Option.map_eq_none_iff.1 h)
      simp only [List.all_cons, i, Bool.and_false]
theorem bt_drop (xs : ByteArray) (i : Nat) (a : UInt8) (l : List UInt8) (h : xs.data.toList.drop i = a :: l) : bt xs (i : Int) = a.toNat ∧ i < xs.size ∧ xs.data.toList.drop (i + 1) = l := by
  have hi : i < xs.data.toList.length := by
    rcases Nat.lt_or_ge i xs.data.toList.length with h' | h'
    · exact h'
    · rw [List.drop_of_length_le h'] at h; cases h
  rw [List.drop_eq_getElem_cons hi] at h
  have hi' : i < xs.size := by simpa using hi
  injection h with h1 h2
  refine ⟨?_, hi', h2⟩
  rw [← h1]
  have := bt_at xs (i : Int) (show (i : Int).toNat < xs.size by simpa using hi')
  rw [← this]
  rfl
theorem ix_f (a : UInt8) : strings_IndexByte.f (⟨#[48, 49, 50, 51, 52, 53, 54, 55, 56, 57, 97, 98, 99, 100, 101, 102]⟩ : ByteArray) (a.toNat : Int) = some (ixb a) := by
  show some (Lib.indexByte hexDigits.data.toList ((a.toNat : Int).toNat.toUInt8)) = some (ixb a)
  rw [Int.toNat_natCast, u8]
  rfl
theorem bytes_end (xs : ByteArray) (k i : Nat) (acc : List Int) (h : xs.size ≤ i) : sha_Bytes.l0 (k + 1) xs acc i = some (strOfNums acc, 0) := by
  unfold sha_Bytes.l0
  rw [if_neg (by omega)]
theorem bytes_step (xs : ByteArray) (hs : xs.size ≤ 1000000) (k i : Nat) (acc : List Int) (a b : UInt8) (cs : List UInt8) (hd : xs.data.toList.drop i = a :: b :: cs) (ha : acc.length ≤ i) :
    xs.data.toList.drop (i + 2) = cs ∧ sha_Bytes.l0 (k + 1) xs acc i = (if ixb a < 0 then some ((⟨#[]⟩ : ByteArray), 3) else if ixb b < 0 then some ((⟨#[]⟩ : ByteArray), 3) else sha_Bytes.l0 k xs (acc ++ [val (ixb a) (ixb b)]) ((i + 2 : Nat) : Int)) := by
  obtain ⟨ea, la, da⟩ := bt_drop xs i a _ hd
  obtain ⟨eb, lb, db⟩ := bt_drop xs (i + 1) b _ da
  have w1 : wrap64 ((i : Int) + 1) = ((i + 1 : Nat) : Int) := by rw [wok (by omega) (by omega)]; omega
  have w2 : wrap64 ((i : Int) + 2) = ((i + 2 : Nat) : Int) := by rw [wok (by omega) (by omega)]; omega
  refine ⟨db, ?_⟩
  have p1 : (i : Int) < (xs.size : Int) := by omega
  have p2 : 0 ≤ (i : Int) := by omega
  have p3 : 0 ≤ ((i + 1 : Nat) : Int) := by omega
  have p4 : ((i + 1 : Nat) : Int) < (xs.size : Int) := by omega
  have p5 : acc.length < 140737488355328 := by omega
  rw [sha_Bytes.l0]
  rw [if_pos p1, if_pos p2, ea, ix_f, Option.bind_some, w1, if_pos p3, if_pos p4, eb, ix_f, Option.bind_some, w2, if_pos p5]
  rfl
theorem bytes_l (xs : ByteArray) (hs : xs.size ≤ 1000000) (j : Nat) : ∀ (k i : Nat) (acc : List Int) (cs : List UInt8), j < k → xs.data.toList.drop i = cs → cs.length = 2 * j → acc.length ≤ i →
    sha_Bytes.l0 k xs acc i = some (match rdp cs with | none => ((⟨#[]⟩ : ByteArray), 3) | some r => (strOfNums (acc ++ r), 0)) := by
  induction j with
  | zero =>
    intro k i acc cs hk hd hc ha
    obtain ⟨k, rfl⟩ : ∃ m, k = m + 1 := ⟨k - 1, by omega⟩
    obtain rfl : cs = [] := List.eq_nil_of_length_eq_zero (by omega)
    have : xs.size ≤ i := by have := congrArg List.length hd; simp at this; omega
    rw [bytes_end xs k i acc this]
    simp [rdp]
  | succ j ih =>
    intro k i acc cs hk hd hc ha
    obtain ⟨k, rfl⟩ : ∃ m, k = m + 1 := ⟨k - 1, by omega⟩
    match cs, hc with
    | a :: b :: cs, hc =>
      obtain ⟨db, st⟩ := bytes_step xs hs k i acc a b cs hd ha
      rw [st, rdp]
      by_cases ha' : ixb a < 0
      · rw [if_pos ha', if_pos ha']
      rw [if_neg ha', if_neg ha']
      by_cases hb' : ixb b < 0
      · rw [if_pos hb', if_pos hb']
      rw [if_neg hb', if_neg hb']
      rw [ih k (i + 2) _ cs (by omega) db (by simp at hc; omega) (by simp; omega)]
      cases rdp cs with
      | none => rfl
      | some r => simp only [Option.map_some, List.append_assoc, List.singleton_append]
theorem bytes_f (xs : ByteArray) (hs : xs.size ≤ 1000000) (k : Nat) (hk : xs.size < k) (he : xs.size % 2 = 0) :
    sha_Bytes.f k xs = some (match rdp xs.data.toList with | none => ((⟨#[]⟩ : ByteArray), 3) | some r => (strOfNums r, 0)) := by
  unfold sha_Bytes.f
  rw [if_neg (by omega)]
  have h := bytes_l xs hs (xs.size / 2) k 0 [] xs.data.toList (by omega) rfl (by simp; omega) (by simp)
  simpa using h
theorem bytes_odd (xs : ByteArray) (k : Nat) (he : xs.size % 2 = 1) : sha_Bytes.f k xs = some ((⟨#[]⟩ : ByteArray), 2) := by
  unfold sha_Bytes.f
  rw [if_pos (by omega)]
def hx (v : Int) : List Int := if v < 10 then [(48 + v) % 256] else [(((97 + v) % 256) - 10) % 256]
set_option maxRecDepth 100000 in
theorem t4 : ∀ n : Fin 16, (strOfNums (hx n.val)).data.toList = [hexd n.val] := by decide +kernel
theorem hx_str (v : Int) (h0 : 0 ≤ v) (h1 : v < 16) : (strOfNums (hx v)).data.toList = [hexd v.toNat] := by
  have t := t4 ⟨v.toNat, by omega⟩
  simp only [show ((v.toNat : Nat) : Int) = v by omega] at t
  exact t
theorem ref1 (k : Nat) (x0 x3 : ByteArray) (x4 : Int) (y : List Int) (n i : Nat) (v : Int) (hy : rd y (i : Int) = v) (h0 : 0 ≤ v) (h1 : v < 16) (hn : y.length = n) (hi : i < n) (hn2 : n < 100) (hs : x3.size ≤ 1000000) :
    tinderboxref02_Hex.l1 (k + 1) x0 x3 x4 y (n : Int) (i : Int) = tinderboxref02_Hex.l1 k x0 (x3 ++ strOfNums (hx v)) x4 y (n : Int) ((i + 1 : Nat) : Int) := by
  have w1 : wrap64 ((i : Int) + 1) = ((i + 1 : Nat) : Int) := by rw [wok (by omega) (by omega)]; omega
  have sz : (strOfNums (hx v)).size = 1 := by
    have h := congrArg List.length (hx_str v h0 h1)
    simpa using h
  have p1 : (i : Int) < (n : Int) := by omega
  have p2 : 0 ≤ (i : Int) := by omega
  have p3 : (i : Int) < (y.length : Int) := by omega
  rw [tinderboxref02_Hex.l1, if_pos p1, if_pos p2, if_pos p3, hy, w1]
  by_cases h : v < 10
  · rw [if_pos h]
    have e : hx v = [(48 + v) % 256] := if_pos h
    rw [← e, Option.bind_some, if_pos (by omega)]
  · rw [if_neg h]
    have e : hx v = [(((97 + v) % 256) - 10) % 256] := if_neg h
    rw [← e, Option.bind_some, if_pos (by omega)]
theorem ref_step (xs x3 : ByteArray) (k i : Nat) (a : UInt8) (cs : List UInt8) (hs : xs.size ≤ 1000000) (h3 : x3.size ≤ 900000) (hd : xs.data.toList.drop i = a :: cs) :
    tinderboxref02_Hex.l0 (k + 4) xs x3 (i : Int) = tinderboxref02_Hex.l0 k xs (x3 ++ strOfNums (hx ((a.toNat / 16 : Nat) : Int)) ++ strOfNums (hx ((a.toNat % 16 : Nat) : Int))) ((i + 1 : Nat) : Int) := by
  obtain ⟨ea, la, da⟩ := bt_drop xs i a _ hd
  have hx8 := a.toNat_lt
  have w1 : wrap64 ((i : Int) + 1) = ((i + 1 : Nat) : Int) := by rw [wok (by omega) (by omega)]; omega
  have p1 : (i : Int) < (xs.size : Int) := by omega
  have p2 : 0 ≤ (i : Int) := by omega
  have e1 : Int.tdiv (a.toNat : Int) 16 % 256 = ((a.toNat / 16 : Nat) : Int) := by rw [Int.tdiv_eq_ediv_of_nonneg (by omega)]; omega
  have e2 : Int.tmod (a.toNat : Int) 16 = ((a.toNat % 16 : Nat) : Int) := by rw [Int.tmod_eq_emod_of_nonneg (by omega)]; omega
  have sz : (strOfNums (hx ((a.toNat / 16 : Nat) : Int))).size = 1 := by
    have h := congrArg List.length (hx_str ((a.toNat / 16 : Nat) : Int) (by omega) (by omega))
    simpa using h
  rw [tinderboxref02_Hex.l0, if_pos p1, if_pos p2, ea, Option.bind_some, e1, e2]
  obtain ⟨u, hu⟩ : ∃ u : Nat, a.toNat / 16 = u := ⟨_, rfl⟩
  obtain ⟨v, hv⟩ : ∃ v : Nat, a.toNat % 16 = v := ⟨_, rfl⟩
  rw [hu] at sz
  rw [hu, hv]
  show tinderboxref02_Hex.l1 (k + 2 + 1) xs x3 i [(u : Int), (v : Int)] ((2 : Nat) : Int) ((0 : Nat) : Int) = _
  rw [ref1 (k + 2) xs x3 i [(u : Int), (v : Int)] 2 0 u rfl (by omega) (by omega) rfl (by omega) (by omega) (by omega)]
  rw [ref1 (k + 1) xs _ i [(u : Int), (v : Int)] 2 (0 + 1) v rfl (by omega) (by omega) rfl (by omega) (by omega) (by rw [ByteArray.size_append]; omega)]
  rw [tinderboxref02_Hex.l1, if_neg (by omega), w1]
theorem ref_l (xs : ByteArray) (hs : xs.size ≤ 300) (j : Nat) : ∀ (k i : Nat) (x3 : ByteArray) (cs : List UInt8), 4 * j < k → xs.data.toList.drop i = cs → cs.length = j → x3.size ≤ 2 * i → i ≤ xs.size →
    ∃ r, tinderboxref02_Hex.l0 k xs x3 (i : Int) = some r ∧ r.data.toList = x3.data.toList ++ hexs cs := by
  induction j with
  | zero =>
    intro k i x3 cs hk hd hc h3 hi
    obtain ⟨k, rfl⟩ : ∃ m, k = m + 1 := ⟨k - 1, by omega⟩
    obtain rfl : cs = [] := List.eq_nil_of_length_eq_zero hc
    have : xs.size ≤ i := by have := congrArg List.length hd; simp at this; omega
    exact ⟨x3, by rw [tinderboxref02_Hex.l0, if_neg (by omega)], by simp [hexs]⟩
  | succ j ih =>
    intro k i x3 cs hk hd hc h3 hi
    obtain ⟨k, rfl⟩ : ∃ m, k = m + 4 := ⟨k - 4, by omega⟩
    match cs, hc with
    | a :: cs, hc =>
      obtain ⟨ea, la, da⟩ := bt_drop xs i a _ hd
      have hx8 := a.toNat_lt
      have u := hx_str ((a.toNat / 16 : Nat) : Int) (by omega) (by omega)
      have v := hx_str ((a.toNat % 16 : Nat) : Int) (by omega) (by omega)
      have su : (strOfNums (hx ((a.toNat / 16 : Nat) : Int))).size = 1 := by have h := congrArg List.length u; simpa using h
      have sv : (strOfNums (hx ((a.toNat % 16 : Nat) : Int))).size = 1 := by have h := congrArg List.length v; simpa using h
      obtain ⟨r, e1, e2⟩ := ih k (i + 1) (x3 ++ strOfNums (hx ((a.toNat / 16 : Nat) : Int)) ++ strOfNums (hx ((a.toNat % 16 : Nat) : Int))) cs (by omega) da (by simpa using hc) (by rw [ByteArray.size_append, ByteArray.size_append]; omega) (by omega)
      refine ⟨r, by rw [ref_step xs x3 k i a cs (by omega) (by omega) hd]; exact e1, ?_⟩
      rw [e2]
      simp only [ByteArray.data_append, Array.toList_append, u, v, Int.toNat_natCast, hexs, List.append_assoc, List.cons_append, List.nil_append]
end Hx
theorem str_map (l : List UInt8) : (strOfNums (l.map fun x => (x.toNat : Int))).data.toList = l := by
  induction l with
  | nil => rfl
  | cons a l ih => simp [strOfNums] at ih ⊢; exact ih
theorem digits_f : ∀ (k n : Nat), n < 10 ^ (k + 1) → n < 9223372036854775808 → k ≤ 1000 → manifest_Digits.f (k + 1) (n : Int) = some (S (dec n))
  | 0, n, h, h2, _ => by
    rw [manifest_Digits.f, if_neg (by omega), if_pos (by omega), str_d (by omega), dec_lt (by omega)]
  | k + 1, n, h, h2, hk => by
    rw [manifest_Digits.f, if_neg (by omega)]
    by_cases h1 : n < 10
    · rw [if_pos (by omega), str_d h1, dec_lt h1]
    · have hp : 10 ^ (k + 1 + 1) = 10 ^ (k + 1) * 10 := Nat.pow_succ ..
      have hl := dec_len k (n / 10) (by omega)
      rw [if_neg (by omega), tdiv10 n h2, digits_f k (n / 10) (by omega) (by omega) (by omega), Option.bind_some, tmod10, Option.bind_some, str_d (Nat.mod_lt _ (by decide)), if_pos (by rw [S_size, S_size]; simp; omega), S_append, ← dec_ge h1]
theorem rdigits_f : ∀ (k n : Nat), n < 10 ^ (k + 1) → n < 9223372036854775808 → k ≤ 1000 → tinderboxref20_digits.f (k + 1) (n : Int) = some (S (dec n))
  | 0, n, h, h2, _ => by
    rw [tinderboxref20_digits.f, if_pos (by omega), str_d (by omega), dec_lt (by omega)]
  | k + 1, n, h, h2, hk => by
    rw [tinderboxref20_digits.f]
    by_cases h1 : n < 10
    · rw [if_pos (by omega), str_d h1, dec_lt h1]
    · have hp : 10 ^ (k + 1 + 1) = 10 ^ (k + 1) * 10 := Nat.pow_succ ..
      have hl := dec_len k (n / 10) (by omega)
      rw [if_neg (by omega), tdiv10 n h2, rdigits_f k (n / 10) (by omega) (by omega) (by omega), Option.bind_some, tmod10, Option.bind_some, str_d (Nat.mod_lt _ (by decide)), if_pos (by rw [S_size, S_size]; simp; omega), S_append, ← dec_ge h1]
def c0 : List UInt8 := [116, 105, 110, 100, 101, 114, 98, 111, 120, 32, 105, 109, 97, 103, 101]
def vw : List UInt8 := [118, 101, 114, 115, 105, 111, 110]
def lw : List UInt8 := [108, 101, 110, 103, 116, 104]
def dw : List UInt8 := [100, 105, 103, 101, 115, 116, 32]
/-- The lines of a manifest. -/
def lines (v l h : List UInt8) : List UInt8 := c0 ++ 10 :: (vw ++ [32] ++ v ++ 10 :: (lw ++ [32] ++ l ++ 10 :: (dw ++ h ++ [10])))
theorem e1 : (⟨#[116, 105, 110, 100, 101, 114, 98, 111, 120, 32, 105, 109, 97, 103, 101, 10, 118, 101, 114, 115, 105, 111, 110, 32]⟩ : ByteArray) = S (c0 ++ 10 :: (vw ++ [32])) := rfl
theorem e2 : (⟨#[10, 108, 101, 110, 103, 116, 104, 32]⟩ : ByteArray) = S (10 :: (lw ++ [32])) := rfl
theorem e3 : (⟨#[10, 100, 105, 103, 101, 115, 116, 32]⟩ : ByteArray) = S (10 :: dw) := rfl
theorem e4 : (⟨#[10]⟩ : ByteArray) = S [10] := rfl
theorem k0 : c0.length = 15 := rfl
theorem k1 : vw.length = 7 := rfl
theorem k2 : lw.length = 6 := rfl
theorem k3 : dw.length = 7 := rfl
theorem join_eq (v l h : List UInt8) : (c0 ++ 10 :: (vw ++ [32])) ++ v ++ 10 :: (lw ++ [32]) ++ l ++ 10 :: dw ++ h ++ [10] = lines v l h := by simp [lines]
theorem text_f {k : Nat} {a b : Int} {d : ByteArray} {v l h : List UInt8} (h1 : manifest_Digits.f k a = some (S v)) (h2 : manifest_Digits.f k b = some (S l)) (h3 : sha_Hex.f d = some (S h)) (hv : v.length ≤ 1000) (hl : l.length ≤ 1000) (hh : h.length ≤ 1000) :
    manifest_Text.f k a b d = some (S (lines v l h)) := by
  unfold manifest_Text.f
  have q0 := k0
  have q1 := k1
  have q2 := k2
  have q3 := k3
  rw [h1, h2, h3]
  simp only [Option.bind_some, e1, e2, e3, e4, S_append, S_size, List.length_append, List.length_cons, List.length_nil]
  rw [if_pos (by omega), if_pos (by omega), if_pos (by omega), if_pos (by omega), if_pos (by omega), if_pos (by omega), join_eq]
theorem rtext_f {k : Nat} {a b : Int} {d : ByteArray} {v l h : List UInt8} (h1 : tinderboxref20_digits.f k a = some (S v)) (h2 : tinderboxref20_digits.f k b = some (S l)) (h3 : tinderboxref02_Hex.f k d = some (S h)) (hv : v.length ≤ 1000) (hl : l.length ≤ 1000) (hh : h.length ≤ 1000) :
    tinderboxref20_Text.f k a b d = some (S (lines v l h)) := by
  unfold tinderboxref20_Text.f
  have q0 := k0
  have q1 := k1
  have q2 := k2
  have q3 := k3
  rw [h1, h2, h3]
  simp only [Option.bind_some, e1, e2, e3, e4, S_append, S_size, List.length_append, List.length_cons, List.length_nil]
  rw [if_pos (by omega), if_pos (by omega), if_pos (by omega), if_pos (by omega), if_pos (by omega), if_pos (by omega), join_eq]
theorem nin_app {a b : List UInt8} (h1 : (10 : UInt8) ∉ a) (h2 : (10 : UInt8) ∉ b) : (10 : UInt8) ∉ a ++ b := fun h => (List.mem_append.1 h).elim h1 h2
theorem pieces_lines (v l h : List UInt8) (hv : (10 : UInt8) ∉ v) (hl : (10 : UInt8) ∉ l) (hh : (10 : UInt8) ∉ h) :
    Mf.pieces (S (lines v l h)) = [S c0, S (vw ++ [32] ++ v), S (lw ++ [32] ++ l), S (dw ++ h), S []] := by
  unfold lines
  rw [pieces_cons _ _ (by decide), pieces_cons _ _ (nin_app (by decide) hv), pieces_cons _ _ (nin_app (by decide) hl), pieces_cons _ _ (nin_app (by decide) hh), pieces_one _ (by decide)]
theorem cut_f (w r : List UInt8) (hs : w.length + r.length ≤ 1000000) : strings_CutPrefix.f (S (w ++ r)) (S w) = some (S r, true) := by
  have z : (S (w ++ r)).size = w.length + r.length := by rw [S_size, List.length_append]
  unfold strings_CutPrefix.f stringslite_CutPrefix.f stringslite_HasPrefix.f
  rw [z, S_size, if_pos (by omega), if_pos (by omega), if_pos (by omega), Option.bind_some]
  rw [Int.toNat_natCast, S_extract, S_extract, S_toList, S_toList, List.drop_zero, Nat.sub_zero, List.take_left' rfl, beq_self_eq_true, if_pos rfl, if_pos (by omega), if_pos (by omega), Option.bind_some, List.drop_left' rfl, List.take_of_length_le (by omega)]
theorem number_f (w : List UInt8) {n : Nat} (hn : n < 2147483648) (most : Int) (hs : w.length ≤ 1000) : manifest_number.f (S (w ++ [32] ++ dec n)) (S w) most = some ((n : Int), decide ((n : Int) ≤ most)) := by
  have hl := (dec_len 9 n (by omega)).1
  unfold manifest_number.f
  rw [S_size, if_pos (by omega), show (⟨#[32]⟩ : ByteArray) = S [32] from rfl, S_append, cut_f (w ++ [32]) (dec n) (by rw [List.length_append]; simp; omega), Option.bind_some]
  have hc : manifest_Count.f (S (dec n)) = some ((n : Int), true) := by
    unfold manifest_Count.f
    rw [if_pos (by rw [S_size]; omega), cnt_dec hn]
  show (manifest_Count.f (S (dec n))).bind _ = _
  rw [hc, Option.bind_some, if_pos rfl, if_pos rfl]
theorem dec_nin (n : Nat) : (10 : UInt8) ∉ dec n := fun h => by
  have := dec_dig n n (Nat.le_refl _) 10 h
  exact absurd this (by decide)
theorem hexd_ne : ∀ x : Fin 16, Sh.hexd x.val ≠ 10 := by decide
theorem hexs_nin : ∀ l : List UInt8, (10 : UInt8) ∉ Sh.hexs l
  | [], h => by cases h
  | x :: l, h => by
    have hx := x.toNat_lt
    unfold Sh.hexs at h
    rcases List.mem_cons.1 h with h | h
    · exact hexd_ne ⟨x.toNat / 16, by omega⟩ h.symm
    · rcases List.mem_cons.1 h with h | h
      · exact hexd_ne ⟨x.toNat % 16, by omega⟩ h.symm
      · exact hexs_nin l h
theorem bytes_hexs (d : ByteArray) (hd : d.size = 32) (k : Nat) (hk : 64 < k) : sha_Bytes.f k (S (Sh.hexs d.data.toList)) = some (d, 0) := by
  have hl : (Sh.hexs d.data.toList).length = 64 := by rw [Sh.hexs_len, ← Lib.size_eq, hd]
  have e := Hx.bytes_f (S (Sh.hexs d.data.toList)) (by rw [S_size]; omega) k (by rw [S_size]; omega) (by rw [S_size]; omega)
  rw [S_data, Hx.rdp_hexs] at e
  rw [e]
  have h2 : strOfNums (d.data.toList.map fun x => (x.toNat : Int)) = d := by
    apply ByteArray.ext
    apply Array.toList_inj.1
    exact str_map d.data.toList
  show some (strOfNums _, (0 : Int)) = _
  rw [h2]
theorem parse_f (v l : Nat) (d : ByteArray) (hv : 1 ≤ v) (hv2 : v ≤ 1073741824) (hl : l ≤ 1048576) (hd : d.size = 32) (j : Nat) :
    manifest_Parse.f (200 + j) (S (lines (dec v) (dec l) (Sh.hexs d.data.toList))) = some ((v : Int), (l : Int), d, 0, 0) := by
  have v1 := (dec_len 9 v (by omega)).1
  have l1 := (dec_len 9 l (by omega)).1
  have h1 : (Sh.hexs d.data.toList).length = 64 := by rw [Sh.hexs_len, ← Lib.size_eq, hd]
  have q0 := k0
  have q1 := k1
  have q2 := k2
  have q3 := k3
  have sp : strings_Split.f (S (lines (dec v) (dec l) (Sh.hexs d.data.toList))) (⟨#[10]⟩ : ByteArray) = some [S c0, S (vw ++ [32] ++ dec v), S (lw ++ [32] ++ dec l), S (dw ++ Sh.hexs d.data.toList), S []] := by
    unfold strings_Split.f
    rw [if_pos ⟨by rw [S_size]; unfold lines; simp only [List.length_append, List.length_cons, List.length_nil]; omega, rfl⟩, pieces_lines _ _ _ (dec_nin v) (dec_nin l) (hexs_nin _)]
  unfold manifest_Parse.f
  rw [sp, Option.bind_some]
  have n1 := number_f vw (n := v) (by omega) 1073741824 (by omega)
  have n2 := number_f lw (n := l) (by omega) 1048576 (by omega)
  have n3 := cut_f dw (Sh.hexs d.data.toList) (by omega)
  have d1 : decide ((v : Int) ≤ 1073741824) = true := decide_eq_true (by omega)
  have d2 : decide ((l : Int) ≤ 1048576) = true := decide_eq_true (by omega)
  rw [d1] at n1
  rw [d2] at n2
  obtain ⟨L, hL⟩ : ∃ L, [S c0, S (vw ++ [32] ++ dec v), S (lw ++ [32] ++ dec l), S (dw ++ Sh.hexs d.data.toList), S []] = L := ⟨_, rfl⟩
  have r0 : rdOf ByteArray.empty L 0 = S c0 := by rw [← hL]; rfl
  have r1 : rdOf ByteArray.empty L 1 = S (vw ++ [32] ++ dec v) := by rw [← hL]; rfl
  have r2 : rdOf ByteArray.empty L 2 = S (lw ++ [32] ++ dec l) := by rw [← hL]; rfl
  have r3 : rdOf ByteArray.empty L 3 = S (dw ++ Sh.hexs d.data.toList) := by rw [← hL]; rfl
  have r4 : rdOf ByteArray.empty L 4 = S [] := by rw [← hL]; rfl
  have rl : L.length = 5 := by rw [← hL]; rfl
  rw [hL]
  clear hL
  have w : ∀ i : Int, 0 ≤ i → i ≤ 5 → wrap64 (i + 1) = i + 1 := fun i h0 h1 => by unfold wrap64; omega
  have step : ∀ (k : Nat) (i a b : Int) (c : ByteArray), 0 ≤ i → i < 5 → manifest_Parse.l0 (k + 1) L i a b c = manifest_Parse.j1 k L i (rdOf ByteArray.empty L i) true i a b c := fun k i a b c h0 h1 => by
    rw [manifest_Parse.l0, rl, if_pos h1, if_pos (by omega), if_pos h0, decide_eq_true (show i < ((5 : Nat) : Int) by omega)]
  have ev : (⟨#[118, 101, 114, 115, 105, 111, 110]⟩ : ByteArray) = S vw := rfl
  have el : (⟨#[108, 101, 110, 103, 116, 104]⟩ : ByteArray) = S lw := rfl
  have ed : (⟨#[100, 105, 103, 101, 115, 116, 32]⟩ : ByteArray) = S dw := rfl
  rw [show 200 + j = (198 + j) + 1 + 1 by omega, step _ _ _ _ _ (by omega) (by omega), r0, manifest_Parse.j1, if_pos rfl, if_pos rfl, S_toList, if_pos (show c0 = [116, 105, 110, 100, 101, 114, 98, 111, 120, 32, 105, 109, 97, 103, 101] from rfl), w 0 (by omega) (by omega)]
  rw [show 198 + j = (196 + j) + 1 + 1 by omega, step _ _ _ _ _ (by omega) (by omega), show (0 : Int) + 1 = 1 from rfl, r1, manifest_Parse.j1, if_neg (by decide), if_pos rfl, ev, n1, Option.bind_some, if_pos rfl, if_pos rfl, if_pos (by show (v : Int) ≥ 1; omega), w 1 (by omega) (by omega)]
  rw [show 196 + j = (194 + j) + 1 + 1 by omega, step _ _ _ _ _ (by omega) (by omega), show (1 : Int) + 1 = 2 from rfl, r2, manifest_Parse.j1, if_neg (by decide), if_neg (by decide), if_pos rfl, el, n2, Option.bind_some, if_pos rfl, if_pos rfl, w 2 (by omega) (by omega)]
  rw [show 194 + j = (192 + j) + 1 + 1 by omega, step _ _ _ _ _ (by omega) (by omega), show (2 : Int) + 1 = 3 from rfl, r3, manifest_Parse.j1, if_neg (by decide), if_neg (by decide), if_neg (by decide), if_pos rfl, ed, n3, Option.bind_some]
  show (sha_Bytes.f (192 + j) (S (Sh.hexs d.data.toList))).bind _ = _
  rw [bytes_hexs d hd (192 + j) (by omega), Option.bind_some, if_pos rfl, if_pos rfl, if_pos rfl, if_pos (by show (d.size : Int) = 32; omega), w 3 (by omega) (by omega)]
  rw [show 192 + j = (190 + j) + 1 + 1 by omega, step _ _ _ _ _ (by omega) (by omega), show (3 : Int) + 1 = 4 from rfl, r4, manifest_Parse.j1, if_neg (by decide), if_neg (by decide), if_neg (by decide), if_neg (by decide), S_toList, if_pos rfl, if_pos rfl, rl, if_pos (by rfl), w 4 (by omega) (by omega)]
  rw [show 190 + j = (189 + j) + 1 by omega, manifest_Parse.l0, if_neg (by decide)]
theorem dig_size (t : ByteArray) : (Mf.dig t).size = 32 := by
  have hl : (Mf.padN (32 - t.size) (bytesOf t)).length = (bytesOf t).length + (32 - t.size) := Mf.padN_len _ _
  rw [bytesOf_length] at hl
  have h : (Mf.dig t).data.toList.length = 32 := by
    unfold Mf.dig strOfNums
    simp [List.length_take]
    omega
  rw [Lib.size_eq, h]
theorem ManifestTexts (a0 : Int) (_ : (Lit.int .i64 a0).wf = true) (a1 : Int) (_ : (Lit.int .i64 a1).wf = true) (a2 : ByteArray) (_ : a2.size ≤ 140737488351232) : ∃ k, tinderboxlaw20_ManifestTexts.f k a0 a1 a2 = some true := by
  obtain ⟨t, ht, hs⟩ := few_f a2
  have m1 : Go.bits .and .i64 a0 1073741823 = a0 % 1073741824 := Bt.mask64 a0 30 (by decide)
  have m2 : Go.bits .and .i64 a1 1048575 = a1 % 1048576 := Bt.mask64 a1 20 (by decide)
  obtain ⟨v, hv⟩ : ∃ v : Nat, (v : Int) = 1 + a0 % 1073741824 := ⟨(1 + a0 % 1073741824).toNat, by omega⟩
  obtain ⟨l, hl⟩ : ∃ l : Nat, (l : Int) = a1 % 1048576 := ⟨(a1 % 1048576).toNat, by omega⟩
  have hc : tinderboxlaw20_cut.f a0 a1 t = some ((v : Int), (l : Int), Mf.dig t) := by
    unfold tinderboxlaw20_cut.f
    rw [m1, m2, if_pos ⟨by omega, by omega, by omega⟩, hv, hl]
  have hd := dig_size t
  obtain ⟨d, hdd⟩ : ∃ d, Mf.dig t = d := ⟨_, rfl⟩
  rw [hdd] at hc hd
  have hx : sha_Hex.f d = some (S (Sh.hexs d.data.toList)) := by
    unfold sha_Hex.f
    rw [if_pos (by omega)]
    rfl
  have hxl : (Sh.hexs d.data.toList).length = 64 := by rw [Sh.hexs_len, ← Lib.size_eq, hd]
  have vl := (dec_len 9 v (by omega)).1
  have ll := (dec_len 9 l (by omega)).1
  obtain ⟨rh, hr1, hr2⟩ := Hx.ref_l d (by omega) d.size 600 0 ⟨#[]⟩ d.data.toList (by omega) rfl (by simp) (Nat.le_refl 0) (by omega)
  have hr3 : rh.data.toList = Sh.hexs d.data.toList := by simpa using hr2
  have hr : tinderboxref02_Hex.f 600 d = some (S (Sh.hexs d.data.toList)) := by
    rw [← hr3, S_of]
    exact hr1
  have hT := text_f (k := 600) (a := v) (b := l) (d := d) (more_rounds (fun k => manifest_Digits.mono (v : Int) k) 10 590 _ (digits_f 9 v (by omega) (by omega) (by omega))) (more_rounds (fun k => manifest_Digits.mono (l : Int) k) 10 590 _ (digits_f 9 l (by omega) (by omega) (by omega))) hx (by omega) (by omega) (by omega)
  have hR := rtext_f (k := 600) (a := v) (b := l) (d := d) (more_rounds (fun k => tinderboxref20_digits.mono (v : Int) k) 10 590 _ (rdigits_f 9 v (by omega) (by omega) (by omega))) (more_rounds (fun k => tinderboxref20_digits.mono (l : Int) k) 10 590 _ (rdigits_f 9 l (by omega) (by omega) (by omega))) hr (by omega) (by omega) (by omega)
  have hP := parse_f v l d (by omega) (by omega) (by omega) hd 400
  have aw : tinderboxlaw20_awake.f (400 + 200) = some true := more_rounds tinderboxlaw20_awake.mono 400 200 _ awake_f
  have hk : manifest_Check.f (v : Int) (l : Int) d = some true := by
    unfold manifest_Check.f
    rw [if_pos (by show (v : Int) ≥ 1; omega), if_pos (by omega), if_pos (by show (l : Int) ≥ 0; omega), if_pos (by omega), hd]
    rfl
  refine ⟨600, ?_⟩
  unfold tinderboxlaw20_ManifestTexts.f
  rw [ht, Option.bind_some, hc, Option.bind_some, hT, Option.bind_some, hP, Option.bind_some, show (600 : Nat) = 400 + 200 from rfl, aw, Option.bind_some, if_pos rfl, show 400 + 200 = (600 : Nat) from rfl, hR, Option.bind_some, if_pos rfl, if_pos rfl, if_pos rfl, if_pos (by simp), hk, Option.bind_some]
end Go.Proofs.YtjmabdgebhndhaaDoor.Pure
