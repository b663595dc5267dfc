/- What any word says, and the digits of any number, are those of the reference. For every input. -/
import Derived.Test.YtjmabdgebhndhaaDoorXManifestCountsx1
import Derived.Test.YtjmabdgebhndhaaDoorXManifestCountsx2
import Derived.Test.YtjmabdgebhndhaaDoorXManifestCountsx3
import Derived.Test.YtjmabdgebhndhaaDoorXManifestCountsx4
import Derived.Test.YtjmabdgebhndhaaDoorMBits
import Derived.Test.YtjmabdgebhndhaaDoorMText
namespace Go.Proofs.YtjmabdgebhndhaaDoor.Pure
open Go.RowKit Go.Proofs.YtjmabdgebhndhaaDoor Go.Proofs.YtjmabdgebhndhaaDoor.XManifestCounts Go.Proofs.YtjmabdgebhndhaaDoorW.PrintWords Go.Proofs.YtjmabdgebhndhaaDoorW.PrintLast Go.Proofs.YtjmabdgebhndhaaDoorW.PrintMore
set_option linter.unusedVariables false
set_option linter.unusedSimpArgs false
set_option maxRecDepth 100000 in
theorem awake_f : tinderboxlaw20_awake.f 400 = some true := by decide +kernel
theorem few_f (a0 : ByteArray) : ∃ t, tinderboxlaw20_few.f a0 = some t ∧ t.size ≤ 400 := by
  unfold tinderboxlaw20_few.f
  by_cases h : (a0.size : Int) > 400
  · rw [if_pos h, if_pos (by decide), if_pos (by omega)]
    exact ⟨_, rfl, by rw [ByteArray.size_extract]; omega⟩
  · rw [if_neg h]
    exact ⟨_, rfl, by omega⟩
/-! texts as lists of bytes; decimal digits; lines -/
def S (l : List UInt8) : ByteArray := ⟨l.toArray⟩
theorem S_data (l : List UInt8) : (S l).data.toList = l := by simp [S]
theorem S_size (l : List UInt8) : (S l).size = l.length := by rw [Lib.size_eq, S_data]
theorem S_toList (l : List UInt8) : (S l).toList = l := by rw [Lib.toList_data, S_data]
theorem S_of (b : ByteArray) : S b.data.toList = b := by cases b; simp [S]
theorem S_append (a b : List UInt8) : S a ++ S b = S (a ++ b) := by
  have h : (S a ++ S b).data.toList = (S (a ++ b)).data.toList := by rw [ByteArray.data_append, Array.toList_append, S_data, S_data, S_data]
  rw [← S_of (S a ++ S b), h, S_of]
theorem S_inj {a b : List UInt8} (h : S a = S b) : a = b := by rw [← S_data a, h, S_data]
theorem S_get (l : List UInt8) (i : Nat) (h : i < (S l).size) : (S l)[i] = l[i]'(by rw [S_size] at h; exact h) := by simp [S]; rfl
theorem S_extract (l : List UInt8) (i j : Nat) : (S l).extract i j = S ((l.drop i).take (j - i)) := by
  rw [← S_of ((S l).extract i j)]
  congr 1
  rw [Lib.extract_data, S_data]
def dg (n : Nat) : UInt8 := (48 + n).toUInt8
def dec (n : Nat) : List UInt8 := if h : n < 10 then [dg n] else dec (n / 10) ++ [dg (n % 10)]
termination_by n
decreasing_by omega
theorem dec_lt {n : Nat} (h : n < 10) : dec n = [dg n] := by rw [dec, dif_pos h]
theorem dec_ge {n : Nat} (h : ¬ n < 10) : dec n = dec (n / 10) ++ [dg (n % 10)] := by rw [dec, dif_neg h]
theorem dec_len : ∀ (k n : Nat), n < 10 ^ (k + 1) → (dec n).length ≤ k + 1 ∧ 1 ≤ (dec n).length
  | 0, n, h => by rw [dec_lt (by omega)]; exact ⟨Nat.le_refl _, Nat.le_refl _⟩
  | k + 1, n, h => by
    by_cases h1 : n < 10
    · rw [dec_lt h1]; exact ⟨by simp, by simp⟩
    · have hp : 10 ^ (k + 1 + 1) = 10 ^ (k + 1) * 10 := Nat.pow_succ ..
      have := dec_len k (n / 10) (by omega)
      rw [dec_ge h1, List.length_append]
      simp
      omega
theorem dg_nat {n : Nat} (h : n < 10) : (dg n).toNat = 48 + n := by
  unfold dg
  rw [UInt8.toNat_ofNat']
  omega
theorem str1 : ∀ x : Fin 10, (strOfNums ([(wrap64 (48 + (x.val : Int))) % 256] : List Int)) = S [dg x.val] := by decide +kernel
theorem str_d {n : Nat} (h : n < 10) : (strOfNums ([(wrap64 (48 + (n : Int))) % 256] : List Int)) = S [dg n] := str1 ⟨n, h⟩
theorem tdiv10 (n : Nat) (h : n < 9223372036854775808) : wrap64 (Int.tdiv (n : Int) 10) = ((n / 10 : Nat) : Int) := by
  rw [Int.tdiv_eq_ediv_of_nonneg (by omega)]; unfold wrap64; omega
theorem tmod10 (n : Nat) : Int.tmod (n : Int) 10 = ((n % 10 : Nat) : Int) := by rw [Int.tmod_eq_emod_of_nonneg (by omega)]; omega
/-- What a digit adds. -/
def pv (l : List UInt8) : Nat := l.foldl (fun a c => a * 10 + (c.toNat - 48)) 0
theorem pv_snoc (l : List UInt8) (c : UInt8) : pv (l ++ [c]) = pv l * 10 + (c.toNat - 48) := by unfold pv; rw [List.foldl_append]; rfl
theorem pv_dec : ∀ (m n : Nat), n ≤ m → pv (dec n) = n
  | 0, n, h => by obtain rfl : n = 0 := by omega
                  rw [dec_lt (by omega)]; rfl
  | m + 1, n, h => by
    by_cases h1 : n < 10
    · rw [dec_lt h1]
      show 0 * 10 + ((dg n).toNat - 48) = n
      rw [dg_nat h1]; omega
    · rw [dec_ge h1, pv_snoc, pv_dec m (n / 10) (by omega), dg_nat (by omega)]
      omega
theorem dec_dig : ∀ (m n : Nat), n ≤ m → ∀ c ∈ dec n, 48 ≤ c.toNat ∧ c.toNat ≤ 57
  | 0, n, h, c, hc => by
    rw [dec_lt (by omega)] at hc
    obtain rfl := List.mem_singleton.1 hc
    rw [dg_nat (by omega)]; omega
  | m + 1, n, h, c, hc => by
    by_cases h1 : n < 10
    · rw [dec_lt h1] at hc
      obtain rfl := List.mem_singleton.1 hc
      rw [dg_nat h1]; omega
    · rw [dec_ge h1] at hc
      rcases List.mem_append.1 hc with hc | hc
      · exact dec_dig m (n / 10) (by omega) c hc
      · obtain rfl := List.mem_singleton.1 hc
        rw [dg_nat (by omega)]; omega
/-- A true beginning of a number's digits is no nought. -/
theorem dec_head : ∀ (m n : Nat), n ≤ m → ∀ p q, dec n = p ++ q → p ≠ [] → q ≠ [] → pv p ≠ 0
  | 0, n, h, p, q, e, hp, hq => by
    rw [dec_lt (by omega)] at e
    have h9 := congrArg List.length e
    rw [List.length_append] at h9
    have h7 := List.length_pos_iff.2 hp
    have h8 := List.length_pos_iff.2 hq
    exact absurd h9 (by show ¬ 1 = _; omega)
  | m + 1, n, h, p, q, e, hp, hq => by
    by_cases h1 : n < 10
    · rw [dec_lt h1] at e
      have h9 := congrArg List.length e
      rw [List.length_append] at h9
      have h7 := List.length_pos_iff.2 hp
      have h8 := List.length_pos_iff.2 hq
      exact absurd h9 (by show ¬ 1 = _; omega)
    · rw [dec_ge h1] at e
      obtain ⟨q', d, rfl⟩ : ∃ q' d, q = q' ++ [d] := ⟨q.dropLast, q.getLast hq, (List.dropLast_concat_getLast hq).symm⟩
      rw [← List.append_assoc] at e
      have e1 := (List.append_inj' e rfl).1
      by_cases hq' : q' = []
      · subst hq'
        rw [List.append_nil] at e1
        rw [← e1, pv_dec (n / 10) _ (Nat.le_refl _)]
        omega
      · exact dec_head m (n / 10) (by omega) p q' e1 hp hq'
theorem pv_mono (a b : List UInt8) : pv a ≤ pv (a ++ b) := by
  induction b generalizing a with
  | nil => rw [List.append_nil]; exact Nat.le_refl _
  | cons c b ih =>
    have h := ih (a ++ [c])
    rw [pv_snoc, List.append_assoc] at h
    exact Nat.le_trans (by omega) h
/-- The count of digits. -/
theorem cnt_digits : ∀ (rest pre : List UInt8), (∀ c ∈ rest, 48 ≤ c.toNat ∧ c.toNat ≤ 57) → (∀ p q, pre ++ rest = p ++ q → p ≠ [] → q ≠ [] → pv p ≠ 0) → pv (pre ++ rest) < 2147483648 →
    Mf.cnt (S (pre ++ rest)) rest.length pre.length (pv pre : Nat) = (((pv (pre ++ rest) : Nat) : Int), !(pre ++ rest).isEmpty)
  | [], pre, h1, h2, h3 => by
    show Mf.cnt _ 0 _ _ = _
    rw [Mf.cnt, List.append_nil, S_toList]
  | c :: rest, pre, h1, h2, h3 => by
    have hc := h1 c List.mem_cons_self
    have hl : pre.length < (S (pre ++ c :: rest)).size := by rw [S_size, List.length_append]; simp
    have hg : (S (pre ++ c :: rest))[pre.length]'hl = c := by rw [S_get]; simp
    have e : pre ++ c :: rest = (pre ++ [c]) ++ rest := by simp
    have hm := pv_mono (pre ++ [c]) rest
    rw [← e, pv_snoc] at hm
    have ih := cnt_digits rest (pre ++ [c]) (fun x hx => h1 x (List.mem_cons_of_mem _ hx)) (by rw [← e]; exact h2) (by rw [← e]; exact h3)
    rw [← e, pv_snoc, List.length_append] at ih
    show Mf.cnt _ (rest.length + 1) _ _ = _
    rw [Mf.cnt, dif_pos hl, hg, if_neg (by omega), if_neg (by omega), if_neg (fun hz => h2 pre (c :: rest) rfl (fun he => by rw [he] at hz; simp at hz) (by simp) (by omega)), if_neg (by omega)]
    have e2 : (pv pre : Int) * 10 + ((c.toNat : Int) - 48) = ((pv pre * 10 + (c.toNat - 48) : Nat) : Int) := by omega
    rw [e2]
    exact ih
theorem cnt_dec {n : Nat} (h : n < 2147483648) : Mf.cnt (S (dec n)) (S (dec n)).size 0 0 = ((n : Int), true) := by
  have hp := pv_dec n n (Nat.le_refl _)
  have q := cnt_digits (dec n) [] (dec_dig n n (Nat.le_refl _)) (dec_head n n (Nat.le_refl _)) (by rw [List.nil_append, hp]; exact h)
  rw [List.nil_append, hp] at q
  rw [S_size]
  have hl := (dec_len 9 n (by omega)).2
  have e : (!(dec n).isEmpty) = true := by
    cases hd : dec n with
    | nil => rw [hd] at hl; simp at hl
    | cons a b => rfl
  rw [e] at q
  exact q
/-! lines -/
theorem ix_miss (a : List UInt8) (h : (10 : UInt8) ∉ a) : Lib.indexByte a 10 = -1 := by
  induction a with
  | nil => rfl
  | cons x a ih =>
    rw [Lib.indexByte, if_neg (by intro e; exact h (by rw [beq_iff_eq.1 e]; exact List.mem_cons_self)), ih (fun hh => h (List.mem_cons_of_mem _ hh)), if_pos (by rfl)]
theorem ix_hit (a b : List UInt8) (h : (10 : UInt8) ∉ a) : Lib.indexByte (a ++ 10 :: b) 10 = (a.length : Int) := by
  induction a with
  | nil => rfl
  | cons x a ih =>
    rw [List.cons_append, Lib.indexByte, if_neg (by intro e; exact h (by rw [beq_iff_eq.1 e]; exact List.mem_cons_self)), ih (fun hh => h (List.mem_cons_of_mem _ hh)), if_neg (by simp)]
    rfl
theorem indexB_S (l : List UInt8) : Lib.indexB (S l) ⟨#[10]⟩ = Lib.indexByte l 10 := by
  show Lib.index (S l).data.toList [10] = _
  rw [Lib.index_one, S_data]
theorem pieces_one (a : List UInt8) (h : (10 : UInt8) ∉ a) : Mf.pieces (S a) = [S a] := by
  unfold Mf.pieces
  exact Lib.splitB_miss _ _ _ _ (by rw [indexB_S, ix_miss a h])
theorem pieces_cons (a b : List UInt8) (h : (10 : UInt8) ∉ a) : Mf.pieces (S (a ++ 10 :: b)) = S a :: Mf.pieces (S b) := by
  have hi : Lib.indexB (S (a ++ 10 :: b)) ⟨#[10]⟩ = (a.length : Int) := by rw [indexB_S, ix_hit a b h]
  have hx : (S (a ++ 10 :: b)).extract (a.length + 1) (S (a ++ 10 :: b)).size = S b := by
    rw [S_extract, S_size]
    congr 1
    rw [show a ++ 10 :: b = (a ++ [10]) ++ b by simp, List.drop_left' (by simp)]
    rw [List.take_of_length_le (by simp; omega)]
  have hc := Lib.countB_hit (S (a ++ 10 :: b)) ⟨#[10]⟩ a.length (by decide) hi
  have h1 : (⟨#[10]⟩ : ByteArray).size = 1 := rfl
  rw [h1, hx] at hc
  unfold Mf.pieces
  rw [hc, Nat.add_comm 1, Lib.splitB_hit _ _ _ _ a.length hi, h1, hx]
  congr 1
  rw [Nat.add_zero, S_extract, List.drop_zero, Nat.sub_zero, List.take_left' rfl]
/-! the beginning of a line -/
theorem ls_beq (a b : List UInt8) : (a == b) = decide (a = b) := by
  by_cases h : a = b
  · subst h; simp
  · simp [h]
namespace Hx
theorem bt_drop (xs : ByteArray) (i : Nat) (a : UInt8) (l : List UInt8) (h : xs.data.toList.drop i = a :: l) : bt xs (i : Int) = a.toNat ∧ i < xs.size ∧ xs.data.toList.drop (i + 1) = l := by
  have hi : i < xs.data.toList.length := by
    rcases Nat.lt_or_ge i xs.data.toList.length with h' | h'
    · exact h'
    · rw [List.drop_of_length_le h'] at h; cases h
  rw [List.drop_eq_getElem_cons hi] at h
  have hi' : i < xs.size := by simpa using hi
  injection h with h1 h2
  refine ⟨?_, hi', h2⟩
  rw [← h1]
  have := bt_at xs (i : Int) (show (i : Int).toNat < xs.size by simpa using hi')
  rw [← this]
  rfl
end Hx
theorem wk {n : Int} (h0 : -9223372036854775808 ≤ n) (h1 : n < 9223372036854775808) : wrap64 n = n := by unfold wrap64; omega
def isD (c : UInt8) : Bool := decide (48 ≤ c.toNat) && decide (c.toNat ≤ 57)
theorem isD_iff {c : UInt8} : isD c = true ↔ 48 ≤ c.toNat ∧ c.toNat ≤ 57 := by simp [isD]
/-- Is this a count's word? -/
def okc (l : List UInt8) : Bool := !l.isEmpty && l.all isD && (decide (l.length = 1) || decide (l.head? ≠ some 48)) && decide (pv l < 2147483648)
def spec (l : List UInt8) : Int × Bool := if okc l = true then (((pv l : Nat) : Int), true) else (0, false)
theorem pv_ge (c : UInt8) (hc : 49 ≤ c.toNat) : ∀ (n : Nat) (l : List UInt8), l.length = n → 10 ^ n ≤ pv (c :: l)
  | 0, l, h => by
    obtain rfl := List.eq_nil_of_length_eq_zero h
    show 1 ≤ 0 * 10 + (c.toNat - 48)
    omega
  | n + 1, l, h => by
    have hne : l ≠ [] := fun e => by rw [e] at h; cases h
    have e := (List.dropLast_concat_getLast hne).symm
    have hl : l.dropLast.length = n := by rw [List.length_dropLast]; omega
    have ih := pv_ge c hc n l.dropLast hl
    rw [e, ← List.cons_append, pv_snoc, Nat.pow_succ]
    omega
theorem ne48 {c : UInt8} (h : c ≠ 48) (hd : isD c = true) : 49 ≤ c.toNat := by
  have h1 := (isD_iff.1 hd).1
  rcases Nat.eq_or_lt_of_le h1 with h2 | h2
  · exact absurd (UInt8.toNat_inj.1 (show c.toNat = (48 : UInt8).toNat from h2.symm)) h
  · exact h2
theorem spec_no {l : List UInt8} (h : okc l = false) : spec l = (0, false) := by unfold spec; rw [if_neg (by simp [h])]
theorem spec_yes {l : List UInt8} (h : okc l = true) : spec l = (((pv l : Nat) : Int), true) := by unfold spec; rw [if_pos h]
theorem okc_digit {l : List UInt8} (h : l.all isD = false) : okc l = false := by unfold okc; simp only [h, Bool.and_false, Bool.false_and]
theorem okc_great {l : List UInt8} (h : 2147483648 ≤ pv l) : okc l = false := by unfold okc; rw [decide_eq_false (show ¬ pv l < 2147483648 by omega), Bool.and_false]
theorem okc_nought {c : UInt8} {l : List UInt8} : okc (48 :: c :: l) = false := by unfold okc; simp
/-- The code's count, wherever it stands. -/
theorem cnt_spec : ∀ (rest pre : List UInt8), pre.all isD = true → pv pre < 2147483648 → (pre.length ≤ 1 ∨ pre.head? ≠ some 48) →
    Mf.cnt (S (pre ++ rest)) rest.length pre.length ((pv pre : Nat) : Int) = spec (pre ++ rest)
  | [], pre, h1, h2, h3 => by
    show Mf.cnt _ 0 _ _ = _
    rw [Mf.cnt, List.append_nil, S_toList]
    cases pre with
    | nil => rfl
    | cons x p =>
      have hk : okc (x :: p) = true := by
        unfold okc
        rw [h1, decide_eq_true h2]
        rcases h3 with h3 | h3
        · have : p.length = 0 := by simp at h3; simpa using h3
          simp [this]
        · simp at h3
          simp [h3]
      rw [spec_yes hk]
      rfl
  | c :: rest, pre, h1, h2, h3 => by
    have hl : pre.length < (S (pre ++ c :: rest)).size := by rw [S_size, List.length_append]; simp
    have hg : (S (pre ++ c :: rest))[pre.length]'hl = c := by rw [S_get]; simp
    have e : pre ++ c :: rest = (pre ++ [c]) ++ rest := by simp
    have hm := pv_mono (pre ++ [c]) rest
    rw [← e, pv_snoc] at hm
    show Mf.cnt _ (rest.length + 1) _ _ = _
    rw [Mf.cnt, dif_pos hl, hg]
    by_cases hd : isD c = true
    · have hd' := isD_iff.1 hd
      rw [if_neg (by omega), if_neg (by omega)]
      by_cases h0 : 0 < pre.length ∧ ((pv pre : Nat) : Int) = 0
      · rw [if_pos h0]
        obtain ⟨ha, hb⟩ := h0
        cases pre with
        | nil => simp at ha
        | cons x p =>
          have hx : isD x = true := by simp at h1; exact h1.1
          have x48 : x = 48 := Classical.byContradiction fun hn => by
            have := pv_ge x (ne48 hn hx) p.length p rfl
            have h10 : 1 ≤ 10 ^ p.length := Nat.one_le_pow _ _ (by decide)
            omega
          subst x48
          have hp : p = [] := by
            rcases h3 with h3 | h3
            · simp at h3; exact h3
            · simp at h3
          subst hp
          rw [spec_no (by exact okc_nought)]
      · rw [if_neg h0]
        by_cases h4 : 2147483648 ≤ ((pv pre : Nat) : Int) * 10 + ((c.toNat : Int) - 48)
        · rw [if_pos h4, spec_no (okc_great (by omega))]
        · rw [if_neg h4]
          have e2 : ((pv pre : Nat) : Int) * 10 + ((c.toNat : Int) - 48) = ((pv pre * 10 + (c.toNat - 48) : Nat) : Int) := by omega
          have ih := cnt_spec rest (pre ++ [c]) (by simp [List.all_append, h1, hd]) (by rw [pv_snoc]; omega) (by
            cases pre with
            | nil => exact Or.inl (by simp)
            | cons x p =>
              refine Or.inr ?_
              show (x :: (p ++ [c])).head? ≠ some 48
              rcases h3 with h3 | h3
              · have hp : p = [] := by simp at h3; exact h3
                subst hp
                intro hx
                simp at hx
                subst hx
                exact h0 ⟨by simp, by rfl⟩
              · simpa using h3)
          rw [← e, pv_snoc, List.length_append] at ih
          rw [e2]
          exact ih
    · have hall : (pre ++ c :: rest).all isD = false := by
        simp only [List.all_append, List.all_cons]
        simp [hd]
      rw [spec_no (okc_digit hall)]
      have hn : ¬ (48 ≤ c.toNat ∧ c.toNat ≤ 57) := fun h => hd (isD_iff.2 h)
      by_cases h5 : c.toNat < 48
      · rw [if_pos h5]
      · rw [if_neg h5, if_pos (by omega)]
theorem count_f (l : List UInt8) (h : l.length ≤ 1000) : manifest_Count.f (S l) = some (spec l) := by
  unfold manifest_Count.f
  rw [if_pos (by rw [S_size]; omega)]
  have q := cnt_spec l [] rfl (by decide) (Or.inl (by simp))
  rw [List.nil_append] at q
  rw [S_size]
  exact congrArg some q
/-! the reference's count -/
theorem ref_end (l : List UInt8) (n : Int) (k i : Nat) (h : l.length ≤ i) : tinderboxref20_Count.l0 (k + 1) (S l) n i = if n ≥ 2147483648 then some (0, false) else some (n, true) := by
  rw [tinderboxref20_Count.l0, S_size, if_neg (by omega)]
theorem pv_lt : ∀ (n : Nat) (l : List UInt8), l.length = n → l.all isD = true → pv l < 10 ^ n
  | 0, l, h, _ => by
    obtain rfl := List.eq_nil_of_length_eq_zero h
    decide
  | n + 1, l, h, ha => by
    have hne : l ≠ [] := fun e => by rw [e] at h; cases h
    have e := (List.dropLast_concat_getLast hne).symm
    have hl : l.dropLast.length = n := by rw [List.length_dropLast, h]; rfl
    rw [e, List.all_append, Bool.and_eq_true] at ha
    have ih := pv_lt n l.dropLast hl ha.1
    have hd := (isD_iff.1 (by have := ha.2; simpa using this)).2
    rw [e, pv_snoc, Nat.pow_succ]
    generalize 10 ^ n = q at ih ⊢
    omega
theorem pv_lt9 {l : List UInt8} (h : l.length ≤ 9) (ha : l.all isD = true) : pv l < 1000000000 :=
  Nat.lt_of_lt_of_le (pv_lt l.length l rfl ha) (Nat.le_trans (Nat.pow_le_pow_right (Nat.le_of_lt_succ (Nat.lt_of_sub_eq_succ rfl)) h) (Nat.le_refl 1000000000))
theorem acc_step (n c : Nat) (hn : n < 1000000000) (h1 : 48 ≤ c) (h2 : c ≤ 57) : (wrap64 ((wrap64 ((wrap64 ((n : Int) * 10)) + (wrap64 (c : Int)))) - 48)) = ((n * 10 + (c - 48) : Nat) : Int) := by
  have w1 : wrap64 ((n : Int) * 10) = (n : Int) * 10 := wk (by omega) (by omega)
  have w2 : wrap64 (c : Int) = (c : Int) := wk (by omega) (by omega)
  have w3 : wrap64 ((n : Int) * 10 + (c : Int)) = (n : Int) * 10 + (c : Int) := wk (by omega) (by omega)
  rw [w1, w2, w3, wk (by omega) (by omega)]
  omega
theorem pos_step (i : Nat) (h : i ≤ 10) : wrap64 ((i : Int) + 1) = ((i + 1 : Nat) : Int) := by rw [wk (by omega) (by omega)]; omega
theorem ref_loop : ∀ (rest pre : List UInt8) (k : Nat), pre.all isD = true → pre.length + rest.length ≤ 10 → rest.length < k →
    tinderboxref20_Count.l0 k (S (pre ++ rest)) ((pv pre : Nat) : Int) (pre.length : Int) = if (rest.all isD = true ∧ pv (pre ++ rest) < 2147483648) then some (((pv (pre ++ rest) : Nat) : Int), true) else some (0, false)
  | [], pre, k, h1, h2, hk => by
    obtain ⟨k, rfl⟩ : ∃ m, k = m + 1 := ⟨k - 1, by omega⟩
    rw [List.append_nil, ref_end _ _ _ _ (Nat.le_refl _)]
    by_cases h4 : pv pre < 2147483648
    · rw [if_neg (by omega), if_pos ⟨rfl, h4⟩]
    · rw [if_pos (by omega), if_neg (fun h => h4 h.2)]
  | c :: rest, pre, k, h1, h2, hk => by
    obtain ⟨k, rfl⟩ : ∃ m, k = m + 1 := ⟨k - 1, by omega⟩
    rw [List.length_cons] at h2 hk
    have e : pre ++ c :: rest = (pre ++ [c]) ++ rest := by simp
    have hb : bt (S (pre ++ c :: rest)) (pre.length : Int) = c.toNat := by
      have hd : (S (pre ++ c :: rest)).data.toList.drop pre.length = c :: rest := by rw [S_data, List.drop_left' rfl]
      exact (Hx.bt_drop _ _ _ _ hd).1
    have hp : pv pre < 1000000000 := pv_lt9 (by omega) h1
    have g1 : (pre.length : Int) < (((S (pre ++ c :: rest)).size : Nat) : Int) := by rw [S_size, List.length_append, List.length_cons]; omega
    have hlen : (pre ++ [c]).length + rest.length ≤ 10 := by rw [List.length_append]; show pre.length + 1 + _ ≤ _; omega
    have hk2 : rest.length < k := by omega
    have e3 := pos_step pre.length (by omega)
    rw [tinderboxref20_Count.l0, if_pos g1, if_pos (Int.natCast_nonneg _), hb]
    by_cases hd : isD c = true
    · have hd' := isD_iff.1 hd
      rw [acc_step _ _ hp hd'.1 hd'.2, e3, if_neg (by omega), if_neg (by omega)]
      have ih := ref_loop rest (pre ++ [c]) k (by simp [List.all_append, h1, hd]) hlen hk2
      rw [← e, pv_snoc, List.length_append] at ih
      have e4 : (rest.all isD = true ∧ pv (pre ++ c :: rest) < 2147483648) ↔ ((c :: rest).all isD = true ∧ pv (pre ++ c :: rest) < 2147483648) := by simp [hd]
      by_cases hr : rest.all isD = true ∧ pv (pre ++ c :: rest) < 2147483648
      · rw [if_pos hr] at ih
        rw [if_pos (e4.1 hr)]
        exact ih
      · rw [if_neg hr] at ih
        rw [if_neg (fun h => hr (e4.2 h))]
        exact ih
    · have hn : ¬ (48 ≤ c.toNat ∧ c.toNat ≤ 57) := fun h => hd (isD_iff.2 h)
      rw [if_neg (show ¬ ((c :: rest).all isD = true ∧ pv (pre ++ c :: rest) < 2147483648) from fun h => hd (by have h9 := h.1; rw [List.all_cons, Bool.and_eq_true] at h9; exact h9.1))]
      clear e3 hp
      by_cases h5 : c.toNat < 48
      · rw [if_pos (by omega)]
      · rw [if_neg (by omega), if_pos (by omega)]
theorem j0_f (k : Nat) (l : List UInt8) (b : Bool) : tinderboxref20_Count.j0 (k + 1) (S l) b = if b = true then some (0, false) else tinderboxref20_Count.l0 k (S l) 0 0 := by rw [tinderboxref20_Count.j0]
theorem rcount_f (l : List UInt8) (h : l.length ≤ 1000) (j : Nat) : tinderboxref20_Count.f (20 + j) (S l) = some (spec l) := by
  unfold tinderboxref20_Count.f
  rw [S_toList, S_size, show 20 + j = (19 + j) + 1 by omega, j0_f, j0_f, j0_f, if_pos rfl, if_neg (show ¬ (false = true) by decide)]
  have main : ∀ (x : UInt8) (p : List UInt8), l = x :: p → l.length ≤ 10 → (p = [] ∨ x ≠ 48) → tinderboxref20_Count.l0 (19 + j) (S l) 0 0 = some (spec l) := by
    intro x p hl h10 hx
    have q := ref_loop l [] (19 + j) rfl (by simpa using h10) (by omega)
    rw [List.nil_append] at q
    refine Eq.trans q ?_
    by_cases hg : l.all isD = true ∧ pv l < 2147483648
    · rw [if_pos hg, spec_yes]
      subst hl
      unfold okc
      rw [hg.1, decide_eq_true hg.2]
      rcases hx with rfl | hx
      · simp
      · simp [hx]
    · rw [if_neg hg, spec_no]
      unfold okc
      by_cases ha : l.all isD = true
      · rw [decide_eq_false (fun hh => hg ⟨ha, hh⟩), Bool.and_false]
      · simp only [Bool.not_eq_true] at ha
        rw [ha]; simp
  cases l with
  | nil => rw [if_pos rfl]; rfl
  | cons x p =>
    rw [if_neg (by simp)]
    by_cases h10 : (((x :: p).length : Nat) : Int) > 10
    · rw [if_pos h10]
      refine congrArg some (spec_no ?_).symm
      by_cases hall : (x :: p).all isD = true
      · by_cases hx : x = 48
        · subst hx
          cases p with
          | nil => simp at h10
          | cons y p => exact okc_nought
        · have hxd : isD x = true := by simp at hall; exact hall.1
          have hge := pv_ge x (ne48 hx hxd) p.length p rfl
          have h9 : 10 ≤ p.length := by simp at h10; omega
          have h8 : 10 ^ 10 ≤ 10 ^ p.length := Nat.pow_le_pow_right (by decide) h9
          exact okc_great (Nat.le_trans (by decide) (Nat.le_trans h8 hge))
      · exact okc_digit (by simpa using hall)
    · rw [if_neg h10]
      have h10' : (x :: p).length ≤ 10 := by omega
      by_cases h1 : (((x :: p).length : Nat) : Int) > 1
      · rw [if_pos h1, if_pos (by omega)]
        have hb : bt (S (x :: p)) 0 = x.toNat := by
          have hd : (S (x :: p)).data.toList.drop 0 = x :: p := by rw [S_data]; rfl
          exact (Hx.bt_drop _ _ _ _ hd).1
        rw [hb]
        by_cases hx : x = 48
        · subst hx
          rw [if_pos (by decide)]
          refine congrArg some (spec_no ?_).symm
          cases p with
          | nil => simp at h1
          | cons y p => exact okc_nought
        · rw [if_neg (by
            intro hh
            have h9 : (x.toNat : Int) = 48 := beq_iff_eq.1 hh
            exact hx (UInt8.toNat_inj.1 (show x.toNat = (48 : UInt8).toNat by show x.toNat = 48; omega)))]
          exact main x p rfl h10' (Or.inr hx)
      · rw [if_neg h1]
        exact main x p rfl h10' (Or.inl (by simp at h1; exact List.eq_nil_of_length_eq_zero (by omega)))
/-! the digits of any number -/
theorem dec_lib : ∀ (m n : Nat), n ≤ m → Lib.decDigits n = dec n
  | 0, n, h => by rw [Lib.decDigits, dif_pos (by omega), dec_lt (by omega)]; rfl
  | m + 1, n, h => by
    by_cases h1 : n < 10
    · rw [Lib.decDigits, dif_pos h1, dec_lt h1]; rfl
    · rw [Lib.decDigits, dif_neg h1, dec_lib m (n / 10) (by omega), dec_ge h1]; rfl
theorem digits_f : ∀ (k n : Nat), n < 10 ^ (k + 1) → n < 9223372036854775808 → k ≤ 1000 → manifest_Digits.f (k + 1) (n : Int) = some (S (dec n))
  | 0, n, h, h2, _ => by
    rw [manifest_Digits.f, if_neg (by omega), if_pos (by omega), str_d (by omega), dec_lt (by omega)]
  | k + 1, n, h, h2, hk => by
    rw [manifest_Digits.f, if_neg (by omega)]
    by_cases h1 : n < 10
    · rw [if_pos (by omega), str_d h1, dec_lt h1]
    · have hp : 10 ^ (k + 1 + 1) = 10 ^ (k + 1) * 10 := Nat.pow_succ ..
      have hl := dec_len k (n / 10) (by omega)
      rw [if_neg (by omega), tdiv10 n h2, digits_f k (n / 10) (by omega) (by omega) (by omega), Option.bind_some, tmod10, Option.bind_some, str_d (Nat.mod_lt _ (by decide)), if_pos (by rw [S_size, S_size]; simp; omega), S_append, ← dec_ge h1]
theorem digits_nat (n : Nat) (h : n < 9223372036854775808) (j : Nat) : manifest_Digits.f (19 + j) (n : Int) = some (S (dec n)) :=
  more_rounds (fun k => manifest_Digits.mono (n : Int) k) 19 j _ (digits_f 18 n (Nat.lt_of_lt_of_le h (by decide)) h (by decide))
theorem dec_len19 (n : Nat) (h : n < 9223372036854775809) : (dec n).length ≤ 19 := (dec_len 18 n (Nat.lt_of_lt_of_le h (by decide))).1
theorem digits_neg : ∀ (k n : Nat), 1 ≤ n → n < 10 ^ (k + 1) → n ≤ 9223372036854775808 → k ≤ 18 → manifest_Digits.f (21 + k) (-(n : Int)) = some (S (45 :: dec n))
  | k, n, h0, h, h2, hk => by
    rw [show 21 + k = (19 + (k + 1)) + 1 by omega, manifest_Digits.f, if_pos (by omega)]
    by_cases h1 : n < 10
    · have e : wrap64 (-(-(n : Int))) = (n : Int) := by unfold wrap64; omega
      rw [if_pos (show -(n : Int) > -10 by omega), e, digits_nat n (by omega), Option.bind_some, dec_lt h1, S_size, if_pos (by simp), show (⟨#[45]⟩ : ByteArray) = S [45] from rfl, S_append]
      rfl
    · have e : wrap64 (Int.tdiv (-(n : Int)) 10) = -((n / 10 : Nat) : Int) := by rw [Int.neg_tdiv, Int.tdiv_eq_ediv_of_nonneg (by omega)]; unfold wrap64; omega
      have e5 : wrap64 (-(Int.tmod (-(n : Int)) 10)) = ((n % 10 : Nat) : Int) := by rw [Int.neg_tmod, tmod10]; unfold wrap64; omega
      have hl := dec_len19 (n / 10) (by omega)
      rw [if_neg (show ¬ -(n : Int) > -10 by omega), e, e5]
      match k, h, hk with
      | 0, h, _ => exact absurd h (by omega)
      | k + 1, h, hk =>
        have hp : 10 ^ (k + 1 + 1) = 10 ^ (k + 1) * 10 := Nat.pow_succ ..
        rw [show 19 + (k + 1 + 1) = 21 + k by omega, digits_neg k (n / 10) (by omega) (by omega) (by omega) (by omega), Option.bind_some, show 21 + k = 19 + (2 + k) by omega, digits_nat (n % 10) (by omega), Option.bind_some, dec_lt (Nat.mod_lt n (by decide)), S_size, S_size, if_pos (by simp; omega), S_append, dec_ge h1]
        rfl
theorem digits_int (n : Int) (h0 : -9223372036854775808 ≤ n) (h1 : n ≤ 9223372036854775807) (j : Nat) : manifest_Digits.f (39 + j) n = some (S (Lib.itoa n)) := by
  unfold Lib.itoa
  by_cases hn : n < 0
  · obtain ⟨m, hm⟩ : ∃ m : Nat, n = -(m : Int) := ⟨n.natAbs, by omega⟩
    subst hm
    rw [if_pos hn, dec_lib _ _ (Nat.le_refl _), show (-(m : Int)).natAbs = m by omega]
    exact more_rounds (fun k => manifest_Digits.mono (-(m : Int)) k) 39 j _ (digits_neg 18 m (by omega) (Nat.lt_of_le_of_lt (show m ≤ 9223372036854775808 by omega) (by decide)) (by omega) (by omega))
  · obtain ⟨m, rfl⟩ : ∃ m : Nat, n = (m : Int) := ⟨n.toNat, by omega⟩
    rw [if_neg hn, dec_lib _ _ (Nat.le_refl _), Int.toNat_natCast]
    rw [show 39 + j = 19 + (20 + j) by omega]
    exact digits_nat m (by omega) _
theorem itoa_len (n : Int) (h0 : -9223372036854775808 ≤ n) (h1 : n ≤ 9223372036854775807) : (Lib.itoa n).length ≤ 20 := by
  unfold Lib.itoa
  split
  · rw [dec_lib _ _ (Nat.le_refl _), List.length_cons]
    have := dec_len19 n.natAbs (by omega)
    omega
  · rw [dec_lib _ _ (Nat.le_refl _)]
    have := dec_len19 n.toNat (by omega)
    omega
theorem spec_itoa (n : Int) (h0 : -9223372036854775808 ≤ n) (h1 : n ≤ 9223372036854775807) : spec (Lib.itoa n) = if 0 ≤ n ∧ n < 2147483648 then (n, true) else (0, false) := by
  unfold Lib.itoa
  by_cases hn : n < 0
  · rw [if_pos hn, if_neg (by omega)]
    exact spec_no (okc_digit (by simp [isD]))
  · obtain ⟨m, rfl⟩ : ∃ m : Nat, n = (m : Int) := ⟨n.toNat, by omega⟩
    rw [if_neg hn, dec_lib _ _ (Nat.le_refl _), Int.toNat_natCast]
    have hp := pv_dec m m (Nat.le_refl _)
    by_cases hg : m < 2147483648
    · rw [if_pos ⟨by omega, by omega⟩]
      have q := cnt_dec hg
      have q2 := cnt_spec (dec m) [] rfl (by decide) (Or.inl (by simp))
      rw [List.nil_append] at q2
      rw [S_size] at q
      exact q2.symm.trans q
    · rw [if_neg (by omega)]
      exact spec_no (okc_great (by omega))
theorem ManifestCounts (a0 : ByteArray) (_ : a0.size ≤ 140737488351232) (a1 : Int) (w1 : (Lit.int .i64 a1).wf = true) : ∃ k, tinderboxlaw20_ManifestCounts.f k a0 a1 = some true := by
  obtain ⟨t, ht, hs⟩ := few_f a0
  obtain ⟨l, hl⟩ : ∃ l, t = S l := ⟨t.data.toList, (S_of t).symm⟩
  subst hl
  rw [S_size] at hs
  have hb : -9223372036854775808 ≤ a1 ∧ a1 ≤ 9223372036854775807 := by
    simp [Lit.wf, IntKind.min, IntKind.max, IntKind.bits, IntKind.signed] at w1
    omega
  have c1 := count_f l (by omega)
  have c2 : tinderboxref20_Count.f 400 (S l) = some (spec l) := rcount_f l (by omega) 380
  have d : manifest_Digits.f 400 a1 = some (S (Lib.itoa a1)) := digits_int a1 hb.1 hb.2 361
  have c3 := count_f (Lib.itoa a1) (Nat.le_trans (itoa_len a1 hb.1 hb.2) (by decide))
  rw [spec_itoa a1 hb.1 hb.2] at c3
  obtain ⟨c, hc⟩ : ∃ c, (if 0 ≤ a1 ∧ a1 < 2147483648 then (a1, true) else ((0 : Int), false)) = c := ⟨_, rfl⟩
  rw [hc] at c3
  have it : strconv_Itoa_28.f a1 = some (S (Lib.itoa a1)) := if_pos hb
  refine ⟨400, ?_⟩
  unfold tinderboxlaw20_ManifestCounts.f
  rw [ht, Option.bind_some, c1, Option.bind_some, c2, Option.bind_some, d, Option.bind_some, c3, Option.bind_some, awake_f, Option.bind_some, if_pos rfl, if_pos (by simp), if_pos rfl, Option.bind_some, it, Option.bind_some, if_pos rfl]
  by_cases h0 : 0 ≤ a1
  · rw [if_pos (by show a1 ≥ 0; exact h0)]
    by_cases h1 : a1 < 2147483648
    · rw [if_pos ⟨h0, h1⟩] at hc
      subst hc
      rw [decide_eq_true h1]
      simp
    · rw [if_neg (fun h => h1 h.2)] at hc
      subst hc
      rw [decide_eq_false h1]
      simp
  · rw [if_neg (fun h => h0 h.1)] at hc
    subst hc
    rw [if_neg (by show ¬ a1 ≥ 0; exact h0)]
    simp
end Go.Proofs.YtjmabdgebhndhaaDoor.Pure
