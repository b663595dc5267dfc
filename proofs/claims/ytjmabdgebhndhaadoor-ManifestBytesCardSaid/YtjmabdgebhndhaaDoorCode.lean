/- Plain mathematics, with no program in it. -/
set_option linter.unusedVariables false
set_option linter.unusedSimpArgs false
namespace Go.Proofs.YtjmabdgebhndhaaDoor.Cd
/-- a number's bytes, the lowest first -/
def le : Nat → Nat → List Nat
  | 0, _ => []
  | f + 1, n => if n = 0 then [] else n % 256 :: le f (n / 256)
def val : List Nat → Nat
  | [] => 0
  | b :: l => b + 256 * val l
def num (n : Nat) : List Nat := (le 9 n).length :: le 9 n
theorem le_zero : ∀ f, le f 0 = []
  | 0 => rfl
  | f + 1 => by unfold le; rw [if_pos rfl]
theorem val_le : ∀ f n, n < 256 ^ f → val (le f n) = n
  | 0, n, h => by
    have : n = 0 := by simpa using h
    subst this; rfl
  | f + 1, n, h => by
    unfold le
    split
    · rename_i e; rw [e]; rfl
    · show n % 256 + 256 * val (le f (n / 256)) = n
      rw [val_le f (n / 256) (by rw [Nat.pow_succ] at h; omega)]
      omega
theorem le_by : ∀ f n, ∀ x ∈ le f n, x < 256
  | 0, _ => fun x hx => by cases hx
  | f + 1, n => fun x hx => by
    unfold le at hx
    split at hx
    · cases hx
    · rcases List.mem_cons.1 hx with h | h
      · omega
      · exact le_by f _ x h
theorem le_len : ∀ f k n, n < 256 ^ k → (le f n).length ≤ k
  | 0, _, _, _ => Nat.zero_le _
  | f + 1, k, n, h => by
    unfold le
    split
    · exact Nat.zero_le _
    · cases k with
      | zero => exfalso; simp at h; omega
      | succ k =>
        rw [List.length_cons]
        have := le_len f k (n / 256) (by rw [Nat.pow_succ] at h; omega)
        omega
theorem le_len8 {n : Nat} (h : n < 18446744073709551616) : (le 9 n).length ≤ 8 := le_len 9 8 n h
/-- no nought at the end -/
def Top (l : List Nat) : Prop := l = [] ∨ l.getD (l.length - 1) 0 ≠ 0
theorem le_top : ∀ f n, n < 256 ^ f → Top (le f n)
  | 0, _, _ => .inl rfl
  | f + 1, n, h => by
    unfold le
    split
    · exact .inl rfl
    · rename_i h0
      right
      have hh : n / 256 < 256 ^ f := by rw [Nat.pow_succ] at h; omega
      rcases le_top f (n / 256) hh with e | e
      · have h2 := val_le f (n / 256) hh
        rw [e] at h2
        rw [e]
        show n % 256 ≠ 0
        have : n / 256 = 0 := h2.symm
        omega
      · rw [List.length_cons, Nat.add_sub_cancel]
        cases hl : le f (n / 256) with
        | nil =>
          rw [hl] at e
          exact absurd rfl e
        | cons b l =>
          rw [hl] at e
          show (n % 256 :: b :: l).getD (b :: l).length 0 ≠ 0
          rw [List.length_cons, Nat.add_sub_cancel] at e
          exact e
theorem val_ne : ∀ (l : List Nat), l ≠ [] → Top l → val l ≠ 0
  | [], h, _ => absurd rfl h
  | [b], _, ht => by
    rcases ht with h | h
    · cases h
    · show b + 256 * 0 ≠ 0
      have : b ≠ 0 := h
      omega
  | b :: c :: l, _, ht => by
    have ht' : Top (c :: l) := by
      rcases ht with h | h
      · cases h
      · right; exact h
    have := val_ne (c :: l) (by simp) ht'
    show b + 256 * val (c :: l) ≠ 0
    omega
theorem le_val : ∀ (f : Nat) (l : List Nat), (∀ x ∈ l, x < 256) → l.length ≤ f → Top l → le f (val l) = l
  | 0, l, _, hl, _ => by
    have : l = [] := List.eq_nil_of_length_eq_zero (by omega)
    subst this; rfl
  | f + 1, [], _, _, _ => le_zero (f + 1)
  | f + 1, b :: l, hb, hl, ht => by
    have h0 := val_ne (b :: l) (by simp) ht
    have hb0 := hb b List.mem_cons_self
    have e1 : val (b :: l) % 256 = b := by show (b + 256 * val l) % 256 = b; omega
    have e2 : val (b :: l) / 256 = val l := by show (b + 256 * val l) / 256 = val l; omega
    unfold le
    rw [if_neg h0, e1, e2]
    congr 1
    refine le_val f l (fun x hx => hb x (List.mem_cons_of_mem _ hx)) (by rw [List.length_cons] at hl; omega) ?_
    cases l with
    | nil => exact .inl rfl
    | cons c l =>
      right
      rcases ht with h | h
      · cases h
      · exact h
theorem val_lt : ∀ (l : List Nat), (∀ x ∈ l, x < 256) → val l < 256 ^ l.length
  | [], _ => by decide
  | b :: l, h => by
    have h1 := val_lt l (fun x hx => h x (List.mem_cons_of_mem _ hx))
    have h2 := h b List.mem_cons_self
    show b + 256 * val l < 256 ^ (l.length + 1)
    rw [Nat.pow_succ]
    omega
theorem val_lt64 {l : List Nat} (h : ∀ x ∈ l, x < 256) (hl : l.length ≤ 8) : val l < 18446744073709551616 := by
  have h1 := val_lt l h
  have h2 : 256 ^ l.length ≤ 256 ^ 8 := Nat.pow_le_pow_right (by decide) hl
  have h3 : (256 : Nat) ^ 8 = 18446744073709551616 := by decide
  omega
theorem num_by {n : Nat} (h : n < 18446744073709551616) : ∀ x ∈ num n, x < 256 := by
  intro x hx
  rcases List.mem_cons.1 hx with e | e
  · have := le_len8 h; omega
  · exact le_by 9 n x e
theorem num_len {n : Nat} (h : n < 18446744073709551616) : (num n).length ≤ 9 := by
  unfold num; rw [List.length_cons]; have := le_len8 h; omega
theorem num_inj {n m : Nat} (hn : n < 18446744073709551616) (hm : m < 18446744073709551616) (h : num n = num m) : n = m := by
  have h1 := (List.cons.inj h).2
  have a := val_le 9 n (Nat.lt_of_lt_of_le hn (by decide))
  have b := val_le 9 m (Nat.lt_of_lt_of_le hm (by decide))
  rw [← a, ← b, h1]
/-! the reader: what is left, and the first error (0: none) -/
def rbytes (l : List Nat) (e : Nat) (n : Int) : List Nat × List Nat × Nat :=
  if e ≠ 0 then ([], l, e) else if n < 0 ∨ n > (l.length : Int) then ([], [], 2) else (l.take n.toNat, l.drop n.toNat, 0)
def rnum (l : List Nat) (e most : Nat) : Nat × List Nat × Nat :=
  if e ≠ 0 then (0, l, e) else
  match l with
  | [] => (0, [], 2)
  | c :: r => if c > 8 then (0, [], 3) else if c > r.length then (0, [], 2) else
    if c ≠ 0 ∧ r.getD (c - 1) 0 = 0 then (0, [], 3) else if val (r.take c) > most then (0, [], 5) else (val (r.take c), r.drop c, 0)
def rtext (l : List Nat) (e most : Nat) : List Nat × List Nat × Nat := rbytes (rnum l e most).2.1 (rnum l e most).2.2 (((rnum l e most).1 : Nat) : Int)
def rend (l : List Nat) (e : Nat) : Nat := if e = 0 ∧ l ≠ [] then 4 else e
theorem rnum_err {l : List Nat} {e most : Nat} (h : e ≠ 0) : rnum l e most = (0, l, e) := by unfold rnum; rw [if_pos h]
theorem rbytes_err {l : List Nat} {e : Nat} {n : Int} (h : e ≠ 0) : rbytes l e n = ([], l, e) := by unfold rbytes; rw [if_pos h]
theorem getD_take {l : List Nat} {n i : Nat} (h : i < n) : (l.take n).getD i 0 = l.getD i 0 := by
  simp only [List.getD_eq_getElem?_getD, List.getElem?_take]
  rw [if_pos h]
theorem rnum_num {n most : Nat} (hn : n < 18446744073709551616) (r : List Nat) : rnum (num n ++ r) 0 most = if n > most then (0, [], 5) else (n, r, 0) := by
  have h1 := le_len8 hn
  have hlt : n < 256 ^ 9 := Nat.lt_of_lt_of_le hn (by decide)
  have ht : (le 9 n ++ r).take (le 9 n).length = le 9 n := List.take_left
  have hd : (le 9 n ++ r).drop (le 9 n).length = r := List.drop_left
  have hv := val_le 9 n hlt
  have hz : ¬ ((le 9 n).length ≠ 0 ∧ (le 9 n ++ r).getD ((le 9 n).length - 1) 0 = 0) := by
    rintro ⟨h0, he⟩
    rcases le_top 9 n hlt with h | h
    · rw [h] at h0; exact h0 rfl
    · rw [← getD_take (n := (le 9 n).length) (by omega), ht] at he
      exact h he
  unfold rnum num
  rw [if_neg (by simp)]
  simp only [List.cons_append]
  rw [if_neg (by omega), if_neg (by rw [List.length_append]; omega), if_neg hz, ht, hd, hv]
/-- What is read has just the bytes of it. -/
theorem num_rnum {l r : List Nat} {n most : Nat} (hb : ∀ x ∈ l, x < 256) (h : rnum l 0 most = (n, r, 0)) : l = num n ++ r ∧ n ≤ most ∧ n < 18446744073709551616 := by
  unfold rnum at h
  rw [if_neg (by simp)] at h
  cases l with
  | nil => simp at h
  | cons c s =>
    simp only at h
    by_cases h1 : c > 8
    · rw [if_pos h1] at h; simp at h
    rw [if_neg h1] at h
    by_cases h2 : c > s.length
    · rw [if_pos h2] at h; simp at h
    rw [if_neg h2] at h
    by_cases h3 : c ≠ 0 ∧ s.getD (c - 1) 0 = 0
    · rw [if_pos h3] at h; simp at h
    rw [if_neg h3] at h
    by_cases h4 : val (s.take c) > most
    · rw [if_pos h4] at h; simp at h
    rw [if_neg h4] at h
    simp only [Prod.mk.injEq, and_true] at h
    obtain ⟨rfl, rfl⟩ := h
    have hb' : ∀ x ∈ s.take c, x < 256 := fun x hx => hb x (List.mem_cons_of_mem _ (List.mem_of_mem_take hx))
    have hl : (s.take c).length = c := by rw [List.length_take]; omega
    have ht : Top (s.take c) := by
      by_cases h0 : c = 0
      · left; rw [h0]; rfl
      · right
        rw [hl, getD_take (by omega)]
        intro h'
        exact h3 ⟨h0, h'⟩
    have hv := val_lt64 hb' (by omega)
    have e := le_val 9 (s.take c) hb' (by omega) ht
    refine ⟨?_, by omega, hv⟩
    unfold num
    rw [e, hl, List.cons_append, List.take_append_drop]
theorem rnum_zero {l r : List Nat} {n most e : Nat} (h : rnum l 0 most = (n, r, e)) (he : e ≠ 0) : n = 0 ∧ r = [] := by
  unfold rnum at h
  rw [if_neg (by simp)] at h
  cases l with
  | nil => simp at h; exact ⟨h.1.symm, h.2.1⟩
  | cons c s =>
    simp only at h
    by_cases h1 : c > 8
    · rw [if_pos h1] at h; simp at h; exact ⟨h.1.symm, h.2.1⟩
    rw [if_neg h1] at h
    by_cases h2 : c > s.length
    · rw [if_pos h2] at h; simp at h; exact ⟨h.1.symm, h.2.1⟩
    rw [if_neg h2] at h
    by_cases h3 : c ≠ 0 ∧ s.getD (c - 1) 0 = 0
    · rw [if_pos h3] at h; simp at h; exact ⟨h.1.symm, h.2.1⟩
    rw [if_neg h3] at h
    by_cases h4 : val (s.take c) > most
    · rw [if_pos h4] at h; simp at h; exact ⟨h.1.symm, h.2.1⟩
    rw [if_neg h4] at h
    simp only [Prod.mk.injEq] at h
    exact absurd h.2.2.symm he
theorem rnum_len {l r : List Nat} {n most e e' : Nat} (h : rnum l e most = (n, r, e')) : r.length ≤ l.length := by
  unfold rnum at h
  split at h
  · simp at h; rw [h.2.1]; exact Nat.le_refl _
  cases l with
  | nil => simp at h; rw [← h.2.1]; exact Nat.le_refl _
  | cons c s =>
    simp only at h
    by_cases h1 : c > 8
    · rw [if_pos h1] at h; simp at h; rw [h.2.1]; exact Nat.zero_le _
    rw [if_neg h1] at h
    by_cases h2 : c > s.length
    · rw [if_pos h2] at h; simp at h; rw [h.2.1]; exact Nat.zero_le _
    rw [if_neg h2] at h
    by_cases h3 : c ≠ 0 ∧ s.getD (c - 1) 0 = 0
    · rw [if_pos h3] at h; simp at h; rw [h.2.1]; exact Nat.zero_le _
    rw [if_neg h3] at h
    by_cases h4 : val (s.take c) > most
    · rw [if_pos h4] at h; simp at h; rw [h.2.1]; exact Nat.zero_le _
    rw [if_neg h4] at h
    simp only [Prod.mk.injEq] at h
    rw [← h.2.1, List.length_drop, List.length_cons]
    omega
end Go.Proofs.YtjmabdgebhndhaaDoor.Cd
