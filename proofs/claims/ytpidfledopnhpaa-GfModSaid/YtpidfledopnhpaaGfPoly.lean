/- Plain mathematics, with no program in it. -/
import Derived.Test.YtpidfledopnhpaaGf
set_option linter.unusedVariables false
set_option linter.unusedSimpArgs false
namespace Go.Proofs.Ytpidfledopnhpaa.Gm
/-! sums -/
def xs : Nat → (Nat → Nat) → Nat
  | 0, _ => 0
  | n + 1, f => xs n f ^^^ f n
theorem xs_congr {f g : Nat → Nat} : ∀ n, (∀ i, i < n → f i = g i) → xs n f = xs n g
  | 0, _ => rfl
  | n + 1, h => by unfold xs; rw [xs_congr n (fun i hi => h i (by omega)), h n (by omega)]
theorem xs_xor (f g : Nat → Nat) : ∀ n, xs n (fun i => f i ^^^ g i) = xs n f ^^^ xs n g
  | 0 => (Nat.xor_self 0).symm
  | n + 1 => by unfold xs; rw [xs_xor f g n, xor4]
theorem xs_lt {f : Nat → Nat} : ∀ n, (∀ i, i < n → f i < 256) → xs n f < 256
  | 0, _ => by unfold xs; decide
  | n + 1, h => by unfold xs; exact xor_lt8 (xs_lt n (fun i hi => h i (by omega))) (h n (by omega))
theorem xs_zero {f : Nat → Nat} : ∀ n, (∀ i, i < n → f i = 0) → xs n f = 0
  | 0, _ => rfl
  | n + 1, h => by unfold xs; rw [xs_zero n (fun i hi => h i (by omega)), h n (by omega), Nat.xor_self]
theorem xs_one {f : Nat → Nat} {j : Nat} : ∀ n, j < n → (∀ i, i < n → i ≠ j → f i = 0) → xs n f = f j
  | 0, hj, _ => by omega
  | n + 1, hj, h => by
    unfold xs
    by_cases e : j = n
    · subst e
      rw [xs_zero j (fun i hi => h i (by omega) (by omega)), Nat.zero_xor]
    · rw [xs_one n (by omega) (fun i hi => h i (by omega)), h n (by omega) (fun e' => e e'.symm), Nat.xor_zero]
theorem xs_gm_l {f : Nat → Nat} (c : Nat) : ∀ n, (∀ i, i < n → f i < 256) → gm (xs n f) c = xs n (fun i => gm (f i) c)
  | 0, _ => by unfold xs; exact gm_zero_l c
  | n + 1, h => by
    unfold xs
    rw [gm_xor_l _ (xs_lt n (fun i hi => h i (by omega))) (h n (by omega)), xs_gm_l c n (fun i hi => h i (by omega))]
theorem xs_gm_r {f : Nat → Nat} (c : Nat) : ∀ n, gm c (xs n f) = xs n (fun i => gm c (f i))
  | 0 => by unfold xs; exact gm_zero_r c
  | n + 1 => by unfold xs; rw [gm_xor_r, xs_gm_r c n]
theorem xs_swap (f : Nat → Nat → Nat) (m : Nat) : ∀ n, xs n (fun i => xs m (fun j => f i j)) = xs m (fun j => xs n (fun i => f i j))
  | 0 => (xs_zero m (fun _ _ => rfl)).symm
  | n + 1 => by
    show xs n (fun i => xs m (fun j => f i j)) ^^^ xs m (fun j => f n j) = xs m (fun j => xs n (fun i => f i j) ^^^ f n j)
    rw [xs_xor, xs_swap f m n]
theorem xs_ext {f : Nat → Nat} {n : Nat} : ∀ d, (∀ i, n ≤ i → i < n + d → f i = 0) → xs (n + d) f = xs n f
  | 0, _ => rfl
  | d + 1, h => by
    show xs (n + d) f ^^^ f (n + d) = xs n f
    rw [xs_ext d (fun i h1 h2 => h i h1 (by omega)), h (n + d) (by omega) (by omega), Nat.xor_zero]
theorem xs_shift (f : Nat → Nat) : ∀ n, xs (n + 1) f = f 0 ^^^ xs n (fun i => f (i + 1))
  | 0 => by show 0 ^^^ f 0 = f 0 ^^^ 0; rw [Nat.zero_xor, Nat.xor_zero]
  | n + 1 => by
    show xs (n + 1) f ^^^ f (n + 1) = f 0 ^^^ (xs n (fun i => f (i + 1)) ^^^ f (n + 1))
    rw [xs_shift f n, Nat.xor_assoc]

/-! polynomials: lists of bytes, that of the power 0 first -/
def co (l : List Nat) (i : Nat) : Nat := l.getD i 0
def By (l : List Nat) : Prop := ∀ x ∈ l, x < 256
theorem co_at {l : List Nat} {i : Nat} (h : i < l.length) : co l i = l[i] := by
  unfold co; rw [List.getD_eq_getElem?_getD, List.getElem?_eq_getElem h]; rfl
theorem co_out {l : List Nat} {i : Nat} (h : l.length ≤ i) : co l i = 0 := by
  unfold co; rw [List.getD_eq_getElem?_getD, List.getElem?_eq_none h]; rfl
theorem co_lt {l : List Nat} (h : By l) (i : Nat) : co l i < 256 := by
  by_cases hi : i < l.length
  · rw [co_at hi]; exact h _ (List.getElem_mem hi)
  · rw [co_out (by omega)]; decide
theorem by_of_co {l : List Nat} (h : ∀ i, co l i < 256) : By l := by
  intro x hx
  obtain ⟨i, hi, rfl⟩ := List.mem_iff_getElem.1 hx
  have := h i
  rwa [co_at hi] at this
theorem ext_co {l m : List Nat} (hl : l.length = m.length) (h : ∀ i, i < l.length → co l i = co m i) : l = m := by
  apply List.ext_getElem hl
  intro i h1 h2
  have := h i h1
  rwa [co_at h1, co_at h2] at this
def mkL (n : Nat) (f : Nat → Nat) : List Nat := (List.range n).map f
theorem mkL_len (n : Nat) (f : Nat → Nat) : (mkL n f).length = n := by unfold mkL; simp
theorem co_mkL (n : Nat) (f : Nat → Nat) (i : Nat) : co (mkL n f) i = if i < n then f i else 0 := by
  by_cases h : i < n
  · rw [if_pos h, co_at (by rw [mkL_len]; exact h)]; unfold mkL; simp
  · rw [if_neg h, co_out (by rw [mkL_len]; omega)]
/-- how many are left without the noughts at the end -/
def tl (l : List Nat) : Nat → Nat
  | 0 => 0
  | n + 1 => if co l n = 0 then tl l n else n + 1
def tlen (l : List Nat) : Nat := tl l l.length
def trim (l : List Nat) : List Nat := l.take (tlen l)
theorem tl_le (l : List Nat) : ∀ n, tl l n ≤ n
  | 0 => Nat.le_refl _
  | n + 1 => by unfold tl; split; exact Nat.le_succ_of_le (tl_le l n); exact Nat.le_refl _
theorem tl_top (l : List Nat) : ∀ n, tl l n ≠ 0 → co l (tl l n - 1) ≠ 0
  | 0, h => absurd rfl h
  | n + 1, h => by
    unfold tl at h ⊢
    by_cases e : co l n = 0
    · rw [if_pos e] at h ⊢; exact tl_top l n h
    · rw [if_neg e]; exact e
theorem tl_out (l : List Nat) : ∀ n i, tl l n ≤ i → i < n → co l i = 0
  | 0, i, _, h => by omega
  | n + 1, i, h, hi => by
    unfold tl at h
    by_cases e : co l n = 0
    · rw [if_pos e] at h
      by_cases e2 : i = n
      · rw [e2]; exact e
      · exact tl_out l n i h (by omega)
    · rw [if_neg e] at h; omega
theorem tlen_le (l : List Nat) : tlen l ≤ l.length := tl_le l _
theorem tlen_top {l : List Nat} (h : tlen l ≠ 0) : co l (tlen l - 1) ≠ 0 := tl_top l _ h
theorem tlen_out {l : List Nat} {i : Nat} (h : tlen l ≤ i) : co l i = 0 := by
  by_cases hi : i < l.length
  · exact tl_out l _ i h hi
  · exact co_out (by omega)
theorem trim_len (l : List Nat) : (trim l).length = tlen l := by unfold trim; rw [List.length_take]; have := tlen_le l; omega
theorem co_take (l : List Nat) (n i : Nat) : co (l.take n) i = if i < n then co l i else 0 := by
  unfold co
  simp only [List.getD_eq_getElem?_getD, List.getElem?_take]
  split <;> rfl
theorem co_trim (l : List Nat) (i : Nat) : co (trim l) i = co l i := by
  unfold trim
  rw [co_take]
  split
  · rfl
  · rw [tlen_out (by omega)]
theorem tlen_le_of {l : List Nat} {n : Nat} (h : ∀ i, n ≤ i → co l i = 0) : tlen l ≤ n := by
  by_cases e : tlen l = 0
  · omega
  · have h1 := tlen_top e
    by_cases h2 : tlen l ≤ n
    · exact h2
    · exact absurd (h (tlen l - 1) (by omega)) h1
theorem lt_tlen_of {l : List Nat} {n : Nat} (h : co l n ≠ 0) : n < tlen l := by
  by_cases e : n < tlen l
  · exact e
  · exact absurd (tlen_out (by omega)) h
theorem tlen_eq {l : List Nat} {n : Nat} (h : co l n ≠ 0) (h' : ∀ i, n + 1 ≤ i → co l i = 0) : tlen l = n + 1 := by
  have := lt_tlen_of h; have := tlen_le_of h'; omega
theorem tlen_ext {l m : List Nat} (h : ∀ i, co l i = co m i) : tlen l = tlen m := by
  have h1 : tlen l ≤ tlen m := tlen_le_of (fun i hi => by rw [h i]; exact tlen_out hi)
  have h2 : tlen m ≤ tlen l := tlen_le_of (fun i hi => by rw [← h i]; exact tlen_out hi)
  omega
theorem trim_ext {l m : List Nat} (h : ∀ i, co l i = co m i) : trim l = trim m := by
  apply ext_co
  · rw [trim_len, trim_len, tlen_ext h]
  · intro i _; rw [co_trim, co_trim, h]
theorem tlen_trim (l : List Nat) : tlen (trim l) = tlen l := tlen_ext (co_trim l)
theorem by_trim {l : List Nat} (h : By l) : By (trim l) := by_of_co (fun i => by rw [co_trim]; exact co_lt h i)
theorem trim_top {l : List Nat} (h : (trim l).length ≠ 0) : co (trim l) ((trim l).length - 1) ≠ 0 := by
  rw [trim_len] at h ⊢; rw [co_trim]; exact tlen_top h
def add (p q : List Nat) : List Nat := trim (mkL (max p.length q.length) (fun i => co p i ^^^ co q i))
theorem co_add (p q : List Nat) (i : Nat) : co (add p q) i = co p i ^^^ co q i := by
  unfold add
  rw [co_trim, co_mkL]
  split
  · rfl
  · rw [co_out (by omega), co_out (by omega), Nat.xor_self]
theorem by_add {p q : List Nat} (hp : By p) (hq : By q) : By (add p q) := by_of_co (fun i => by rw [co_add]; exact xor_lt8 (co_lt hp i) (co_lt hq i))
def times (p : List Nat) (a : Nat) : List Nat := trim (mkL p.length (fun i => gm a (co p i)))
theorem co_times (p : List Nat) (a i : Nat) : co (times p a) i = gm a (co p i) := by
  unfold times
  rw [co_trim, co_mkL]
  split
  · rfl
  · rw [co_out (by omega), gm_zero_r]
theorem by_times {p : List Nat} {a : Nat} (ha : a < 256) : By (times p a) := by_of_co (fun i => by rw [co_times]; exact gm_lt ha)
def shift (p : List Nat) (n : Nat) : List Nat := trim (mkL (n + p.length) (fun i => if i < n then 0 else co p (i - n)))
theorem co_shift (p : List Nat) (n i : Nat) : co (shift p n) i = if i < n then 0 else co p (i - n) := by
  unfold shift
  rw [co_trim, co_mkL]
  by_cases h : i < n
  · rw [if_pos h, if_pos (by omega)]
  · rw [if_neg h]
    split
    · rfl
    · rw [co_out (by omega)]
theorem by_shift {p : List Nat} (h : By p) (n : Nat) : By (shift p n) := by_of_co (fun i => by rw [co_shift]; split; decide; exact co_lt h _)
/-- a product's k-th number -/
def pr (p q : List Nat) (k : Nat) : Nat := xs p.length (fun i => xs q.length (fun j => if i + j = k then gm (co p i) (co q j) else 0))
def mul (p q : List Nat) : List Nat := trim (mkL (p.length + q.length) (pr p q))
theorem pr_out {p q : List Nat} {k : Nat} (h : p.length + q.length ≤ k) : pr p q k = 0 := by
  unfold pr
  refine xs_zero _ (fun i hi => xs_zero _ (fun j hj => if_neg (by omega)))
theorem co_mul (p q : List Nat) (k : Nat) : co (mul p q) k = pr p q k := by
  unfold mul
  rw [co_trim, co_mkL]
  split
  · rfl
  · rw [pr_out (by omega)]
theorem pr_lt {p : List Nat} (hp : By p) (q : List Nat) (k : Nat) : pr p q k < 256 := by
  unfold pr
  refine xs_lt _ (fun i _ => xs_lt _ (fun j _ => ?_))
  split
  · exact gm_lt (co_lt hp i)
  · decide
theorem by_mul {p q : List Nat} (hp : By p) : By (mul p q) := by_of_co (fun i => by rw [co_mul]; exact pr_lt hp q i)
theorem gm_eq_zero {a b : Nat} (ha : a < 256) (hb : b < 256) (h : gm a b = 0) : a = 0 ∨ b = 0 := by
  by_cases h1 : a = 0
  · exact .inl h1
  · by_cases h2 : b = 0
    · exact .inr h2
    · exact absurd h (gm_ne h1 h2 ha hb)
theorem pr_zero_l {p q : List Nat} (h : tlen p = 0) (k : Nat) : pr p q k = 0 := by
  unfold pr
  refine xs_zero _ (fun i _ => xs_zero _ (fun j _ => ?_))
  split
  · rw [tlen_out (by omega), gm_zero_l]
  · rfl
theorem pr_zero_r {p q : List Nat} (h : tlen q = 0) (k : Nat) : pr p q k = 0 := by
  unfold pr
  refine xs_zero _ (fun i _ => xs_zero _ (fun j _ => ?_))
  split
  · rw [tlen_out (l := q) (by omega), gm_zero_r]
  · rfl
theorem pr_top {p q : List Nat} {a b : Nat} (ha : tlen p = a + 1) (hb : tlen q = b + 1) : pr p q (a + b) = gm (co p a) (co q b) := by
  have h1 := tlen_le p
  have h2 := tlen_le q
  unfold pr
  rw [xs_one (j := a) _ (by omega) (fun i hi hne => ?_)]
  · rw [xs_one (j := b) _ (by omega) (fun j hj hne => if_neg (by omega)), if_pos rfl]
  · refine xs_zero _ (fun j hj => ?_)
    split
    · by_cases h : a < i
      · rw [tlen_out (l := p) (by omega), gm_zero_l]
      · rw [tlen_out (l := q) (by omega), gm_zero_r]
    · rfl
theorem pr_over {p q : List Nat} {a b k : Nat} (ha : tlen p = a + 1) (hb : tlen q = b + 1) (hk : a + b < k) : pr p q k = 0 := by
  unfold pr
  refine xs_zero _ (fun i _ => xs_zero _ (fun j _ => ?_))
  split
  · by_cases h : a < i
    · rw [tlen_out (l := p) (by omega), gm_zero_l]
    · rw [tlen_out (l := q) (by omega), gm_zero_r]
  · rfl
theorem tlen_mul {p q : List Nat} (hp : By p) (hq : By q) {a b : Nat} (ha : tlen p = a + 1) (hb : tlen q = b + 1) : tlen (mul p q) = a + b + 1 := by
  refine tlen_eq ?_ (fun i hi => ?_)
  · rw [co_mul, pr_top ha hb]
    have h1 := tlen_top (l := p) (by omega)
    have h2 := tlen_top (l := q) (by omega)
    rw [ha] at h1
    rw [hb] at h2
    exact gm_ne h1 h2 (co_lt hp _) (co_lt hq _)
  · rw [co_mul, pr_over ha hb (by omega)]
theorem tlen_mul_zero {p q : List Nat} (h : tlen p = 0 ∨ tlen q = 0) : tlen (mul p q) = 0 := by
  have := tlen_le_of (l := mul p q) (n := 0) (fun i _ => by rw [co_mul]; rcases h with h | h; exact pr_zero_l h i; exact pr_zero_r h i)
  omega
/-! the number at a number -/
def ev (p : List Nat) (x : Nat) : Nat := xs p.length (fun i => gm (co p i) (gp x i))
theorem ev_long (p : List Nat) (x : Nat) {n : Nat} (h : p.length ≤ n) : xs n (fun i => gm (co p i) (gp x i)) = ev p x := by
  obtain ⟨d, rfl⟩ : ∃ d, n = p.length + d := ⟨n - p.length, by omega⟩
  exact xs_ext d (fun i h1 _ => by rw [co_out h1, gm_zero_l])
theorem ev_ext {p q : List Nat} (x : Nat) (h : ∀ i, co p i = co q i) : ev p x = ev q x := by
  rw [← ev_long p x (Nat.le_max_left p.length q.length), ← ev_long q x (Nat.le_max_right p.length q.length)]
  exact xs_congr _ (fun i _ => by rw [h])
theorem ev_trim (p : List Nat) (x : Nat) : ev (trim p) x = ev p x := ev_ext x (co_trim p)
theorem ev_lt {p : List Nat} (hp : By p) (x : Nat) : ev p x < 256 := xs_lt _ (fun i _ => gm_lt (co_lt hp i))
theorem ev_add {p q : List Nat} (hp : By p) (hq : By q) (x : Nat) : ev (add p q) x = ev p x ^^^ ev q x := by
  have h1 : (add p q).length ≤ max p.length q.length := by
    unfold add
    rw [trim_len]
    refine Nat.le_trans (tlen_le _) ?_
    rw [mkL_len]
    exact Nat.le_refl _
  rw [← ev_long (add p q) x h1, ← ev_long p x (Nat.le_max_left p.length q.length), ← ev_long q x (Nat.le_max_right p.length q.length), ← xs_xor]
  exact xs_congr _ (fun i _ => by rw [co_add, gm_xor_l _ (co_lt hp i) (co_lt hq i)])
theorem ev_times {p : List Nat} (hp : By p) {a x : Nat} (ha : a < 256) (hx : x < 256) : ev (times p a) x = gm (ev p x) a := by
  have h1 : (times p a).length ≤ p.length := by
    unfold times
    rw [trim_len]
    refine Nat.le_trans (tlen_le _) ?_
    rw [mkL_len]
    exact Nat.le_refl _
  rw [← ev_long (times p a) x h1]
  unfold ev
  rw [xs_gm_l a _ (fun i _ => gm_lt (co_lt hp i))]
  refine xs_congr _ (fun i _ => ?_)
  rw [co_times, gm_comm ha (co_lt hp i), gm_assoc (co_lt hp i) ha (gp_lt hx i), gm_comm ha (gp_lt hx i), gm_assoc (co_lt hp i) (gp_lt hx i) ha]
theorem ev_shift {p : List Nat} (hp : By p) {x : Nat} (n : Nat) (hx : x < 256) : ev (shift p n) x = gm (ev p x) (gp x n) := by
  have h1 : (shift p n).length ≤ n + p.length := by
    unfold shift
    rw [trim_len]
    refine Nat.le_trans (tlen_le _) ?_
    rw [mkL_len]
    exact Nat.le_refl _
  rw [← ev_long (shift p n) x h1]
  have key : ∀ m, xs (n + m) (fun i => gm (co (shift p n) i) (gp x i)) = gm (xs m (fun i => gm (co p i) (gp x i))) (gp x n) := by
    intro m
    induction m with
    | zero =>
      show _ = gm 0 (gp x n)
      rw [gm_zero_l]
      exact xs_zero _ (fun i hi => by rw [co_shift, if_pos (by omega), gm_zero_l])
    | succ m ih =>
      show xs (n + m) (fun i => gm (co (shift p n) i) (gp x i)) ^^^ gm (co (shift p n) (n + m)) (gp x (n + m)) = gm (xs m (fun i => gm (co p i) (gp x i)) ^^^ gm (co p m) (gp x m)) (gp x n)
      rw [ih, gm_xor_l _ (xs_lt _ (fun i _ => gm_lt (co_lt hp i))) (gm_lt (co_lt hp m)), co_shift, if_neg (by omega), Nat.add_sub_cancel_left, gm_assoc (co_lt hp m) (gp_lt hx m) (gp_lt hx n), ← gp_add hx, Nat.add_comm m n]
  exact key p.length
theorem pr_gm {p : List Nat} (hp : By p) (q : List Nat) (k c : Nat) : gm (pr p q k) c = xs p.length (fun i => xs q.length (fun j => if i + j = k then gm (gm (co p i) (co q j)) c else 0)) := by
  have hc : ∀ i j, (if i + j = k then gm (co p i) (co q j) else 0) < 256 := fun i j => by
    split
    · exact gm_lt (co_lt hp i)
    · decide
  have hb : ∀ i, xs q.length (fun j => if i + j = k then gm (co p i) (co q j) else 0) < 256 := fun i => xs_lt _ (fun j _ => hc i j)
  have h1 := xs_gm_l (f := fun i => xs q.length (fun j => if i + j = k then gm (co p i) (co q j) else 0)) c p.length (fun i _ => hb i)
  refine Eq.trans h1 (xs_congr _ (fun i _ => ?_))
  have h2 := xs_gm_l (f := fun j => if i + j = k then gm (co p i) (co q j) else 0) c q.length (fun j _ => hc i j)
  refine Eq.trans h2 (xs_congr _ (fun j _ => ?_))
  show gm (if i + j = k then gm (co p i) (co q j) else 0) c = _
  split
  · rfl
  · exact gm_zero_l c
theorem mix {a b u v : Nat} (ha : a < 256) (hb : b < 256) (hu : u < 256) (hv : v < 256) : gm (gm a b) (gm u v) = gm (gm a u) (gm b v) := by
  rw [gm_assoc ha hb (gm_lt hu), gm_assoc ha hu (gm_lt hb), ← gm_assoc hb hu hv, gm_comm hb hu, gm_assoc hu hb hv]
theorem ev_mul {p q : List Nat} (hp : By p) (hq : By q) {x : Nat} (hx : x < 256) : ev (mul p q) x = gm (ev p x) (ev q x) := by
  have h1 : (mul p q).length ≤ p.length + q.length := by
    unfold mul
    rw [trim_len]
    refine Nat.le_trans (tlen_le _) ?_
    rw [mkL_len]
    exact Nat.le_refl _
  have h2 : ev (mul p q) x = xs (p.length + q.length) (fun k => xs p.length (fun i => xs q.length (fun j => if i + j = k then gm (gm (co p i) (co q j)) (gp x k) else 0))) := by
    rw [← ev_long (mul p q) x h1]
    exact xs_congr _ (fun k _ => by rw [co_mul, pr_gm hp])
  have h3 : ∀ i, i < p.length → xs (p.length + q.length) (fun k => xs q.length (fun j => if i + j = k then gm (gm (co p i) (co q j)) (gp x k) else 0)) = gm (gm (co p i) (gp x i)) (ev q x) := by
    intro i hi
    rw [xs_swap (fun k j => if i + j = k then gm (gm (co p i) (co q j)) (gp x k) else 0)]
    unfold ev
    rw [xs_gm_r]
    refine xs_congr _ (fun j hj => ?_)
    have h4 := xs_one (f := fun k => if i + j = k then gm (gm (co p i) (co q j)) (gp x k) else 0) (j := i + j) (p.length + q.length) (by omega) (fun k _ hne => if_neg (fun h => hne h.symm))
    refine Eq.trans h4 ?_
    show (if i + j = i + j then gm (gm (co p i) (co q j)) (gp x (i + j)) else 0) = _
    rw [if_pos rfl, gp_add hx, mix (co_lt hp i) (co_lt hq j) (gp_lt hx i) (gp_lt hx j)]
  rw [h2, xs_swap (fun k i => xs q.length (fun j => if i + j = k then gm (gm (co p i) (co q j)) (gp x k) else 0))]
  refine Eq.trans (xs_congr _ h3) ?_
  have h5 := xs_gm_l (f := fun i => gm (co p i) (gp x i)) (ev q x) p.length (fun i _ => gm_lt (co_lt hp i))
  exact h5.symm
/-- from the top down -/
def hr (p : List Nat) (x : Nat) : Nat → Nat → Nat
  | 0, out => out
  | n + 1, out => hr p x n (gm out x ^^^ co p n)
theorem gp_succ' {x : Nat} (hx : x < 256) (n : Nat) : gm x (gp x n) = gp x (n + 1) := by rw [gp_succ, gm_comm hx (gp_lt hx n)]
theorem hr_eq {p : List Nat} (hp : By p) {x : Nat} (hx : x < 256) : ∀ n out, out < 256 → hr p x n out = gm out (gp x n) ^^^ xs n (fun i => gm (co p i) (gp x i))
  | 0, out, _ => by show out = gm out 1 ^^^ 0; rw [gm_one_r, Nat.xor_zero]
  | n + 1, out, ho => by
    show hr p x n (gm out x ^^^ co p n) = gm out (gp x (n + 1)) ^^^ (xs n (fun i => gm (co p i) (gp x i)) ^^^ gm (co p n) (gp x n))
    rw [hr_eq hp hx n _ (xor_lt8 (gm_lt ho) (co_lt hp n)), gm_xor_l _ (gm_lt ho) (co_lt hp n), gm_assoc ho hx (gp_lt hx n), gp_succ' hx, Nat.xor_assoc, Nat.xor_comm (gm (co p n) (gp x n))]
/-! derivatives -/
def slope (p : List Nat) : List Nat := trim (mkL (p.length - 1) (fun i => if (i + 1) % 2 = 1 then co p (i + 1) else 0))
theorem co_slope (p : List Nat) (i : Nat) : co (slope p) i = if (i + 1) % 2 = 1 then co p (i + 1) else 0 := by
  unfold slope
  rw [co_trim, co_mkL]
  by_cases h : i < p.length - 1
  · rw [if_pos h]
  · rw [if_neg h]
    split
    · rw [co_out (by omega)]
    · rfl
theorem by_slope {p : List Nat} (h : By p) : By (slope p) := by_of_co (fun i => by rw [co_slope]; split; exact co_lt h _; decide)
/-- a product's number, over any bounds that are great enough -/
theorem pr_wide (p q : List Nat) (k : Nat) {m n : Nat} (hm : p.length ≤ m) (hn : q.length ≤ n) : xs m (fun i => xs n (fun j => if i + j = k then gm (co p i) (co q j) else 0)) = pr p q k := by
  obtain ⟨d, rfl⟩ : ∃ d, m = p.length + d := ⟨m - p.length, by omega⟩
  obtain ⟨d', rfl⟩ : ∃ d, n = q.length + d := ⟨n - q.length, by omega⟩
  rw [xs_ext d (fun i h1 _ => xs_zero _ (fun j _ => by split; rw [co_out h1, gm_zero_l]; rfl))]
  refine xs_congr _ (fun i _ => ?_)
  exact xs_ext d' (fun j h1 _ => by split; rw [co_out (l := q) h1, gm_zero_r]; rfl)
theorem slope_len (p : List Nat) : (slope p).length ≤ p.length := by
  unfold slope
  rw [trim_len]
  refine Nat.le_trans (tlen_le _) ?_
  rw [mkL_len]
  omega
theorem pr_slope_l (p q : List Nat) (k : Nat) : pr (slope p) q k = xs (p.length + 1) (fun i => xs (q.length + 1) (fun j => if i + j = k + 1 then (if i % 2 = 1 then gm (co p i) (co q j) else 0) else 0)) := by
  rw [← pr_wide (slope p) q k (slope_len p) (Nat.le_succ q.length), xs_shift]
  rw [xs_zero (q.length + 1) (fun j _ => by split <;> rfl), Nat.zero_xor]
  refine xs_congr _ (fun i _ => xs_congr _ (fun j _ => ?_))
  by_cases h : i + j = k
  · rw [if_pos h, if_pos (by omega), co_slope]
    split
    · rfl
    · rw [gm_zero_l]
  · rw [if_neg h, if_neg (by omega)]
theorem pr_slope_r (p q : List Nat) (k : Nat) : pr p (slope q) k = xs (p.length + 1) (fun i => xs (q.length + 1) (fun j => if i + j = k + 1 then (if j % 2 = 1 then gm (co p i) (co q j) else 0) else 0)) := by
  rw [← pr_wide p (slope q) k (Nat.le_succ p.length) (slope_len q)]
  refine xs_congr _ (fun i _ => ?_)
  rw [xs_shift]
  rw [show (if i + 0 = k + 1 then (if 0 % 2 = 1 then gm (co p i) (co q 0) else 0) else 0) = 0 by split <;> rfl, Nat.zero_xor]
  refine xs_congr _ (fun j _ => ?_)
  by_cases h : i + j = k
  · rw [if_pos h, if_pos (by omega), co_slope]
    split
    · rfl
    · rw [gm_zero_r]
  · rw [if_neg h, if_neg (by omega)]
theorem leibniz (p q : List Nat) (k : Nat) : co (slope (mul p q)) k = co (add (mul (slope p) q) (mul p (slope q))) k := by
  rw [co_add, co_mul, co_mul, co_slope, co_mul, pr_slope_l, pr_slope_r, ← xs_xor]
  have e : (if (k + 1) % 2 = 1 then pr p q (k + 1) else 0) = xs (p.length + 1) (fun i => xs (q.length + 1) (fun j => if i + j = k + 1 then (if (k + 1) % 2 = 1 then gm (co p i) (co q j) else 0) else 0)) := by
    split
    · rw [← pr_wide p q (k + 1) (Nat.le_succ p.length) (Nat.le_succ q.length)]
    · refine (xs_zero _ (fun i _ => xs_zero _ (fun j _ => by split <;> rfl))).symm
  rw [e]
  refine xs_congr _ (fun i _ => ?_)
  rw [← xs_xor]
  refine xs_congr _ (fun j _ => ?_)
  by_cases h : i + j = k + 1
  · rw [if_pos h, if_pos h, if_pos h]
    by_cases h1 : i % 2 = 1 <;> by_cases h2 : j % 2 = 1
    · rw [if_neg (by omega), if_pos h1, if_pos h2, Nat.xor_self]
    · rw [if_pos (by omega), if_pos h1, if_neg h2, Nat.xor_zero]
    · rw [if_pos (by omega), if_neg h1, if_pos h2, Nat.zero_xor]
    · rw [if_neg (by omega), if_neg h1, if_neg h2, Nat.zero_xor]
  · rw [if_neg h, if_neg h, if_neg h, Nat.xor_self]
theorem tlen_add_self {p q : List Nat} (h : ∀ i, co p i = co q i) : tlen (add p q) = 0 := by
  have := tlen_le_of (l := add p q) (n := 0) (fun i _ => by rw [co_add, h i, Nat.xor_self])
  omega
/-! what is left -/
theorem mod_step {out q : List Nat} (hq : By q) (ho : By out) (hq0 : q.length ≠ 0) (hqt : co q (q.length - 1) ≠ 0) (hl : q.length ≤ out.length) :
    (add out (shift (times q (gm (co out (out.length - 1)) (gp (co q (q.length - 1)) 254))) (out.length - q.length))).length < out.length := by
  have e : ∀ i, out.length - 1 ≤ i → co (add out (shift (times q (gm (co out (out.length - 1)) (gp (co q (q.length - 1)) 254))) (out.length - q.length))) i = 0 := by
    intro i hi
    rw [co_add, co_shift, if_neg (by omega), co_times]
    by_cases h : i = out.length - 1
    · rw [h, show out.length - 1 - (out.length - q.length) = q.length - 1 by omega]
      have hb := co_lt hq (q.length - 1)
      have h1 := inv_ne hqt hb
      rw [gm_comm hb (gp_lt hb _)] at h1
      rw [gm_assoc (co_lt ho _) (gp_lt hb _) hb, h1, gm_one_r, Nat.xor_self]
    · rw [co_out (l := out) (by omega), co_out (l := q) (i := i - (out.length - q.length)) (by omega), gm_zero_r, Nat.xor_self]
  have h1 := tlen_le_of e
  have h2 : (add out (shift (times q (gm (co out (out.length - 1)) (gp (co q (q.length - 1)) 254))) (out.length - q.length))).length = tlen (add out (shift (times q (gm (co out (out.length - 1)) (gp (co q (q.length - 1)) 254))) (out.length - q.length))) := by
    conv => lhs; unfold add
    rw [trim_len]
    conv => rhs; unfold add
    rw [tlen_trim]
  omega
theorem mod_ev {out q : List Nat} (hq : By q) (ho : By out) {a x : Nat} (d : Nat) (ha : a < 256) (hx : x < 256) (h0 : ev q x = 0) : ev (add out (shift (times q a) d)) x = ev out x := by
  rw [ev_add ho (by_shift (by_times ha) d), ev_shift (by_times ha) d hx, ev_times hq ha hx, h0, gm_zero_l, gm_zero_l, Nat.xor_zero]
/-! the loops' own lists -/
theorem co_set (l : List Nat) (i x t : Nat) (h : i < l.length) : co (l.set i x) t = if i = t then x else co l t := by
  unfold co
  simp only [List.getD_eq_getElem?_getD, List.getElem?_set]
  by_cases e : i = t
  · subst e; rw [if_pos rfl, if_pos h, if_pos rfl]; rfl
  · rw [if_neg e, if_neg e]
theorem by_set {l : List Nat} (hl : By l) (i : Nat) {x : Nat} (hx : x < 256) : By (l.set i x) := by
  intro y hy
  rcases List.mem_or_eq_of_mem_set hy with h | h
  · exact hl y h
  · rw [h]; exact hx
def inn (a : Nat) (q : List Nat) (i : Nat) : Nat → Nat → List Nat → List Nat
  | 0, _, out => out
  | d + 1, j, out => inn a q i d (j + 1) (out.set (i + j) (co out (i + j) ^^^ gm a (co q j)))
theorem inn_len (a : Nat) (q : List Nat) (i : Nat) : ∀ d j out, (inn a q i d j out).length = out.length
  | 0, _, _ => rfl
  | d + 1, j, out => by unfold inn; rw [inn_len a q i d, List.length_set]
theorem by_inn {a : Nat} (ha : a < 256) (q : List Nat) (i : Nat) : ∀ d j out, By out → By (inn a q i d j out)
  | 0, _, _, h => h
  | d + 1, j, out, h => by unfold inn; exact by_inn ha q i d _ _ (by_set h _ (xor_lt8 (co_lt h _) (gm_lt ha)))
theorem co_inn (a : Nat) (q : List Nat) (i k : Nat) : ∀ d j out, i + j + d ≤ out.length → co (inn a q i d j out) k = co out k ^^^ xs d (fun t => if i + (j + t) = k then gm a (co q (j + t)) else 0)
  | 0, _, _, _ => by unfold inn xs; rw [Nat.xor_zero]
  | d + 1, j, out, h => by
    unfold inn
    rw [co_inn a q i k d (j + 1) _ (by rw [List.length_set]; omega), co_set _ _ _ _ (by omega), xs_shift, ← Nat.xor_assoc]
    congr 1
    · by_cases e : i + j = k
      · rw [if_pos e, if_pos (by omega), e, Nat.add_zero]
      · rw [if_neg e, if_neg (by omega), Nat.xor_zero]
    · refine xs_congr _ (fun t _ => ?_)
      rw [show j + 1 + t = j + (t + 1) by omega]
def outr (p q : List Nat) : Nat → Nat → List Nat → List Nat
  | 0, _, out => out
  | d + 1, i, out => outr p q d (i + 1) (inn (co p i) q i q.length 0 out)
theorem outr_len (p q : List Nat) : ∀ d i out, (outr p q d i out).length = out.length
  | 0, _, _ => rfl
  | d + 1, i, out => by unfold outr; rw [outr_len p q d, inn_len]
theorem by_outr {p : List Nat} (hp : By p) (q : List Nat) : ∀ d i out, By out → By (outr p q d i out)
  | 0, _, _, h => h
  | d + 1, i, out, h => by unfold outr; exact by_outr hp q d _ _ (by_inn (co_lt hp i) q i _ _ _ h)
theorem co_outr (p q : List Nat) (k : Nat) : ∀ d i out, i + d + q.length ≤ out.length + 1 → i + d ≤ out.length → d = 0 ∨ i + d - 1 + q.length ≤ out.length → co (outr p q d i out) k = co out k ^^^ xs d (fun s => xs q.length (fun t => if i + s + t = k then gm (co p (i + s)) (co q t) else 0))
  | 0, _, _, _, _, _ => by unfold outr xs; rw [Nat.xor_zero]
  | d + 1, i, out, h, h2, h3 => by
    unfold outr
    rw [co_outr p q k d (i + 1) _ (by rw [inn_len]; omega) (by rw [inn_len]; omega) (by rw [inn_len]; omega), co_inn _ _ _ _ _ _ _ (by omega), xs_shift, ← Nat.xor_assoc]
    congr 1
    · congr 1
      refine xs_congr _ (fun t _ => ?_)
      rw [Nat.zero_add, Nat.add_zero]
    · refine xs_congr _ (fun s _ => xs_congr _ (fun t _ => ?_))
      rw [show i + 1 + s = i + (s + 1) by omega]
theorem co_rep (n i : Nat) : co (List.replicate n 0) i = 0 := by
  unfold co
  simp only [List.getD_eq_getElem?_getD, List.getElem?_replicate]
  split <;> rfl
theorem by_rep (n : Nat) : By (List.replicate n 0) := by
  intro x hx
  rw [(List.mem_replicate.1 hx).2]
  decide
theorem outr_mul (p q : List Nat) : trim (outr p q p.length 0 (List.replicate (p.length + q.length) 0)) = mul p q := by
  unfold mul
  refine trim_ext (fun k => ?_)
  rw [co_outr p q k _ _ _ (by rw [List.length_replicate]; omega) (by rw [List.length_replicate]; omega) (by rw [List.length_replicate]; omega), co_rep, Nat.zero_xor, co_mkL]
  have e : xs p.length (fun s => xs q.length (fun t => if 0 + s + t = k then gm (co p (0 + s)) (co q t) else 0)) = pr p q k := by
    unfold pr
    refine xs_congr _ (fun s _ => xs_congr _ (fun t _ => ?_))
    rw [Nat.zero_add]
  rw [e]
  split
  · rfl
  · rw [pr_out (by omega)]
def addr (q : List Nat) : Nat → Nat → List Nat → List Nat
  | 0, _, out => out
  | d + 1, i, out => addr q d (i + 1) (out.set i (co out i ^^^ co q i))
theorem addr_len (q : List Nat) : ∀ d i out, (addr q d i out).length = out.length
  | 0, _, _ => rfl
  | d + 1, i, out => by unfold addr; rw [addr_len q d, List.length_set]
theorem by_addr {q : List Nat} (hq : By q) : ∀ d i out, By out → By (addr q d i out)
  | 0, _, _, h => h
  | d + 1, i, out, h => by unfold addr; exact by_addr hq d _ _ (by_set h _ (xor_lt8 (co_lt h _) (co_lt hq _)))
theorem co_addr (q : List Nat) (k : Nat) : ∀ d i out, i + d ≤ out.length → co (addr q d i out) k = co out k ^^^ (if i ≤ k ∧ k < i + d then co q k else 0)
  | 0, i, out, _ => by unfold addr; rw [if_neg (by omega), Nat.xor_zero]
  | d + 1, i, out, h => by
    unfold addr
    rw [co_addr q k d (i + 1) _ (by rw [List.length_set]; omega), co_set _ _ _ _ (by omega)]
    by_cases e : i = k
    · subst e; rw [if_pos rfl, if_neg (by omega), if_pos (by omega), Nat.xor_zero]
    · rw [if_neg e]
      by_cases e2 : i + 1 ≤ k ∧ k < i + 1 + d
      · rw [if_pos e2, if_pos (by omega)]
      · rw [if_neg e2, if_neg (by omega)]
theorem addr_add {p q L : List Nat} (hL : L.length = max p.length q.length) (h : ∀ i, co L i = co p i) : trim (addr q q.length 0 L) = add p q := by
  unfold add
  refine trim_ext (fun k => ?_)
  rw [co_addr q k _ _ _ (by omega), h, co_mkL]
  by_cases h1 : k < q.length
  · rw [if_pos (by omega), if_pos (by omega)]
  · rw [if_neg (by omega), co_out (l := q) (by omega), Nat.xor_zero]
    split
    · rfl
    · rw [co_out (l := p) (by omega)]
/-- a list's numbers set one by one -/
def fill (f : Nat → Nat) : Nat → Nat → List Nat → List Nat
  | 0, _, out => out
  | d + 1, i, out => fill f d (i + 1) (out.set i (f i))
theorem fill_len (f : Nat → Nat) : ∀ d i out, (fill f d i out).length = out.length
  | 0, _, _ => rfl
  | d + 1, i, out => by unfold fill; rw [fill_len f d, List.length_set]
theorem by_fill {f : Nat → Nat} (hf : ∀ i, f i < 256) : ∀ d i out, By out → By (fill f d i out)
  | 0, _, _, h => h
  | d + 1, i, out, h => by unfold fill; exact by_fill hf d _ _ (by_set h _ (hf i))
theorem co_fill (f : Nat → Nat) (k : Nat) : ∀ d i out, i + d ≤ out.length → co (fill f d i out) k = if i ≤ k ∧ k < i + d then f k else co out k
  | 0, i, out, _ => by unfold fill; rw [if_neg (by omega)]
  | d + 1, i, out, h => by
    unfold fill
    rw [co_fill f k d (i + 1) _ (by rw [List.length_set]; omega), co_set _ _ _ _ (by omega)]
    by_cases e : i = k
    · subst e; rw [if_neg (by omega), if_pos rfl, if_pos (by omega)]
    · rw [if_neg e]
      by_cases e2 : i + 1 ≤ k ∧ k < i + 1 + d
      · rw [if_pos e2, if_pos (by omega)]
      · rw [if_neg e2, if_neg (by omega)]
theorem fill_times (p : List Nat) (a : Nat) : trim (fill (fun i => gm a (co p i)) p.length 0 (List.replicate p.length 0)) = times p a := by
  unfold times
  refine trim_ext (fun k => ?_)
  rw [co_fill _ k _ _ _ (by rw [List.length_replicate]; omega), co_mkL, co_rep]
  by_cases h : k < p.length
  · rw [if_pos (by omega), if_pos h]
  · rw [if_neg (by omega), if_neg h]
theorem co_append (l m : List Nat) (i : Nat) : co (l ++ m) i = if i < l.length then co l i else co m (i - l.length) := by
  unfold co
  simp only [List.getD_eq_getElem?_getD, List.getElem?_append]
  split <;> rfl
theorem rep_shift (p : List Nat) (n : Nat) : trim (List.replicate n 0 ++ p) = shift p n := by
  unfold shift
  refine trim_ext (fun k => ?_)
  rw [co_append, List.length_replicate, co_mkL, co_rep]
  by_cases h : k < n
  · rw [if_pos h, if_pos (by omega)]
  · rw [if_neg h]
    split
    · rfl
    · rw [co_out (by omega)]
theorem by_append {l m : List Nat} (hl : By l) (hm : By m) : By (l ++ m) := by
  intro x hx
  rcases List.mem_append.1 hx with h | h
  · exact hl x h
  · exact hm x h
theorem by_take {l : List Nat} (hl : By l) (n : Nat) : By (l.take n) := fun x hx => hl x (List.mem_of_mem_take hx)
/-- the derivative's list, number by number -/
def slp (p : List Nat) : Nat → Nat → List Nat
  | 0, _ => []
  | d + 1, i => (if i % 2 = 1 then co p i else 0) :: slp p d (i + 1)
theorem co_slp (p : List Nat) (k : Nat) : ∀ d i, co (slp p d i) k = if k < d then (if (i + k) % 2 = 1 then co p (i + k) else 0) else 0 := by
  induction k with
  | zero =>
    intro d i
    cases d with
    | zero => rfl
    | succ d => rw [if_pos (by omega)]; rfl
  | succ k ih =>
    intro d i
    cases d with
    | zero => rfl
    | succ d =>
      have h : co (slp p (d + 1) i) (k + 1) = co (slp p d (i + 1)) k := rfl
      rw [h, ih d (i + 1), show i + 1 + k = i + (k + 1) by omega]
      by_cases h : k < d
      · have h2 : k + 1 < d + 1 := by omega
        simp only [h, h2, if_true]
      · have h2 : ¬ k + 1 < d + 1 := by omega
        simp only [h, h2, if_false]
theorem slp_len (p : List Nat) : ∀ d i, (slp p d i).length = d
  | 0, _ => rfl
  | d + 1, i => by unfold slp; rw [List.length_cons, slp_len p d]
theorem by_slp {p : List Nat} (hp : By p) (d i : Nat) : By (slp p d i) := by_of_co (fun k => by
  rw [co_slp]
  split
  · split
    · exact co_lt hp _
    · decide
  · decide)
theorem slp_slope (p : List Nat) : trim (slp p (p.length - 1) 1) = slope p := by
  unfold slope
  refine trim_ext (fun k => ?_)
  rw [co_slp, co_mkL]
  split
  · rw [Nat.add_comm 1 k]
  · rfl
end Go.Proofs.Ytpidfledopnhpaa.Gm
