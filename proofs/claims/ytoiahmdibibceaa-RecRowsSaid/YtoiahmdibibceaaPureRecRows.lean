/- Records that stand one behind the other are read one behind the other. For every input. -/
import Derived.Test.YtoiahmdibibceaaXRecRowsx1
import Derived.Test.YtoiahmdibibceaaXRecRowsx2
import Derived.Test.YtoiahmdibibceaaXRecRowsx3
import Derived.Test.YtoiahmdibibceaaXRecRowsx4
import Derived.Test.YtoiahmdibibceaaXRecRowsx5
import Derived.Test.YtoiahmdibibceaaMBits
import Derived.Test.YtoiahmdibibceaaMText
import Derived.Test.YtoiahmdibibceaaCode
import Derived.Test.YtoiahmdibibceaaXRows
namespace Go.Proofs.Ytoiahmdibibceaa.Pure
open Go.RowKit Go.Proofs.Ytoiahmdibibceaa Go.Proofs.Ytoiahmdibibceaa.XRecRows Go.Proofs.YtoiahmdibibceaaW.PrintWords Go.Proofs.YtoiahmdibibceaaW.PrintLast Go.Proofs.YtoiahmdibibceaaW.PrintMore
set_option linter.unusedVariables false
set_option linter.unusedSimpArgs false
/-! numbers as bytes -/
theorem cnum_l0 : ∀ (d k n : Nat) (ds : List Nat), Tx.By ds → n < 256 ^ d → ds.length + d ≤ 9 →
    code_Num.l0 (k + d + 1) (n : Int) (Tx.I (ds.length :: ds)) = some (Tx.B ((ds ++ Cd.le d n).length :: (ds ++ Cd.le d n))) := by
  intro d
  induction d with
  | zero =>
    intro k n ds hb hn hd
    obtain rfl : n = 0 := by simpa using hn
    have c1 : ¬ ((0 : Nat) : Int) > 0 := by omega
    rw [code_Num.l0, if_neg c1, Tx.strOfNums_I]
    show _ = some (Tx.B ((ds ++ []).length :: (ds ++ [])))
    rw [List.append_nil]
  | succ d ih =>
    intro k n ds hb hn hd
    have hz : Cd.le (d + 1) n = if n = 0 then [] else n % 256 :: Cd.le d (n / 256) := rfl
    by_cases h0 : n = 0
    · have c1 : ¬ (n : Int) > 0 := by omega
      rw [show k + (d + 1) + 1 = (k + d + 1) + 1 by omega, code_Num.l0, if_neg c1, Tx.strOfNums_I, hz, if_pos h0, List.append_nil]
    · have c1 : (n : Int) > 0 := by omega
      have c2 : (Tx.I (ds.length :: ds)).length < 140737488355328 := by rw [Tx.I_len, List.length_cons]; omega
      have e1 : (n : Int) % 256 = ((n % 256 : Nat) : Int) := by omega
      have e2 : (n : Int) / 256 = ((n / 256 : Nat) : Int) := by omega
      have c3 : (0 : Int) < ((Tx.I ((ds.length :: ds) ++ [n % 256])).length : Int) := by rw [Tx.I_len]; simp; omega
      have e3 : (rd (Tx.I ((ds.length :: ds) ++ [n % 256])) 0 + 1) % 256 = ((ds.length + 1 : Nat) : Int) := by
        rw [show (0 : Int) = ((0 : Nat) : Int) from rfl, Tx.I_rd]
        show ((ds.length : Int) + 1) % 256 = _
        omega
      have e4 : (Tx.I ((ds.length :: ds) ++ [n % 256])).set (0 : Int).toNat ((ds.length + 1 : Nat) : Int) = Tx.I ((ds ++ [n % 256]).length :: (ds ++ [n % 256])) := by
        rw [show (0 : Int).toNat = 0 from rfl, Tx.I_set, List.length_append]
        rfl
      have hb2 : Tx.By (ds ++ [n % 256]) := hb.append (Tx.By.one (by omega))
      have hl2 : (ds ++ [n % 256]).length + d ≤ 9 := by rw [List.length_append]; simp; omega
      have hn2 : n / 256 < 256 ^ d := by rw [Nat.pow_succ] at hn; omega
      have ih1 := ih k (n / 256) (ds ++ [n % 256]) hb2 hn2 hl2
      rw [show k + (d + 1) + 1 = (k + d + 1) + 1 by omega, code_Num.l0, if_pos c1, if_pos c2, e1, e2, Tx.I_snoc, Option.bind_some, if_pos c3, e3, e4, ih1, hz, if_neg h0, List.append_assoc]
      rfl
theorem cnum_f {n : Nat} (hn : n < 18446744073709551616) (k : Nat) (hk : 10 ≤ k) : code_Num.f k (n : Int) = some (Tx.B (Cd.num n)) := by
  obtain ⟨j, rfl⟩ : ∃ j, k = j + 9 + 1 := ⟨k - 10, by omega⟩
  have h := cnum_l0 9 j n [] Tx.By.nil (Nat.lt_of_lt_of_le hn (by decide)) (by decide)
  rw [List.nil_append] at h
  exact h
theorem cvalue_l0 (s : List Nat) (hs : Tx.By s) (hl : s.length ≤ 8) : ∀ (i k : Nat), i ≤ s.length → code_value.l0 (k + i + 1) (Tx.B s) ((Cd.val (s.drop i) : Nat) : Int) ((i : Int) - 1) = some ((Cd.val s : Nat) : Int) := by
  intro i
  induction i with
  | zero =>
    intro k hi
    have c1 : ¬ (((0 : Nat) : Int) - 1) ≥ 0 := by omega
    rw [code_value.l0, if_neg c1, List.drop_zero]
  | succ i ih =>
    intro k hi
    have e0 : ((i + 1 : Nat) : Int) - 1 = (i : Int) := by omega
    have c1 : (i : Int) ≥ 0 := by omega
    have c2 : (i : Int) < ((Tx.B s).size : Int) := by rw [Tx.B_size]; omega
    have hd := Tx.drop_co (l := s) (i := i) (by omega)
    have hlt := Cd.val_lt (s.drop (i + 1)) (hs.drop _)
    have hc := Tx.co_lt hs i
    have hv : Cd.val (s.drop i) = Tx.co s i + 256 * Cd.val (s.drop (i + 1)) := by rw [hd]; rfl
    have hv64 := Cd.val_lt64 (l := s.drop i) (hs.drop _) (by rw [List.length_drop]; omega)
    have b1 : (0 : Int) ≤ ((Cd.val (s.drop (i + 1)) * 256 : Nat) : Int) := by omega
    have b2 : ((Cd.val (s.drop (i + 1)) * 256 : Nat) : Int) < 2 ^ 64 := by omega
    have b3 : (0 : Int) ≤ ((Tx.co s i : Nat) : Int) := by omega
    have b4 : ((Tx.co s i : Nat) : Int) < 2 ^ 64 := by omega
    have b5 : ((Tx.co s i : Nat) : Int) < 2 ^ 8 := by omega
    have b6 : ((Cd.val (s.drop (i + 1)) * 256 : Nat) : Int) % 2 ^ 8 = 0 := by omega
    have e1 : wrap64 ((i : Int) - 1) = (i : Int) - 1 := Bt.wrap_ok (by omega) (by omega)
    have b7 : ((Cd.val (s.drop (i + 1)) * 256 : Nat) : Int) + ((Tx.co s i : Nat) : Int) = ((Cd.val (s.drop i) : Nat) : Int) := by omega
    have e2 : ((Cd.val (s.drop (i + 1)) : Nat) : Int) * 256 = ((Cd.val (s.drop (i + 1)) * 256 : Nat) : Int) := by omega
    have e3 := bits_join .u64 64 (Nat.le_refl 64) (fun n h0 h1 => Bt.wraps_u64 n h0 h1) 8 ((Cd.val (s.drop (i + 1)) * 256 : Nat) : Int) ((Tx.co s i : Nat) : Int) b1 b6 b2 b3 b5 b4
    rw [show k + (i + 1) + 1 = (k + i + 1) + 1 by omega, code_value.l0, e0, if_pos c1, if_pos c1, if_pos c2, e2, Bt.wraps_u64 _ b1 b2, Tx.bt_B hs, Bt.wraps_u64 _ b3 b4, e3, b7, e1]
    exact ih k (by omega)
theorem cvalue_f (s : List Nat) (hs : Tx.By s) (hl : s.length ≤ 8) (k : Nat) (hk : 10 ≤ k) : code_value.f k (Tx.B s) = some ((Cd.val s : Nat) : Int) := by
  obtain ⟨j, rfl⟩ : ∃ j, k = j + s.length + 1 := ⟨k - (s.length + 1), by omega⟩
  have e1 : wrap64 (((Tx.B s).size : Int) - 1) = (s.length : Int) - 1 := by rw [Tx.B_size]; exact Bt.wrap_ok (by omega) (by omega)
  have h := cvalue_l0 s hs hl s.length j (Nat.le_refl _)
  rw [List.drop_eq_nil_of_le (Nat.le_refl _)] at h
  unfold code_value.f
  rw [e1]
  exact h
/-! the reader -/
theorem cfail_f (l : List Nat) (e m : Nat) : code_Reader_fail.f (Tx.B l) (e : Int) (m : Int) = some (if e = 0 then (Tx.B [], (m : Int)) else (Tx.B l, (e : Int))) := by
  unfold code_Reader_fail.f
  by_cases h : e = 0
  · rw [if_pos (by omega), if_pos h]; rfl
  · rw [if_neg (by omega), if_neg h]
theorem rb_neg {l : List Nat} {n : Int} (h : n < 0 ∨ n > (l.length : Int)) : Cd.rbytes l 0 n = ([], [], 2) := by
  unfold Cd.rbytes
  rw [if_neg (by simp), if_pos h]
theorem rb_in {l : List Nat} {n : Int} (h0 : 0 ≤ n) (h : n ≤ (l.length : Int)) : Cd.rbytes l 0 n = (l.take n.toNat, l.drop n.toNat, 0) := by
  unfold Cd.rbytes
  rw [if_neg (by simp), if_neg (by omega)]
theorem cbytes_f (l : List Nat) (hl : l.length < 4611686018427387904) (e : Nat) (n : Int) : code_Reader_Bytes.f (Tx.B l) (e : Int) n = some (Tx.B (Cd.rbytes l e n).1, Tx.B (Cd.rbytes l e n).2.1, ((Cd.rbytes l e n).2.2 : Int)) := by
  unfold code_Reader_Bytes.f code_Reader_Err.f
  rw [Option.bind_some]
  dsimp only
  have hf := cfail_f l 0 2
  by_cases h : e = 0
  · subst h
    rw [if_pos (by rfl)]
    by_cases h1 : n < 0
    · rw [if_pos h1, rb_neg (.inl h1)]
      refine Eq.trans (congrArg (fun z => Option.bind z _) hf) ?_
      rfl
    · rw [if_neg h1, Tx.B_size]
      by_cases h2 : n > (l.length : Int)
      · rw [if_pos h2, rb_neg (.inr h2)]
        refine Eq.trans (congrArg (fun z => Option.bind z _) hf) ?_
        rfl
      · rw [if_neg h2, if_pos (by omega), if_pos (by omega), rb_in (by omega) (by omega), Tx.B_extract, Tx.B_extract, List.drop_zero, List.take_length]
  · rw [if_neg (by omega), Cd.rbytes_err h]
    rfl
theorem rb_one (c : Nat) (r : List Nat) : Cd.rbytes (c :: r) 0 1 = ([c], r, 0) := by
  unfold Cd.rbytes
  rw [if_neg (by simp), if_neg (by rw [List.length_cons]; omega)]
  rfl
theorem rb_nil : Cd.rbytes [] 0 1 = ([], [], 2) := rfl
theorem rb_long {r : List Nat} {c : Nat} (h : c > r.length) : Cd.rbytes r 0 (c : Int) = ([], [], 2) := by
  unfold Cd.rbytes
  rw [if_neg (by simp), if_pos (by omega)]
theorem rb_ok {r : List Nat} {c : Nat} (h : c ≤ r.length) : Cd.rbytes r 0 (c : Int) = (r.take c, r.drop c, 0) := by
  unfold Cd.rbytes
  rw [if_neg (by simp), if_neg (by omega), Int.toNat_natCast]
theorem cj0_f (k : Nat) (most n : Nat) (b : Bool) (l : List Nat) : code_Reader_Num.j0 (k + 1) (most : Int) (n : Int) b (Tx.B l) ((0 : Nat) : Int) = some (if b = true then (0, Tx.B [], 3) else if n > most then (0, Tx.B [], 5) else ((n : Int), Tx.B l, 0)) := by
  have hf : ∀ m : Nat, code_Reader_fail.f (Tx.B l) ((0 : Nat) : Int) (m : Int) = some (Tx.B [], (m : Int)) := fun m => by rw [cfail_f, if_pos rfl]
  have h3 := hf 3
  have h5 := hf 5
  rw [code_Reader_Num.j0]
  cases b with
  | true =>
    rw [if_pos rfl, if_pos rfl]
    refine Eq.trans (congrArg (fun z => Option.bind z _) h3) ?_
    rfl
  | false =>
    have hff : ¬ (false = true) := by decide
    rw [if_neg hff, if_neg hff]
    by_cases h : n > most
    · have h' : (n : Int) > (most : Int) := by omega
      rw [if_pos h', if_pos h]
      refine Eq.trans (congrArg (fun z => Option.bind z _) h5) ?_
      rfl
    · have h' : ¬ (n : Int) > (most : Int) := by omega
      rw [if_neg h', if_neg h]
      rfl
theorem crnum_f (l : List Nat) (hb : Tx.By l) (hl : l.length < 4611686018427387904) (e most k : Nat) (hk : 12 ≤ k) :
    code_Reader_Num.f k (Tx.B l) (e : Int) (most : Int) = some (((Cd.rnum l e most).1 : Int), Tx.B (Cd.rnum l e most).2.1, ((Cd.rnum l e most).2.2 : Int)) := by
  obtain ⟨j, rfl⟩ : ∃ j, k = j + 1 := ⟨k - 1, by omega⟩
  have hj : 10 ≤ j + 1 := by omega
  unfold code_Reader_Num.f
  rw [cbytes_f l hl e 1, Option.bind_some]
  dsimp only
  by_cases he : e = 0
  · subst he
    cases l with
    | nil =>
      rw [rb_nil, if_pos (Tx.toList_nil.2 rfl)]
      rfl
    | cons c r =>
      have hc := hb.head
      have hr := hb.tail
      have hr2 : r.length < 4611686018427387904 := by rw [List.length_cons] at hl; omega
      have c1 : ¬ (Tx.B [c]).toList = ([] : List UInt8) := by rw [Tx.toList_nil]; simp
      have c2 : (0 : Int) < ((Tx.B [c]).size : Int) := by rw [Tx.B_size]; show (0 : Int) < 1; decide
      have e1 : bt (Tx.B [c]) 0 = (c : Int) := Tx.bt_B (Tx.By.one hc) 0
      have e2 : wrap64 (c : Int) = (c : Int) := Bt.wrap_ok (by omega) (by omega)
      have hf := cfail_f r 0 3
      have hz : Cd.rnum (c :: r) 0 most = if c > 8 then (0, [], 3) else if c > r.length then (0, [], 2) else if c ≠ 0 ∧ r.getD (c - 1) 0 = 0 then (0, [], 3) else if Cd.val (r.take c) > most then (0, [], 5) else (Cd.val (r.take c), r.drop c, 0) := rfl
      rw [rb_one]
      dsimp only
      rw [if_neg c1, if_pos c2, e1, hz]
      by_cases h1 : c > 8
      · rw [if_pos (by omega), if_pos h1]
        refine Eq.trans (congrArg (fun z => Option.bind z _) hf) ?_
        rfl
      rw [if_neg (by omega), if_neg h1, e2]
      have hcb := cbytes_f r hr2 0 (c : Int)
      refine Eq.trans (congrArg (fun z => Option.bind z _) hcb) ?_
      rw [Option.bind_some]
      dsimp only
      by_cases h2 : c > r.length
      · rw [rb_long h2, if_pos h2]
        dsimp only
        rw [cvalue_f [] Tx.By.nil (by decide) _ hj, Option.bind_some, if_neg (by decide)]
        rfl
      · have hle : c ≤ r.length := by omega
        have hlen : (r.take c).length = c := by rw [List.length_take]; omega
        rw [rb_ok hle, if_neg h2]
        dsimp only
        rw [cvalue_f (r.take c) (hr.take c) (by omega) _ hj, Option.bind_some, if_pos (by rfl)]
        by_cases h3 : c = 0
        · have h4 : r.take c = [] := by rw [h3]; rfl
          have c6 : ¬ (c ≠ 0 ∧ r.getD (c - 1) 0 = 0) := fun h => h.1 h3
          have hff : ¬ (false = true) := by decide
          rw [if_pos (Tx.toList_nil.2 h4), cj0_f, if_neg hff, if_neg c6]
          split <;> rfl
        · have c3 : ¬ (Tx.B (r.take c)).toList = ([] : List UInt8) := by
            rw [Tx.toList_nil]
            intro h
            rw [h] at hlen
            exact h3 hlen.symm
          have e3 : wrap64 (((Tx.B (r.take c)).size : Int) - 1) = ((c - 1 : Nat) : Int) := by rw [Tx.B_size, hlen, Bt.wrap_ok (by omega) (by omega)]; omega
          have c4 : (0 : Int) ≤ ((c - 1 : Nat) : Int) := by omega
          have c5 : ((c - 1 : Nat) : Int) < ((Tx.B (r.take c)).size : Int) := by rw [Tx.B_size, hlen]; omega
          have e4 : Tx.co (r.take c) (c - 1) = r.getD (c - 1) 0 := by rw [Tx.co_take, if_pos (by omega)]; rfl
          rw [if_neg c3, e3, if_pos c4, if_pos c5, Tx.bt_B (hr.take c), cj0_f, e4]
          by_cases h5 : r.getD (c - 1) 0 = 0
          · have c6 : c ≠ 0 ∧ r.getD (c - 1) 0 = 0 := ⟨h3, h5⟩
            have hz0 : (((r.getD (c - 1) 0 : Nat) : Int) == 0) = true := by rw [h5]; rfl
            rw [if_pos c6, hz0, if_pos rfl]
            rfl
          · have hne : (((r.getD (c - 1) 0 : Nat) : Int) == 0) = false := beq_eq_false_iff_ne.2 (by omega)
            have c6 : ¬ (c ≠ 0 ∧ r.getD (c - 1) 0 = 0) := fun h => h5 h.2
            have hff : ¬ (false = true) := by decide
            rw [if_neg c6, hne, if_neg hff]
            split <;> rfl
  · rw [Cd.rbytes_err he, if_pos (Tx.toList_nil.2 rfl), Cd.rnum_err he]
    rfl
theorem cend_f (l : List Nat) (e : Nat) : code_Reader_End.f (Tx.B l) (e : Int) = some (((Cd.rend l e : Nat) : Int), Tx.B l, (e : Int)) := by
  unfold code_Reader_End.f code_Reader_Err.f Cd.rend
  rw [Option.bind_some]
  dsimp only
  by_cases h : e = 0
  · subst h
    rw [if_pos (by rfl)]
    by_cases h2 : l = []
    · rw [if_pos (Tx.toList_nil.2 h2), if_neg (by rintro ⟨_, h⟩; exact h h2)]
      rfl
    · rw [if_neg (fun h => h2 (Tx.toList_nil.1 h)), if_pos ⟨rfl, h2⟩]
      rfl
  · rw [if_neg (by omega), if_neg (by rintro ⟨h', _⟩; exact h h')]
    rfl
/-! records -/
theorem le_up {α : Type} {f : Nat → Option α} (hm : ∀ k, LeO (f k) (f (k + 1))) {r : α} {k : Nat} (h : f k = some r) : ∀ j, f (k + j) = some r
  | 0 => h
  | j + 1 => hm _ _ (le_up hm h j)
theorem rb_by {l : List Nat} (hb : Tx.By l) (e : Nat) (n : Int) : Tx.By (Cd.rbytes l e n).1 ∧ Tx.By (Cd.rbytes l e n).2.1 := by
  unfold Cd.rbytes
  split
  · exact ⟨Tx.By.nil, hb⟩
  split
  · exact ⟨Tx.By.nil, Tx.By.nil⟩
  · exact ⟨hb.take _, hb.drop _⟩
theorem rnum_by {l : List Nat} (hb : Tx.By l) (e most : Nat) : Tx.By (Cd.rnum l e most).2.1 := by
  unfold Cd.rnum
  split
  · exact hb
  cases l with
  | nil => exact Tx.By.nil
  | cons c r =>
    dsimp only
    split
    · exact Tx.By.nil
    split
    · exact Tx.By.nil
    split
    · exact Tx.By.nil
    split
    · exact Tx.By.nil
    · exact hb.tail.drop _
theorem rnum_most (l : List Nat) (e most : Nat) : (Cd.rnum l e most).1 ≤ most := by
  unfold Cd.rnum
  split
  · exact Nat.zero_le _
  cases l with
  | nil => exact Nat.zero_le _
  | cons c r =>
    dsimp only
    split
    · exact Nat.zero_le _
    split
    · exact Nat.zero_le _
    split
    · exact Nat.zero_le _
    split
    · exact Nat.zero_le _
    · dsimp only; omega
theorem rnum_left (l : List Nat) (e most : Nat) : (Cd.rnum l e most).2.1.length ≤ l.length := by
  obtain ⟨n, r, e', h⟩ : ∃ n r e', Cd.rnum l e most = (n, r, e') := ⟨_, _, _, rfl⟩
  rw [h]
  exact Cd.rnum_len h
theorem crfix_f (l : List Nat) (hb : Tx.By l) (hl : l.length < 4611686018427387904) (e k : Nat) (hk : 10 ≤ k) :
    code_Reader_Fixed.f k (Tx.B l) (e : Int) 1 = some (((Cd.val (Cd.rbytes l e 1).1 : Nat) : Int), Tx.B (Cd.rbytes l e 1).2.1, ((Cd.rbytes l e 1).2.2 : Int)) := by
  have h1 := cbytes_f l hl e 1
  have hlen : (Cd.rbytes l e 1).1.length ≤ 8 := by
    unfold Cd.rbytes
    split
    · exact Nat.zero_le _
    split
    · exact Nat.zero_le _
    · dsimp only; rw [List.length_take]; show min (1 : Int).toNat _ ≤ 8; omega
  have h2 := cvalue_f (Cd.rbytes l e 1).1 (rb_by hb e 1).1 hlen k hk
  unfold code_Reader_Fixed.f
  rw [show mn (mx 1 0) 8 = 1 by decide, h1, Option.bind_some]
  dsimp only
  rw [h2, Option.bind_some]
/-- The numbers of a row, one behind the other. -/
def rrow : List Nat → List Nat → Nat → List Nat × List Nat × Nat
  | [], l, e => ([], l, e)
  | m :: ms, l, e => ((Cd.rnum l e m).1 :: (rrow ms (Cd.rnum l e m).2.1 (Cd.rnum l e m).2.2).1, (rrow ms (Cd.rnum l e m).2.1 (Cd.rnum l e m).2.2).2)
theorem crow_f (k : Nat) (hk : 12 ≤ k) : ∀ (ms l : List Nat) (e : Nat), (∀ m ∈ ms, m < 4611686018427387904) → Tx.By l → l.length < 4611686018427387904 →
    rec_Take.row k (Tx.I ms) (Tx.B l) (e : Int) = some (Tx.I (rrow ms l e).1, Tx.B (rrow ms l e).2.1, ((rrow ms l e).2.2 : Int))
  | [], l, e, _, _, _ => rfl
  | m :: ms, l, e, hm, hb, hl => by
    have h1 := crnum_f l hb hl e m k hk
    have hlt := hm m List.mem_cons_self
    have hmo := rnum_most l e m
    have e1 : wrap64 (((Cd.rnum l e m).1 : Nat) : Int) = (((Cd.rnum l e m).1 : Nat) : Int) := Bt.wrap_ok (by omega) (by omega)
    have h2 := crow_f k hk ms (Cd.rnum l e m).2.1 (Cd.rnum l e m).2.2 (fun x hx => hm x (List.mem_cons_of_mem _ hx)) (rnum_by hb e m) (Nat.lt_of_le_of_lt (rnum_left l e m) hl)
    show (code_Reader_Num.f k (Tx.B l) (e : Int) (m : Int)).bind (fun b => (rec_Take.row k (Tx.I ms) b.2.1 b.2.2).bind fun c => some (wrap64 b.1 :: c.1, c.2.1, c.2.2)) = _
    rw [h1, Option.bind_some]
    dsimp only
    rw [h2, Option.bind_some, e1]
    rfl
/-- Is none below its least? -/
def allge : List Nat → List Nat → Bool
  | n :: ns, l :: ls => decide (l ≤ n) && allge ns ls
  | _, _ => true
theorem allge_step {ns ls : List Nat} {i : Nat} (h1 : i < ns.length) (h2 : i < ls.length) : allge (ns.drop i) (ls.drop i) = (decide (Tx.co ls i ≤ Tx.co ns i) && allge (ns.drop (i + 1)) (ls.drop (i + 1))) := by
  rw [Tx.drop_co h1, Tx.drop_co h2]
  rfl
theorem allge_end {ns ls : List Nat} {i : Nat} (h1 : ns.length ≤ i) : allge (ns.drop i) (ls.drop i) = true := by
  rw [List.drop_eq_nil_of_le h1]
  rfl
/-! what a row of numbers is made of, and Put -/
def cat (ns : List Nat) : List Nat := ns.flatMap Cd.num
theorem rrow_err : ∀ (ms l : List Nat) (e : Nat), e ≠ 0 → (rrow ms l e).2.2 = e
  | [], _, _, _ => rfl
  | m :: ms, l, e, h => by
    show (rrow ms (Cd.rnum l e m).2.1 (Cd.rnum l e m).2.2).2.2 = e
    rw [Cd.rnum_err h]
    exact rrow_err ms l e h
theorem rrow_len : ∀ (ms l : List Nat) (e : Nat), (rrow ms l e).1.length = ms.length
  | [], _, _ => rfl
  | m :: ms, l, e => by
    show (_ :: (rrow ms (Cd.rnum l e m).2.1 (Cd.rnum l e m).2.2).1).length = (m :: ms).length
    rw [List.length_cons, List.length_cons, rrow_len ms]
def allle : List Nat → List Nat → Prop
  | n :: ns, m :: ms => n ≤ m ∧ allle ns ms
  | _, _ => True
theorem rrow_le : ∀ (ms l : List Nat) (e : Nat), allle (rrow ms l e).1 ms
  | [], _, _ => trivial
  | m :: ms, l, e => ⟨rnum_most l e m, rrow_le ms _ _⟩
theorem rrow_cat : ∀ (ms l : List Nat), Tx.By l → (rrow ms l 0).2.2 = 0 → l = cat (rrow ms l 0).1 ++ (rrow ms l 0).2.1
  | [], _, _, _ => rfl
  | m :: ms, l, hb, h => by
    obtain ⟨n, r, e, hr⟩ : ∃ n r e, Cd.rnum l 0 m = (n, r, e) := ⟨_, _, _, rfl⟩
    have h1 : rrow (m :: ms) l 0 = (n :: (rrow ms r e).1, (rrow ms r e).2) := by
      show ((Cd.rnum l 0 m).1 :: _, _) = _
      rw [hr]
    rw [h1] at h ⊢
    have h' : (rrow ms r e).2.2 = 0 := h
    have he : e = 0 := by
      apply Classical.byContradiction
      intro hne
      rw [rrow_err ms r e hne] at h'
      exact hne h'
    subst he
    have h2 := Cd.num_rnum hb hr
    have hbr : Tx.By r := by have := rnum_by hb 0 m; rw [hr] at this; exact this
    have h3 := rrow_cat ms r hbr h'
    show l = cat (n :: (rrow ms r 0).1) ++ (rrow ms r 0).2.1
    unfold cat at h3 ⊢
    rw [List.flatMap_cons, List.append_assoc, ← h3]
    exact h2.1
theorem put_l (k : Nat) (hk : 10 ≤ k) : ∀ (ns s : List Nat), (∀ n ∈ ns, n < 4611686018427387904) → s.length + 9 * ns.length ≤ 1000000 →
    (Tx.I ns).foldlM (fun s c => rec_Put.add k s c) (Tx.B s) = some (Tx.B (s ++ cat ns))
  | [], s, _, _ => by
    show some (Tx.B s) = some (Tx.B (s ++ []))
    rw [List.append_nil]
  | n :: ns, s, hn, hl => by
    have h1 := hn n List.mem_cons_self
    have h2 := Cd.num_len (n := n) (by omega)
    have e1 : IntKind.u64.wrap ((n : Nat) : Int) = ((n : Nat) : Int) := Bt.wraps_u64 _ (by omega) (by omega)
    have c1 : (Tx.B s).size + (Tx.B (Cd.num n)).size ≤ 9223372036854775807 := by rw [Tx.B_size, Tx.B_size]; omega
    have ha : rec_Put.add k (Tx.B s) ((n : Nat) : Int) = some (Tx.B (s ++ Cd.num n)) := by
      unfold rec_Put.add
      rw [e1, cnum_f (by omega) k hk, Option.bind_some, if_pos c1, Tx.B_append]
    have hl2 : (s ++ Cd.num n).length + 9 * ns.length ≤ 1000000 := by rw [List.length_append]; rw [List.length_cons] at hl; omega
    have h3 := put_l k hk ns (s ++ Cd.num n) (fun x hx => hn x (List.mem_cons_of_mem _ hx)) hl2
    show (((n : Nat) : Int) :: Tx.I ns).foldlM (fun s c => rec_Put.add k s c) (Tx.B s) = _
    rw [List.foldlM_cons]
    show (rec_Put.add k (Tx.B s) ((n : Nat) : Int)).bind (fun s => (Tx.I ns).foldlM (fun s c => rec_Put.add k s c) s) = _
    rw [ha, Option.bind_some, h3]
    unfold cat
    rw [List.flatMap_cons, List.append_assoc]
theorem cfixed1_f (kd : Nat) (hkd : kd < 256) (k : Nat) (hk : 3 ≤ k) : code_Fixed.f k ((kd : Nat) : Int) 1 = some (Tx.B [kd]) := by
  obtain ⟨j, rfl⟩ : ∃ j, k = j + 3 := ⟨k - 3, by omega⟩
  have h0 : shr .u64 ((kd : Nat) : Int) 0 = ((kd : Nat) : Int) := by
    have := Bt.shr_nat (k := .u64) kd 0 (Nat.zero_le _)
    rw [show ((0 : Nat) : Int) = 0 from rfl, Nat.pow_zero, Nat.div_one] at this
    exact this
  have h1 : ((kd : Nat) : Int) % 256 = ((kd : Nat) : Int) := by omega
  have w0 : wrap64 (8 * 0) = 0 := by decide +kernel
  have w1 : wrap64 ((0 : Int) + 1) = 1 := by decide +kernel
  have hI : ([] : List Int) ++ [((kd : Nat) : Int)] = Tx.I [kd] := rfl
  unfold code_Fixed.f
  rw [show mn (mx 1 0) 8 = 1 by decide, show j + 3 = (j + 1 + 1) + 1 from rfl, code_Fixed.l0, if_pos (by decide), w0, if_pos (by decide), if_pos (by decide), h0, h1, w1, hI, code_Fixed.l0, if_neg (by decide), Tx.strOfNums_I]
/-! records that may be -/
/-- What is known of a kind that may be. -/
structure KOk (kd : Nat) (ms ls : List Nat) : Prop where
  a : Rc.mosts (kd : Int) = Tx.I ms
  len : ls.length = ms.length
  small : ms.length ≤ 3 ∧ ∀ m ∈ ms, m < 4611686018427387904
  tight : (cat ms).length ≤ 9
  d : ∀ ns : List Nat, ns.length = ms.length → allle ns ms → Rc.chk (kd : Int) (Rc.mkR (kd : Int) (Tx.I ns)).1 (Rc.mkR (kd : Int) (Tx.I ns)).2.1 (Rc.mkR (kd : Int) (Tx.I ns)).2.2.1 (Rc.mkR (kd : Int) (Tx.I ns)).2.2.2.1 (Rc.mkR (kd : Int) (Tx.I ns)).2.2.2.2 = allge ns ls
  e : ∀ ns : List Nat, ns.length = ms.length → Rc.flds (kd : Int) (Rc.mkR (kd : Int) (Tx.I ns)).1 (Rc.mkR (kd : Int) (Tx.I ns)).2.1 (Rc.mkR (kd : Int) (Tx.I ns)).2.2.1 (Rc.mkR (kd : Int) (Tx.I ns)).2.2.2.1 (Rc.mkR (kd : Int) (Tx.I ns)).2.2.2.2 = Tx.I ns
theorem kok_1 : KOk 1 [15, 1023, 511] [1, 0, 0] where
  a := rfl
  len := rfl
  small := by decide
  tight := by decide +kernel
  d := fun ns h hle => by
    match ns, h, hle with
    | [x, y, z], _, ⟨h1, h2, h3, _⟩ =>
      rw [Bool.eq_iff_iff]
      simp [Rc.chk, Rc.mkR, Rc.inB, Tx.I, allge]
      try omega
  e := fun ns h => by
    match ns, h with
    | [x, y, z], _ => rfl
theorem kok_2 : KOk 2 [15, 1023] [1, 0] where
  a := rfl
  len := rfl
  small := by decide
  tight := by decide +kernel
  d := fun ns h hle => by
    match ns, h, hle with
    | [x, y], _, ⟨h1, h2, _⟩ =>
      rw [Bool.eq_iff_iff]
      simp [Rc.chk, Rc.mkR, Rc.inB, Tx.I, allge]
      try omega
  e := fun ns h => by
    match ns, h with
    | [x, y], _ => rfl
theorem kok_3 : KOk 3 [511, 511] [0, 0] where
  a := rfl
  len := rfl
  small := by decide
  tight := by decide +kernel
  d := fun ns h hle => by
    match ns, h, hle with
    | [x, y], _, ⟨h1, h2, _⟩ =>
      rw [Bool.eq_iff_iff]
      simp [Rc.chk, Rc.mkR, Rc.inB, Tx.I, allge]
      try omega
  e := fun ns h => by
    match ns, h with
    | [x, y], _ => rfl
theorem kok_4 : KOk 4 [15, 1024] [1, 1] where
  a := rfl
  len := rfl
  small := by decide
  tight := by decide +kernel
  d := fun ns h hle => by
    match ns, h, hle with
    | [x, y], _, ⟨h1, h2, _⟩ =>
      rw [Bool.eq_iff_iff]
      simp [Rc.chk, Rc.mkR, Rc.inB, Tx.I, allge]
      try omega
  e := fun ns h => by
    match ns, h with
    | [x, y], _ => rfl
theorem kok_5 : KOk 5 [15] [1] where
  a := rfl
  len := rfl
  small := by decide
  tight := by decide +kernel
  d := fun ns h hle => by
    match ns, h, hle with
    | [x], _, ⟨h1, _⟩ =>
      rw [Bool.eq_iff_iff]
      simp [Rc.chk, Rc.mkR, Rc.inB, Tx.I, allge]
      try omega
  e := fun ns h => by
    match ns, h with
    | [x], _ => rfl
theorem kok_6 : KOk 6 [15, 15] [1, 1] where
  a := rfl
  len := rfl
  small := by decide
  tight := by decide +kernel
  d := fun ns h hle => by
    match ns, h, hle with
    | [x, y], _, ⟨h1, h2, _⟩ =>
      rw [Bool.eq_iff_iff]
      simp [Rc.chk, Rc.mkR, Rc.inB, Tx.I, allge]
      try omega
  e := fun ns h => by
    match ns, h with
    | [x, y], _ => rfl
theorem kok_7 : KOk 7 [15] [1] where
  a := rfl
  len := rfl
  small := by decide
  tight := by decide +kernel
  d := fun ns h hle => by
    match ns, h, hle with
    | [x], _, ⟨h1, _⟩ =>
      rw [Bool.eq_iff_iff]
      simp [Rc.chk, Rc.mkR, Rc.inB, Tx.I, allge]
      try omega
  e := fun ns h => by
    match ns, h with
    | [x], _ => rfl
theorem kok_8 : KOk 8 [31] [0] where
  a := rfl
  len := rfl
  small := by decide
  tight := by decide +kernel
  d := fun ns h hle => by
    match ns, h, hle with
    | [x], _, ⟨h1, _⟩ =>
      rw [Bool.eq_iff_iff]
      simp [Rc.chk, Rc.mkR, Rc.inB, Tx.I, allge]
      try omega
  e := fun ns h => by
    match ns, h with
    | [x], _ => rfl
theorem kok_9 : KOk 9 [31, 1073741824] [0, 0] where
  a := rfl
  len := rfl
  small := by decide
  tight := by decide +kernel
  d := fun ns h hle => by
    match ns, h, hle with
    | [x, y], _, ⟨h1, h2, _⟩ =>
      rw [Bool.eq_iff_iff]
      simp [Rc.chk, Rc.mkR, Rc.inB, Tx.I, allge]
      try omega
  e := fun ns h => by
    match ns, h with
    | [x, y], _ => rfl
theorem chk_inv {kd a b c d e : Int} (h : Rc.chk kd a b c d e = true) : ∃ (n : Nat) (ms ls ns : List Nat), KOk n ms ls ∧ kd = (n : Int) ∧ 1 ≤ n ∧ n < 10 ∧ ns.length = ms.length ∧ allle ns ms ∧ allge ns ls = true ∧ (a, b, c, d, e) = Rc.mkR (n : Int) (Tx.I ns) := by
  by_cases n1 : kd = 1
  · subst n1
    simp [Rc.chk, Rc.inB] at h
    refine ⟨1, [15, 1023, 511], [1, 0, 0], [a.toNat, b.toNat, c.toNat], kok_1, rfl, by decide, by decide, rfl, ⟨by omega, by omega, by omega, trivial⟩, ?_, ?_⟩
    · simp [allge]
      try omega
    · simp [Rc.mkR, Tx.I]
      omega
  by_cases n2 : kd = 2
  · subst n2
    simp [Rc.chk, Rc.inB] at h
    refine ⟨2, [15, 1023], [1, 0], [a.toNat, b.toNat], kok_2, rfl, by decide, by decide, rfl, ⟨by omega, by omega, trivial⟩, ?_, ?_⟩
    · simp [allge]
      try omega
    · simp [Rc.mkR, Tx.I]
      omega
  by_cases n3 : kd = 3
  · subst n3
    simp [Rc.chk, Rc.inB] at h
    refine ⟨3, [511, 511], [0, 0], [c.toNat, d.toNat], kok_3, rfl, by decide, by decide, rfl, ⟨by omega, by omega, trivial⟩, ?_, ?_⟩
    · simp [allge]
      try omega
    · simp [Rc.mkR, Tx.I]
      omega
  by_cases n4 : kd = 4
  · subst n4
    simp [Rc.chk, Rc.inB] at h
    refine ⟨4, [15, 1024], [1, 1], [a.toNat, e.toNat], kok_4, rfl, by decide, by decide, rfl, ⟨by omega, by omega, trivial⟩, ?_, ?_⟩
    · simp [allge]
      try omega
    · simp [Rc.mkR, Tx.I]
      omega
  by_cases n5 : kd = 5
  · subst n5
    simp [Rc.chk, Rc.inB] at h
    refine ⟨5, [15], [1], [a.toNat], kok_5, rfl, by decide, by decide, rfl, ⟨by omega, trivial⟩, ?_, ?_⟩
    · simp [allge]
      try omega
    · simp [Rc.mkR, Tx.I]
      omega
  by_cases n6 : kd = 6
  · subst n6
    simp [Rc.chk, Rc.inB] at h
    refine ⟨6, [15, 15], [1, 1], [a.toNat, d.toNat], kok_6, rfl, by decide, by decide, rfl, ⟨by omega, by omega, trivial⟩, ?_, ?_⟩
    · simp [allge]
      try omega
    · simp [Rc.mkR, Tx.I]
      omega
  by_cases n7 : kd = 7
  · subst n7
    simp [Rc.chk, Rc.inB] at h
    refine ⟨7, [15], [1], [a.toNat], kok_7, rfl, by decide, by decide, rfl, ⟨by omega, trivial⟩, ?_, ?_⟩
    · simp [allge]
      try omega
    · simp [Rc.mkR, Tx.I]
      omega
  by_cases n8 : kd = 8
  · subst n8
    simp [Rc.chk, Rc.inB] at h
    refine ⟨8, [31], [0], [c.toNat], kok_8, rfl, by decide, by decide, rfl, ⟨by omega, trivial⟩, ?_, ?_⟩
    · simp [allge]
      try omega
    · simp [Rc.mkR, Tx.I]
      omega
  by_cases n9 : kd = 9
  · subst n9
    simp [Rc.chk, Rc.inB] at h
    refine ⟨9, [31, 1073741824], [0, 0], [c.toNat, e.toNat], kok_9, rfl, by decide, by decide, rfl, ⟨by omega, by omega, trivial⟩, ?_, ?_⟩
    · simp [allge]
      try omega
    · simp [Rc.mkR, Tx.I]
      omega
  unfold Rc.chk at h
  rw [if_neg n1, if_neg n2, if_neg n3, if_neg n4, if_neg n5, if_neg n6, if_neg n7, if_neg n8, if_neg n9] at h
  cases h
theorem small_of {ns ms : List Nat} (h : ns.length = ms.length) (hle : allle ns ms) (hm : ∀ m ∈ ms, m < 4611686018427387904) : ∀ n ∈ ns, n < 4611686018427387904 := by
  induction ns generalizing ms with
  | nil => intro n hn; cases hn
  | cons n ns ih =>
    cases ms with
    | nil => cases h
    | cons m ms =>
      intro x hx
      rcases List.mem_cons.1 hx with rfl | hx
      · exact Nat.lt_of_le_of_lt hle.1 (hm m List.mem_cons_self)
      · exact ih (Nat.succ.inj h) hle.2 (fun y hy => hm y (List.mem_cons_of_mem _ hy)) x hx
theorem rrow_put : ∀ (ms ns r : List Nat), ns.length = ms.length → allle ns ms → (∀ m ∈ ms, m < 4611686018427387904) → rrow ms (cat ns ++ r) 0 = (ns, r, 0)
  | [], ns, r, h, _, _ => by
    obtain rfl : ns = [] := List.eq_nil_of_length_eq_zero h
    rfl
  | m :: ms, [], r, h, _, _ => by cases h
  | m :: ms, n :: ns, r, h, hle, hm => by
    have hm1 := hm m List.mem_cons_self
    have hn : n ≤ m := hle.1
    have h1 := Cd.rnum_num (n := n) (most := m) (by omega) (cat ns ++ r)
    rw [if_neg (by omega)] at h1
    have h2 := rrow_put ms ns r (Nat.succ.inj h) hle.2 (fun x hx => hm x (List.mem_cons_of_mem _ hx))
    have e : cat (n :: ns) ++ r = Cd.num n ++ (cat ns ++ r) := by unfold cat; rw [List.flatMap_cons, List.append_assoc]
    show ((Cd.rnum (cat (n :: ns) ++ r) 0 m).1 :: (rrow ms (Cd.rnum (cat (n :: ns) ++ r) 0 m).2.1 (Cd.rnum (cat (n :: ns) ++ r) 0 m).2.2).1, (rrow ms (Cd.rnum (cat (n :: ns) ++ r) 0 m).2.1 (Cd.rnum (cat (n :: ns) ++ r) 0 m).2.2).2) = _
    rw [e, h1]
    dsimp only
    rw [h2]
theorem cat_by : ∀ (ns : List Nat), (∀ n ∈ ns, n < 4611686018427387904) → Tx.By (cat ns)
  | [], _ => Tx.By.nil
  | n :: ns, h => by
    have := h n List.mem_cons_self
    unfold cat
    rw [List.flatMap_cons]
    exact Tx.By.append (fun x hx => Cd.num_by (n := n) (by omega) x hx) (cat_by ns (fun x hx => h x (List.mem_cons_of_mem _ hx)))
theorem cat_len : ∀ (ns : List Nat), (∀ n ∈ ns, n < 4611686018427387904) → (cat ns).length ≤ 9 * ns.length
  | [], _ => Nat.le_refl _
  | n :: ns, h => by
    have h1 := h n List.mem_cons_self
    have h2 := Cd.num_len (n := n) (by omega)
    have h3 := cat_len ns (fun x hx => h x (List.mem_cons_of_mem _ hx))
    unfold cat at h3 ⊢
    rw [List.flatMap_cons, List.length_append, List.length_cons]
    omega
theorem le_mono : ∀ (f n m : Nat), n ≤ m → (Cd.le f n).length ≤ (Cd.le f m).length
  | 0, n, m, _ => Nat.le_refl _
  | f + 1, n, m, h => by
    unfold Cd.le
    by_cases h0 : n = 0
    · rw [if_pos h0]; exact Nat.zero_le _
    · rw [if_neg h0, if_neg (by omega), List.length_cons, List.length_cons]
      exact Nat.succ_le_succ (le_mono f (n / 256) (m / 256) (Nat.div_le_div_right h))
theorem cat_mono : ∀ (ns ms : List Nat), ns.length = ms.length → allle ns ms → (cat ns).length ≤ (cat ms).length
  | [], [], _, _ => Nat.le_refl _
  | [], m :: ms, h, _ => by cases h
  | n :: ns, [], h, _ => by cases h
  | n :: ns, m :: ms, h, hle => by
    have h1 := cat_mono ns ms (Nat.succ.inj h) hle.2
    have h2 := le_mono 9 n m hle.1
    unfold cat at h1 ⊢
    rw [List.flatMap_cons, List.flatMap_cons, List.length_append, List.length_append]
    have e1 : (Cd.num n).length = (Cd.le 9 n).length + 1 := rfl
    have e2 : (Cd.num m).length = (Cd.le 9 m).length + 1 := rfl
    omega
/-- A record as numbers: what it is put as. -/
structure Rcd (kd a b c d e : Int) (t : List Nat) : Prop where
  by_ : Tx.By t
  len : 1 ≤ t.length ∧ t.length ≤ 10
  put : ∀ k, 40 ≤ k → rec_Put.f k kd a b c d e = some (Tx.B t)
  take : ∀ k r, 40 ≤ k → Tx.By r → r.length < 4000000000000000000 → rec_Take.f k (Tx.B (t ++ r)) 0 = some (kd, a, b, c, d, e, 0, Tx.B r, 0)
theorem rcd_of {kd a b c d e : Int} (h : Rc.chk kd a b c d e = true) : ∃ (n : Nat) (ms ls ns : List Nat), KOk n ms ls ∧ kd = (n : Int) ∧ n < 10 ∧ ns.length = ms.length ∧ allle ns ms ∧ (∀ x ∈ ns, x < 4611686018427387904) ∧ (a, b, c, d, e) = Rc.mkR (n : Int) (Tx.I ns) ∧ Rcd kd a b c d e (n :: cat ns) := by
  obtain ⟨n, ms, ls, ns, K, rfl, n1, n2, hlen, hle, hge, hmk⟩ := chk_inv h
  have hsm := small_of hlen hle K.small.2
  have hms := K.small.1
  have hcl := Nat.le_trans (cat_mono ns ms hlen hle) K.tight
  have hcb := cat_by ns hsm
  refine ⟨n, ms, ls, ns, K, rfl, n2, hlen, hle, hsm, hmk, ?_⟩
  have e1 : a = (Rc.mkR (n : Int) (Tx.I ns)).1 := congrArg (fun z => z.1) hmk
  have e2 : b = (Rc.mkR (n : Int) (Tx.I ns)).2.1 := congrArg (fun z => z.2.1) hmk
  have e3 : c = (Rc.mkR (n : Int) (Tx.I ns)).2.2.1 := congrArg (fun z => z.2.2.1) hmk
  have e4 : d = (Rc.mkR (n : Int) (Tx.I ns)).2.2.2.1 := congrArg (fun z => z.2.2.2.1) hmk
  have e5 : e = (Rc.mkR (n : Int) (Tx.I ns)).2.2.2.2 := congrArg (fun z => z.2.2.2.2) hmk
  have hd := K.d ns hlen hle
  have he := K.e ns hlen
  rw [← e1, ← e2, ← e3, ← e4, ← e5] at hd he
  refine ⟨Tx.By.cons (by omega) hcb, ⟨by rw [List.length_cons]; omega, by rw [List.length_cons]; omega⟩, ?_, ?_⟩
  · intro k hk
    have w1 : IntKind.u64.wrap ((n : Nat) : Int) = ((n : Nat) : Int) := Bt.wraps_u64 _ (by omega) (by omega)
    have h2 := put_l k (by omega) ns [n] hsm (by simp; omega)
    unfold rec_Put.f
    rw [w1, cfixed1_f n (by omega) k (by omega), Option.bind_some, he, h2]
    rfl
  · intro k r hk hb hr
    have hl : (n :: cat ns ++ r).length < 4611686018427387904 := by rw [List.length_append, List.length_cons]; omega
    have hbs : Tx.By (n :: cat ns ++ r) := Tx.By.append (Tx.By.cons (by omega) hcb) hb
    have h1 : code_Reader_Fixed.f k (Tx.B (n :: cat ns ++ r)) 0 1 = _ := crfix_f (n :: cat ns ++ r) hbs hl 0 k (by omega)
    have q1 : Cd.rbytes (n :: cat ns ++ r) 0 1 = ([n], cat ns ++ r, 0) := rb_one n (cat ns ++ r)
    have q2 : Cd.val [n] = n := by show n + 256 * 0 = n; omega
    rw [q1] at h1
    dsimp only at h1
    rw [q2] at h1
    have hw : wrap64 ((n : Nat) : Int) = (n : Int) := Bt.wrap_ok (by omega) (by omega)
    have h3 := crow_f k (by omega) ms (cat ns ++ r) 0 K.small.2 (Tx.By.append hcb hb) (by rw [List.length_append, List.length_cons] at hl; rw [List.length_append]; omega)
    rw [rrow_put ms ns r hlen hle K.small.2] at h3
    dsimp only at h3
    have h3' : rec_Take.row k (Tx.I ms) (Tx.B (cat ns ++ r)) 0 = some (Tx.I ns, Tx.B r, 0) := h3
    have h1' : code_Reader_Fixed.f k (Tx.B (n :: cat ns ++ r)) 0 1 = some (((n : Nat) : Int), Tx.B (cat ns ++ r), 0) := h1
    unfold rec_Take.f
    rw [h1', Option.bind_some]
    dsimp only
    rw [hw, K.a, h3', Option.bind_some]
    dsimp only
    unfold rec_Take.fin
    rw [if_pos rfl, ← e1, ← e2, ← e3, ← e4, ← e5, hd, hge, if_pos rfl]
def okR (r : S58) : Prop := Rc.chk r.f0 r.f1 r.f2 r.f3 r.f4 r.f5 = true
theorem w64n (i : Nat) (h : i < 1000000) : wrap64 ((i : Int) + 1) = ((i + 1 : Nat) : Int) := by unfold wrap64; omega
theorem rdT_mid (pre r : List S58) (v : S58) : rd_T58 (pre ++ v :: r) ((pre.length : Nat) : Int) = v := by
  unfold rd_T58
  rw [Int.toNat_natCast, List.getD_eq_getElem?_getD, List.getElem?_append_right (Nat.le_refl _), Nat.sub_self]
  rfl
set_option maxRecDepth 100000 in
theorem awake_k : tinderboxlaw07_awake.f 60 = some true := by decide +kernel
theorem rec_tx (r : S58) (h : okR r) : ∃ t : List Nat, Rcd r.f0 r.f1 r.f2 r.f3 r.f4 r.f5 t := by
  obtain ⟨n, ms, ls, ns, K, e, hn, hlen, hle, hsm, hmk, R⟩ := rcd_of h
  exact ⟨_, R⟩
open Classical in
noncomputable def tx (r : S58) : List Nat := if h : okR r then Classical.choose (rec_tx r h) else []
theorem tx_spec {r : S58} (h : okR r) : Rcd r.f0 r.f1 r.f2 r.f3 r.f4 r.f5 (tx r) := by
  unfold tx
  rw [dif_pos h]
  exact Classical.choose_spec (rec_tx r h)
noncomputable def flat : List S58 → List Nat
  | [] => []
  | r :: l => tx r ++ flat l
theorem flat_app (l : List S58) (r : S58) : flat (l ++ [r]) = flat l ++ tx r := by
  induction l with
  | nil => show tx r ++ [] = [] ++ tx r; rw [List.append_nil, List.nil_append]
  | cons b l ih => show tx b ++ flat (l ++ [r]) = (tx b ++ flat l) ++ tx r; rw [ih, List.append_assoc]
theorem flat_by : ∀ (l : List S58), (∀ r ∈ l, okR r) → Tx.By (flat l) ∧ (flat l).length ≤ 10 * l.length
  | [], _ => ⟨Tx.By.nil, Nat.le_refl _⟩
  | r :: l, h => by
    have h1 := tx_spec (h r List.mem_cons_self)
    have h2 := flat_by l (fun x hx => h x (List.mem_cons_of_mem _ hx))
    refine ⟨Tx.By.append h1.by_ h2.1, ?_⟩
    have h3 := h1.len
    have h4 := h2.2
    show (tx r ++ flat l).length ≤ _
    rw [List.length_append, List.length_cons]
    omega
theorem l1_all : ∀ (suf pre : List S58), (∀ r ∈ suf, okR r) → pre.length + suf.length ≤ 1000 → ∀ F, 100 ≤ F → tinderboxlaw07_RecRows.l1 (suf.length + 1 + F) (pre ++ suf) (pre.length : Int) (Tx.B (flat suf)) 0 = some true := by
  intro suf
  induction suf with
  | nil =>
    intro pre _ hl F hF
    have aw := le_up tinderboxlaw07_awake.mono awake_k (F - 60)
    rw [show 60 + (F - 60) = F by omega] at aw
    have he : code_Reader_End.f (Tx.B (flat [])) 0 = some (0, Tx.B [], 0) := cend_f [] 0
    rw [show ([] : List S58).length + 1 + F = F + 1 by simp; omega, tinderboxlaw07_RecRows.l1, if_neg (by simp), aw, Option.bind_some, if_pos rfl, he, Option.bind_some]
    rfl
  | cons r suf ih =>
    intro pre hok hl F hF
    rw [List.length_cons] at hl
    have R := tx_spec (hok r List.mem_cons_self)
    have hf := flat_by suf (fun x hx => hok x (List.mem_cons_of_mem _ hx))
    have hz := hf.2
    have ht := R.take (suf.length + 1 + F) (flat suf) (by omega) hf.1 (by omega)
    have i2 := ih (pre ++ [r]) (fun x hx => hok x (List.mem_cons_of_mem _ hx)) (by rw [List.length_append, List.length_singleton]; omega) F hF
    rw [List.append_assoc, List.length_append, List.length_singleton] at i2
    have e0 : Tx.B (flat (r :: suf)) = Tx.B (tx r ++ flat suf) := rfl
    rw [show (r :: suf).length + 1 + F = (suf.length + 1 + F) + 1 by rw [List.length_cons]; omega, tinderboxlaw07_RecRows.l1, e0, if_pos (by rw [List.length_append, List.length_cons]; omega), ht, Option.bind_some]
    dsimp only
    rw [if_pos rfl, if_pos (by omega), rdT_mid, if_neg (by simp), w64n _ (by omega)]
    exact i2
theorem l0_all (x0 : List S58) : ∀ (n i : Nat) (W : List S58), i + n = 30 → W.length ≤ i → (∀ r ∈ W, okR r) → ∀ F, 300 + 2 * n ≤ F → tinderboxlaw07_RecRows.l0 F x0 (Tx.B (flat W)) W (i : Int) = some true := by
  intro n
  have fin : ∀ (i : Nat) (W : List S58), W.length ≤ 30 → (∀ r ∈ W, okR r) → ∀ G, 200 ≤ G → tinderboxlaw07_RecRows.j1 (G + 1) x0 (Tx.B (flat W)) W (i : Int) false = some true := by
    intro i W hW hok G hG
    have h1 := l1_all W [] hok (by simp; omega) (G - W.length - 1) (by omega)
    rw [show W.length + 1 + (G - W.length - 1) = G by omega] at h1
    rw [tinderboxlaw07_RecRows.j1, if_neg (by decide)]
    unfold code_New.f
    rw [Option.bind_some]
    exact h1
  induction n with
  | zero =>
    intro i W hi hW hok F hF
    obtain ⟨G, rfl⟩ : ∃ G, F = G + 1 + 1 := ⟨F - 2, by omega⟩
    have hd : decide ((i : Int) < 30) = false := decide_eq_false (by omega)
    rw [tinderboxlaw07_RecRows.l0, hd, ite_self]
    exact fin i W (by omega) hok G (by omega)
  | succ n ih =>
    intro i W hi hW hok F hF
    obtain ⟨G, rfl⟩ : ∃ G, F = G + 1 + 1 := ⟨F - 2, by omega⟩
    have hd : decide ((i : Int) < 30) = true := decide_eq_true (by omega)
    rw [tinderboxlaw07_RecRows.l0, hd]
    by_cases hx : ¬ (i : Int) < x0.length
    · rw [if_neg hx]
      exact fin i W (by omega) hok G (by omega)
    · have hx1 : (i : Int) < x0.length := by omega
      rw [if_pos hx1, tinderboxlaw07_RecRows.j1, if_pos rfl, if_pos (by omega), if_pos hx1]
      unfold rec_Check.f
      rw [Option.bind_some]
      by_cases ho : Rc.chk (rd_T58 x0 i).f0 (rd_T58 x0 i).f1 (rd_T58 x0 i).f2 (rd_T58 x0 i).f3 (rd_T58 x0 i).f4 (rd_T58 x0 i).f5 = true
      · obtain ⟨r, hr⟩ : ∃ r, rd_T58 x0 (i : Int) = r := ⟨_, rfl⟩
        rw [hr] at ho ⊢
        have R := tx_spec (r := r) ho
        have hp := R.put G (by omega)
        have h3 := R.len
        have h4 := (flat_by W hok).2
        have hall : ∀ x ∈ W ++ [r], okR x := by
          intro x hx
          rcases List.mem_append.1 hx with h | h
          · exact hok x h
          · obtain rfl := List.mem_singleton.1 h
            exact ho
        rw [if_pos ho, hp, Option.bind_some, if_pos (by rw [Tx.B_size, Tx.B_size]; omega), if_pos (by omega), w64n _ (by omega), Tx.B_append, ← flat_app]
        exact ih (i + 1) (W ++ [r]) (by omega) (by rw [List.length_append, List.length_singleton]; omega) hall G (by omega)
      · rw [if_neg ho, w64n _ (by omega)]
        exact ih (i + 1) W (by omega) (by omega) hok G (by omega)
theorem RecRows (l0 : List S58) (_ : l0.length ≤ Go.maxLen) : ∃ k, tinderboxlaw07_RecRows.f k l0 = some true :=
  ⟨1000, l0_all l0 30 0 [] rfl (Nat.le_refl _) (fun r hr => by cases hr) 1000 (by decide)⟩
end Go.Proofs.Ytoiahmdibibceaa.Pure
