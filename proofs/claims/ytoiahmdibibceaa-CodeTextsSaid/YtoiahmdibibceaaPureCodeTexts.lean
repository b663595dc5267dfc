/- Texts are read again, one behind the other, with numbers between them; a text that is longer than it may be is told. For every input. -/
import Derived.Test.YtoiahmdibibceaaXCodeTextsx1
import Derived.Test.YtoiahmdibibceaaXCodeTextsx2
import Derived.Test.YtoiahmdibibceaaMBits
import Derived.Test.YtoiahmdibibceaaMText
import Derived.Test.YtoiahmdibibceaaCode
namespace Go.Proofs.Ytoiahmdibibceaa.Pure
open Go.RowKit Go.Proofs.Ytoiahmdibibceaa Go.Proofs.Ytoiahmdibibceaa.XCodeTexts Go.Proofs.YtoiahmdibibceaaW.PrintWords Go.Proofs.YtoiahmdibibceaaW.PrintLast Go.Proofs.YtoiahmdibibceaaW.PrintMore
set_option linter.unusedVariables false
set_option linter.unusedSimpArgs false
/-! numbers as bytes -/
theorem cnum_l0 : ∀ (d k n : Nat) (ds : List Nat), Tx.By ds → n < 256 ^ d → ds.length + d ≤ 9 →
    code_Num.l0 (k + d + 1) (n : Int) (Tx.I (ds.length :: ds)) = some (Tx.B ((ds ++ Cd.le d n).length :: (ds ++ Cd.le d n))) := by
  intro d
  induction d with
  | zero =>
    intro k n ds hb hn hd
    obtain rfl : n = 0 := by simpa using hn
    have c1 : ¬ ((0 : Nat) : Int) > 0 := by omega
    rw [code_Num.l0, if_neg c1, Tx.strOfNums_I]
    show _ = some (Tx.B ((ds ++ []).length :: (ds ++ [])))
    rw [List.append_nil]
  | succ d ih =>
    intro k n ds hb hn hd
    have hz : Cd.le (d + 1) n = if n = 0 then [] else n % 256 :: Cd.le d (n / 256) := rfl
    by_cases h0 : n = 0
    · have c1 : ¬ (n : Int) > 0 := by omega
      rw [show k + (d + 1) + 1 = (k + d + 1) + 1 by omega, code_Num.l0, if_neg c1, Tx.strOfNums_I, hz, if_pos h0, List.append_nil]
    · have c1 : (n : Int) > 0 := by omega
      have c2 : (Tx.I (ds.length :: ds)).length < 140737488355328 := by rw [Tx.I_len, List.length_cons]; omega
      have e1 : (n : Int) % 256 = ((n % 256 : Nat) : Int) := by omega
      have e2 : (n : Int) / 256 = ((n / 256 : Nat) : Int) := by omega
      have c3 : (0 : Int) < ((Tx.I ((ds.length :: ds) ++ [n % 256])).length : Int) := by rw [Tx.I_len]; simp; omega
      have e3 : (rd (Tx.I ((ds.length :: ds) ++ [n % 256])) 0 + 1) % 256 = ((ds.length + 1 : Nat) : Int) := by
        rw [show (0 : Int) = ((0 : Nat) : Int) from rfl, Tx.I_rd]
        show ((ds.length : Int) + 1) % 256 = _
        omega
      have e4 : (Tx.I ((ds.length :: ds) ++ [n % 256])).set (0 : Int).toNat ((ds.length + 1 : Nat) : Int) = Tx.I ((ds ++ [n % 256]).length :: (ds ++ [n % 256])) := by
        rw [show (0 : Int).toNat = 0 from rfl, Tx.I_set, List.length_append]
        rfl
      have hb2 : Tx.By (ds ++ [n % 256]) := hb.append (Tx.By.one (by omega))
      have hl2 : (ds ++ [n % 256]).length + d ≤ 9 := by rw [List.length_append]; simp; omega
      have hn2 : n / 256 < 256 ^ d := by rw [Nat.pow_succ] at hn; omega
      have ih1 := ih k (n / 256) (ds ++ [n % 256]) hb2 hn2 hl2
      rw [show k + (d + 1) + 1 = (k + d + 1) + 1 by omega, code_Num.l0, if_pos c1, if_pos c2, e1, e2, Tx.I_snoc, Option.bind_some, if_pos c3, e3, e4, ih1, hz, if_neg h0, List.append_assoc]
      rfl
theorem cnum_f {n : Nat} (hn : n < 18446744073709551616) (k : Nat) (hk : 10 ≤ k) : code_Num.f k (n : Int) = some (Tx.B (Cd.num n)) := by
  obtain ⟨j, rfl⟩ : ∃ j, k = j + 9 + 1 := ⟨k - 10, by omega⟩
  have h := cnum_l0 9 j n [] Tx.By.nil (Nat.lt_of_lt_of_le hn (by decide)) (by decide)
  rw [List.nil_append] at h
  exact h
theorem cvalue_l0 (s : List Nat) (hs : Tx.By s) (hl : s.length ≤ 8) : ∀ (i k : Nat), i ≤ s.length → code_value.l0 (k + i + 1) (Tx.B s) ((Cd.val (s.drop i) : Nat) : Int) ((i : Int) - 1) = some ((Cd.val s : Nat) : Int) := by
  intro i
  induction i with
  | zero =>
    intro k hi
    have c1 : ¬ (((0 : Nat) : Int) - 1) ≥ 0 := by omega
    rw [code_value.l0, if_neg c1, List.drop_zero]
  | succ i ih =>
    intro k hi
    have e0 : ((i + 1 : Nat) : Int) - 1 = (i : Int) := by omega
    have c1 : (i : Int) ≥ 0 := by omega
    have c2 : (i : Int) < ((Tx.B s).size : Int) := by rw [Tx.B_size]; omega
    have hd := Tx.drop_co (l := s) (i := i) (by omega)
    have hlt := Cd.val_lt (s.drop (i + 1)) (hs.drop _)
    have hc := Tx.co_lt hs i
    have hv : Cd.val (s.drop i) = Tx.co s i + 256 * Cd.val (s.drop (i + 1)) := by rw [hd]; rfl
    have hv64 := Cd.val_lt64 (l := s.drop i) (hs.drop _) (by rw [List.length_drop]; omega)
    have b1 : (0 : Int) ≤ ((Cd.val (s.drop (i + 1)) * 256 : Nat) : Int) := by omega
    have b2 : ((Cd.val (s.drop (i + 1)) * 256 : Nat) : Int) < 2 ^ 64 := by omega
    have b3 : (0 : Int) ≤ ((Tx.co s i : Nat) : Int) := by omega
    have b4 : ((Tx.co s i : Nat) : Int) < 2 ^ 64 := by omega
    have b5 : ((Tx.co s i : Nat) : Int) < 2 ^ 8 := by omega
    have b6 : ((Cd.val (s.drop (i + 1)) * 256 : Nat) : Int) % 2 ^ 8 = 0 := by omega
    have e1 : wrap64 ((i : Int) - 1) = (i : Int) - 1 := Bt.wrap_ok (by omega) (by omega)
    have b7 : ((Cd.val (s.drop (i + 1)) * 256 : Nat) : Int) + ((Tx.co s i : Nat) : Int) = ((Cd.val (s.drop i) : Nat) : Int) := by omega
    have e2 : ((Cd.val (s.drop (i + 1)) : Nat) : Int) * 256 = ((Cd.val (s.drop (i + 1)) * 256 : Nat) : Int) := by omega
    have e3 := bits_join .u64 64 (Nat.le_refl 64) (fun n h0 h1 => Bt.wraps_u64 n h0 h1) 8 ((Cd.val (s.drop (i + 1)) * 256 : Nat) : Int) ((Tx.co s i : Nat) : Int) b1 b6 b2 b3 b5 b4
    rw [show k + (i + 1) + 1 = (k + i + 1) + 1 by omega, code_value.l0, e0, if_pos c1, if_pos c1, if_pos c2, e2, Bt.wraps_u64 _ b1 b2, Tx.bt_B hs, Bt.wraps_u64 _ b3 b4, e3, b7, e1]
    exact ih k (by omega)
theorem cvalue_f (s : List Nat) (hs : Tx.By s) (hl : s.length ≤ 8) (k : Nat) (hk : 10 ≤ k) : code_value.f k (Tx.B s) = some ((Cd.val s : Nat) : Int) := by
  obtain ⟨j, rfl⟩ : ∃ j, k = j + s.length + 1 := ⟨k - (s.length + 1), by omega⟩
  have e1 : wrap64 (((Tx.B s).size : Int) - 1) = (s.length : Int) - 1 := by rw [Tx.B_size]; exact Bt.wrap_ok (by omega) (by omega)
  have h := cvalue_l0 s hs hl s.length j (Nat.le_refl _)
  rw [List.drop_eq_nil_of_le (Nat.le_refl _)] at h
  unfold code_value.f
  rw [e1]
  exact h
/-! the reader -/
theorem cfail_f (l : List Nat) (e m : Nat) : code_Reader_fail.f (Tx.B l) (e : Int) (m : Int) = some (if e = 0 then (Tx.B [], (m : Int)) else (Tx.B l, (e : Int))) := by
  unfold code_Reader_fail.f
  by_cases h : e = 0
  · rw [if_pos (by omega), if_pos h]; rfl
  · rw [if_neg (by omega), if_neg h]
theorem rb_neg {l : List Nat} {n : Int} (h : n < 0 ∨ n > (l.length : Int)) : Cd.rbytes l 0 n = ([], [], 2) := by
  unfold Cd.rbytes
  rw [if_neg (by simp), if_pos h]
theorem rb_in {l : List Nat} {n : Int} (h0 : 0 ≤ n) (h : n ≤ (l.length : Int)) : Cd.rbytes l 0 n = (l.take n.toNat, l.drop n.toNat, 0) := by
  unfold Cd.rbytes
  rw [if_neg (by simp), if_neg (by omega)]
theorem cbytes_f (l : List Nat) (hl : l.length < 4611686018427387904) (e : Nat) (n : Int) : code_Reader_Bytes.f (Tx.B l) (e : Int) n = some (Tx.B (Cd.rbytes l e n).1, Tx.B (Cd.rbytes l e n).2.1, ((Cd.rbytes l e n).2.2 : Int)) := by
  unfold code_Reader_Bytes.f code_Reader_Err.f
  rw [Option.bind_some]
  dsimp only
  have hf := cfail_f l 0 2
  by_cases h : e = 0
  · subst h
    rw [if_pos (by rfl)]
    by_cases h1 : n < 0
    · rw [if_pos h1, rb_neg (.inl h1)]
      refine Eq.trans (congrArg (fun z => Option.bind z _) hf) ?_
      rfl
    · rw [if_neg h1, Tx.B_size]
      by_cases h2 : n > (l.length : Int)
      · rw [if_pos h2, rb_neg (.inr h2)]
        refine Eq.trans (congrArg (fun z => Option.bind z _) hf) ?_
        rfl
      · rw [if_neg h2, if_pos (by omega), if_pos (by omega), rb_in (by omega) (by omega), Tx.B_extract, Tx.B_extract, List.drop_zero, List.take_length]
  · rw [if_neg (by omega), Cd.rbytes_err h]
    rfl
theorem rb_one (c : Nat) (r : List Nat) : Cd.rbytes (c :: r) 0 1 = ([c], r, 0) := by
  unfold Cd.rbytes
  rw [if_neg (by simp), if_neg (by rw [List.length_cons]; omega)]
  rfl
theorem rb_nil : Cd.rbytes [] 0 1 = ([], [], 2) := rfl
theorem rb_long {r : List Nat} {c : Nat} (h : c > r.length) : Cd.rbytes r 0 (c : Int) = ([], [], 2) := by
  unfold Cd.rbytes
  rw [if_neg (by simp), if_pos (by omega)]
theorem rb_ok {r : List Nat} {c : Nat} (h : c ≤ r.length) : Cd.rbytes r 0 (c : Int) = (r.take c, r.drop c, 0) := by
  unfold Cd.rbytes
  rw [if_neg (by simp), if_neg (by omega), Int.toNat_natCast]
theorem cj0_f (k : Nat) (most n : Nat) (b : Bool) (l : List Nat) : code_Reader_Num.j0 (k + 1) (most : Int) (n : Int) b (Tx.B l) ((0 : Nat) : Int) = some (if b = true then (0, Tx.B [], 3) else if n > most then (0, Tx.B [], 5) else ((n : Int), Tx.B l, 0)) := by
  have hf : ∀ m : Nat, code_Reader_fail.f (Tx.B l) ((0 : Nat) : Int) (m : Int) = some (Tx.B [], (m : Int)) := fun m => by rw [cfail_f, if_pos rfl]
  have h3 := hf 3
  have h5 := hf 5
  rw [code_Reader_Num.j0]
  cases b with
  | true =>
    rw [if_pos rfl, if_pos rfl]
    refine Eq.trans (congrArg (fun z => Option.bind z _) h3) ?_
    rfl
  | false =>
    have hff : ¬ (false = true) := by decide
    rw [if_neg hff, if_neg hff]
    by_cases h : n > most
    · have h' : (n : Int) > (most : Int) := by omega
      rw [if_pos h', if_pos h]
      refine Eq.trans (congrArg (fun z => Option.bind z _) h5) ?_
      rfl
    · have h' : ¬ (n : Int) > (most : Int) := by omega
      rw [if_neg h', if_neg h]
      rfl
theorem crnum_f (l : List Nat) (hb : Tx.By l) (hl : l.length < 4611686018427387904) (e most k : Nat) (hk : 12 ≤ k) :
    code_Reader_Num.f k (Tx.B l) (e : Int) (most : Int) = some (((Cd.rnum l e most).1 : Int), Tx.B (Cd.rnum l e most).2.1, ((Cd.rnum l e most).2.2 : Int)) := by
  obtain ⟨j, rfl⟩ : ∃ j, k = j + 1 := ⟨k - 1, by omega⟩
  have hj : 10 ≤ j + 1 := by omega
  unfold code_Reader_Num.f
  rw [cbytes_f l hl e 1, Option.bind_some]
  dsimp only
  by_cases he : e = 0
  · subst he
    cases l with
    | nil =>
      rw [rb_nil, if_pos (Tx.toList_nil.2 rfl)]
      rfl
    | cons c r =>
      have hc := hb.head
      have hr := hb.tail
      have hr2 : r.length < 4611686018427387904 := by rw [List.length_cons] at hl; omega
      have c1 : ¬ (Tx.B [c]).toList = ([] : List UInt8) := by rw [Tx.toList_nil]; simp
      have c2 : (0 : Int) < ((Tx.B [c]).size : Int) := by rw [Tx.B_size]; show (0 : Int) < 1; decide
      have e1 : bt (Tx.B [c]) 0 = (c : Int) := Tx.bt_B (Tx.By.one hc) 0
      have e2 : wrap64 (c : Int) = (c : Int) := Bt.wrap_ok (by omega) (by omega)
      have hf := cfail_f r 0 3
      have hz : Cd.rnum (c :: r) 0 most = if c > 8 then (0, [], 3) else if c > r.length then (0, [], 2) else if c ≠ 0 ∧ r.getD (c - 1) 0 = 0 then (0, [], 3) else if Cd.val (r.take c) > most then (0, [], 5) else (Cd.val (r.take c), r.drop c, 0) := rfl
      rw [rb_one]
      dsimp only
      rw [if_neg c1, if_pos c2, e1, hz]
      by_cases h1 : c > 8
      · rw [if_pos (by omega), if_pos h1]
        refine Eq.trans (congrArg (fun z => Option.bind z _) hf) ?_
        rfl
      rw [if_neg (by omega), if_neg h1, e2]
      have hcb := cbytes_f r hr2 0 (c : Int)
      refine Eq.trans (congrArg (fun z => Option.bind z _) hcb) ?_
      rw [Option.bind_some]
      dsimp only
      by_cases h2 : c > r.length
      · rw [rb_long h2, if_pos h2]
        dsimp only
        rw [cvalue_f [] Tx.By.nil (by decide) _ hj, Option.bind_some, if_neg (by decide)]
        rfl
      · have hle : c ≤ r.length := by omega
        have hlen : (r.take c).length = c := by rw [List.length_take]; omega
        rw [rb_ok hle, if_neg h2]
        dsimp only
        rw [cvalue_f (r.take c) (hr.take c) (by omega) _ hj, Option.bind_some, if_pos (by rfl)]
        by_cases h3 : c = 0
        · have h4 : r.take c = [] := by rw [h3]; rfl
          have c6 : ¬ (c ≠ 0 ∧ r.getD (c - 1) 0 = 0) := fun h => h.1 h3
          have hff : ¬ (false = true) := by decide
          rw [if_pos (Tx.toList_nil.2 h4), cj0_f, if_neg hff, if_neg c6]
          split <;> rfl
        · have c3 : ¬ (Tx.B (r.take c)).toList = ([] : List UInt8) := by
            rw [Tx.toList_nil]
            intro h
            rw [h] at hlen
            exact h3 hlen.symm
          have e3 : wrap64 (((Tx.B (r.take c)).size : Int) - 1) = ((c - 1 : Nat) : Int) := by rw [Tx.B_size, hlen, Bt.wrap_ok (by omega) (by omega)]; omega
          have c4 : (0 : Int) ≤ ((c - 1 : Nat) : Int) := by omega
          have c5 : ((c - 1 : Nat) : Int) < ((Tx.B (r.take c)).size : Int) := by rw [Tx.B_size, hlen]; omega
          have e4 : Tx.co (r.take c) (c - 1) = r.getD (c - 1) 0 := by rw [Tx.co_take, if_pos (by omega)]; rfl
          rw [if_neg c3, e3, if_pos c4, if_pos c5, Tx.bt_B (hr.take c), cj0_f, e4]
          by_cases h5 : r.getD (c - 1) 0 = 0
          · have c6 : c ≠ 0 ∧ r.getD (c - 1) 0 = 0 := ⟨h3, h5⟩
            have hz0 : (((r.getD (c - 1) 0 : Nat) : Int) == 0) = true := by rw [h5]; rfl
            rw [if_pos c6, hz0, if_pos rfl]
            rfl
          · have hne : (((r.getD (c - 1) 0 : Nat) : Int) == 0) = false := beq_eq_false_iff_ne.2 (by omega)
            have c6 : ¬ (c ≠ 0 ∧ r.getD (c - 1) 0 = 0) := fun h => h5 h.2
            have hff : ¬ (false = true) := by decide
            rw [if_neg c6, hne, if_neg hff]
            split <;> rfl
  · rw [Cd.rbytes_err he, if_pos (Tx.toList_nil.2 rfl), Cd.rnum_err he]
    rfl
theorem cend_f (l : List Nat) (e : Nat) : code_Reader_End.f (Tx.B l) (e : Int) = some (((Cd.rend l e : Nat) : Int), Tx.B l, (e : Int)) := by
  unfold code_Reader_End.f code_Reader_Err.f Cd.rend
  rw [Option.bind_some]
  dsimp only
  by_cases h : e = 0
  · subst h
    rw [if_pos (by rfl)]
    by_cases h2 : l = []
    · rw [if_pos (Tx.toList_nil.2 h2), if_neg (by rintro ⟨_, h⟩; exact h h2)]
      rfl
    · rw [if_neg (fun h => h2 (Tx.toList_nil.1 h)), if_pos ⟨rfl, h2⟩]
      rfl
  · rw [if_neg (by omega), if_neg (by rintro ⟨h', _⟩; exact h h')]
    rfl
theorem ctext_f (l : List Nat) (hl : l.length < 4611686018427387904) (k : Nat) (hk : 10 ≤ k) : code_Text.f k (Tx.B l) = some (Tx.B (Cd.num l.length ++ l)) := by
  have h1 := Cd.num_len (n := l.length) (by omega)
  have c1 : (Tx.B (Cd.num l.length)).size + (Tx.B l).size ≤ 9223372036854775807 := by rw [Tx.B_size, Tx.B_size]; omega
  have e1 : IntKind.u64.wrap (((Tx.B l).size : Nat) : Int) = ((l.length : Nat) : Int) := by rw [Tx.B_size]; exact Bt.wraps_u64 _ (by omega) (by omega)
  unfold code_Text.f
  rw [e1, cnum_f (by omega) k hk, Option.bind_some, if_pos c1, Tx.B_append]
theorem awake_f (k : Nat) (hk : 12 ≤ k) : tinderboxlaw04_awake.f k = some true := by
  have h300 : Cd.num 300 = [2, 44, 1] := by decide
  have h2 : Cd.num 2 = [1, 2] := by decide
  have hb : Tx.By [2, 44, 1] := by unfold Tx.By; decide
  have n1 := cnum_f (n := 300) (by decide) k (by omega)
  rw [h300] at n1
  have n2 := crnum_f [2, 44, 1] hb (by decide) 0 1000 k hk
  have e2 : Cd.rnum [2, 44, 1] 0 1000 = (300, [], 0) := by decide
  rw [e2] at n2
  have n3 := cend_f [] 0
  have n4 := ctext_f [97, 98] (by decide) k (by omega)
  have e4 : Cd.num ([97, 98] : List Nat).length ++ [97, 98] = [1, 2, 97, 98] := by decide
  rw [e4] at n4
  unfold tinderboxlaw04_awake.f code_New.f
  refine Eq.trans (congrArg (fun z => Option.bind z _) n1) ?_
  rw [Option.bind_some, Option.bind_some]
  refine Eq.trans (congrArg (fun z => Option.bind z _) n2) ?_
  rw [Option.bind_some]
  dsimp only
  rw [if_pos (by rfl)]
  refine Eq.trans (congrArg (fun z => Option.bind z _) n3) ?_
  rw [Option.bind_some]
  dsimp only
  rw [if_pos (by rfl)]
  refine Eq.trans (congrArg (fun z => Option.bind z _) n1) ?_
  rw [Option.bind_some, if_pos (by rw [Tx.toList_B]; rfl)]
  refine Eq.trans (congrArg (fun z => Option.bind z _) n4) ?_
  rw [Option.bind_some, Tx.toList_B]
  rfl
theorem few_f (l : List Nat) : tinderboxlaw04_few.f (Tx.B l) = some (Tx.B (l.take 300)) := by
  unfold tinderboxlaw04_few.f
  rw [Tx.B_size]
  by_cases h : (l.length : Int) > 300
  · rw [if_pos h, if_pos (by decide), if_pos (by omega), Tx.B_extract, List.drop_zero]
  · rw [if_neg h, List.take_of_length_le (by omega)]
theorem rnum_l0 : ∀ (d k n : Nat) (ds : List Nat), n < 256 ^ d → ds.length + d ≤ 9 →
    tinderboxref04_Num.l0 (k + d + 1) (n : Int) (Tx.I ds) = some (Tx.B ((ds ++ Cd.le d n).length :: (ds ++ Cd.le d n))) := by
  have fin : ∀ (j : Nat) (ds : List Nat), ds.length ≤ 9 → tinderboxref04_Num.l0 (j + 1) ((0 : Nat) : Int) (Tx.I ds) = some (Tx.B (ds.length :: ds)) := by
    intro j ds hd
    have c1 : ¬ ((0 : Nat) : Int) > 0 := by omega
    have e1 : ([(((Tx.I ds).length : Nat) : Int) % 256] : List Int) = Tx.I [ds.length] := by
      rw [Tx.I_len]
      have : ((ds.length : Nat) : Int) % 256 = ((ds.length : Nat) : Int) := by omega
      rw [this]; rfl
    have c2 : (strOfNums (Tx.I [ds.length])).size + (strOfNums (Tx.I ds)).size ≤ 9223372036854775807 := by
      rw [Tx.strOfNums_I, Tx.strOfNums_I, Tx.B_size, Tx.B_size, List.length_cons]; simp; omega
    rw [tinderboxref04_Num.l0, if_neg c1, e1, Option.bind_some, if_pos c2, Tx.strOfNums_I, Tx.strOfNums_I, Tx.B_append]
    rfl
  intro d
  induction d with
  | zero =>
    intro k n ds hn hd
    obtain rfl : n = 0 := by simpa using hn
    rw [fin _ _ (by omega)]
    show _ = some (Tx.B ((ds ++ []).length :: (ds ++ [])))
    rw [List.append_nil]
  | succ d ih =>
    intro k n ds hn hd
    have hz : Cd.le (d + 1) n = if n = 0 then [] else n % 256 :: Cd.le d (n / 256) := rfl
    by_cases h0 : n = 0
    · subst h0
      rw [fin _ _ (by omega), hz, if_pos rfl, List.append_nil]
    · have hn2 : n / 256 < 256 ^ d := by rw [Nat.pow_succ] at hn; omega
      have hp : 256 ^ d ≤ 256 ^ 8 := Nat.pow_le_pow_right (by decide) (by omega)
      have h8 : (256 : Nat) ^ 8 = 18446744073709551616 := by decide
      have hlt : n / 256 < 18446744073709551616 := by omega
      clear hp h8
      have c1 : (n : Int) > 0 := by omega
      have c2 : (Tx.I ds).length < 140737488355328 := by rw [Tx.I_len]; omega
      have t1 : Int.tdiv (n : Int) 256 = ((n / 256 : Nat) : Int) := by rw [Int.tdiv_eq_ediv_of_nonneg (by omega)]; omega
      have t2 : Int.tmod (n : Int) 256 = ((n % 256 : Nat) : Int) := by rw [Int.tmod_eq_emod_of_nonneg (by omega)]; omega
      have t3 : ((n % 256 : Nat) : Int) % 256 = ((n % 256 : Nat) : Int) := by omega
      have hl2 : (ds ++ [n % 256]).length + d ≤ 9 := by rw [List.length_append]; simp; omega
      have e1 : IntKind.u64.wrap ((n / 256 : Nat) : Int) = ((n / 256 : Nat) : Int) := Bt.wraps_u64 _ (by omega) (by omega)
      have ih1 := ih k (n / 256) (ds ++ [n % 256]) hn2 hl2
      rw [show k + (d + 1) + 1 = (k + d + 1) + 1 by omega, tinderboxref04_Num.l0, if_pos c1, if_pos c2, t1, t2, t3, e1, Tx.I_snoc, ih1, hz, if_neg h0, List.append_assoc]
      rfl
theorem rcnum_f {n : Nat} (hn : n < 18446744073709551616) (k : Nat) (hk : 10 ≤ k) : tinderboxref04_Num.f k (n : Int) = some (Tx.B (Cd.num n)) := by
  obtain ⟨j, rfl⟩ : ∃ j, k = j + 9 + 1 := ⟨k - 10, by omega⟩
  have h := rnum_l0 9 j n [] (Nat.lt_of_lt_of_le hn (by decide)) (by decide)
  rw [List.nil_append] at h
  exact h
theorem rctext_f (l : List Nat) (hl : l.length < 4611686018427387904) (k : Nat) (hk : 10 ≤ k) : tinderboxref04_Text.f k (Tx.B l) = some (Tx.B (Cd.num l.length ++ l)) := by
  have h1 := Cd.num_len (n := l.length) (by omega)
  have c1 : (Tx.B (Cd.num l.length)).size + (Tx.B l).size ≤ 9223372036854775807 := by rw [Tx.B_size, Tx.B_size]; omega
  have e1 : IntKind.u64.wrap (((Tx.B l).size : Nat) : Int) = ((l.length : Nat) : Int) := by rw [Tx.B_size]; exact Bt.wraps_u64 _ (by omega) (by omega)
  unfold tinderboxref04_Text.f
  rw [e1, rcnum_f (by omega) k hk, Option.bind_some, if_pos c1, Tx.B_append]
theorem rnum_most (l : List Nat) (e most : Nat) : (Cd.rnum l e most).1 ≤ most := by
  unfold Cd.rnum
  split
  · exact Nat.zero_le _
  cases l with
  | nil => exact Nat.zero_le _
  | cons c r =>
    dsimp only
    split
    · exact Nat.zero_le _
    split
    · exact Nat.zero_le _
    split
    · exact Nat.zero_le _
    split
    · exact Nat.zero_le _
    · dsimp only; omega
theorem rnum_left (l : List Nat) (e most : Nat) : (Cd.rnum l e most).2.1.length ≤ l.length := by
  obtain ⟨n, r, e', h⟩ : ∃ n r e', Cd.rnum l e most = (n, r, e') := ⟨_, _, _, rfl⟩
  rw [h]
  exact Cd.rnum_len h
theorem crtext_f (l : List Nat) (hb : Tx.By l) (hl : l.length < 4611686018427387904) (e most : Nat) (a : Int) (ha : mx a 0 = (most : Int)) (hm : most < 4611686018427387904) (k : Nat) (hk : 12 ≤ k) :
    code_Reader_Text.f k (Tx.B l) (e : Int) a = some (Tx.B (Cd.rtext l e most).1, Tx.B (Cd.rtext l e most).2.1, ((Cd.rtext l e most).2.2 : Int)) := by
  have h1 := rnum_most l e most
  have h2 := rnum_left l e most
  have e1 : IntKind.u64.wrap (most : Int) = (most : Int) := Bt.wraps_u64 _ (by omega) (by omega)
  have e2 : wrap64 (((Cd.rnum l e most).1 : Nat) : Int) = (((Cd.rnum l e most).1 : Nat) : Int) := Bt.wrap_ok (by omega) (by omega)
  have n1 := crnum_f l hb hl e most k hk
  have n2 := cbytes_f (Cd.rnum l e most).2.1 (by omega) (Cd.rnum l e most).2.2 (((Cd.rnum l e most).1 : Nat) : Int)
  unfold code_Reader_Text.f Cd.rtext
  rw [ha, e1, n1, Option.bind_some]
  dsimp only
  rw [e2, n2, Option.bind_some]
theorem rtext_text {t : List Nat} (ht : t.length < 4611686018427387904) (r : List Nat) (most : Nat) : Cd.rtext (Cd.num t.length ++ t ++ r) 0 most = if t.length > most then ([], [], 5) else (t, r, 0) := by
  unfold Cd.rtext
  rw [List.append_assoc, Cd.rnum_num (by omega)]
  split
  · exact Cd.rbytes_err (by decide)
  · dsimp only
    rw [rb_ok (by rw [List.length_append]; omega), List.take_left, List.drop_left]
theorem CodeTexts : tinderboxlaw04_CodeTexts.Pure := by
  intro a b n _ _ hn
  obtain ⟨hn0, hn1⟩ := Bt.wf_u64 hn
  obtain ⟨q, rfl⟩ : ∃ q : Nat, n = (q : Int) := ⟨n.toNat, by omega⟩
  obtain ⟨m, rfl, hm⟩ := Tx.of_text a
  obtain ⟨m', rfl, hm'⟩ := Tx.of_text b
  obtain ⟨t, ht⟩ : ∃ t, t = m.take 300 := ⟨_, rfl⟩
  obtain ⟨s, hs⟩ : ∃ s, s = m'.take 300 := ⟨_, rfl⟩
  have hbt : Tx.By t := by rw [ht]; exact hm.take 300
  have hbs : Tx.By s := by rw [hs]; exact hm'.take 300
  have ht3 : t.length ≤ 300 := by rw [ht, List.length_take]; omega
  have hs3 : s.length ≤ 300 := by rw [hs, List.length_take]; omega
  have hq : q < 18446744073709551616 := by omega
  have lt := Cd.num_len (n := t.length) (by omega)
  have ls := Cd.num_len (n := s.length) (by omega)
  have lq := Cd.num_len hq
  have bt' : Tx.By (Cd.num t.length ++ t) := Tx.By.append (Cd.num_by (by omega)) hbt
  have bs' : Tx.By (Cd.num s.length ++ s) := Tx.By.append (Cd.num_by (by omega)) hbs
  have bq : Tx.By (Cd.num q) := Cd.num_by hq
  have r1 := rtext_text (t := t) (by omega) (Cd.num q ++ (Cd.num s.length ++ s)) 300
  rw [if_neg (by omega)] at r1
  have r2 := Cd.rnum_num (most := 18446744073709551615) hq (Cd.num s.length ++ s)
  rw [if_neg (by omega)] at r2
  have r3 := rtext_text (t := s) (by omega) [] 300
  rw [if_neg (by omega), List.append_nil] at r3
  have r4 := rtext_text (t := t) (by omega) [] (t.length - 1)
  rw [List.append_nil] at r4
  have e3 : mx 300 0 = ((300 : Nat) : Int) := by decide
  have e4 : mx (((Tx.B t).size : Int) - 1) 0 = ((t.length - 1 : Nat) : Int) := by rw [Tx.B_size]; unfold mx; split <;> omega
  have n8 := crtext_f (Cd.num t.length ++ t ++ (Cd.num q ++ (Cd.num s.length ++ s))) (bt'.append (bq.append bs')) (by simp only [List.length_append]; omega) 0 300 300 e3 (by decide) 20 (by decide)
  rw [r1] at n8
  have n9 := crnum_f (Cd.num q ++ (Cd.num s.length ++ s)) (bq.append bs') (by simp only [List.length_append]; omega) 0 18446744073709551615 20 (by decide)
  rw [r2] at n9
  have n10 := crtext_f (Cd.num s.length ++ s) bs' (by simp only [List.length_append]; omega) 0 300 300 e3 (by decide) 20 (by decide)
  rw [r3] at n10
  have n12 := crtext_f (Cd.num t.length ++ t) bt' (by simp only [List.length_append]; omega) 0 (t.length - 1) _ e4 (by omega) 20 (by decide)
  have n20 := cend_f (Cd.rtext (Cd.num t.length ++ t) 0 (t.length - 1)).2.1 (Cd.rtext (Cd.num t.length ++ t) 0 (t.length - 1)).2.2
  have fa := few_f m
  have fb := few_f m'
  rw [← ht] at fa
  rw [← hs] at fb
  have happ : Tx.B (Cd.num t.length ++ t) ++ Tx.B (Cd.num q) ++ Tx.B (Cd.num s.length ++ s) = Tx.B (Cd.num t.length ++ t ++ (Cd.num q ++ (Cd.num s.length ++ s))) := by
    rw [Tx.B_append, Tx.B_append]; simp only [List.append_assoc]
  refine ⟨20, Tx.B t, Tx.B s, Tx.B (Cd.num t.length ++ t), Tx.B (Cd.num q), Tx.B (Cd.num s.length ++ s), Tx.B (Cd.num t.length ++ t ++ (Cd.num q ++ (Cd.num s.length ++ s))), 0, Tx.B t, Tx.B (Cd.num q ++ (Cd.num s.length ++ s)), 0, Tx.B (Cd.num s.length ++ s), 0, Tx.B s, Tx.B [], 0, Tx.B (Cd.num t.length ++ t), Tx.B [], 0, _, Tx.B (Cd.num t.length ++ t), 0, _, _, _, _, _,
    fa, fb, ⟨by rw [Tx.B_size]; exact ht3, ?_⟩, ctext_f t (by omega) 20 (by decide), cnum_f hq 20 (by decide), ctext_f s (by omega) 20 (by decide), ?_, n8, n9, n10, rfl, n12, awake_f 20 (by decide), rctext_f t (by omega) 20 (by decide), rfl, rfl, rfl, cend_f [] 0, n20, ?_⟩
  · rw [happ, Tx.B_size]; simp only [List.length_append]; omega
  · rw [happ]; rfl
  · rw [r4, Tx.B_size]
    by_cases h0 : t.length = 0
    · left
      obtain rfl : t = [] := List.eq_nil_of_length_eq_zero h0
      exact ⟨rfl, Tx.toList_nil.2 rfl, rfl⟩
    · right
      rw [if_pos (by omega)]
      exact ⟨by omega, rfl⟩
end Go.Proofs.Ytoiahmdibibceaa.Pure
