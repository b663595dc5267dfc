/- Whatever texts there are: their records, or the first error. For every input. -/
import Derived.Test.YtoiahmdibibceaaXGroupReadsx1
import Derived.Test.YtoiahmdibibceaaXGroupReadsx10
import Derived.Test.YtoiahmdibibceaaXGroupReadsx11
import Derived.Test.YtoiahmdibibceaaXGroupReadsx2
import Derived.Test.YtoiahmdibibceaaXGroupReadsx3
import Derived.Test.YtoiahmdibibceaaXGroupReadsx4
import Derived.Test.YtoiahmdibibceaaXGroupReadsx5
import Derived.Test.YtoiahmdibibceaaXGroupReadsx6
import Derived.Test.YtoiahmdibibceaaXGroupReadsx7
import Derived.Test.YtoiahmdibibceaaXGroupReadsx8
import Derived.Test.YtoiahmdibibceaaXGroupReadsx9
import Derived.Test.YtoiahmdibibceaaMBits
import Derived.Test.YtoiahmdibibceaaMText
import Derived.Test.YtoiahmdibibceaaCode
import Derived.Test.YtoiahmdibibceaaXRows
namespace Go.Proofs.Ytoiahmdibibceaa.Pure
open Go.RowKit Go.Proofs.Ytoiahmdibibceaa Go.Proofs.Ytoiahmdibibceaa.XGroupReads Go.Proofs.YtoiahmdibibceaaW.PrintWords Go.Proofs.YtoiahmdibibceaaW.PrintLast Go.Proofs.YtoiahmdibibceaaW.PrintMore
set_option linter.unusedVariables false
set_option linter.unusedSimpArgs false
/-! numbers as bytes -/
theorem cnum_l0 : ∀ (d k n : Nat) (ds : List Nat), Tx.By ds → n < 256 ^ d → ds.length + d ≤ 9 →
    code_Num.l0 (k + d + 1) (n : Int) (Tx.I (ds.length :: ds)) = some (Tx.B ((ds ++ Cd.le d n).length :: (ds ++ Cd.le d n))) := by
  intro d
  induction d with
  | zero =>
    intro k n ds hb hn hd
    obtain rfl : n = 0 := by simpa using hn
    have c1 : ¬ ((0 : Nat) : Int) > 0 := by omega
    rw [code_Num.l0, if_neg c1, Tx.strOfNums_I]
    show _ = some (Tx.B ((ds ++ []).length :: (ds ++ [])))
    rw [List.append_nil]
  | succ d ih =>
    intro k n ds hb hn hd
    have hz : Cd.le (d + 1) n = if n = 0 then [] else n % 256 :: Cd.le d (n / 256) := rfl
    by_cases h0 : n = 0
    · have c1 : ¬ (n : Int) > 0 := by omega
      rw [show k + (d + 1) + 1 = (k + d + 1) + 1 by omega, code_Num.l0, if_neg c1, Tx.strOfNums_I, hz, if_pos h0, List.append_nil]
    · have c1 : (n : Int) > 0 := by omega
      have c2 : (Tx.I (ds.length :: ds)).length < 140737488355328 := by rw [Tx.I_len, List.length_cons]; omega
      have e1 : (n : Int) % 256 = ((n % 256 : Nat) : Int) := by omega
      have e2 : (n : Int) / 256 = ((n / 256 : Nat) : Int) := by omega
      have c3 : (0 : Int) < ((Tx.I ((ds.length :: ds) ++ [n % 256])).length : Int) := by rw [Tx.I_len]; simp; omega
      have e3 : (rd (Tx.I ((ds.length :: ds) ++ [n % 256])) 0 + 1) % 256 = ((ds.length + 1 : Nat) : Int) := by
        rw [show (0 : Int) = ((0 : Nat) : Int) from rfl, Tx.I_rd]
        show ((ds.length : Int) + 1) % 256 = _
        omega
      have e4 : (Tx.I ((ds.length :: ds) ++ [n % 256])).set (0 : Int).toNat ((ds.length + 1 : Nat) : Int) = Tx.I ((ds ++ [n % 256]).length :: (ds ++ [n % 256])) := by
        rw [show (0 : Int).toNat = 0 from rfl, Tx.I_set, List.length_append]
        rfl
      have hb2 : Tx.By (ds ++ [n % 256]) := hb.append (Tx.By.one (by omega))
      have hl2 : (ds ++ [n % 256]).length + d ≤ 9 := by rw [List.length_append]; simp; omega
      have hn2 : n / 256 < 256 ^ d := by rw [Nat.pow_succ] at hn; omega
      have ih1 := ih k (n / 256) (ds ++ [n % 256]) hb2 hn2 hl2
      rw [show k + (d + 1) + 1 = (k + d + 1) + 1 by omega, code_Num.l0, if_pos c1, if_pos c2, e1, e2, Tx.I_snoc, Option.bind_some, if_pos c3, e3, e4, ih1, hz, if_neg h0, List.append_assoc]
      rfl
theorem cnum_f {n : Nat} (hn : n < 18446744073709551616) (k : Nat) (hk : 10 ≤ k) : code_Num.f k (n : Int) = some (Tx.B (Cd.num n)) := by
  obtain ⟨j, rfl⟩ : ∃ j, k = j + 9 + 1 := ⟨k - 10, by omega⟩
  have h := cnum_l0 9 j n [] Tx.By.nil (Nat.lt_of_lt_of_le hn (by decide)) (by decide)
  rw [List.nil_append] at h
  exact h
theorem cvalue_l0 (s : List Nat) (hs : Tx.By s) (hl : s.length ≤ 8) : ∀ (i k : Nat), i ≤ s.length → code_value.l0 (k + i + 1) (Tx.B s) ((Cd.val (s.drop i) : Nat) : Int) ((i : Int) - 1) = some ((Cd.val s : Nat) : Int) := by
  intro i
  induction i with
  | zero =>
    intro k hi
    have c1 : ¬ (((0 : Nat) : Int) - 1) ≥ 0 := by omega
    rw [code_value.l0, if_neg c1, List.drop_zero]
  | succ i ih =>
    intro k hi
    have e0 : ((i + 1 : Nat) : Int) - 1 = (i : Int) := by omega
    have c1 : (i : Int) ≥ 0 := by omega
    have c2 : (i : Int) < ((Tx.B s).size : Int) := by rw [Tx.B_size]; omega
    have hd := Tx.drop_co (l := s) (i := i) (by omega)
    have hlt := Cd.val_lt (s.drop (i + 1)) (hs.drop _)
    have hc := Tx.co_lt hs i
    have hv : Cd.val (s.drop i) = Tx.co s i + 256 * Cd.val (s.drop (i + 1)) := by rw [hd]; rfl
    have hv64 := Cd.val_lt64 (l := s.drop i) (hs.drop _) (by rw [List.length_drop]; omega)
    have b1 : (0 : Int) ≤ ((Cd.val (s.drop (i + 1)) * 256 : Nat) : Int) := by omega
    have b2 : ((Cd.val (s.drop (i + 1)) * 256 : Nat) : Int) < 2 ^ 64 := by omega
    have b3 : (0 : Int) ≤ ((Tx.co s i : Nat) : Int) := by omega
    have b4 : ((Tx.co s i : Nat) : Int) < 2 ^ 64 := by omega
    have b5 : ((Tx.co s i : Nat) : Int) < 2 ^ 8 := by omega
    have b6 : ((Cd.val (s.drop (i + 1)) * 256 : Nat) : Int) % 2 ^ 8 = 0 := by omega
    have e1 : wrap64 ((i : Int) - 1) = (i : Int) - 1 := Bt.wrap_ok (by omega) (by omega)
    have b7 : ((Cd.val (s.drop (i + 1)) * 256 : Nat) : Int) + ((Tx.co s i : Nat) : Int) = ((Cd.val (s.drop i) : Nat) : Int) := by omega
    have e2 : ((Cd.val (s.drop (i + 1)) : Nat) : Int) * 256 = ((Cd.val (s.drop (i + 1)) * 256 : Nat) : Int) := by omega
    have e3 := bits_join .u64 64 (Nat.le_refl 64) (fun n h0 h1 => Bt.wraps_u64 n h0 h1) 8 ((Cd.val (s.drop (i + 1)) * 256 : Nat) : Int) ((Tx.co s i : Nat) : Int) b1 b6 b2 b3 b5 b4
    rw [show k + (i + 1) + 1 = (k + i + 1) + 1 by omega, code_value.l0, e0, if_pos c1, if_pos c1, if_pos c2, e2, Bt.wraps_u64 _ b1 b2, Tx.bt_B hs, Bt.wraps_u64 _ b3 b4, e3, b7, e1]
    exact ih k (by omega)
theorem cvalue_f (s : List Nat) (hs : Tx.By s) (hl : s.length ≤ 8) (k : Nat) (hk : 10 ≤ k) : code_value.f k (Tx.B s) = some ((Cd.val s : Nat) : Int) := by
  obtain ⟨j, rfl⟩ : ∃ j, k = j + s.length + 1 := ⟨k - (s.length + 1), by omega⟩
  have e1 : wrap64 (((Tx.B s).size : Int) - 1) = (s.length : Int) - 1 := by rw [Tx.B_size]; exact Bt.wrap_ok (by omega) (by omega)
  have h := cvalue_l0 s hs hl s.length j (Nat.le_refl _)
  rw [List.drop_eq_nil_of_le (Nat.le_refl _)] at h
  unfold code_value.f
  rw [e1]
  exact h
/-! the reader -/
theorem cfail_f (l : List Nat) (e m : Nat) : code_Reader_fail.f (Tx.B l) (e : Int) (m : Int) = some (if e = 0 then (Tx.B [], (m : Int)) else (Tx.B l, (e : Int))) := by
  unfold code_Reader_fail.f
  by_cases h : e = 0
  · rw [if_pos (by omega), if_pos h]; rfl
  · rw [if_neg (by omega), if_neg h]
theorem rb_neg {l : List Nat} {n : Int} (h : n < 0 ∨ n > (l.length : Int)) : Cd.rbytes l 0 n = ([], [], 2) := by
  unfold Cd.rbytes
  rw [if_neg (by simp), if_pos h]
theorem rb_in {l : List Nat} {n : Int} (h0 : 0 ≤ n) (h : n ≤ (l.length : Int)) : Cd.rbytes l 0 n = (l.take n.toNat, l.drop n.toNat, 0) := by
  unfold Cd.rbytes
  rw [if_neg (by simp), if_neg (by omega)]
theorem cbytes_f (l : List Nat) (hl : l.length < 4611686018427387904) (e : Nat) (n : Int) : code_Reader_Bytes.f (Tx.B l) (e : Int) n = some (Tx.B (Cd.rbytes l e n).1, Tx.B (Cd.rbytes l e n).2.1, ((Cd.rbytes l e n).2.2 : Int)) := by
  unfold code_Reader_Bytes.f code_Reader_Err.f
  rw [Option.bind_some]
  dsimp only
  have hf := cfail_f l 0 2
  by_cases h : e = 0
  · subst h
    rw [if_pos (by rfl)]
    by_cases h1 : n < 0
    · rw [if_pos h1, rb_neg (.inl h1)]
      refine Eq.trans (congrArg (fun z => Option.bind z _) hf) ?_
      rfl
    · rw [if_neg h1, Tx.B_size]
      by_cases h2 : n > (l.length : Int)
      · rw [if_pos h2, rb_neg (.inr h2)]
        refine Eq.trans (congrArg (fun z => Option.bind z _) hf) ?_
        rfl
      · rw [if_neg h2, if_pos (by omega), if_pos (by omega), rb_in (by omega) (by omega), Tx.B_extract, Tx.B_extract, List.drop_zero, List.take_length]
  · rw [if_neg (by omega), Cd.rbytes_err h]
    rfl
theorem rb_one (c : Nat) (r : List Nat) : Cd.rbytes (c :: r) 0 1 = ([c], r, 0) := by
  unfold Cd.rbytes
  rw [if_neg (by simp), if_neg (by rw [List.length_cons]; omega)]
  rfl
theorem rb_nil : Cd.rbytes [] 0 1 = ([], [], 2) := rfl
theorem rb_long {r : List Nat} {c : Nat} (h : c > r.length) : Cd.rbytes r 0 (c : Int) = ([], [], 2) := by
  unfold Cd.rbytes
  rw [if_neg (by simp), if_pos (by omega)]
theorem rb_ok {r : List Nat} {c : Nat} (h : c ≤ r.length) : Cd.rbytes r 0 (c : Int) = (r.take c, r.drop c, 0) := by
  unfold Cd.rbytes
  rw [if_neg (by simp), if_neg (by omega), Int.toNat_natCast]
theorem cj0_f (k : Nat) (most n : Nat) (b : Bool) (l : List Nat) : code_Reader_Num.j0 (k + 1) (most : Int) (n : Int) b (Tx.B l) ((0 : Nat) : Int) = some (if b = true then (0, Tx.B [], 3) else if n > most then (0, Tx.B [], 5) else ((n : Int), Tx.B l, 0)) := by
  have hf : ∀ m : Nat, code_Reader_fail.f (Tx.B l) ((0 : Nat) : Int) (m : Int) = some (Tx.B [], (m : Int)) := fun m => by rw [cfail_f, if_pos rfl]
  have h3 := hf 3
  have h5 := hf 5
  rw [code_Reader_Num.j0]
  cases b with
  | true =>
    rw [if_pos rfl, if_pos rfl]
    refine Eq.trans (congrArg (fun z => Option.bind z _) h3) ?_
    rfl
  | false =>
    have hff : ¬ (false = true) := by decide
    rw [if_neg hff, if_neg hff]
    by_cases h : n > most
    · have h' : (n : Int) > (most : Int) := by omega
      rw [if_pos h', if_pos h]
      refine Eq.trans (congrArg (fun z => Option.bind z _) h5) ?_
      rfl
    · have h' : ¬ (n : Int) > (most : Int) := by omega
      rw [if_neg h', if_neg h]
      rfl
theorem crnum_f (l : List Nat) (hb : Tx.By l) (hl : l.length < 4611686018427387904) (e most k : Nat) (hk : 12 ≤ k) :
    code_Reader_Num.f k (Tx.B l) (e : Int) (most : Int) = some (((Cd.rnum l e most).1 : Int), Tx.B (Cd.rnum l e most).2.1, ((Cd.rnum l e most).2.2 : Int)) := by
  obtain ⟨j, rfl⟩ : ∃ j, k = j + 1 := ⟨k - 1, by omega⟩
  have hj : 10 ≤ j + 1 := by omega
  unfold code_Reader_Num.f
  rw [cbytes_f l hl e 1, Option.bind_some]
  dsimp only
  by_cases he : e = 0
  · subst he
    cases l with
    | nil =>
      rw [rb_nil, if_pos (Tx.toList_nil.2 rfl)]
      rfl
    | cons c r =>
      have hc := hb.head
      have hr := hb.tail
      have hr2 : r.length < 4611686018427387904 := by rw [List.length_cons] at hl; omega
      have c1 : ¬ (Tx.B [c]).toList = ([] : List UInt8) := by rw [Tx.toList_nil]; simp
      have c2 : (0 : Int) < ((Tx.B [c]).size : Int) := by rw [Tx.B_size]; show (0 : Int) < 1; decide
      have e1 : bt (Tx.B [c]) 0 = (c : Int) := Tx.bt_B (Tx.By.one hc) 0
      have e2 : wrap64 (c : Int) = (c : Int) := Bt.wrap_ok (by omega) (by omega)
      have hf := cfail_f r 0 3
      have hz : Cd.rnum (c :: r) 0 most = if c > 8 then (0, [], 3) else if c > r.length then (0, [], 2) else if c ≠ 0 ∧ r.getD (c - 1) 0 = 0 then (0, [], 3) else if Cd.val (r.take c) > most then (0, [], 5) else (Cd.val (r.take c), r.drop c, 0) := rfl
      rw [rb_one]
      dsimp only
      rw [if_neg c1, if_pos c2, e1, hz]
      by_cases h1 : c > 8
      · rw [if_pos (by omega), if_pos h1]
        refine Eq.trans (congrArg (fun z => Option.bind z _) hf) ?_
        rfl
      rw [if_neg (by omega), if_neg h1, e2]
      have hcb := cbytes_f r hr2 0 (c : Int)
      refine Eq.trans (congrArg (fun z => Option.bind z _) hcb) ?_
      rw [Option.bind_some]
      dsimp only
      by_cases h2 : c > r.length
      · rw [rb_long h2, if_pos h2]
        dsimp only
        rw [cvalue_f [] Tx.By.nil (by decide) _ hj, Option.bind_some, if_neg (by decide)]
        rfl
      · have hle : c ≤ r.length := by omega
        have hlen : (r.take c).length = c := by rw [List.length_take]; omega
        rw [rb_ok hle, if_neg h2]
        dsimp only
        rw [cvalue_f (r.take c) (hr.take c) (by omega) _ hj, Option.bind_some, if_pos (by rfl)]
        by_cases h3 : c = 0
        · have h4 : r.take c = [] := by rw [h3]; rfl
          have c6 : ¬ (c ≠ 0 ∧ r.getD (c - 1) 0 = 0) := fun h => h.1 h3
          have hff : ¬ (false = true) := by decide
          rw [if_pos (Tx.toList_nil.2 h4), cj0_f, if_neg hff, if_neg c6]
          split <;> rfl
        · have c3 : ¬ (Tx.B (r.take c)).toList = ([] : List UInt8) := by
            rw [Tx.toList_nil]
            intro h
            rw [h] at hlen
            exact h3 hlen.symm
          have e3 : wrap64 (((Tx.B (r.take c)).size : Int) - 1) = ((c - 1 : Nat) : Int) := by rw [Tx.B_size, hlen, Bt.wrap_ok (by omega) (by omega)]; omega
          have c4 : (0 : Int) ≤ ((c - 1 : Nat) : Int) := by omega
          have c5 : ((c - 1 : Nat) : Int) < ((Tx.B (r.take c)).size : Int) := by rw [Tx.B_size, hlen]; omega
          have e4 : Tx.co (r.take c) (c - 1) = r.getD (c - 1) 0 := by rw [Tx.co_take, if_pos (by omega)]; rfl
          rw [if_neg c3, e3, if_pos c4, if_pos c5, Tx.bt_B (hr.take c), cj0_f, e4]
          by_cases h5 : r.getD (c - 1) 0 = 0
          · have c6 : c ≠ 0 ∧ r.getD (c - 1) 0 = 0 := ⟨h3, h5⟩
            have hz0 : (((r.getD (c - 1) 0 : Nat) : Int) == 0) = true := by rw [h5]; rfl
            rw [if_pos c6, hz0, if_pos rfl]
            rfl
          · have hne : (((r.getD (c - 1) 0 : Nat) : Int) == 0) = false := beq_eq_false_iff_ne.2 (by omega)
            have c6 : ¬ (c ≠ 0 ∧ r.getD (c - 1) 0 = 0) := fun h => h5 h.2
            have hff : ¬ (false = true) := by decide
            rw [if_neg c6, hne, if_neg hff]
            split <;> rfl
  · rw [Cd.rbytes_err he, if_pos (Tx.toList_nil.2 rfl), Cd.rnum_err he]
    rfl
theorem rnum_l0 : ∀ (d k n : Nat) (ds : List Nat), n < 256 ^ d → ds.length + d ≤ 9 →
    tinderboxref04_Num.l0 (k + d + 1) (n : Int) (Tx.I ds) = some (Tx.B ((ds ++ Cd.le d n).length :: (ds ++ Cd.le d n))) := by
  have fin : ∀ (j : Nat) (ds : List Nat), ds.length ≤ 9 → tinderboxref04_Num.l0 (j + 1) ((0 : Nat) : Int) (Tx.I ds) = some (Tx.B (ds.length :: ds)) := by
    intro j ds hd
    have c1 : ¬ ((0 : Nat) : Int) > 0 := by omega
    have e1 : ([(((Tx.I ds).length : Nat) : Int) % 256] : List Int) = Tx.I [ds.length] := by
      rw [Tx.I_len]
      have : ((ds.length : Nat) : Int) % 256 = ((ds.length : Nat) : Int) := by omega
      rw [this]; rfl
    have c2 : (strOfNums (Tx.I [ds.length])).size + (strOfNums (Tx.I ds)).size ≤ 9223372036854775807 := by
      rw [Tx.strOfNums_I, Tx.strOfNums_I, Tx.B_size, Tx.B_size, List.length_cons]; simp; omega
    rw [tinderboxref04_Num.l0, if_neg c1, e1, Option.bind_some, if_pos c2, Tx.strOfNums_I, Tx.strOfNums_I, Tx.B_append]
    rfl
  intro d
  induction d with
  | zero =>
    intro k n ds hn hd
    obtain rfl : n = 0 := by simpa using hn
    rw [fin _ _ (by omega)]
    show _ = some (Tx.B ((ds ++ []).length :: (ds ++ [])))
    rw [List.append_nil]
  | succ d ih =>
    intro k n ds hn hd
    have hz : Cd.le (d + 1) n = if n = 0 then [] else n % 256 :: Cd.le d (n / 256) := rfl
    by_cases h0 : n = 0
    · subst h0
      rw [fin _ _ (by omega), hz, if_pos rfl, List.append_nil]
    · have hn2 : n / 256 < 256 ^ d := by rw [Nat.pow_succ] at hn; omega
      have hp : 256 ^ d ≤ 256 ^ 8 := Nat.pow_le_pow_right (by decide) (by omega)
      have h8 : (256 : Nat) ^ 8 = 18446744073709551616 := by decide
      have hlt : n / 256 < 18446744073709551616 := by omega
      clear hp h8
      have c1 : (n : Int) > 0 := by omega
      have c2 : (Tx.I ds).length < 140737488355328 := by rw [Tx.I_len]; omega
      have t1 : Int.tdiv (n : Int) 256 = ((n / 256 : Nat) : Int) := by rw [Int.tdiv_eq_ediv_of_nonneg (by omega)]; omega
      have t2 : Int.tmod (n : Int) 256 = ((n % 256 : Nat) : Int) := by rw [Int.tmod_eq_emod_of_nonneg (by omega)]; omega
      have t3 : ((n % 256 : Nat) : Int) % 256 = ((n % 256 : Nat) : Int) := by omega
      have hl2 : (ds ++ [n % 256]).length + d ≤ 9 := by rw [List.length_append]; simp; omega
      have e1 : IntKind.u64.wrap ((n / 256 : Nat) : Int) = ((n / 256 : Nat) : Int) := Bt.wraps_u64 _ (by omega) (by omega)
      have ih1 := ih k (n / 256) (ds ++ [n % 256]) hn2 hl2
      rw [show k + (d + 1) + 1 = (k + d + 1) + 1 by omega, tinderboxref04_Num.l0, if_pos c1, if_pos c2, t1, t2, t3, e1, Tx.I_snoc, ih1, hz, if_neg h0, List.append_assoc]
      rfl
theorem rcnum_f {n : Nat} (hn : n < 18446744073709551616) (k : Nat) (hk : 10 ≤ k) : tinderboxref04_Num.f k (n : Int) = some (Tx.B (Cd.num n)) := by
  obtain ⟨j, rfl⟩ : ∃ j, k = j + 9 + 1 := ⟨k - 10, by omega⟩
  have h := rnum_l0 9 j n [] (Nat.lt_of_lt_of_le hn (by decide)) (by decide)
  rw [List.nil_append] at h
  exact h
/-! the reference's reader -/
theorem rabytes_f (l : List Nat) (hl : l.length < 4611686018427387904) (e : Nat) (n : Int) : tinderboxref04_At_Bytes.f (Tx.B l) (e : Int) n = some (Tx.B (Cd.rbytes l e n).2.1, ((Cd.rbytes l e n).2.2 : Int), Tx.B (Cd.rbytes l e n).1) := by
  unfold tinderboxref04_At_Bytes.f
  by_cases h : e = 0
  · subst h
    rw [if_pos (by rfl)]
    by_cases h1 : n < 0
    · rw [if_pos h1, rb_neg (.inl h1)]
      rfl
    · rw [if_neg h1, Tx.B_size]
      by_cases h2 : n > (l.length : Int)
      · rw [if_pos h2, rb_neg (.inr h2)]
        rfl
      · rw [if_neg h2, if_pos (by omega), if_pos (by omega), rb_in (by omega) (by omega), Tx.B_extract, Tx.B_extract, List.drop_zero, List.take_length]
        rfl
  · rw [if_neg (by omega), Cd.rbytes_err h]
    rfl
theorem rafixed_l0 (s r : List Nat) (e : Int) (hs : Tx.By s) (hl : s.length ≤ 8) : ∀ (i k : Nat), i ≤ s.length → tinderboxref04_At_Fixed.l0 (k + i + 1) (Tx.B s) ((Cd.val (s.drop i) : Nat) : Int) ((i : Int) - 1) (Tx.B r) e = some (Tx.B r, e, ((Cd.val s : Nat) : Int)) := by
  intro i
  induction i with
  | zero =>
    intro k hi
    have c1 : ¬ (((0 : Nat) : Int) - 1) ≥ 0 := by omega
    rw [tinderboxref04_At_Fixed.l0, if_neg c1, List.drop_zero]
  | succ i ih =>
    intro k hi
    have e0 : ((i + 1 : Nat) : Int) - 1 = (i : Int) := by omega
    have c1 : (i : Int) ≥ 0 := by omega
    have c2 : (i : Int) < ((Tx.B s).size : Int) := by rw [Tx.B_size]; omega
    have hd := Tx.drop_co (l := s) (i := i) (by omega)
    have hc := Tx.co_lt hs i
    have hv : Cd.val (s.drop i) = Tx.co s i + 256 * Cd.val (s.drop (i + 1)) := by rw [hd]; rfl
    have hv64 := Cd.val_lt64 (l := s.drop i) (hs.drop _) (by rw [List.length_drop]; omega)
    have b1 : (0 : Int) ≤ ((Cd.val (s.drop (i + 1)) * 256 : Nat) : Int) := by omega
    have b2 : ((Cd.val (s.drop (i + 1)) * 256 : Nat) : Int) < 2 ^ 64 := by omega
    have b3 : (0 : Int) ≤ ((Tx.co s i : Nat) : Int) := by omega
    have b4 : ((Tx.co s i : Nat) : Int) < 2 ^ 64 := by omega
    have b8 : (0 : Int) ≤ ((Cd.val (s.drop i) : Nat) : Int) := by omega
    have b9 : ((Cd.val (s.drop i) : Nat) : Int) < 2 ^ 64 := by omega
    have i1 : i ≤ s.length := by omega
    have e1 : wrap64 ((i : Int) - 1) = (i : Int) - 1 := Bt.wrap_ok (by omega) (by omega)
    have b7 : ((Cd.val (s.drop (i + 1)) * 256 : Nat) : Int) + ((Tx.co s i : Nat) : Int) = ((Cd.val (s.drop i) : Nat) : Int) := by omega
    have e2 : ((Cd.val (s.drop (i + 1)) : Nat) : Int) * 256 = ((Cd.val (s.drop (i + 1)) * 256 : Nat) : Int) := by omega
    rw [show k + (i + 1) + 1 = (k + i + 1) + 1 by omega, tinderboxref04_At_Fixed.l0, e0, if_pos c1, if_pos c1, if_pos c2, e2, Bt.wraps_u64 _ b1 b2, Tx.bt_B hs, Bt.wraps_u64 _ b3 b4, b7, Bt.wraps_u64 _ b8 b9, e1]
    exact ih k i1
theorem rafixed_f (l : List Nat) (hb : Tx.By l) (hl : l.length < 4611686018427387904) (e n : Nat) (hn : n ≤ 8) (k : Nat) (hk : 12 ≤ k) :
    tinderboxref04_At_Fixed.f k (Tx.B l) (e : Int) (n : Int) = some (Tx.B (Cd.rbytes l e n).2.1, ((Cd.rbytes l e n).2.2 : Int), ((Cd.val (Cd.rbytes l e n).1 : Nat) : Int)) := by
  obtain ⟨j, rfl⟩ : ∃ j, k = j + 2 := ⟨k - 2, by omega⟩
  obtain ⟨s, r, e', hr⟩ : ∃ s r e', Cd.rbytes l e n = (s, r, e') := ⟨_, _, _, rfl⟩
  have hsb : Tx.By s ∧ s.length ≤ 8 := by
    unfold Cd.rbytes at hr
    split at hr
    · simp only [Prod.mk.injEq] at hr; rw [← hr.1]; exact ⟨Tx.By.nil, by decide⟩
    split at hr
    · simp only [Prod.mk.injEq] at hr; rw [← hr.1]; exact ⟨Tx.By.nil, by decide⟩
    · simp only [Prod.mk.injEq] at hr; rw [← hr.1]; exact ⟨hb.take _, by rw [List.length_take]; omega⟩
  have h1 := rabytes_f l hl e (n : Int)
  rw [hr] at h1
  dsimp only at h1
  have c0 : ¬ (n : Int) < 0 := by omega
  have c1 : ¬ (n : Int) > 8 := by omega
  obtain ⟨i, hi⟩ : ∃ i, j = i + s.length + 1 := ⟨j - (s.length + 1), by omega⟩
  have hs8 := hsb.2
  have e1 : wrap64 (((Tx.B s).size : Int) - 1) = (s.length : Int) - 1 := by rw [Tx.B_size]; exact Bt.wrap_ok (by omega) (by omega)
  have h2 := rafixed_l0 s r (e' : Int) hsb.1 hsb.2 s.length i (Nat.le_refl _)
  rw [List.drop_eq_nil_of_le (Nat.le_refl _)] at h2
  unfold tinderboxref04_At_Fixed.f
  rw [if_neg c0, tinderboxref04_At_Fixed.j0, if_neg c1, tinderboxref04_At_Fixed.j1, h1, Option.bind_some]
  dsimp only
  rw [e1, hr, hi]
  exact h2
theorem le_iff {t : List Nat} (hb : ∀ x ∈ t, x < 256) (hl : t.length ≤ 8) : Cd.le 9 (Cd.val t) = t ↔ Cd.Top t := by
  constructor
  · intro h
    have := Cd.le_top 9 (Cd.val t) (Nat.lt_of_lt_of_le (Cd.val_lt64 hb hl) (by decide))
    rwa [h] at this
  · intro h
    exact Cd.le_val 9 t hb (by omega) h
theorem raj0_f (k most n : Nat) (b : Bool) (l : List Nat) (e : Int) : tinderboxref04_At_Num.j0 (k + 1) (most : Int) (n : Int) b (Tx.B l) e = some (if b = true then (Tx.B [], 3, 0) else if n > most then (Tx.B [], 5, 0) else (Tx.B l, e, (n : Int))) := by
  rw [tinderboxref04_At_Num.j0]
  cases b with
  | true => rw [if_pos rfl, if_pos rfl]; rfl
  | false =>
    have hff : ¬ (false = true) := by decide
    rw [if_neg hff, if_neg hff]
    by_cases h : n > most
    · have h' : (n : Int) > (most : Int) := by omega
      rw [if_pos h', if_pos h]; rfl
    · have h' : ¬ (n : Int) > (most : Int) := by omega
      rw [if_neg h', if_neg h]
theorem ranum_f (l : List Nat) (hb : Tx.By l) (hl : l.length < 4611686018427387904) (e most k : Nat) (hk : 14 ≤ k) :
    tinderboxref04_At_Num.f k (Tx.B l) (e : Int) (most : Int) = some (Tx.B (Cd.rnum l e most).2.1, ((Cd.rnum l e most).2.2 : Int), ((Cd.rnum l e most).1 : Int)) := by
  obtain ⟨j, rfl⟩ : ∃ j, k = j + 1 := ⟨k - 1, by omega⟩
  have h1 := rafixed_f l hb hl e 1 (by decide) (j + 1) (by omega)
  have h1' : tinderboxref04_At_Fixed.f (j + 1) (Tx.B l) (e : Int) 1 = _ := h1
  unfold tinderboxref04_At_Num.f
  rw [h1', Option.bind_some]
  dsimp only
  by_cases he : e = 0
  · subst he
    cases l with
    | nil => rfl
    | cons c r =>
      have e1 : Cd.rbytes (c :: r) 0 ((1 : Nat) : Int) = ([c], r, 0) := rb_one c r
      have ev : Cd.val [c] = c := by show c + 256 * 0 = c; omega
      have hc := hb.head
      have hbr := hb.tail
      have hlr : r.length < 4611686018427387904 := by rw [List.length_cons] at hl; omega
      rw [e1]
      dsimp only
      rw [ev, if_pos (by rfl)]
      have hz0 : ¬ (0 : Nat) ≠ 0 := by simp
      unfold Cd.rnum
      rw [if_neg hz0]
      dsimp only
      by_cases h8 : c > 8
      · have h8' : (c : Int) > 8 := by omega
        rw [if_pos h8', if_pos h8]; rfl
      · have h8' : ¬ (c : Int) > 8 := by omega
        have ew : wrap64 ((c : Nat) : Int) = ((c : Nat) : Int) := Bt.wrap_ok (by omega) (by omega)
        have h2 := rafixed_f r hbr hlr 0 c (by omega) (j + 1) (by omega)
        have h2' : tinderboxref04_At_Fixed.f (j + 1) (Tx.B r) (((0 : Nat) : Nat) : Int) (c : Int) = _ := h2
        rw [if_neg h8', if_neg h8, ew, h2', Option.bind_some]
        dsimp only
        by_cases hlong : c > r.length
        · rw [rb_long hlong, if_pos hlong]
          dsimp only
          rw [if_neg (by decide)]
          rfl
        · have hok : c ≤ r.length := by omega
          have hbt : ∀ x ∈ r.take c, x < 256 := hbr.take c
          have hlt : (r.take c).length = c := by rw [List.length_take]; omega
          have hv := Cd.val_lt64 hbt (by omega)
          have hn := rcnum_f hv (j + 1) (by omega)
          rw [rb_ok hok, if_neg hlong]
          dsimp only
          rw [if_pos (by rfl)]
          obtain ⟨i, rfl⟩ : ∃ i, j = i + 1 := ⟨j - 1, by omega⟩
          by_cases hc0 : c = 0
          · subst hc0
            rw [if_neg (by decide), if_neg (by simp)]
            exact raj0_f (i + 1) most _ false _ _
          · have hp : (c : Int) > 0 := by omega
            have ew2 : wrap64 (1 + ((c : Nat) : Int)) = ((1 + c : Nat) : Int) := by rw [Bt.wrap_ok (by omega) (by omega)]; omega
            have q0 : (0 : Int) ≤ ((1 + c : Nat) : Int) := by omega
            have q1 : ((1 + c : Nat) : Int) ≤ ((Tx.B (c :: r)).size : Int) := by rw [Tx.B_size, List.length_cons]; omega
            have hex : (Tx.B (c :: r)).extract 0 (((1 + c : Nat) : Int)).toNat = Tx.B (c :: r.take c) := by
              rw [Int.toNat_natCast, Tx.B_extract, List.drop_zero, Nat.add_comm, List.take_succ_cons]
            have hbn := Cd.num_by hv
            have hcmp : ∀ b : Bool, (b = true ↔ ¬ Cd.Top (r.take c)) → ((Tx.B (Cd.num (Cd.val (r.take c)))).toList != (Tx.B (c :: r.take c)).toList) = b := by
              intro b hb'
              have hq : Cd.num (Cd.val (r.take c)) = c :: r.take c ↔ Cd.Top (r.take c) := by
                rw [← le_iff hbt (by omega)]
                unfold Cd.num
                constructor
                · intro h; exact (List.cons.inj h).2
                · intro h; rw [h, hlt]
              unfold bne
              rw [Tx.beq_B hbn (Tx.By.cons hc hbt)]
              cases b with
              | true => rw [decide_eq_false (fun h => hb'.1 rfl (hq.1 h))]; rfl
              | false =>
                rw [decide_eq_true (hq.2 (Classical.byContradiction fun h => absurd (hb'.2 h) (by decide)))]; rfl
            rw [if_pos hp, hn, Option.bind_some, ew2, if_pos q0, if_pos q1, hex]
            by_cases ht : Cd.Top (r.take c)
            · have hz : ¬ (c ≠ 0 ∧ r.getD (c - 1) 0 = 0) := by
                rintro ⟨_, hz⟩
                rcases ht with h | h
                · rw [h] at hlt; exact hc0 hlt.symm
                · rw [hlt, Cd.getD_take (by omega)] at h; exact h hz
              have hff : ¬ (false = true) := by decide
              rw [hcmp false ⟨fun h => absurd h hff, fun h => absurd ht h⟩, if_neg hz]
              have hj := raj0_f (i + 1) most (Cd.val (r.take c)) false (r.drop c) (((0 : Nat) : Nat) : Int)
              refine Eq.trans hj ?_
              rw [if_neg hff]
              split <;> rfl
            · have hz : c ≠ 0 ∧ r.getD (c - 1) 0 = 0 := by
                refine ⟨hc0, ?_⟩
                apply Classical.byContradiction
                intro h
                exact ht (.inr (by rw [hlt, Cd.getD_take (by omega)]; exact h))
              rw [hcmp true ⟨fun _ => ht, fun _ => rfl⟩, if_pos hz]
              have hj := raj0_f (i + 1) most (Cd.val (r.take c)) true (r.drop c) (((0 : Nat) : Nat) : Int)
              refine Eq.trans hj ?_
              rw [if_pos rfl]
              rfl
  · rw [Cd.rbytes_err he, Cd.rnum_err he, if_neg (by dsimp only; omega)]
    rfl
/-! records -/
theorem le_up {α : Type} {f : Nat → Option α} (hm : ∀ k, LeO (f k) (f (k + 1))) {r : α} {k : Nat} (h : f k = some r) : ∀ j, f (k + j) = some r
  | 0 => h
  | j + 1 => hm _ _ (le_up hm h j)
theorem rb_by {l : List Nat} (hb : Tx.By l) (e : Nat) (n : Int) : Tx.By (Cd.rbytes l e n).1 ∧ Tx.By (Cd.rbytes l e n).2.1 := by
  unfold Cd.rbytes
  split
  · exact ⟨Tx.By.nil, hb⟩
  split
  · exact ⟨Tx.By.nil, Tx.By.nil⟩
  · exact ⟨hb.take _, hb.drop _⟩
theorem rnum_by {l : List Nat} (hb : Tx.By l) (e most : Nat) : Tx.By (Cd.rnum l e most).2.1 := by
  unfold Cd.rnum
  split
  · exact hb
  cases l with
  | nil => exact Tx.By.nil
  | cons c r =>
    dsimp only
    split
    · exact Tx.By.nil
    split
    · exact Tx.By.nil
    split
    · exact Tx.By.nil
    split
    · exact Tx.By.nil
    · exact hb.tail.drop _
theorem rnum_most (l : List Nat) (e most : Nat) : (Cd.rnum l e most).1 ≤ most := by
  unfold Cd.rnum
  split
  · exact Nat.zero_le _
  cases l with
  | nil => exact Nat.zero_le _
  | cons c r =>
    dsimp only
    split
    · exact Nat.zero_le _
    split
    · exact Nat.zero_le _
    split
    · exact Nat.zero_le _
    split
    · exact Nat.zero_le _
    · dsimp only; omega
theorem rnum_left (l : List Nat) (e most : Nat) : (Cd.rnum l e most).2.1.length ≤ l.length := by
  obtain ⟨n, r, e', h⟩ : ∃ n r e', Cd.rnum l e most = (n, r, e') := ⟨_, _, _, rfl⟩
  rw [h]
  exact Cd.rnum_len h
theorem crfix_f (l : List Nat) (hb : Tx.By l) (hl : l.length < 4611686018427387904) (e k : Nat) (hk : 10 ≤ k) :
    code_Reader_Fixed.f k (Tx.B l) (e : Int) 1 = some (((Cd.val (Cd.rbytes l e 1).1 : Nat) : Int), Tx.B (Cd.rbytes l e 1).2.1, ((Cd.rbytes l e 1).2.2 : Int)) := by
  have h1 := cbytes_f l hl e 1
  have hlen : (Cd.rbytes l e 1).1.length ≤ 8 := by
    unfold Cd.rbytes
    split
    · exact Nat.zero_le _
    split
    · exact Nat.zero_le _
    · dsimp only; rw [List.length_take]; show min (1 : Int).toNat _ ≤ 8; omega
  have h2 := cvalue_f (Cd.rbytes l e 1).1 (rb_by hb e 1).1 hlen k hk
  unfold code_Reader_Fixed.f
  rw [show mn (mx 1 0) 8 = 1 by decide, h1, Option.bind_some]
  dsimp only
  rw [h2, Option.bind_some]
/-- The numbers of a row, one behind the other. -/
def rrow : List Nat → List Nat → Nat → List Nat × List Nat × Nat
  | [], l, e => ([], l, e)
  | m :: ms, l, e => ((Cd.rnum l e m).1 :: (rrow ms (Cd.rnum l e m).2.1 (Cd.rnum l e m).2.2).1, (rrow ms (Cd.rnum l e m).2.1 (Cd.rnum l e m).2.2).2)
theorem crow_f (k : Nat) (hk : 12 ≤ k) : ∀ (ms l : List Nat) (e : Nat), (∀ m ∈ ms, m < 4611686018427387904) → Tx.By l → l.length < 4611686018427387904 →
    rec_Take.row k (Tx.I ms) (Tx.B l) (e : Int) = some (Tx.I (rrow ms l e).1, Tx.B (rrow ms l e).2.1, ((rrow ms l e).2.2 : Int))
  | [], l, e, _, _, _ => rfl
  | m :: ms, l, e, hm, hb, hl => by
    have h1 := crnum_f l hb hl e m k hk
    have hlt := hm m List.mem_cons_self
    have hmo := rnum_most l e m
    have e1 : wrap64 (((Cd.rnum l e m).1 : Nat) : Int) = (((Cd.rnum l e m).1 : Nat) : Int) := Bt.wrap_ok (by omega) (by omega)
    have h2 := crow_f k hk ms (Cd.rnum l e m).2.1 (Cd.rnum l e m).2.2 (fun x hx => hm x (List.mem_cons_of_mem _ hx)) (rnum_by hb e m) (Nat.lt_of_le_of_lt (rnum_left l e m) hl)
    show (code_Reader_Num.f k (Tx.B l) (e : Int) (m : Int)).bind (fun b => (rec_Take.row k (Tx.I ms) b.2.1 b.2.2).bind fun c => some (wrap64 b.1 :: c.1, c.2.1, c.2.2)) = _
    rw [h1, Option.bind_some]
    dsimp only
    rw [h2, Option.bind_some, e1]
    rfl
/-- Is none below its least? -/
def allge : List Nat → List Nat → Bool
  | n :: ns, l :: ls => decide (l ≤ n) && allge ns ls
  | _, _ => true
theorem allge_step {ns ls : List Nat} {i : Nat} (h1 : i < ns.length) (h2 : i < ls.length) : allge (ns.drop i) (ls.drop i) = (decide (Tx.co ls i ≤ Tx.co ns i) && allge (ns.drop (i + 1)) (ls.drop (i + 1))) := by
  rw [Tx.drop_co h1, Tx.drop_co h2]
  rfl
theorem allge_end {ns ls : List Nat} {i : Nat} (h1 : ns.length ≤ i) : allge (ns.drop i) (ls.drop i) = true := by
  rw [List.drop_eq_nil_of_le h1]
  rfl
/-! the reference's Take -/
def rfin (kd : Int) (ns : List Nat) (l : List Nat) (e : Nat) : Option (ByteArray × Int × Int × Int × Int × Int × Int × Int) :=
  if e = 0 then (tinderboxref07_of.f (wrap64 kd) (Tx.I ns)).bind fun b => some (Tx.B l, ((0 : Nat) : Int), b.1, b.2.1, b.2.2.1, b.2.2.2.1, b.2.2.2.2.1, b.2.2.2.2.2) else some (Tx.B l, (e : Int), 0, 0, 0, 0, 0, 0)
theorem rmust_f (l : List Nat) (e : Nat) (b : Bool) : tinderboxref04_At_Must.f (Tx.B l) (e : Int) b = some (if e = 0 ∧ b = false then (Tx.B [], ((3 : Nat) : Int)) else (Tx.B l, (e : Int))) := by
  unfold tinderboxref04_At_Must.f
  by_cases he : e = 0
  · subst he
    rw [if_pos (by rfl)]
    cases b <;> rfl
  · have h1 : ¬ (e = 0 ∧ b = false) := fun h => he h.1
    rw [if_neg (by omega), if_neg h1]
theorem rtake_l1 (kd : Int) (ls ns : List Nat) (hln : ns.length ≤ ls.length) (hs : ns.length < 1000) : ∀ (d i k : Nat) (l : List Nat) (e : Nat), i + d = ns.length →
    tinderboxref07_Take.l1 (k + d + 1) kd (Tx.I ls) (Tx.I ns) (i : Int) (Tx.B l) (e : Int) = if e = 0 ∧ allge (ns.drop i) (ls.drop i) = false then rfin kd ns [] 3 else rfin kd ns l e := by
  intro d
  induction d with
  | zero =>
    intro i k l e hi
    have c1 : ¬ (i : Int) < ((Tx.I ns).length : Int) := by rw [Tx.I_len]; omega
    have h0 : ¬ (e = 0 ∧ allge (ns.drop i) (ls.drop i) = false) := by
      rintro ⟨_, h⟩
      rw [allge_end (by omega)] at h
      cases h
    rw [tinderboxref07_Take.l1, if_neg c1, if_neg h0]
    unfold rfin
    by_cases he : e = 0
    · subst he
      rw [if_pos (by rfl), if_pos rfl]
    · rw [if_neg (by omega), if_neg he]
  | succ d ih =>
    intro i k l e hi
    have d1 : i < ns.length := by omega
    have d2 : i < ls.length := by omega
    have d3 : i + 1 + d = ns.length := by omega
    have c1 : (i : Int) < ((Tx.I ns).length : Int) := by rw [Tx.I_len]; omega
    have c2 : (0 : Int) ≤ (i : Int) := by omega
    have c3 : (i : Int) < ((Tx.I ls).length : Int) := by rw [Tx.I_len]; omega
    have e1 : wrap64 ((i : Int) + 1) = ((i + 1 : Nat) : Int) := by rw [Bt.wrap_ok (by omega) (by omega)]; omega
    have hst := allge_step d1 d2
    have hm := rmust_f l e (decide (rd (Tx.I ns) (i : Int) ≥ rd (Tx.I ls) (i : Int)))
    have hdec : decide (rd (Tx.I ns) (i : Int) ≥ rd (Tx.I ls) (i : Int)) = decide (Tx.co ls i ≤ Tx.co ns i) := by
      rw [Tx.I_rd, Tx.I_rd]
      apply decide_eq_decide.2
      omega
    rw [hdec] at hm
    rw [show k + (d + 1) + 1 = (k + d + 1) + 1 by omega, tinderboxref07_Take.l1, if_pos c1, if_pos c2, if_pos c3, hdec, hm, Option.bind_some, e1, hst]
    by_cases he : e = 0
    · subst he
      cases hb : decide (Tx.co ls i ≤ Tx.co ns i) with
      | false =>
        rw [if_pos ⟨rfl, rfl⟩]
        dsimp only
        rw [ih (i + 1) k [] 3 d3, if_neg (by rintro ⟨h, _⟩; cases h), Bool.false_and, if_pos ⟨rfl, rfl⟩]
      | true =>
        rw [if_neg (by rintro ⟨_, h⟩; cases h)]
        dsimp only
        rw [ih (i + 1) k l 0 d3, Bool.true_and]
    · have h1 : ∀ b : Bool, ¬ (e = 0 ∧ b = false) := fun b h => he h.1
      rw [if_neg (h1 _)]
      dsimp only
      rw [ih (i + 1) k l e d3, if_neg (h1 _), if_neg (h1 _)]
theorem rtake_l0 (kd : Int) (ls ms : List Nat) (ok : Bool) (hm : ∀ m ∈ ms, m < 4611686018427387904) (hl1 : ms.length < 1000) : ∀ (d i k : Nat) (acc l : List Nat) (e : Nat), i + d = ms.length → 14 ≤ k → acc.length = i → Tx.By l → l.length < 4611686018427387904 →
    tinderboxref07_Take.l0 (k + d + 1) kd (Tx.I ls) (Tx.I ms) ok (Tx.I acc) (i : Int) (Tx.B l) (e : Int) =
      (tinderboxref04_At_Must.f (Tx.B (rrow (ms.drop i) l e).2.1) ((rrow (ms.drop i) l e).2.2 : Int) ok).bind fun b => tinderboxref07_Take.l1 k kd (Tx.I ls) (Tx.I (acc ++ (rrow (ms.drop i) l e).1)) 0 b.1 b.2 := by
  intro d
  induction d with
  | zero =>
    intro i k acc l e hi hk ha hb hl
    have c1 : ¬ (i : Int) < ((Tx.I ms).length : Int) := by rw [Tx.I_len]; omega
    have hd : ms.drop i = [] := List.drop_eq_nil_of_le (by omega)
    rw [tinderboxref07_Take.l0, if_neg c1, hd]
    show _ = (tinderboxref04_At_Must.f (Tx.B l) (e : Int) ok).bind fun b => tinderboxref07_Take.l1 k kd (Tx.I ls) (Tx.I (acc ++ [])) 0 b.1 b.2
    rw [List.append_nil]
  | succ d ih =>
    intro i k acc l e hi hk ha hb hl
    have d1 : i < ms.length := by omega
    have d3 : i + 1 + d = ms.length := by omega
    have c1 : (i : Int) < ((Tx.I ms).length : Int) := by rw [Tx.I_len]; omega
    have c2 : (0 : Int) ≤ (i : Int) := by omega
    have c3 : (Tx.I acc).length < 17592186044416 := by rw [Tx.I_len]; omega
    have hlt : Tx.co ms i < 4611686018427387904 := by rw [Tx.co_at d1]; exact hm _ (List.getElem_mem d1)
    have hmo := rnum_most l e (Tx.co ms i)
    have hle := rnum_left l e (Tx.co ms i)
    have f1 : 14 ≤ k + d + 1 := by omega
    have f2 : (acc ++ [(Cd.rnum l e (Tx.co ms i)).1]).length = i + 1 := by rw [List.length_append]; simp; omega
    have f3 : (Cd.rnum l e (Tx.co ms i)).2.1.length < 4611686018427387904 := by omega
    have e0 : IntKind.u64.wrap ((Tx.co ms i : Nat) : Int) = ((Tx.co ms i : Nat) : Int) := Bt.wraps_u64 _ (by omega) (by omega)
    have e1 : wrap64 ((i : Int) + 1) = ((i + 1 : Nat) : Int) := by rw [Bt.wrap_ok (by omega) (by omega)]; omega
    have e2 : wrap64 (((Cd.rnum l e (Tx.co ms i)).1 : Nat) : Int) = (((Cd.rnum l e (Tx.co ms i)).1 : Nat) : Int) := Bt.wrap_ok (by omega) (by omega)
    have hn := ranum_f l hb hl e (Tx.co ms i) (k + d + 1) f1
    have hd : rrow (ms.drop i) l e = ((Cd.rnum l e (Tx.co ms i)).1 :: (rrow (ms.drop (i + 1)) (Cd.rnum l e (Tx.co ms i)).2.1 (Cd.rnum l e (Tx.co ms i)).2.2).1, (rrow (ms.drop (i + 1)) (Cd.rnum l e (Tx.co ms i)).2.1 (Cd.rnum l e (Tx.co ms i)).2.2).2) := by
      rw [Tx.drop_co d1]; rfl
    have h2 := ih (i + 1) k (acc ++ [(Cd.rnum l e (Tx.co ms i)).1]) (Cd.rnum l e (Tx.co ms i)).2.1 (Cd.rnum l e (Tx.co ms i)).2.2 d3 hk f2 (rnum_by hb e _) f3
    rw [show k + (d + 1) + 1 = (k + d + 1) + 1 by omega, tinderboxref07_Take.l0, if_pos c1, if_pos c2, Tx.I_rd, e0, hn, Option.bind_some]
    dsimp only
    rw [if_pos c3, e2, e1, Tx.I_snoc, h2, hd, List.append_assoc]
    rfl
/-! what a row of numbers is made of, and Put -/
def cat (ns : List Nat) : List Nat := ns.flatMap Cd.num
theorem rrow_err : ∀ (ms l : List Nat) (e : Nat), e ≠ 0 → (rrow ms l e).2.2 = e
  | [], _, _, _ => rfl
  | m :: ms, l, e, h => by
    show (rrow ms (Cd.rnum l e m).2.1 (Cd.rnum l e m).2.2).2.2 = e
    rw [Cd.rnum_err h]
    exact rrow_err ms l e h
theorem rrow_len : ∀ (ms l : List Nat) (e : Nat), (rrow ms l e).1.length = ms.length
  | [], _, _ => rfl
  | m :: ms, l, e => by
    show (_ :: (rrow ms (Cd.rnum l e m).2.1 (Cd.rnum l e m).2.2).1).length = (m :: ms).length
    rw [List.length_cons, List.length_cons, rrow_len ms]
def allle : List Nat → List Nat → Prop
  | n :: ns, m :: ms => n ≤ m ∧ allle ns ms
  | _, _ => True
theorem rrow_le : ∀ (ms l : List Nat) (e : Nat), allle (rrow ms l e).1 ms
  | [], _, _ => trivial
  | m :: ms, l, e => ⟨rnum_most l e m, rrow_le ms _ _⟩
theorem rrow_cat : ∀ (ms l : List Nat), Tx.By l → (rrow ms l 0).2.2 = 0 → l = cat (rrow ms l 0).1 ++ (rrow ms l 0).2.1
  | [], _, _, _ => rfl
  | m :: ms, l, hb, h => by
    obtain ⟨n, r, e, hr⟩ : ∃ n r e, Cd.rnum l 0 m = (n, r, e) := ⟨_, _, _, rfl⟩
    have h1 : rrow (m :: ms) l 0 = (n :: (rrow ms r e).1, (rrow ms r e).2) := by
      show ((Cd.rnum l 0 m).1 :: _, _) = _
      rw [hr]
    rw [h1] at h ⊢
    have h' : (rrow ms r e).2.2 = 0 := h
    have he : e = 0 := by
      apply Classical.byContradiction
      intro hne
      rw [rrow_err ms r e hne] at h'
      exact hne h'
    subst he
    have h2 := Cd.num_rnum hb hr
    have hbr : Tx.By r := by have := rnum_by hb 0 m; rw [hr] at this; exact this
    have h3 := rrow_cat ms r hbr h'
    show l = cat (n :: (rrow ms r 0).1) ++ (rrow ms r 0).2.1
    unfold cat at h3 ⊢
    rw [List.flatMap_cons, List.append_assoc, ← h3]
    exact h2.1
theorem put_l (k : Nat) (hk : 10 ≤ k) : ∀ (ns s : List Nat), (∀ n ∈ ns, n < 4611686018427387904) → s.length + 9 * ns.length ≤ 1000000 →
    (Tx.I ns).foldlM (fun s c => rec_Put.add k s c) (Tx.B s) = some (Tx.B (s ++ cat ns))
  | [], s, _, _ => by
    show some (Tx.B s) = some (Tx.B (s ++ []))
    rw [List.append_nil]
  | n :: ns, s, hn, hl => by
    have h1 := hn n List.mem_cons_self
    have h2 := Cd.num_len (n := n) (by omega)
    have e1 : IntKind.u64.wrap ((n : Nat) : Int) = ((n : Nat) : Int) := Bt.wraps_u64 _ (by omega) (by omega)
    have c1 : (Tx.B s).size + (Tx.B (Cd.num n)).size ≤ 9223372036854775807 := by rw [Tx.B_size, Tx.B_size]; omega
    have ha : rec_Put.add k (Tx.B s) ((n : Nat) : Int) = some (Tx.B (s ++ Cd.num n)) := by
      unfold rec_Put.add
      rw [e1, cnum_f (by omega) k hk, Option.bind_some, if_pos c1, Tx.B_append]
    have hl2 : (s ++ Cd.num n).length + 9 * ns.length ≤ 1000000 := by rw [List.length_append]; rw [List.length_cons] at hl; omega
    have h3 := put_l k hk ns (s ++ Cd.num n) (fun x hx => hn x (List.mem_cons_of_mem _ hx)) hl2
    show (((n : Nat) : Int) :: Tx.I ns).foldlM (fun s c => rec_Put.add k s c) (Tx.B s) = _
    rw [List.foldlM_cons]
    show (rec_Put.add k (Tx.B s) ((n : Nat) : Int)).bind (fun s => (Tx.I ns).foldlM (fun s c => rec_Put.add k s c) s) = _
    rw [ha, Option.bind_some, h3]
    unfold cat
    rw [List.flatMap_cons, List.append_assoc]
theorem cfixed1_f (kd : Nat) (hkd : kd < 256) (k : Nat) (hk : 3 ≤ k) : code_Fixed.f k ((kd : Nat) : Int) 1 = some (Tx.B [kd]) := by
  obtain ⟨j, rfl⟩ : ∃ j, k = j + 3 := ⟨k - 3, by omega⟩
  have h0 : shr .u64 ((kd : Nat) : Int) 0 = ((kd : Nat) : Int) := by
    have := Bt.shr_nat (k := .u64) kd 0 (Nat.zero_le _)
    rw [show ((0 : Nat) : Int) = 0 from rfl, Nat.pow_zero, Nat.div_one] at this
    exact this
  have h1 : ((kd : Nat) : Int) % 256 = ((kd : Nat) : Int) := by omega
  have w0 : wrap64 (8 * 0) = 0 := by decide +kernel
  have w1 : wrap64 ((0 : Int) + 1) = 1 := by decide +kernel
  have hI : ([] : List Int) ++ [((kd : Nat) : Int)] = Tx.I [kd] := rfl
  unfold code_Fixed.f
  rw [show mn (mx 1 0) 8 = 1 by decide, show j + 3 = (j + 1 + 1) + 1 from rfl, code_Fixed.l0, if_pos (by decide), w0, if_pos (by decide), if_pos (by decide), h0, h1, w1, hI, code_Fixed.l0, if_neg (by decide), Tx.strOfNums_I]
theorem w64n (i : Nat) (h : i < 1000000) : wrap64 ((i : Int) + 1) = ((i + 1 : Nat) : Int) := by unfold wrap64; omega
/-! the kinds, and the outcome of a Take -/
def rms : Nat → List Nat
  | 1 => [15, 1023, 511] | 2 => [15, 1023] | 3 => [511, 511] | 4 => [15, 1024] | 5 => [15] | 6 => [15, 15] | 7 => [15] | 8 => [31] | 9 => [31, 1073741824] | _ => []
def rls : Nat → List Nat
  | 1 => [1, 0, 0] | 2 => [1, 0] | 3 => [0, 0] | 4 => [1, 1] | 5 => [1] | 6 => [1, 1] | 7 => [1] | 8 => [0] | 9 => [0, 0] | _ => []
/-- What is known of a kind. -/
structure Kind (kd : Nat) (ms ls : List Nat) (ok : Bool) : Prop where
  a : Rc.mosts (kd : Int) = Tx.I ms
  b : ∀ k, ∃ z, tinderboxref07_row.f (k + 1) (kd : Int) 0 0 0 0 0 = some (z, Tx.I ls, Tx.I ms, ok)
  len : ls.length = ms.length
  small : ms.length ≤ 3 ∧ ∀ m ∈ ms, m < 4611686018427387904
  c : ok = true → ∀ ns : List Nat, ns.length = ms.length → tinderboxref07_of.f (kd : Int) (Tx.I ns) = some ((kd : Int), Rc.mkR (kd : Int) (Tx.I ns))
  d : ∀ ns : List Nat, ns.length = ms.length → allle ns ms → Rc.chk (kd : Int) (Rc.mkR (kd : Int) (Tx.I ns)).1 (Rc.mkR (kd : Int) (Tx.I ns)).2.1 (Rc.mkR (kd : Int) (Tx.I ns)).2.2.1 (Rc.mkR (kd : Int) (Tx.I ns)).2.2.2.1 (Rc.mkR (kd : Int) (Tx.I ns)).2.2.2.2 = (ok && allge ns ls)
  e : ok = true → ∀ ns : List Nat, ns.length = ms.length → Rc.flds (kd : Int) (Rc.mkR (kd : Int) (Tx.I ns)).1 (Rc.mkR (kd : Int) (Tx.I ns)).2.1 (Rc.mkR (kd : Int) (Tx.I ns)).2.2.1 (Rc.mkR (kd : Int) (Tx.I ns)).2.2.2.1 (Rc.mkR (kd : Int) (Tx.I ns)).2.2.2.2 = Tx.I ns
theorem kind_1 : Kind 1 [15, 1023, 511] [1, 0, 0] true where
  a := rfl
  b := fun k => ⟨_, rfl⟩
  len := rfl
  small := by decide
  c := fun _ ns h => by
    match ns, h with
    | [x, y, z], _ => rfl
  d := fun ns h hle => by
    match ns, h, hle with
    | [x, y, z], _, ⟨h1, h2, h3, _⟩ =>
      rw [Bool.eq_iff_iff]
      simp [Rc.chk, Rc.mkR, Rc.inB, Tx.I, allge]
      try omega
  e := fun _ ns h => by
    match ns, h with
    | [x, y, z], _ => rfl
theorem kind_2 : Kind 2 [15, 1023] [1, 0] true where
  a := rfl
  b := fun k => ⟨_, rfl⟩
  len := rfl
  small := by decide
  c := fun _ ns h => by
    match ns, h with
    | [x, y], _ => rfl
  d := fun ns h hle => by
    match ns, h, hle with
    | [x, y], _, ⟨h1, h2, _⟩ =>
      rw [Bool.eq_iff_iff]
      simp [Rc.chk, Rc.mkR, Rc.inB, Tx.I, allge]
      try omega
  e := fun _ ns h => by
    match ns, h with
    | [x, y], _ => rfl
theorem kind_3 : Kind 3 [511, 511] [0, 0] true where
  a := rfl
  b := fun k => ⟨_, rfl⟩
  len := rfl
  small := by decide
  c := fun _ ns h => by
    match ns, h with
    | [x, y], _ => rfl
  d := fun ns h hle => by
    match ns, h, hle with
    | [x, y], _, ⟨h1, h2, _⟩ =>
      rw [Bool.eq_iff_iff]
      simp [Rc.chk, Rc.mkR, Rc.inB, Tx.I, allge]
      try omega
  e := fun _ ns h => by
    match ns, h with
    | [x, y], _ => rfl
theorem kind_4 : Kind 4 [15, 1024] [1, 1] true where
  a := rfl
  b := fun k => ⟨_, rfl⟩
  len := rfl
  small := by decide
  c := fun _ ns h => by
    match ns, h with
    | [x, y], _ => rfl
  d := fun ns h hle => by
    match ns, h, hle with
    | [x, y], _, ⟨h1, h2, _⟩ =>
      rw [Bool.eq_iff_iff]
      simp [Rc.chk, Rc.mkR, Rc.inB, Tx.I, allge]
      try omega
  e := fun _ ns h => by
    match ns, h with
    | [x, y], _ => rfl
theorem kind_5 : Kind 5 [15] [1] true where
  a := rfl
  b := fun k => ⟨_, rfl⟩
  len := rfl
  small := by decide
  c := fun _ ns h => by
    match ns, h with
    | [x], _ => rfl
  d := fun ns h hle => by
    match ns, h, hle with
    | [x], _, ⟨h1, _⟩ =>
      rw [Bool.eq_iff_iff]
      simp [Rc.chk, Rc.mkR, Rc.inB, Tx.I, allge]
      try omega
  e := fun _ ns h => by
    match ns, h with
    | [x], _ => rfl
theorem kind_6 : Kind 6 [15, 15] [1, 1] true where
  a := rfl
  b := fun k => ⟨_, rfl⟩
  len := rfl
  small := by decide
  c := fun _ ns h => by
    match ns, h with
    | [x, y], _ => rfl
  d := fun ns h hle => by
    match ns, h, hle with
    | [x, y], _, ⟨h1, h2, _⟩ =>
      rw [Bool.eq_iff_iff]
      simp [Rc.chk, Rc.mkR, Rc.inB, Tx.I, allge]
      try omega
  e := fun _ ns h => by
    match ns, h with
    | [x, y], _ => rfl
theorem kind_7 : Kind 7 [15] [1] true where
  a := rfl
  b := fun k => ⟨_, rfl⟩
  len := rfl
  small := by decide
  c := fun _ ns h => by
    match ns, h with
    | [x], _ => rfl
  d := fun ns h hle => by
    match ns, h, hle with
    | [x], _, ⟨h1, _⟩ =>
      rw [Bool.eq_iff_iff]
      simp [Rc.chk, Rc.mkR, Rc.inB, Tx.I, allge]
      try omega
  e := fun _ ns h => by
    match ns, h with
    | [x], _ => rfl
theorem kind_8 : Kind 8 [31] [0] true where
  a := rfl
  b := fun k => ⟨_, rfl⟩
  len := rfl
  small := by decide
  c := fun _ ns h => by
    match ns, h with
    | [x], _ => rfl
  d := fun ns h hle => by
    match ns, h, hle with
    | [x], _, ⟨h1, _⟩ =>
      rw [Bool.eq_iff_iff]
      simp [Rc.chk, Rc.mkR, Rc.inB, Tx.I, allge]
      try omega
  e := fun _ ns h => by
    match ns, h with
    | [x], _ => rfl
theorem kind_9 : Kind 9 [31, 1073741824] [0, 0] true where
  a := rfl
  b := fun k => ⟨_, rfl⟩
  len := rfl
  small := by decide
  c := fun _ ns h => by
    match ns, h with
    | [x, y], _ => rfl
  d := fun ns h hle => by
    match ns, h, hle with
    | [x, y], _, ⟨h1, h2, _⟩ =>
      rw [Bool.eq_iff_iff]
      simp [Rc.chk, Rc.mkR, Rc.inB, Tx.I, allge]
      try omega
  e := fun _ ns h => by
    match ns, h with
    | [x, y], _ => rfl
theorem kind_0 (kd : Nat) (n1 : kd ≠ 1) (n2 : kd ≠ 2) (n3 : kd ≠ 3) (n4 : kd ≠ 4) (n5 : kd ≠ 5) (n6 : kd ≠ 6) (n7 : kd ≠ 7) (n8 : kd ≠ 8) (n9 : kd ≠ 9) : Kind kd [] [] false where
  a := Rc.mosts_none (by omega) (by omega) (by omega) (by omega) (by omega) (by omega) (by omega) (by omega) (by omega)
  b := fun k => ⟨[], by
    have m : ∀ j : Nat, kd ≠ j → ((kd : Nat) : Int) ≠ (j : Int) := fun j h => by omega
    unfold tinderboxref07_row.f
    rw [Rc.flds_none (by omega) (by omega) (by omega) (by omega) (by omega) (by omega) (by omega) (by omega) (by omega), Rc.mosts_none (by omega) (by omega) (by omega) (by omega) (by omega) (by omega) (by omega) (by omega) (by omega), show tinderboxref07_row.least ((kd : Nat) : Int) = [] from by unfold tinderboxref07_row.least; rw [if_neg (by omega), if_neg (by omega), if_neg (by omega), if_neg (by omega), if_neg (by omega), if_neg (by omega), if_neg (by omega), if_neg (by omega), if_neg (by omega)], show tinderboxref07_row.known ((kd : Nat) : Int) = false from by unfold tinderboxref07_row.known; simp; omega]
    rfl⟩
  len := rfl
  small := by decide
  c := fun h => by cases h
  d := fun ns h _ => by
    unfold Rc.chk
    rw [if_neg (by omega), if_neg (by omega), if_neg (by omega), if_neg (by omega), if_neg (by omega), if_neg (by omega), if_neg (by omega), if_neg (by omega), if_neg (by omega)]
    rfl
  e := fun h => by cases h
theorem kinds (kd : Nat) : ∃ ms ls ok, Kind kd ms ls ok := by
  by_cases n1 : kd = 1
  · subst n1; exact ⟨_, _, _, kind_1⟩
  by_cases n2 : kd = 2
  · subst n2; exact ⟨_, _, _, kind_2⟩
  by_cases n3 : kd = 3
  · subst n3; exact ⟨_, _, _, kind_3⟩
  by_cases n4 : kd = 4
  · subst n4; exact ⟨_, _, _, kind_4⟩
  by_cases n5 : kd = 5
  · subst n5; exact ⟨_, _, _, kind_5⟩
  by_cases n6 : kd = 6
  · subst n6; exact ⟨_, _, _, kind_6⟩
  by_cases n7 : kd = 7
  · subst n7; exact ⟨_, _, _, kind_7⟩
  by_cases n8 : kd = 8
  · subst n8; exact ⟨_, _, _, kind_8⟩
  by_cases n9 : kd = 9
  · subst n9; exact ⟨_, _, _, kind_9⟩
  exact ⟨_, _, _, kind_0 kd n1 n2 n3 n4 n5 n6 n7 n8 n9⟩
theorem small_of {ns ms : List Nat} (h : ns.length = ms.length) (hle : allle ns ms) (hm : ∀ m ∈ ms, m < 4611686018427387904) : ∀ n ∈ ns, n < 4611686018427387904 := by
  induction ns generalizing ms with
  | nil => intro n hn; cases hn
  | cons n ns ih =>
    cases ms with
    | nil => cases h
    | cons m ms =>
      intro x hx
      rcases List.mem_cons.1 hx with rfl | hx
      · exact Nat.lt_of_le_of_lt hle.1 (hm m List.mem_cons_self)
      · exact ih (Nat.succ.inj h) hle.2 (fun y hy => hm y (List.mem_cons_of_mem _ hy)) x hx
theorem core {kd : Nat} {ms ls : List Nat} {ok : Bool} (K : Kind kd ms ls ok) (hkd : kd < 256) (l : List Nat) (hb : Tx.By l) (hl : l.length < 4611686018427387904) (e0 k : Nat) (hk : 40 ≤ k) :
    (∃ c r e r2, c ≠ 0 ∧ (rec_Take.row k (Rc.mosts (wrap64 (kd : Int))) (Tx.B l) (e0 : Int)).bind (fun c => rec_Take.fin (wrap64 (kd : Int)) (Rc.mkR (wrap64 (kd : Int)) c.1) c.2.1 c.2.2) = some (0, 0, 0, 0, 0, 0, ((c : Nat) : Int), Tx.B r, ((e : Nat) : Int)) ∧
      (tinderboxref07_row.f k (wrap64 (kd : Int)) 0 0 0 0 0).bind (fun b => tinderboxref07_Take.l0 k (kd : Int) b.2.1 b.2.2.1 b.2.2.2 (([] : List Int)) 0 (Tx.B l) (e0 : Int)) = some (Tx.B r2, ((c : Nat) : Int), 0, 0, 0, 0, 0, 0)) ∨
    (∃ ns r, e0 = 0 ∧ ok = true ∧ ns.length = ms.length ∧ allle ns ms ∧ l = cat ns ++ r ∧
      (rec_Take.row k (Rc.mosts (wrap64 (kd : Int))) (Tx.B l) (e0 : Int)).bind (fun c => rec_Take.fin (wrap64 (kd : Int)) (Rc.mkR (wrap64 (kd : Int)) c.1) c.2.1 c.2.2) = some ((kd : Int), (Rc.mkR (kd : Int) (Tx.I ns)).1, (Rc.mkR (kd : Int) (Tx.I ns)).2.1, (Rc.mkR (kd : Int) (Tx.I ns)).2.2.1, (Rc.mkR (kd : Int) (Tx.I ns)).2.2.2.1, (Rc.mkR (kd : Int) (Tx.I ns)).2.2.2.2, 0, Tx.B r, 0) ∧
      (tinderboxref07_row.f k (wrap64 (kd : Int)) 0 0 0 0 0).bind (fun b => tinderboxref07_Take.l0 k (kd : Int) b.2.1 b.2.2.1 b.2.2.2 (([] : List Int)) 0 (Tx.B l) (e0 : Int)) = some (Tx.B r, 0, (kd : Int), (Rc.mkR (kd : Int) (Tx.I ns)).1, (Rc.mkR (kd : Int) (Tx.I ns)).2.1, (Rc.mkR (kd : Int) (Tx.I ns)).2.2.1, (Rc.mkR (kd : Int) (Tx.I ns)).2.2.2.1, (Rc.mkR (kd : Int) (Tx.I ns)).2.2.2.2)) := by
  have hw : wrap64 ((kd : Nat) : Int) = (kd : Int) := Bt.wrap_ok (by omega) (by omega)
  have hms := K.small.1
  obtain ⟨j, hj⟩ : ∃ j, k = j + ms.length + 1 + ms.length + 1 := ⟨k - (ms.length + 1 + ms.length + 1), by omega⟩
  have hj14 : 14 ≤ j + ms.length + 1 := by omega
  obtain ⟨z, hz⟩ := K.b (k - 1)
  rw [show k - 1 + 1 = k by omega] at hz
  obtain ⟨ns, r, e, hr⟩ : ∃ ns r e, rrow ms l e0 = (ns, r, e) := ⟨_, _, _, rfl⟩
  have hlen : ns.length = ms.length := by have := rrow_len ms l e0; rw [hr] at this; exact this
  have hle : allle ns ms := by have := rrow_le ms l e0; rw [hr] at this; exact this
  have h1 := crow_f k (by omega) ms l e0 K.small.2 hb hl
  rw [hr] at h1
  dsimp only at h1
  have h0 := rtake_l0 (kd : Int) ls ms ok K.small.2 (by omega) ms.length 0 (j + ms.length + 1) [] l e0 (by omega) hj14 rfl hb hl
  rw [← hj, List.drop_zero, hr, List.nil_append] at h0
  have h0' : tinderboxref07_Take.l0 k (kd : Int) (Tx.I ls) (Tx.I ms) ok (([] : List Int)) 0 (Tx.B l) (e0 : Int) = _ := h0
  have hQ : ∀ (r' : List Nat) (e' : Nat), tinderboxref07_Take.l1 (j + ms.length + 1) (kd : Int) (Tx.I ls) (Tx.I ns) 0 (Tx.B r') (e' : Int) = if e' = 0 ∧ allge ns ls = false then rfin (kd : Int) ns [] 3 else rfin (kd : Int) ns r' e' := by
    intro r' e'
    have := rtake_l1 (kd : Int) ls ns (by rw [hlen, K.len]; exact Nat.le_refl _) (by omega) ns.length 0 j r' e' (by omega)
    rw [List.drop_zero, List.drop_zero, hlen] at this
    exact this
  have hm := rmust_f r e ok
  have hd := K.d ns hlen hle
  rw [hw, K.a, h1, Option.bind_some, hz, Option.bind_some]
  dsimp only
  rw [h0', hm, Option.bind_some]
  by_cases he : e = 0
  · subst he
    cases hok : ok with
    | false =>
      rw [hok, Bool.false_and] at hd
      left
      refine ⟨3, r, 0, [], by decide, ?_, ?_⟩
      · unfold rec_Take.fin
        rw [if_pos (by rfl), hd, if_neg (by decide)]
        rfl
      · rw [if_pos ⟨rfl, rfl⟩]
        dsimp only
        rw [hQ [] 3, if_neg (by rintro ⟨h, _⟩; cases h)]
        rfl
    | true =>
      rw [hok, Bool.true_and] at hd
      have hff : ¬ ((0 : Nat) = 0 ∧ true = false) := by rintro ⟨_, h⟩; cases h
      rw [if_neg hff]
      dsimp only
      rw [hQ r 0]
      cases hg : allge ns ls with
      | false =>
        rw [hg] at hd
        left
        refine ⟨3, r, 0, [], by decide, ?_, ?_⟩
        · unfold rec_Take.fin
          rw [if_pos (by rfl), hd, if_neg (by decide)]
          rfl
        · rw [if_pos ⟨rfl, rfl⟩]
          rfl
      | true =>
        rw [hg] at hd
        right
        have he0 : e0 = 0 := by
          apply Classical.byContradiction
          intro hne
          have := rrow_err ms l e0 hne
          rw [hr] at this
          exact hne this.symm
        subst he0
        have hcat := rrow_cat ms l hb (by rw [hr])
        rw [hr] at hcat
        refine ⟨ns, r, rfl, rfl, hlen, hle, hcat, ?_, ?_⟩
        · unfold rec_Take.fin
          rw [if_pos (by rfl), hd, if_pos rfl]
          rfl
        · have hgg : ¬ ((0 : Nat) = 0 ∧ true = false) := by rintro ⟨_, h⟩; cases h
          rw [if_neg hgg]
          unfold rfin
          rw [if_pos rfl, hw, K.c hok ns hlen, Option.bind_some]
          rfl
  · left
    have hne : ∀ b : Bool, ¬ (e = 0 ∧ b = false) := fun b h => he h.1
    refine ⟨e, r, e, r, he, ?_, ?_⟩
    · unfold rec_Take.fin
      rw [if_neg (by omega)]
    · rw [if_neg (hne _)]
      dsimp only
      rw [hQ r e, if_neg (hne _)]
      unfold rfin
      rw [if_neg he]
theorem fixed_both (s : List Nat) (hb : Tx.By s) (hl : s.length < 4611686018427387904) (k : Nat) (hk : 40 ≤ k) : ∃ kd l e0, kd < 256 ∧ Tx.By l ∧ l.length ≤ s.length ∧
    code_Reader_Fixed.f k (Tx.B s) 0 1 = some (((kd : Nat) : Int), Tx.B l, ((e0 : Nat) : Int)) ∧ tinderboxref04_At_Fixed.f k (Tx.B s) 0 1 = some (Tx.B l, ((e0 : Nat) : Int), ((kd : Nat) : Int)) ∧ (e0 = 0 → s = kd :: l) := by
  have h1 : code_Reader_Fixed.f k (Tx.B s) 0 1 = _ := crfix_f s hb hl 0 k (by omega)
  have h2 : tinderboxref04_At_Fixed.f k (Tx.B s) 0 1 = _ := rafixed_f s hb hl 0 1 (by decide) k (by omega)
  cases s with
  | nil => exact ⟨0, [], 2, by decide, Tx.By.nil, Nat.le_refl _, h1, h2, fun h => by cases h⟩
  | cons c r =>
    have e1 : Cd.rbytes (c :: r) 0 1 = ([c], r, 0) := rb_one c r
    have e2 : Cd.rbytes (c :: r) 0 ((1 : Nat) : Int) = ([c], r, 0) := rb_one c r
    have ev : Cd.val [c] = c := by show c + 256 * 0 = c; omega
    rw [e1] at h1
    rw [e2] at h2
    dsimp only at h1 h2
    rw [ev] at h1 h2
    exact ⟨c, r, 0, hb.head, hb.tail, by rw [List.length_cons]; omega, h1, h2, fun _ => rfl⟩
theorem take_eq {k : Nat} {s l : ByteArray} {kd e0 : Int} (h : code_Reader_Fixed.f k s 0 1 = some (kd, l, e0)) : rec_Take.f k s 0 = (rec_Take.row k (Rc.mosts (wrap64 kd)) l e0).bind (fun c => rec_Take.fin (wrap64 kd) (Rc.mkR (wrap64 kd) c.1) c.2.1 c.2.2) := by
  unfold rec_Take.f
  rw [h, Option.bind_some]
theorem rtake_eq {k : Nat} {s l : ByteArray} {kd e0 : Int} (h : tinderboxref04_At_Fixed.f k s 0 1 = some (l, e0, kd)) : tinderboxref07_Take.f k s 0 = (tinderboxref07_row.f k (wrap64 kd) 0 0 0 0 0).bind (fun b => tinderboxref07_Take.l0 k kd b.2.1 b.2.2.1 b.2.2.2 (([] : List Int)) 0 l e0) := by
  unfold tinderboxref07_Take.f
  rw [h, Option.bind_some]
/-! records in groups -/
def okR (r : S58) : Prop := Rc.chk r.f0 r.f1 r.f2 r.f3 r.f4 r.f5 = true
theorem rdT_mid (pre r : List S58) (v : S58) : rd_T58 (pre ++ v :: r) ((pre.length : Nat) : Int) = v := by
  unfold rd_T58
  rw [Int.toNat_natCast, List.getD_eq_getElem?_getD, List.getElem?_append_right (Nat.le_refl _), Nat.sub_self]
  rfl
set_option maxRecDepth 100000 in
theorem awake_k : tinderboxlaw09_awake.f 60 = some true := by decide +kernel
def TakeOk (s r : List Nat) (x : S58) : Prop := ∀ k, 41 ≤ k → rec_Take.f k (Tx.B s) 0 = some (x.f0, x.f1, x.f2, x.f3, x.f4, x.f5, 0, Tx.B r, 0) ∧ tinderboxref07_Take.f k (Tx.B s) 0 = some (Tx.B r, 0, x.f0, x.f1, x.f2, x.f3, x.f4, x.f5)
def TakeBad (s : List Nat) (c : Nat) : Prop := ∃ b e b2, ∀ k, 41 ≤ k → rec_Take.f k (Tx.B s) 0 = some (0, 0, 0, 0, 0, 0, (c : Int), b, e) ∧ tinderboxref07_Take.f k (Tx.B s) 0 = some (b2, (c : Int), 0, 0, 0, 0, 0, 0)
theorem up_both {s : ByteArray} {a : Int × Int × Int × Int × Int × Int × Int × ByteArray × Int} {b : ByteArray × Int × Int × Int × Int × Int × Int × Int} (h1 : rec_Take.f 41 s 0 = some a) (h2 : tinderboxref07_Take.f 41 s 0 = some b) : ∀ k, 41 ≤ k → rec_Take.f k s 0 = some a ∧ tinderboxref07_Take.f k s 0 = some b := by
  intro k hk
  have q1 := le_up (rec_Take.mono s 0) h1 (k - 41)
  have q2 := le_up (tinderboxref07_Take.mono s 0) h2 (k - 41)
  rw [show 41 + (k - 41) = k by omega] at q1 q2
  exact ⟨q1, q2⟩
theorem take_any (s : List Nat) (hb : Tx.By s) (hl : s.length ≤ 100) : (∃ x r, Tx.By r ∧ r.length < s.length ∧ TakeOk s r x) ∨ ∃ c, c ≠ 0 ∧ TakeBad s c := by
  obtain ⟨kd, l, e0, hkd, hbl, hll, hP, hR, hse⟩ := fixed_both s hb (by omega) 41 (by decide)
  obtain ⟨ms, ls, ok, K⟩ := kinds kd
  have hT := take_eq hP
  have hU := rtake_eq hR
  rcases core K hkd l hbl (by omega) e0 41 (by decide) with ⟨c, r, e, r2, hc, h1, h2⟩ | ⟨ns, r, he0, hok, hlen, hle, hcat, h1, h2⟩
  · right
    refine ⟨c, hc, Tx.B r, (e : Int), Tx.B r2, ?_⟩
    rw [h1] at hT
    rw [h2] at hU
    exact up_both hT hU
  · left
    have hs := hse he0
    refine ⟨⟨(kd : Int), (Rc.mkR (kd : Int) (Tx.I ns)).1, (Rc.mkR (kd : Int) (Tx.I ns)).2.1, (Rc.mkR (kd : Int) (Tx.I ns)).2.2.1, (Rc.mkR (kd : Int) (Tx.I ns)).2.2.2.1, (Rc.mkR (kd : Int) (Tx.I ns)).2.2.2.2⟩, r, ?_, ?_, ?_⟩
    · intro x hx
      exact hbl x (by rw [hcat]; exact List.mem_append_right _ hx)
    · rw [hs, List.length_cons, hcat, List.length_append]; omega
    · rw [h1] at hT
      rw [h2] at hU
      exact up_both hT hU
/-- A text's records, and the error that ends them (0: none). -/
inductive RD : List Nat → List S58 → Nat → Prop
  | nil : RD [] [] 0
  | ok (s r : List Nat) (x : S58) (L : List S58) (c : Nat) : r.length < s.length → TakeOk s r x → RD r L c → RD s (x :: L) c
  | err (s : List Nat) (c : Nat) : c ≠ 0 → 1 ≤ s.length → TakeBad s c → RD s [] c
theorem rd_any : ∀ (n : Nat) (s : List Nat), s.length ≤ n → Tx.By s → s.length ≤ 100 → ∃ L c, RD s L c ∧ L.length ≤ s.length := by
  intro n
  induction n with
  | zero =>
    intro s h _ _
    obtain rfl : s = [] := List.eq_nil_of_length_eq_zero (by omega)
    exact ⟨[], 0, .nil, Nat.le_refl _⟩
  | succ n ih =>
    intro s h hb hl
    by_cases h0 : s = []
    · subst h0
      exact ⟨[], 0, .nil, Nat.le_refl _⟩
    · have h1 : 1 ≤ s.length := List.length_pos_iff.2 h0
      rcases take_any s hb hl with ⟨x, r, hbr, hlt, ht⟩ | ⟨c, hc, ht⟩
      · obtain ⟨L, c, hL, hz⟩ := ih r (by omega) hbr (by omega)
        exact ⟨x :: L, c, .ok s r x L c hlt ht hL, by rw [List.length_cons]; omega⟩
      · exact ⟨[], c, .err s c hc h1 ht, Nat.zero_le _⟩
/-! the program -/
theorem unp_l1 {s : List Nat} {L : List S58} {c : Nat} (h : RD s L c) : ∀ (F : Nat) (acc : List S58) (x10 : List ByteArray) (x11 x12 : Int), 41 ≤ F → acc.length + L.length ≤ 100000 →
    group_Unpack.l1 (L.length + 1 + F) acc x10 x11 x12 (Tx.B s) 0 = if c = 0 then group_Unpack.l0 F (acc ++ L) x10 x11 (wrap64 (x12 + 1)) else some ([], (c : Int)) := by
  induction h with
  | nil =>
    intro F acc x10 x11 x12 hF hl
    rw [show ([] : List S58).length + 1 + F = F + 1 by simp; omega, group_Unpack.l1]
    unfold code_Reader_Left.f
    rw [Option.bind_some]
    dsimp only
    rw [Tx.B_size, if_neg (by simp), if_pos rfl, List.append_nil]
  | ok s r x L c hlt ht _ ih =>
    intro F acc x10 x11 x12 hF hl
    rw [List.length_cons] at hl
    have hk := (ht (L.length + 1 + F) (by omega)).1
    have i2 := ih F (acc ++ [x]) x10 x11 x12 hF (by rw [List.length_append, List.length_singleton]; omega)
    rw [List.append_assoc] at i2
    rw [show (x :: L).length + 1 + F = (L.length + 1 + F) + 1 by rw [List.length_cons]; omega, group_Unpack.l1]
    unfold code_Reader_Left.f
    rw [Option.bind_some]
    dsimp only
    rw [Tx.B_size, if_pos (by omega), hk, Option.bind_some]
    dsimp only
    rw [if_pos rfl, if_pos (by omega)]
    exact i2
  | err s c hc h1 ht =>
    intro F acc x10 x11 x12 hF hl
    obtain ⟨b, e, b2, ht⟩ := ht
    have hk := (ht F hF).1
    rw [show ([] : List S58).length + 1 + F = F + 1 by simp; omega, group_Unpack.l1]
    unfold code_Reader_Left.f
    rw [Option.bind_some]
    dsimp only
    rw [Tx.B_size, if_pos (by omega), hk, Option.bind_some]
    dsimp only
    rw [if_neg (by omega), if_neg hc]
/-- All texts' records, or the first error. -/
inductive RA : List (List Nat) → List S58 → Nat → Prop
  | nil : RA [] [] 0
  | ok (s : List Nat) (L : List S58) (T : List (List Nat)) (M : List S58) (c : Nat) : RD s L 0 → L.length ≤ 100 → RA T M c → RA (s :: T) (L ++ M) c
  | bad (s : List Nat) (L : List S58) (T : List (List Nat)) (c : Nat) : RD s L c → L.length ≤ 100 → c ≠ 0 → RA (s :: T) [] c
theorem RA.snoc {P : List (List Nat)} {M : List S58} {c : Nat} (h : RA P M c) {s : List Nat} {L : List S58} {d : Nat} (hs : RD s L d) (hl : L.length ≤ 100) : ∃ M', RA (P ++ [s]) M' (if c = 0 then d else c) ∧ (c = 0 → d = 0 → M' = M ++ L) := by
  induction h with
  | nil =>
    by_cases hd : d = 0
    · subst hd
      exact ⟨L ++ [], .ok s L [] [] 0 hs hl .nil, fun _ _ => by simp⟩
    · exact ⟨[], by rw [if_pos rfl]; exact .bad s L [] d hs hl hd, fun _ h => absurd h hd⟩
  | ok t K T M c ht hk _ ih =>
    obtain ⟨M', h1, h2⟩ := ih
    exact ⟨K ++ M', .ok t K _ M' _ ht hk h1, fun a b => by rw [h2 a b, List.append_assoc]⟩
  | bad t K T c ht hk hc => exact ⟨[], by rw [if_neg hc]; exact .bad t K _ c ht hk hc, fun a => absurd a hc⟩
theorem unp_l0 {T : List (List Nat)} {M : List S58} {c : Nat} (h : RA T M c) : ∀ (F : Nat) (acc : List S58) (pre : List ByteArray), 102 * T.length + 100 ≤ F → pre.length + T.length ≤ 10 → acc.length + 100 * T.length ≤ 2000 →
    group_Unpack.l0 F acc (pre ++ T.map Tx.B) ((pre ++ T.map Tx.B).length : Int) (pre.length : Int) = if c = 0 then some (acc ++ M, 0) else some ([], (c : Int)) := by
  induction h with
  | nil =>
    intro F acc pre hF hp ha
    obtain ⟨G, rfl⟩ : ∃ G, F = G + 1 := ⟨F - 1, by omega⟩
    rw [group_Unpack.l0, if_neg (by simp), if_pos rfl, List.append_nil]
  | ok s L T M c hs hl _ ih =>
    intro F acc pre hF hp ha
    rw [List.length_cons] at hF hp ha
    obtain ⟨G, rfl⟩ : ∃ G, F = (L.length + 1 + G) + 1 := ⟨F - L.length - 2, by omega⟩
    have h1 := unp_l1 hs G acc (pre ++ (s :: T).map Tx.B) ((pre ++ (s :: T).map Tx.B).length : Int) (pre.length : Int) (by omega) (by omega)
    rw [if_pos rfl, w64n _ (by omega)] at h1
    have i2 := ih G (acc ++ L) (pre ++ [Tx.B s]) (by omega) (by rw [List.length_append, List.length_singleton]; omega) (by rw [List.length_append]; omega)
    rw [List.append_assoc, List.append_assoc, List.length_append (bs := [Tx.B s]), List.length_singleton] at i2
    have e0 : rdOf ByteArray.empty (pre ++ (s :: T).map Tx.B) ((pre.length : Nat) : Int) = Tx.B s := by
      unfold rdOf
      rw [Int.toNat_natCast, List.getD_eq_getElem?_getD, List.getElem?_append_right (Nat.le_refl _), Nat.sub_self]
      rfl
    have hlen : ((pre ++ (s :: T).map Tx.B).length : Int) = (pre.length : Int) + (T.length : Int) + 1 := by rw [List.length_append, List.length_map, List.length_cons]; omega
    rw [group_Unpack.l0, e0, if_pos (by rw [hlen]; omega), if_pos (by omega), if_pos (by rw [hlen]; omega)]
    unfold code_New.f
    rw [Option.bind_some]
    dsimp only
    exact h1.trans i2
  | bad s L T c hs hl hc =>
    intro F acc pre hF hp ha
    rw [List.length_cons] at hF hp ha
    obtain ⟨G, rfl⟩ : ∃ G, F = (L.length + 1 + G) + 1 := ⟨F - L.length - 2, by omega⟩
    have h1 := unp_l1 hs G acc (pre ++ (s :: T).map Tx.B) ((pre ++ (s :: T).map Tx.B).length : Int) (pre.length : Int) (by omega) (by omega)
    rw [if_neg hc] at h1
    have e0 : rdOf ByteArray.empty (pre ++ (s :: T).map Tx.B) ((pre.length : Nat) : Int) = Tx.B s := by
      unfold rdOf
      rw [Int.toNat_natCast, List.getD_eq_getElem?_getD, List.getElem?_append_right (Nat.le_refl _), Nat.sub_self]
      rfl
    have hlen : ((pre ++ (s :: T).map Tx.B).length : Int) = (pre.length : Int) + (T.length : Int) + 1 := by rw [List.length_append, List.length_map, List.length_cons]; omega
    rw [group_Unpack.l0, e0, if_pos (by rw [hlen]; omega), if_pos (by omega), if_pos (by rw [hlen]; omega)]
    unfold code_New.f
    rw [Option.bind_some]
    dsimp only
    rw [if_neg hc]
    exact h1
/-! the law's own reading -/
theorem law_l1 {s : List Nat} {L : List S58} {c : Nat} (h : RD s L c) : ∀ (F : Nat) (x0 : List ByteArray) (x3 : List S58) (x5 : List ByteArray) (x6 : Int) (x9 : Nat), 41 ≤ F → x9 + s.length ≤ 100 → x3.length + L.length ≤ 100000 →
    tinderboxlaw09_GroupReads.l1 (2 * L.length + 4 + F) x0 x3 0 x5 x6 (x9 : Int) (Tx.B s) 0 = if c = 0 then tinderboxlaw09_GroupReads.l0 (F + 2) x0 (x3 ++ L) 0 x5 (wrap64 (x6 + 1)) else tinderboxlaw09_GroupReads.l0 F x0 (x3 ++ L) (c : Int) x5 (wrap64 (x6 + 1)) := by
  induction h with
  | nil =>
    intro F x0 x3 x5 x6 x9 hF h1 h2
    rw [show 2 * ([] : List S58).length + 4 + F = (F + 2) + 1 + 1 by simp; omega, tinderboxlaw09_GroupReads.l1, if_pos rfl, if_pos (Tx.toList_nil.2 rfl), ite_self, tinderboxlaw09_GroupReads.j4, if_neg (by decide), if_pos rfl, List.append_nil]
  | ok s r x L c hlt ht _ ih =>
    intro F x0 x3 x5 x6 x9 hF h1 h2
    rw [List.length_cons] at h2
    have hk := (ht (2 * L.length + 4 + F) (by omega)).2
    have hne : ¬ (Tx.B s).toList = ([] : List UInt8) := fun e => by
      have := Tx.toList_nil.1 e
      rw [this] at hlt
      exact absurd hlt (Nat.not_lt_zero _)
    have i2 := ih F x0 (x3 ++ [x]) x5 x6 (x9 + 1) hF (by omega) (by rw [List.length_append, List.length_singleton]; omega)
    rw [List.append_assoc] at i2
    rw [show 2 * (x :: L).length + 4 + F = (2 * L.length + 4 + F) + 1 + 1 by rw [List.length_cons]; omega, tinderboxlaw09_GroupReads.l1, if_pos (by omega), if_pos rfl, if_neg hne, tinderboxlaw09_GroupReads.j4, if_pos (by decide), hk, Option.bind_some]
    dsimp only
    rw [if_pos rfl, if_pos (by omega), w64n _ (by omega)]
    exact i2
  | err s c hc hs ht =>
    intro F x0 x3 x5 x6 x9 hF h1 h2
    obtain ⟨b, e, b2, ht⟩ := ht
    have hk := (ht (F + 2) (by omega)).2
    have hne : ¬ (Tx.B s).toList = ([] : List UInt8) := fun e => by
      have := Tx.toList_nil.1 e
      rw [this] at hs
      exact absurd hs (by decide)
    rw [show 2 * ([] : List S58).length + 4 + F = (F + 2) + 1 + 1 by simp; omega, tinderboxlaw09_GroupReads.l1, if_pos (by omega), if_pos rfl, if_neg hne, tinderboxlaw09_GroupReads.j4, if_pos (by decide), hk, Option.bind_some]
    dsimp only
    rw [if_neg (by omega), show F + 2 = F + 1 + 1 from rfl, tinderboxlaw09_GroupReads.l1, if_neg (show ¬ ((c : Nat) : Int) = 0 by omega), ite_self, tinderboxlaw09_GroupReads.j4, if_neg (by decide), if_neg hc, List.append_nil]
/-- An error that there is already: nothing more is read. -/
theorem law_l1_err (s : ByteArray) (c : Nat) (hc : c ≠ 0) (F : Nat) (x0 : List ByteArray) (x3 : List S58) (x5 : List ByteArray) (x6 : Int) :
    tinderboxlaw09_GroupReads.l1 (F + 2) x0 x3 (c : Int) x5 x6 0 s 0 = tinderboxlaw09_GroupReads.l0 F x0 x3 (c : Int) x5 (wrap64 (x6 + 1)) := by
  have h0 : (((c : Nat) : Int) == 0) = false := beq_eq_false_iff_ne.mpr (by omega)
  rw [show F + 2 = F + 1 + 1 from rfl, tinderboxlaw09_GroupReads.l1, if_pos (by decide), if_pos rfl, h0, ite_self, tinderboxlaw09_GroupReads.j4, if_neg (by decide)]
theorem l2_all (x : List S58) : ∀ (n i F : Nat), i + n = x.length → x.length ≤ 100000 → n + 1 ≤ F → tinderboxlaw09_GroupReads.l2 F x x (i : Int) = some true := by
  intro n
  induction n with
  | zero =>
    intro i F hi hl hF
    obtain ⟨G, rfl⟩ : ∃ G, F = G + 1 := ⟨F - 1, by omega⟩
    rw [tinderboxlaw09_GroupReads.l2, if_neg (by omega)]
  | succ n ih =>
    intro i F hi hl hF
    obtain ⟨G, rfl⟩ : ∃ G, F = G + 1 := ⟨F - 1, by omega⟩
    rw [tinderboxlaw09_GroupReads.l2, if_pos (by omega), if_pos (by omega), if_pos (by omega), if_neg (by simp), w64n _ (by omega)]
    exact ih (i + 1) G (by omega) hl (by omega)
theorem fin (P : List (List Nat)) (M : List S58) (c : Nat) (h : RA P M c) (x3 : List S58) (hx : c = 0 → x3 = M) (hP : P.length ≤ 8) (hM : c = 0 → M.length ≤ 1000) (x0 : List ByteArray) (x6 : Int) (F : Nat) (hF : 1200 ≤ F) :
    tinderboxlaw09_GroupReads.j1 (F + 1) x0 x3 (c : Int) (P.map Tx.B) x6 false = some true := by
  have hu := unp_l0 h F [] [] (by omega) (by simpa using (by omega : P.length ≤ 10)) (by simp; omega)
  have hu' : group_Unpack.f F (P.map Tx.B) = if c = 0 then some (M, 0) else some ([], (c : Int)) := hu
  have aw := le_up tinderboxlaw09_awake.mono awake_k (F - 60)
  rw [show 60 + (F - 60) = F by omega] at aw
  obtain ⟨G, rfl⟩ : ∃ G, F = G + 1 := ⟨F - 1, by omega⟩
  rw [tinderboxlaw09_GroupReads.j1, if_neg (by decide), hu']
  by_cases hc : c = 0
  · subst hc
    rw [if_pos rfl, Option.bind_some, aw, Option.bind_some, if_pos rfl, hx rfl]
    dsimp only
    rw [show ((0 : Int) != ((0 : Nat) : Int)) = false from rfl, tinderboxlaw09_GroupReads.j5, if_neg (by decide), if_pos (show ((0 : Nat) : Int) = 0 from rfl), if_pos rfl]
    have := hM rfl
    exact l2_all M M.length 0 G (by omega) (by omega) (by omega)
  · rw [if_neg hc, Option.bind_some, aw, Option.bind_some, if_pos rfl]
    dsimp only
    rw [bne_self_eq_false, tinderboxlaw09_GroupReads.j5, if_neg (by decide), if_neg (by omega)]
    rfl
theorem law_l0 (x0 : List ByteArray) : ∀ (n i : Nat) (P : List (List Nat)) (M : List S58) (c : Nat) (x3 : List S58) (F : Nat), i + n = 8 → P.length = i → RA P M c → (c = 0 → x3 = M) → (c = 0 → M.length ≤ 100 * i) → x3.length ≤ 100 * i → 2000 + 220 * n ≤ F →
    tinderboxlaw09_GroupReads.l0 F x0 x3 (c : Int) (P.map Tx.B) (i : Int) = some true := by
  intro n
  induction n with
  | zero =>
    intro i P M c x3 F hi hP h hx hM h3 hF
    obtain ⟨G, rfl⟩ : ∃ G, F = G + 1 + 1 := ⟨F - 2, by omega⟩
    have hd : decide ((i : Int) < 8) = false := decide_eq_false (by omega)
    rw [tinderboxlaw09_GroupReads.l0, hd, ite_self]
    exact fin P M c h x3 hx (by omega) (fun e => by have := hM e; omega) x0 _ G (by omega)
  | succ n ih =>
    intro i P M c x3 F hi hP h hx hM h3 hF
    obtain ⟨G, rfl⟩ : ∃ G, F = G + 1 + 1 + 1 := ⟨F - 3, by omega⟩
    have hd : decide ((i : Int) < 8) = true := decide_eq_true (by omega)
    rw [tinderboxlaw09_GroupReads.l0, hd]
    by_cases hi0 : ¬ (i : Int) < x0.length
    · rw [if_neg hi0]
      exact fin P M c h x3 hx (by omega) (fun e => by have := hM e; omega) x0 _ (G + 1) (by omega)
    · have hi1 : (i : Int) < x0.length := by omega
      have key : ∀ t : ByteArray, t.size ≤ 100 → tinderboxlaw09_GroupReads.j2 (G + 1) x0 x3 (c : Int) (P.map Tx.B) (i : Int) t = some true := by
        intro t ht
        obtain ⟨s, rfl, hb⟩ := Tx.of_text t
        rw [Tx.B_size] at ht
        obtain ⟨L, d, hRD, hLl⟩ := rd_any s.length s (Nat.le_refl _) hb ht
        obtain ⟨M', hM', hMe⟩ := h.snoc hRD (by omega)
        have em : P.map Tx.B ++ [Tx.B s] = (P ++ [s]).map Tx.B := by rw [List.map_append]; rfl
        have el : (P ++ [s]).length = i + 1 := by rw [List.length_append, List.length_singleton]; omega
        rw [tinderboxlaw09_GroupReads.j2, if_pos (by rw [List.length_map]; omega), em]
        by_cases hc : c = 0
        · subst hc
          obtain ⟨F', rfl⟩ : ∃ F', G = 2 * L.length + 4 + F' := ⟨G - (2 * L.length + 4), by omega⟩
          have hq := law_l1 hRD F' x0 x3 ((P ++ [s]).map Tx.B) (i : Int) 0 (by omega) (by omega) (by omega)
          rw [w64n _ (by omega)] at hq
          rw [if_pos rfl] at hM'
          refine Eq.trans hq ?_
          by_cases hd0 : d = 0
          · subst hd0
            have e3 := hMe rfl rfl
            rw [if_pos rfl]
            refine ih (i + 1) (P ++ [s]) M' 0 (x3 ++ L) (F' + 2) (by omega) el hM' (fun _ => by rw [e3, hx rfl]) (fun _ => ?_) (by rw [List.length_append]; omega) (by omega)
            have := hM rfl
            rw [e3, List.length_append]
            omega
          · rw [if_neg hd0]
            exact ih (i + 1) (P ++ [s]) M' d (x3 ++ L) F' (by omega) el hM' (fun e => absurd e hd0) (fun e => absurd e hd0) (by rw [List.length_append]; omega) (by omega)
        · obtain ⟨F', rfl⟩ : ∃ F', G = F' + 2 := ⟨G - 2, by omega⟩
          have hq := law_l1_err (Tx.B s) c hc F' x0 x3 ((P ++ [s]).map Tx.B) (i : Int)
          rw [w64n _ (by omega)] at hq
          rw [if_neg hc] at hM'
          refine Eq.trans hq ?_
          exact ih (i + 1) (P ++ [s]) M' c x3 F' (by omega) el hM' (fun e => absurd e hc) (fun e => absurd e hc) (by omega) (by omega)
      rw [if_pos hi1, tinderboxlaw09_GroupReads.j1, if_pos rfl, if_pos (by omega), if_pos hi1]
      by_cases hz : ((rdOf ByteArray.empty x0 (i : Int)).size : Int) > 100
      · rw [if_pos hz, if_pos (by decide), if_pos (by omega)]
        exact key _ (by rw [ByteArray.size_extract]; omega)
      · rw [if_neg hz]
        exact key _ (by omega)
theorem GroupReads (l0 : List ByteArray) (_ : l0.length ≤ Go.maxLen) (_ : ∀ s ∈ l0, s.size ≤ Go.maxLen) : ∃ k, tinderboxlaw09_GroupReads.f k l0 = some true :=
  ⟨4000, law_l0 l0 8 0 [] [] 0 [] 4000 rfl rfl .nil (fun _ => rfl) (fun _ => Nat.le_refl _) (Nat.le_refl _) (by decide)⟩
end Go.Proofs.Ytoiahmdibibceaa.Pure
