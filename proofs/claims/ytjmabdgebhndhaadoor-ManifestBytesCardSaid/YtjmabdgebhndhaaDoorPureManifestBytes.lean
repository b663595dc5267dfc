/- The bytes of a manifest are those of the reference, and are read again; whatever bytes there are, or the first error. For every input. -/
import Derived.Test.YtjmabdgebhndhaaDoorXManifestBytesx1
import Derived.Test.YtjmabdgebhndhaaDoorXManifestBytesx2
import Derived.Test.YtjmabdgebhndhaaDoorXManifestBytesx3
import Derived.Test.YtjmabdgebhndhaaDoorXManifestBytesx4
import Derived.Test.YtjmabdgebhndhaaDoorXManifestBytesx5
import Derived.Test.YtjmabdgebhndhaaDoorXManifestBytesx6
import Derived.Test.YtjmabdgebhndhaaDoorMBits
import Derived.Test.YtjmabdgebhndhaaDoorMText
import Derived.Test.YtjmabdgebhndhaaDoorCode
import Derived.Test.YtjmabdgebhndhaaDoorXMby
namespace Go.Proofs.YtjmabdgebhndhaaDoor.Pure
open Go.RowKit Go.Proofs.YtjmabdgebhndhaaDoor Go.Proofs.YtjmabdgebhndhaaDoor.XManifestBytes Go.Proofs.YtjmabdgebhndhaaDoorW.PrintWords Go.Proofs.YtjmabdgebhndhaaDoorW.PrintLast Go.Proofs.YtjmabdgebhndhaaDoorW.PrintMore
set_option linter.unusedVariables false
set_option linter.unusedSimpArgs false
set_option maxRecDepth 100000 in
theorem awake_f : tinderboxlaw20_awake.f 400 = some true := by decide +kernel
theorem few_f (a0 : ByteArray) : ∃ t, tinderboxlaw20_few.f a0 = some t ∧ t.size ≤ 400 := by
  unfold tinderboxlaw20_few.f
  by_cases h : (a0.size : Int) > 400
  · rw [if_pos h, if_pos (by decide), if_pos (by omega)]
    exact ⟨_, rfl, by rw [ByteArray.size_extract]; omega⟩
  · rw [if_neg h]
    exact ⟨_, rfl, by omega⟩
/-! numbers as bytes -/
theorem cnum_l0 : ∀ (d k n : Nat) (ds : List Nat), Tx.By ds → n < 256 ^ d → ds.length + d ≤ 9 →
    code_Num.l0 (k + d + 1) (n : Int) (Tx.I (ds.length :: ds)) = some (Tx.B ((ds ++ Cd.le d n).length :: (ds ++ Cd.le d n))) := by
  intro d
  induction d with
  | zero =>
    intro k n ds hb hn hd
    obtain rfl : n = 0 := by simpa using hn
    have c1 : ¬ ((0 : Nat) : Int) > 0 := by omega
    rw [code_Num.l0, if_neg c1, Tx.strOfNums_I]
    show _ = some (Tx.B ((ds ++ []).length :: (ds ++ [])))
    rw [List.append_nil]
  | succ d ih =>
    intro k n ds hb hn hd
    have hz : Cd.le (d + 1) n = if n = 0 then [] else n % 256 :: Cd.le d (n / 256) := rfl
    by_cases h0 : n = 0
    · have c1 : ¬ (n : Int) > 0 := by omega
      rw [show k + (d + 1) + 1 = (k + d + 1) + 1 by omega, code_Num.l0, if_neg c1, Tx.strOfNums_I, hz, if_pos h0, List.append_nil]
    · have c1 : (n : Int) > 0 := by omega
      have c2 : (Tx.I (ds.length :: ds)).length < 140737488355328 := by rw [Tx.I_len, List.length_cons]; omega
      have e1 : (n : Int) % 256 = ((n % 256 : Nat) : Int) := by omega
      have e2 : (n : Int) / 256 = ((n / 256 : Nat) : Int) := by omega
      have c3 : (0 : Int) < ((Tx.I ((ds.length :: ds) ++ [n % 256])).length : Int) := by rw [Tx.I_len]; simp; omega
      have e3 : (rd (Tx.I ((ds.length :: ds) ++ [n % 256])) 0 + 1) % 256 = ((ds.length + 1 : Nat) : Int) := by
        rw [show (0 : Int) = ((0 : Nat) : Int) from rfl, Tx.I_rd]
        show ((ds.length : Int) + 1) % 256 = _
        omega
      have e4 : (Tx.I ((ds.length :: ds) ++ [n % 256])).set (0 : Int).toNat ((ds.length + 1 : Nat) : Int) = Tx.I ((ds ++ [n % 256]).length :: (ds ++ [n % 256])) := by
        rw [show (0 : Int).toNat = 0 from rfl, Tx.I_set, List.length_append]
        rfl
      have hb2 : Tx.By (ds ++ [n % 256]) := hb.append (Tx.By.one (by omega))
      have hl2 : (ds ++ [n % 256]).length + d ≤ 9 := by rw [List.length_append]; simp; omega
      have hn2 : n / 256 < 256 ^ d := by rw [Nat.pow_succ] at hn; omega
      have ih1 := ih k (n / 256) (ds ++ [n % 256]) hb2 hn2 hl2
      rw [show k + (d + 1) + 1 = (k + d + 1) + 1 by omega, code_Num.l0, if_pos c1, if_pos c2, e1, e2, Tx.I_snoc, Option.bind_some, if_pos c3, e3, e4, ih1, hz, if_neg h0, List.append_assoc]
      rfl
theorem cnum_f {n : Nat} (hn : n < 18446744073709551616) (k : Nat) (hk : 10 ≤ k) : code_Num.f k (n : Int) = some (Tx.B (Cd.num n)) := by
  obtain ⟨j, rfl⟩ : ∃ j, k = j + 9 + 1 := ⟨k - 10, by omega⟩
  have h := cnum_l0 9 j n [] Tx.By.nil (Nat.lt_of_lt_of_le hn (by decide)) (by decide)
  rw [List.nil_append] at h
  exact h
theorem cvalue_l0 (s : List Nat) (hs : Tx.By s) (hl : s.length ≤ 8) : ∀ (i k : Nat), i ≤ s.length → code_value.l0 (k + i + 1) (Tx.B s) ((Cd.val (s.drop i) : Nat) : Int) ((i : Int) - 1) = some ((Cd.val s : Nat) : Int) := by
  intro i
  induction i with
  | zero =>
    intro k hi
    have c1 : ¬ (((0 : Nat) : Int) - 1) ≥ 0 := by omega
    rw [code_value.l0, if_neg c1, List.drop_zero]
  | succ i ih =>
    intro k hi
    have e0 : ((i + 1 : Nat) : Int) - 1 = (i : Int) := by omega
    have c1 : (i : Int) ≥ 0 := by omega
    have c2 : (i : Int) < ((Tx.B s).size : Int) := by rw [Tx.B_size]; omega
    have hd := Tx.drop_co (l := s) (i := i) (by omega)
    have hlt := Cd.val_lt (s.drop (i + 1)) (hs.drop _)
    have hc := Tx.co_lt hs i
    have hv : Cd.val (s.drop i) = Tx.co s i + 256 * Cd.val (s.drop (i + 1)) := by rw [hd]; rfl
    have hv64 := Cd.val_lt64 (l := s.drop i) (hs.drop _) (by rw [List.length_drop]; omega)
    have b1 : (0 : Int) ≤ ((Cd.val (s.drop (i + 1)) * 256 : Nat) : Int) := by omega
    have b2 : ((Cd.val (s.drop (i + 1)) * 256 : Nat) : Int) < 2 ^ 64 := by omega
    have b3 : (0 : Int) ≤ ((Tx.co s i : Nat) : Int) := by omega
    have b4 : ((Tx.co s i : Nat) : Int) < 2 ^ 64 := by omega
    have b5 : ((Tx.co s i : Nat) : Int) < 2 ^ 8 := by omega
    have b6 : ((Cd.val (s.drop (i + 1)) * 256 : Nat) : Int) % 2 ^ 8 = 0 := by omega
    have e1 : wrap64 ((i : Int) - 1) = (i : Int) - 1 := Bt.wrap_ok (by omega) (by omega)
    have b7 : ((Cd.val (s.drop (i + 1)) * 256 : Nat) : Int) + ((Tx.co s i : Nat) : Int) = ((Cd.val (s.drop i) : Nat) : Int) := by omega
    have e2 : ((Cd.val (s.drop (i + 1)) : Nat) : Int) * 256 = ((Cd.val (s.drop (i + 1)) * 256 : Nat) : Int) := by omega
    have e3 := bits_join .u64 64 (Nat.le_refl 64) (fun n h0 h1 => Bt.wraps_u64 n h0 h1) 8 ((Cd.val (s.drop (i + 1)) * 256 : Nat) : Int) ((Tx.co s i : Nat) : Int) b1 b6 b2 b3 b5 b4
    rw [show k + (i + 1) + 1 = (k + i + 1) + 1 by omega, code_value.l0, e0, if_pos c1, if_pos c1, if_pos c2, e2, Bt.wraps_u64 _ b1 b2, Tx.bt_B hs, Bt.wraps_u64 _ b3 b4, e3, b7, e1]
    exact ih k (by omega)
theorem cvalue_f (s : List Nat) (hs : Tx.By s) (hl : s.length ≤ 8) (k : Nat) (hk : 10 ≤ k) : code_value.f k (Tx.B s) = some ((Cd.val s : Nat) : Int) := by
  obtain ⟨j, rfl⟩ : ∃ j, k = j + s.length + 1 := ⟨k - (s.length + 1), by omega⟩
  have e1 : wrap64 (((Tx.B s).size : Int) - 1) = (s.length : Int) - 1 := by rw [Tx.B_size]; exact Bt.wrap_ok (by omega) (by omega)
  have h := cvalue_l0 s hs hl s.length j (Nat.le_refl _)
  rw [List.drop_eq_nil_of_le (Nat.le_refl _)] at h
  unfold code_value.f
  rw [e1]
  exact h
/-! the reader -/
theorem cfail_f (l : List Nat) (e m : Nat) : code_Reader_fail.f (Tx.B l) (e : Int) (m : Int) = some (if e = 0 then (Tx.B [], (m : Int)) else (Tx.B l, (e : Int))) := by
  unfold code_Reader_fail.f
  by_cases h : e = 0
  · rw [if_pos (by omega), if_pos h]; rfl
  · rw [if_neg (by omega), if_neg h]
theorem rb_neg {l : List Nat} {n : Int} (h : n < 0 ∨ n > (l.length : Int)) : Cd.rbytes l 0 n = ([], [], 2) := by
  unfold Cd.rbytes
  rw [if_neg (by simp), if_pos h]
theorem rb_in {l : List Nat} {n : Int} (h0 : 0 ≤ n) (h : n ≤ (l.length : Int)) : Cd.rbytes l 0 n = (l.take n.toNat, l.drop n.toNat, 0) := by
  unfold Cd.rbytes
  rw [if_neg (by simp), if_neg (by omega)]
theorem cbytes_f (l : List Nat) (hl : l.length < 4611686018427387904) (e : Nat) (n : Int) : code_Reader_Bytes.f (Tx.B l) (e : Int) n = some (Tx.B (Cd.rbytes l e n).1, Tx.B (Cd.rbytes l e n).2.1, ((Cd.rbytes l e n).2.2 : Int)) := by
  unfold code_Reader_Bytes.f code_Reader_Err.f
  rw [Option.bind_some]
  dsimp only
  have hf := cfail_f l 0 2
  by_cases h : e = 0
  · subst h
    rw [if_pos (by rfl)]
    by_cases h1 : n < 0
    · rw [if_pos h1, rb_neg (.inl h1)]
      refine Eq.trans (congrArg (fun z => Option.bind z _) hf) ?_
      rfl
    · rw [if_neg h1, Tx.B_size]
      by_cases h2 : n > (l.length : Int)
      · rw [if_pos h2, rb_neg (.inr h2)]
        refine Eq.trans (congrArg (fun z => Option.bind z _) hf) ?_
        rfl
      · rw [if_neg h2, if_pos (by omega), if_pos (by omega), rb_in (by omega) (by omega), Tx.B_extract, Tx.B_extract, List.drop_zero, List.take_length]
  · rw [if_neg (by omega), Cd.rbytes_err h]
    rfl
theorem rb_one (c : Nat) (r : List Nat) : Cd.rbytes (c :: r) 0 1 = ([c], r, 0) := by
  unfold Cd.rbytes
  rw [if_neg (by simp), if_neg (by rw [List.length_cons]; omega)]
  rfl
theorem rb_nil : Cd.rbytes [] 0 1 = ([], [], 2) := rfl
theorem rb_long {r : List Nat} {c : Nat} (h : c > r.length) : Cd.rbytes r 0 (c : Int) = ([], [], 2) := by
  unfold Cd.rbytes
  rw [if_neg (by simp), if_pos (by omega)]
theorem rb_ok {r : List Nat} {c : Nat} (h : c ≤ r.length) : Cd.rbytes r 0 (c : Int) = (r.take c, r.drop c, 0) := by
  unfold Cd.rbytes
  rw [if_neg (by simp), if_neg (by omega), Int.toNat_natCast]
theorem cj0_f (k : Nat) (most n : Nat) (b : Bool) (l : List Nat) : code_Reader_Num.j0 (k + 1) (most : Int) (n : Int) b (Tx.B l) ((0 : Nat) : Int) = some (if b = true then (0, Tx.B [], 3) else if n > most then (0, Tx.B [], 5) else ((n : Int), Tx.B l, 0)) := by
  have hf : ∀ m : Nat, code_Reader_fail.f (Tx.B l) ((0 : Nat) : Int) (m : Int) = some (Tx.B [], (m : Int)) := fun m => by rw [cfail_f, if_pos rfl]
  have h3 := hf 3
  have h5 := hf 5
  rw [code_Reader_Num.j0]
  cases b with
  | true =>
    rw [if_pos rfl, if_pos rfl]
    refine Eq.trans (congrArg (fun z => Option.bind z _) h3) ?_
    rfl
  | false =>
    have hff : ¬ (false = true) := by decide
    rw [if_neg hff, if_neg hff]
    by_cases h : n > most
    · have h' : (n : Int) > (most : Int) := by omega
      rw [if_pos h', if_pos h]
      refine Eq.trans (congrArg (fun z => Option.bind z _) h5) ?_
      rfl
    · have h' : ¬ (n : Int) > (most : Int) := by omega
      rw [if_neg h', if_neg h]
      rfl
theorem crnum_f (l : List Nat) (hb : Tx.By l) (hl : l.length < 4611686018427387904) (e most k : Nat) (hk : 12 ≤ k) :
    code_Reader_Num.f k (Tx.B l) (e : Int) (most : Int) = some (((Cd.rnum l e most).1 : Int), Tx.B (Cd.rnum l e most).2.1, ((Cd.rnum l e most).2.2 : Int)) := by
  obtain ⟨j, rfl⟩ : ∃ j, k = j + 1 := ⟨k - 1, by omega⟩
  have hj : 10 ≤ j + 1 := by omega
  unfold code_Reader_Num.f
  rw [cbytes_f l hl e 1, Option.bind_some]
  dsimp only
  by_cases he : e = 0
  · subst he
    cases l with
    | nil =>
      rw [rb_nil, if_pos (Tx.toList_nil.2 rfl)]
      rfl
    | cons c r =>
      have hc := hb.head
      have hr := hb.tail
      have hr2 : r.length < 4611686018427387904 := by rw [List.length_cons] at hl; omega
      have c1 : ¬ (Tx.B [c]).toList = ([] : List UInt8) := by rw [Tx.toList_nil]; simp
      have c2 : (0 : Int) < ((Tx.B [c]).size : Int) := by rw [Tx.B_size]; show (0 : Int) < 1; decide
      have e1 : bt (Tx.B [c]) 0 = (c : Int) := Tx.bt_B (Tx.By.one hc) 0
      have e2 : wrap64 (c : Int) = (c : Int) := Bt.wrap_ok (by omega) (by omega)
      have hf := cfail_f r 0 3
      have hz : Cd.rnum (c :: r) 0 most = if c > 8 then (0, [], 3) else if c > r.length then (0, [], 2) else if c ≠ 0 ∧ r.getD (c - 1) 0 = 0 then (0, [], 3) else if Cd.val (r.take c) > most then (0, [], 5) else (Cd.val (r.take c), r.drop c, 0) := rfl
      rw [rb_one]
      dsimp only
      rw [if_neg c1, if_pos c2, e1, hz]
      by_cases h1 : c > 8
      · rw [if_pos (by omega), if_pos h1]
        refine Eq.trans (congrArg (fun z => Option.bind z _) hf) ?_
        rfl
      rw [if_neg (by omega), if_neg h1, e2]
      have hcb := cbytes_f r hr2 0 (c : Int)
      refine Eq.trans (congrArg (fun z => Option.bind z _) hcb) ?_
      rw [Option.bind_some]
      dsimp only
      by_cases h2 : c > r.length
      · rw [rb_long h2, if_pos h2]
        dsimp only
        rw [cvalue_f [] Tx.By.nil (by decide) _ hj, Option.bind_some, if_neg (by decide)]
        rfl
      · have hle : c ≤ r.length := by omega
        have hlen : (r.take c).length = c := by rw [List.length_take]; omega
        rw [rb_ok hle, if_neg h2]
        dsimp only
        rw [cvalue_f (r.take c) (hr.take c) (by omega) _ hj, Option.bind_some, if_pos (by rfl)]
        by_cases h3 : c = 0
        · have h4 : r.take c = [] := by rw [h3]; rfl
          have c6 : ¬ (c ≠ 0 ∧ r.getD (c - 1) 0 = 0) := fun h => h.1 h3
          have hff : ¬ (false = true) := by decide
          rw [if_pos (Tx.toList_nil.2 h4), cj0_f, if_neg hff, if_neg c6]
          split <;> rfl
        · have c3 : ¬ (Tx.B (r.take c)).toList = ([] : List UInt8) := by
            rw [Tx.toList_nil]
            intro h
            rw [h] at hlen
            exact h3 hlen.symm
          have e3 : wrap64 (((Tx.B (r.take c)).size : Int) - 1) = ((c - 1 : Nat) : Int) := by rw [Tx.B_size, hlen, Bt.wrap_ok (by omega) (by omega)]; omega
          have c4 : (0 : Int) ≤ ((c - 1 : Nat) : Int) := by omega
          have c5 : ((c - 1 : Nat) : Int) < ((Tx.B (r.take c)).size : Int) := by rw [Tx.B_size, hlen]; omega
          have e4 : Tx.co (r.take c) (c - 1) = r.getD (c - 1) 0 := by rw [Tx.co_take, if_pos (by omega)]; rfl
          rw [if_neg c3, e3, if_pos c4, if_pos c5, Tx.bt_B (hr.take c), cj0_f, e4]
          by_cases h5 : r.getD (c - 1) 0 = 0
          · have c6 : c ≠ 0 ∧ r.getD (c - 1) 0 = 0 := ⟨h3, h5⟩
            have hz0 : (((r.getD (c - 1) 0 : Nat) : Int) == 0) = true := by rw [h5]; rfl
            rw [if_pos c6, hz0, if_pos rfl]
            rfl
          · have hne : (((r.getD (c - 1) 0 : Nat) : Int) == 0) = false := beq_eq_false_iff_ne.2 (by omega)
            have c6 : ¬ (c ≠ 0 ∧ r.getD (c - 1) 0 = 0) := fun h => h5 h.2
            have hff : ¬ (false = true) := by decide
            rw [if_neg c6, hne, if_neg hff]
            split <;> rfl
  · rw [Cd.rbytes_err he, if_pos (Tx.toList_nil.2 rfl), Cd.rnum_err he]
    rfl
theorem cend_f (l : List Nat) (e : Nat) : code_Reader_End.f (Tx.B l) (e : Int) = some (((Cd.rend l e : Nat) : Int), Tx.B l, (e : Int)) := by
  unfold code_Reader_End.f code_Reader_Err.f Cd.rend
  rw [Option.bind_some]
  dsimp only
  by_cases h : e = 0
  · subst h
    rw [if_pos (by rfl)]
    by_cases h2 : l = []
    · rw [if_pos (Tx.toList_nil.2 h2), if_neg (by rintro ⟨_, h⟩; exact h h2)]
      rfl
    · rw [if_neg (fun h => h2 (Tx.toList_nil.1 h)), if_pos ⟨rfl, h2⟩]
      rfl
  · rw [if_neg (by omega), if_neg (by rintro ⟨h', _⟩; exact h h')]
    rfl
theorem rnum_l0 : ∀ (d k n : Nat) (ds : List Nat), n < 256 ^ d → ds.length + d ≤ 9 →
    tinderboxref04_Num.l0 (k + d + 1) (n : Int) (Tx.I ds) = some (Tx.B ((ds ++ Cd.le d n).length :: (ds ++ Cd.le d n))) := by
  have fin : ∀ (j : Nat) (ds : List Nat), ds.length ≤ 9 → tinderboxref04_Num.l0 (j + 1) ((0 : Nat) : Int) (Tx.I ds) = some (Tx.B (ds.length :: ds)) := by
    intro j ds hd
    have c1 : ¬ ((0 : Nat) : Int) > 0 := by omega
    have e1 : ([(((Tx.I ds).length : Nat) : Int) % 256] : List Int) = Tx.I [ds.length] := by
      rw [Tx.I_len]
      have : ((ds.length : Nat) : Int) % 256 = ((ds.length : Nat) : Int) := by omega
      rw [this]; rfl
    have c2 : (strOfNums (Tx.I [ds.length])).size + (strOfNums (Tx.I ds)).size ≤ 9223372036854775807 := by
      rw [Tx.strOfNums_I, Tx.strOfNums_I, Tx.B_size, Tx.B_size, List.length_cons]; simp; omega
    rw [tinderboxref04_Num.l0, if_neg c1, e1, Option.bind_some, if_pos c2, Tx.strOfNums_I, Tx.strOfNums_I, Tx.B_append]
    rfl
  intro d
  induction d with
  | zero =>
    intro k n ds hn hd
    obtain rfl : n = 0 := by simpa using hn
    rw [fin _ _ (by omega)]
    show _ = some (Tx.B ((ds ++ []).length :: (ds ++ [])))
    rw [List.append_nil]
  | succ d ih =>
    intro k n ds hn hd
    have hz : Cd.le (d + 1) n = if n = 0 then [] else n % 256 :: Cd.le d (n / 256) := rfl
    by_cases h0 : n = 0
    · subst h0
      rw [fin _ _ (by omega), hz, if_pos rfl, List.append_nil]
    · have hn2 : n / 256 < 256 ^ d := by rw [Nat.pow_succ] at hn; omega
      have hp : 256 ^ d ≤ 256 ^ 8 := Nat.pow_le_pow_right (by decide) (by omega)
      have h8 : (256 : Nat) ^ 8 = 18446744073709551616 := by decide
      have hlt : n / 256 < 18446744073709551616 := by omega
      clear hp h8
      have c1 : (n : Int) > 0 := by omega
      have c2 : (Tx.I ds).length < 140737488355328 := by rw [Tx.I_len]; omega
      have t1 : Int.tdiv (n : Int) 256 = ((n / 256 : Nat) : Int) := by rw [Int.tdiv_eq_ediv_of_nonneg (by omega)]; omega
      have t2 : Int.tmod (n : Int) 256 = ((n % 256 : Nat) : Int) := by rw [Int.tmod_eq_emod_of_nonneg (by omega)]; omega
      have t3 : ((n % 256 : Nat) : Int) % 256 = ((n % 256 : Nat) : Int) := by omega
      have hl2 : (ds ++ [n % 256]).length + d ≤ 9 := by rw [List.length_append]; simp; omega
      have e1 : IntKind.u64.wrap ((n / 256 : Nat) : Int) = ((n / 256 : Nat) : Int) := Bt.wraps_u64 _ (by omega) (by omega)
      have ih1 := ih k (n / 256) (ds ++ [n % 256]) hn2 hl2
      rw [show k + (d + 1) + 1 = (k + d + 1) + 1 by omega, tinderboxref04_Num.l0, if_pos c1, if_pos c2, t1, t2, t3, e1, Tx.I_snoc, ih1, hz, if_neg h0, List.append_assoc]
      rfl
theorem rcnum_f {n : Nat} (hn : n < 18446744073709551616) (k : Nat) (hk : 10 ≤ k) : tinderboxref04_Num.f k (n : Int) = some (Tx.B (Cd.num n)) := by
  obtain ⟨j, rfl⟩ : ∃ j, k = j + 9 + 1 := ⟨k - 10, by omega⟩
  have h := rnum_l0 9 j n [] (Nat.lt_of_lt_of_le hn (by decide)) (by decide)
  rw [List.nil_append] at h
  exact h
/-! the reference's reader -/
theorem rabytes_f (l : List Nat) (hl : l.length < 4611686018427387904) (e : Nat) (n : Int) : tinderboxref04_At_Bytes.f (Tx.B l) (e : Int) n = some (Tx.B (Cd.rbytes l e n).2.1, ((Cd.rbytes l e n).2.2 : Int), Tx.B (Cd.rbytes l e n).1) := by
  unfold tinderboxref04_At_Bytes.f
  by_cases h : e = 0
  · subst h
    rw [if_pos (by rfl)]
    by_cases h1 : n < 0
    · rw [if_pos h1, rb_neg (.inl h1)]
      rfl
    · rw [if_neg h1, Tx.B_size]
      by_cases h2 : n > (l.length : Int)
      · rw [if_pos h2, rb_neg (.inr h2)]
        rfl
      · rw [if_neg h2, if_pos (by omega), if_pos (by omega), rb_in (by omega) (by omega), Tx.B_extract, Tx.B_extract, List.drop_zero, List.take_length]
        rfl
  · rw [if_neg (by omega), Cd.rbytes_err h]
    rfl
theorem rafixed_l0 (s r : List Nat) (e : Int) (hs : Tx.By s) (hl : s.length ≤ 8) : ∀ (i k : Nat), i ≤ s.length → tinderboxref04_At_Fixed.l0 (k + i + 1) (Tx.B s) ((Cd.val (s.drop i) : Nat) : Int) ((i : Int) - 1) (Tx.B r) e = some (Tx.B r, e, ((Cd.val s : Nat) : Int)) := by
  intro i
  induction i with
  | zero =>
    intro k hi
    have c1 : ¬ (((0 : Nat) : Int) - 1) ≥ 0 := by omega
    rw [tinderboxref04_At_Fixed.l0, if_neg c1, List.drop_zero]
  | succ i ih =>
    intro k hi
    have e0 : ((i + 1 : Nat) : Int) - 1 = (i : Int) := by omega
    have c1 : (i : Int) ≥ 0 := by omega
    have c2 : (i : Int) < ((Tx.B s).size : Int) := by rw [Tx.B_size]; omega
    have hd := Tx.drop_co (l := s) (i := i) (by omega)
    have hc := Tx.co_lt hs i
    have hv : Cd.val (s.drop i) = Tx.co s i + 256 * Cd.val (s.drop (i + 1)) := by rw [hd]; rfl
    have hv64 := Cd.val_lt64 (l := s.drop i) (hs.drop _) (by rw [List.length_drop]; omega)
    have b1 : (0 : Int) ≤ ((Cd.val (s.drop (i + 1)) * 256 : Nat) : Int) := by omega
    have b2 : ((Cd.val (s.drop (i + 1)) * 256 : Nat) : Int) < 2 ^ 64 := by omega
    have b3 : (0 : Int) ≤ ((Tx.co s i : Nat) : Int) := by omega
    have b4 : ((Tx.co s i : Nat) : Int) < 2 ^ 64 := by omega
    have b8 : (0 : Int) ≤ ((Cd.val (s.drop i) : Nat) : Int) := by omega
    have b9 : ((Cd.val (s.drop i) : Nat) : Int) < 2 ^ 64 := by omega
    have i1 : i ≤ s.length := by omega
    have e1 : wrap64 ((i : Int) - 1) = (i : Int) - 1 := Bt.wrap_ok (by omega) (by omega)
    have b7 : ((Cd.val (s.drop (i + 1)) * 256 : Nat) : Int) + ((Tx.co s i : Nat) : Int) = ((Cd.val (s.drop i) : Nat) : Int) := by omega
    have e2 : ((Cd.val (s.drop (i + 1)) : Nat) : Int) * 256 = ((Cd.val (s.drop (i + 1)) * 256 : Nat) : Int) := by omega
    rw [show k + (i + 1) + 1 = (k + i + 1) + 1 by omega, tinderboxref04_At_Fixed.l0, e0, if_pos c1, if_pos c1, if_pos c2, e2, Bt.wraps_u64 _ b1 b2, Tx.bt_B hs, Bt.wraps_u64 _ b3 b4, b7, Bt.wraps_u64 _ b8 b9, e1]
    exact ih k i1
theorem rafixed_f (l : List Nat) (hb : Tx.By l) (hl : l.length < 4611686018427387904) (e n : Nat) (hn : n ≤ 8) (k : Nat) (hk : 12 ≤ k) :
    tinderboxref04_At_Fixed.f k (Tx.B l) (e : Int) (n : Int) = some (Tx.B (Cd.rbytes l e n).2.1, ((Cd.rbytes l e n).2.2 : Int), ((Cd.val (Cd.rbytes l e n).1 : Nat) : Int)) := by
  obtain ⟨j, rfl⟩ : ∃ j, k = j + 2 := ⟨k - 2, by omega⟩
  obtain ⟨s, r, e', hr⟩ : ∃ s r e', Cd.rbytes l e n = (s, r, e') := ⟨_, _, _, rfl⟩
  have hsb : Tx.By s ∧ s.length ≤ 8 := by
    unfold Cd.rbytes at hr
    split at hr
    · simp only [Prod.mk.injEq] at hr; rw [← hr.1]; exact ⟨Tx.By.nil, by decide⟩
    split at hr
    · simp only [Prod.mk.injEq] at hr; rw [← hr.1]; exact ⟨Tx.By.nil, by decide⟩
    · simp only [Prod.mk.injEq] at hr; rw [← hr.1]; exact ⟨hb.take _, by rw [List.length_take]; omega⟩
  have h1 := rabytes_f l hl e (n : Int)
  rw [hr] at h1
  dsimp only at h1
  have c0 : ¬ (n : Int) < 0 := by omega
  have c1 : ¬ (n : Int) > 8 := by omega
  obtain ⟨i, hi⟩ : ∃ i, j = i + s.length + 1 := ⟨j - (s.length + 1), by omega⟩
  have hs8 := hsb.2
  have e1 : wrap64 (((Tx.B s).size : Int) - 1) = (s.length : Int) - 1 := by rw [Tx.B_size]; exact Bt.wrap_ok (by omega) (by omega)
  have h2 := rafixed_l0 s r (e' : Int) hsb.1 hsb.2 s.length i (Nat.le_refl _)
  rw [List.drop_eq_nil_of_le (Nat.le_refl _)] at h2
  unfold tinderboxref04_At_Fixed.f
  rw [if_neg c0, tinderboxref04_At_Fixed.j0, if_neg c1, tinderboxref04_At_Fixed.j1, h1, Option.bind_some]
  dsimp only
  rw [e1, hr, hi]
  exact h2
theorem le_iff {t : List Nat} (hb : ∀ x ∈ t, x < 256) (hl : t.length ≤ 8) : Cd.le 9 (Cd.val t) = t ↔ Cd.Top t := by
  constructor
  · intro h
    have := Cd.le_top 9 (Cd.val t) (Nat.lt_of_lt_of_le (Cd.val_lt64 hb hl) (by decide))
    rwa [h] at this
  · intro h
    exact Cd.le_val 9 t hb (by omega) h
theorem raj0_f (k most n : Nat) (b : Bool) (l : List Nat) (e : Int) : tinderboxref04_At_Num.j0 (k + 1) (most : Int) (n : Int) b (Tx.B l) e = some (if b = true then (Tx.B [], 3, 0) else if n > most then (Tx.B [], 5, 0) else (Tx.B l, e, (n : Int))) := by
  rw [tinderboxref04_At_Num.j0]
  cases b with
  | true => rw [if_pos rfl, if_pos rfl]; rfl
  | false =>
    have hff : ¬ (false = true) := by decide
    rw [if_neg hff, if_neg hff]
    by_cases h : n > most
    · have h' : (n : Int) > (most : Int) := by omega
      rw [if_pos h', if_pos h]; rfl
    · have h' : ¬ (n : Int) > (most : Int) := by omega
      rw [if_neg h', if_neg h]
theorem ranum_f (l : List Nat) (hb : Tx.By l) (hl : l.length < 4611686018427387904) (e most k : Nat) (hk : 14 ≤ k) :
    tinderboxref04_At_Num.f k (Tx.B l) (e : Int) (most : Int) = some (Tx.B (Cd.rnum l e most).2.1, ((Cd.rnum l e most).2.2 : Int), ((Cd.rnum l e most).1 : Int)) := by
  obtain ⟨j, rfl⟩ : ∃ j, k = j + 1 := ⟨k - 1, by omega⟩
  have h1 := rafixed_f l hb hl e 1 (by decide) (j + 1) (by omega)
  have h1' : tinderboxref04_At_Fixed.f (j + 1) (Tx.B l) (e : Int) 1 = _ := h1
  unfold tinderboxref04_At_Num.f
  rw [h1', Option.bind_some]
  dsimp only
  by_cases he : e = 0
  · subst he
    cases l with
    | nil => rfl
    | cons c r =>
      have e1 : Cd.rbytes (c :: r) 0 ((1 : Nat) : Int) = ([c], r, 0) := rb_one c r
      have ev : Cd.val [c] = c := by show c + 256 * 0 = c; omega
      have hc := hb.head
      have hbr := hb.tail
      have hlr : r.length < 4611686018427387904 := by rw [List.length_cons] at hl; omega
      rw [e1]
      dsimp only
      rw [ev, if_pos (by rfl)]
      have hz0 : ¬ (0 : Nat) ≠ 0 := by simp
      unfold Cd.rnum
      rw [if_neg hz0]
      dsimp only
      by_cases h8 : c > 8
      · have h8' : (c : Int) > 8 := by omega
        rw [if_pos h8', if_pos h8]; rfl
      · have h8' : ¬ (c : Int) > 8 := by omega
        have ew : wrap64 ((c : Nat) : Int) = ((c : Nat) : Int) := Bt.wrap_ok (by omega) (by omega)
        have h2 := rafixed_f r hbr hlr 0 c (by omega) (j + 1) (by omega)
        have h2' : tinderboxref04_At_Fixed.f (j + 1) (Tx.B r) (((0 : Nat) : Nat) : Int) (c : Int) = _ := h2
        rw [if_neg h8', if_neg h8, ew, h2', Option.bind_some]
        dsimp only
        by_cases hlong : c > r.length
        · rw [rb_long hlong, if_pos hlong]
          dsimp only
          rw [if_neg (by decide)]
          rfl
        · have hok : c ≤ r.length := by omega
          have hbt : ∀ x ∈ r.take c, x < 256 := hbr.take c
          have hlt : (r.take c).length = c := by rw [List.length_take]; omega
          have hv := Cd.val_lt64 hbt (by omega)
          have hn := rcnum_f hv (j + 1) (by omega)
          rw [rb_ok hok, if_neg hlong]
          dsimp only
          rw [if_pos (by rfl)]
          obtain ⟨i, rfl⟩ : ∃ i, j = i + 1 := ⟨j - 1, by omega⟩
          by_cases hc0 : c = 0
          · subst hc0
            rw [if_neg (by decide), if_neg (by simp)]
            exact raj0_f (i + 1) most _ false _ _
          · have hp : (c : Int) > 0 := by omega
            have ew2 : wrap64 (1 + ((c : Nat) : Int)) = ((1 + c : Nat) : Int) := by rw [Bt.wrap_ok (by omega) (by omega)]; omega
            have q0 : (0 : Int) ≤ ((1 + c : Nat) : Int) := by omega
            have q1 : ((1 + c : Nat) : Int) ≤ ((Tx.B (c :: r)).size : Int) := by rw [Tx.B_size, List.length_cons]; omega
            have hex : (Tx.B (c :: r)).extract 0 (((1 + c : Nat) : Int)).toNat = Tx.B (c :: r.take c) := by
              rw [Int.toNat_natCast, Tx.B_extract, List.drop_zero, Nat.add_comm, List.take_succ_cons]
            have hbn := Cd.num_by hv
            have hcmp : ∀ b : Bool, (b = true ↔ ¬ Cd.Top (r.take c)) → ((Tx.B (Cd.num (Cd.val (r.take c)))).toList != (Tx.B (c :: r.take c)).toList) = b := by
              intro b hb'
              have hq : Cd.num (Cd.val (r.take c)) = c :: r.take c ↔ Cd.Top (r.take c) := by
                rw [← le_iff hbt (by omega)]
                unfold Cd.num
                constructor
                · intro h; exact (List.cons.inj h).2
                · intro h; rw [h, hlt]
              unfold bne
              rw [Tx.beq_B hbn (Tx.By.cons hc hbt)]
              cases b with
              | true => rw [decide_eq_false (fun h => hb'.1 rfl (hq.1 h))]; rfl
              | false =>
                rw [decide_eq_true (hq.2 (Classical.byContradiction fun h => absurd (hb'.2 h) (by decide)))]; rfl
            rw [if_pos hp, hn, Option.bind_some, ew2, if_pos q0, if_pos q1, hex]
            by_cases ht : Cd.Top (r.take c)
            · have hz : ¬ (c ≠ 0 ∧ r.getD (c - 1) 0 = 0) := by
                rintro ⟨_, hz⟩
                rcases ht with h | h
                · rw [h] at hlt; exact hc0 hlt.symm
                · rw [hlt, Cd.getD_take (by omega)] at h; exact h hz
              have hff : ¬ (false = true) := by decide
              rw [hcmp false ⟨fun h => absurd h hff, fun h => absurd ht h⟩, if_neg hz]
              have hj := raj0_f (i + 1) most (Cd.val (r.take c)) false (r.drop c) (((0 : Nat) : Nat) : Int)
              refine Eq.trans hj ?_
              rw [if_neg hff]
              split <;> rfl
            · have hz : c ≠ 0 ∧ r.getD (c - 1) 0 = 0 := by
                refine ⟨hc0, ?_⟩
                apply Classical.byContradiction
                intro h
                exact ht (.inr (by rw [hlt, Cd.getD_take (by omega)]; exact h))
              rw [hcmp true ⟨fun _ => ht, fun _ => rfl⟩, if_pos hz]
              have hj := raj0_f (i + 1) most (Cd.val (r.take c)) true (r.drop c) (((0 : Nat) : Nat) : Int)
              refine Eq.trans hj ?_
              rw [if_pos rfl]
              rfl
  · rw [Cd.rbytes_err he, Cd.rnum_err he, if_neg (by dsimp only; omega)]
    rfl
theorem rnum_cases (l : List Nat) (e most : Nat) (hb : Tx.By l) : Tx.By (Cd.rnum l e most).2.1 ∧ (Cd.rnum l e most).2.1.length ≤ l.length ∧ (Cd.rnum l e most).1 ≤ max most 0 := by
  rcases hr : Cd.rnum l e most with ⟨n, r, e'⟩
  have hl : r.length ≤ l.length := Cd.rnum_len hr
  by_cases he : e = 0
  · subst he
    by_cases he' : e' = 0
    · subst he'
      obtain ⟨h1, h2, h3⟩ := Cd.num_rnum hb hr
      refine ⟨fun x hx => hb x (by rw [h1]; exact List.mem_append_right _ hx), hl, by omega⟩
    · obtain ⟨h1, h2⟩ := Cd.rnum_zero hr he'
      subst h1 h2
      exact ⟨Tx.By.nil, hl, Nat.zero_le _⟩
  · rw [Cd.rnum_err he] at hr
    injection hr with h1 h2
    injection h2 with h2 h3
    subst h1 h2 h3
    exact ⟨hb, hl, Nat.zero_le _⟩
theorem wok {n : Int} (h0 : -9223372036854775808 ≤ n) (h1 : n < 9223372036854775808) : wrap64 n = n := by unfold wrap64; omega
def s1 (l : List Nat) := Cd.rnum l 0 1073741824
def s2 (l : List Nat) := Cd.rnum (s1 l).2.1 (s1 l).2.2 1048576
def s3 (l : List Nat) := Cd.rbytes (s2 l).2.1 (s2 l).2.2 32
theorem w1 (l : List Nat) (hb : Tx.By l) : wrap64 (((s1 l).1 : Nat) : Int) = (((s1 l).1 : Nat) : Int) := by
  have h := (rnum_cases l 0 1073741824 hb).2.2
  have e : (s1 l).1 = (Cd.rnum l 0 1073741824).1 := rfl
  rw [← e] at h
  generalize (s1 l).1 = n at h ⊢
  exact wok (by omega) (by omega)
theorem w2 (l : List Nat) (hb : Tx.By l) : wrap64 (((s2 l).1 : Nat) : Int) = (((s2 l).1 : Nat) : Int) := by
  have h := (rnum_cases (s1 l).2.1 (s1 l).2.2 1048576 (rnum_cases l 0 1073741824 hb).1).2.2
  have e : (s2 l).1 = (Cd.rnum (s1 l).2.1 (s1 l).2.2 1048576).1 := rfl
  rw [← e] at h
  generalize (s2 l).1 = n at h ⊢
  exact wok (by omega) (by omega)
theorem take_f (l : List Nat) (hb : Tx.By l) (hl : l.length ≤ 1000) (k : Nat) (hk : 14 ≤ k) : manifest_Take.f k (Tx.B l) 0 = some ((((s1 l).1 : Nat) : Int), (((s2 l).1 : Nat) : Int), Tx.B (s3 l).1, Tx.B (s3 l).2.1, (((s3 l).2.2 : Nat) : Int)) := by
  have r1 := rnum_cases l 0 1073741824 hb
  have r2 := rnum_cases (s1 l).2.1 (s1 l).2.2 1048576 r1.1
  have c1 : code_Reader_Num.f k (Tx.B l) 0 1073741824 = some ((((s1 l).1 : Nat) : Int), Tx.B (s1 l).2.1, (((s1 l).2.2 : Nat) : Int)) := crnum_f l hb (by omega) 0 1073741824 k (by omega)
  have c2 : code_Reader_Num.f k (Tx.B (s1 l).2.1) (((s1 l).2.2 : Nat) : Int) 1048576 = some ((((s2 l).1 : Nat) : Int), Tx.B (s2 l).2.1, (((s2 l).2.2 : Nat) : Int)) := crnum_f (s1 l).2.1 r1.1 (by have := r1.2.1; show (Cd.rnum l 0 1073741824).2.1.length < _; omega) (s1 l).2.2 1048576 k (by omega)
  have c3 : code_Reader_Bytes.f (Tx.B (s2 l).2.1) (((s2 l).2.2 : Nat) : Int) 32 = some (Tx.B (s3 l).1, Tx.B (s3 l).2.1, (((s3 l).2.2 : Nat) : Int)) := cbytes_f (s2 l).2.1 (by have h1 := r1.2.1; have h2 := r2.2.1; show (Cd.rnum (s1 l).2.1 (s1 l).2.2 1048576).2.1.length < _; have h3 : (s1 l).2.1.length ≤ l.length := h1; omega) (s2 l).2.2 32
  unfold manifest_Take.f
  rw [c1, Option.bind_some, c2, Option.bind_some, c3, Option.bind_some, w1 l hb, w2 l hb]
theorem rtake_f (l : List Nat) (hb : Tx.By l) (hl : l.length ≤ 1000) (k : Nat) (hk : 14 ≤ k) : tinderboxref20_Take.f k (Tx.B l) 0 = some (Tx.B (s3 l).2.1, (((s3 l).2.2 : Nat) : Int), (((s1 l).1 : Nat) : Int), (((s2 l).1 : Nat) : Int), Tx.B (s3 l).1) := by
  have r1 := rnum_cases l 0 1073741824 hb
  have r2 := rnum_cases (s1 l).2.1 (s1 l).2.2 1048576 r1.1
  have c1 : tinderboxref04_At_Num.f k (Tx.B l) 0 1073741824 = some (Tx.B (s1 l).2.1, (((s1 l).2.2 : Nat) : Int), (((s1 l).1 : Nat) : Int)) := ranum_f l hb (by omega) 0 1073741824 k (by omega)
  have c2 : tinderboxref04_At_Num.f k (Tx.B (s1 l).2.1) (((s1 l).2.2 : Nat) : Int) 1048576 = some (Tx.B (s2 l).2.1, (((s2 l).2.2 : Nat) : Int), (((s2 l).1 : Nat) : Int)) := ranum_f (s1 l).2.1 r1.1 (by have := r1.2.1; show (Cd.rnum l 0 1073741824).2.1.length < _; omega) (s1 l).2.2 1048576 k (by omega)
  have c3 : tinderboxref04_At_Bytes.f (Tx.B (s2 l).2.1) (((s2 l).2.2 : Nat) : Int) 32 = some (Tx.B (s3 l).2.1, (((s3 l).2.2 : Nat) : Int), Tx.B (s3 l).1) := rabytes_f (s2 l).2.1 (by have h1 := r1.2.1; have h2 := r2.2.1; show (Cd.rnum (s1 l).2.1 (s1 l).2.2 1048576).2.1.length < _; have h3 : (s1 l).2.1.length ≤ l.length := h1; omega) (s2 l).2.2 32
  unfold tinderboxref20_Take.f
  rw [c1, Option.bind_some, c2, Option.bind_some, c3, Option.bind_some, w1 l hb, w2 l hb]
theorem u64_nat {n : Nat} (h : n < 18446744073709551616) : IntKind.u64.wrap (n : Int) = (n : Int) := by simp [IntKind.wrap, IntKind.bits, IntKind.signed]; omega
theorem put_f {v m : Nat} {d : List Nat} (hv : v < 4294967296) (hm : m < 4294967296) (hd : d.length = 32) (k : Nat) (hk : 14 ≤ k) : manifest_Put.f k (v : Int) (m : Int) (Tx.B d) = some (Tx.B (Cd.num v ++ (Cd.num m ++ d))) := by
  have l1 := Cd.num_len (n := v) (by omega)
  have l2 := Cd.num_len (n := m) (by omega)
  unfold manifest_Put.f
  rw [u64_nat (by omega), u64_nat (by omega), cnum_f (by omega) k (by omega), Option.bind_some, cnum_f (by omega) k (by omega), Option.bind_some, if_pos (by rw [Tx.B_size, Tx.B_size]; omega), Tx.B_append, if_pos (by rw [Tx.B_size, Tx.B_size, List.length_append]; omega), Tx.B_append, List.append_assoc]
theorem rput_f {v m : Nat} {d : List Nat} (hv : v < 4294967296) (hm : m < 4294967296) (hd : d.length = 32) (k : Nat) (hk : 14 ≤ k) : tinderboxref20_Put.f k (v : Int) (m : Int) (Tx.B d) = some (Tx.B (Cd.num v ++ (Cd.num m ++ d))) := by
  have l1 := Cd.num_len (n := v) (by omega)
  have l2 := Cd.num_len (n := m) (by omega)
  unfold tinderboxref20_Put.f
  rw [u64_nat (by omega), u64_nat (by omega), rcnum_f (by omega) k (by omega), Option.bind_some, rcnum_f (by omega) k (by omega), Option.bind_some, if_pos (by rw [Tx.B_size, Tx.B_size]; omega), Tx.B_append, if_pos (by rw [Tx.B_size, Tx.B_size, List.length_append]; omega), Tx.B_append, List.append_assoc]
theorem back_f {v m : Nat} {d : List Nat} (hv : v ≤ 1073741824) (hm : m ≤ 1048576) (hd : d.length = 32) (hb : Tx.By d) (k : Nat) (hk : 14 ≤ k) : manifest_Take.f k (Tx.B (Cd.num v ++ (Cd.num m ++ d))) 0 = some ((v : Int), (m : Int), Tx.B d, Tx.B [], 0) := by
  have b1 : Tx.By (Cd.num v) := Cd.num_by (by omega)
  have b2 : Tx.By (Cd.num m) := Cd.num_by (by omega)
  have l1 := Cd.num_len (n := v) (by omega)
  have l2 := Cd.num_len (n := m) (by omega)
  rw [take_f _ (b1.append (b2.append hb)) (by simp only [List.length_append]; omega) k hk]
  have e1 : s1 (Cd.num v ++ (Cd.num m ++ d)) = (v, Cd.num m ++ d, 0) := by
    have h := Cd.rnum_num (n := v) (most := 1073741824) (by omega) (Cd.num m ++ d)
    rw [if_neg (by omega)] at h
    exact h
  have e2 : s2 (Cd.num v ++ (Cd.num m ++ d)) = (m, d, 0) := by
    have h := Cd.rnum_num (n := m) (most := 1048576) (by omega) d
    rw [if_neg (by omega)] at h
    unfold s2
    rw [e1]
    exact h
  have e3 : s3 (Cd.num v ++ (Cd.num m ++ d)) = (d, [], 0) := by
    unfold s3
    rw [e2]
    show Cd.rbytes d 0 32 = _
    rw [rb_in (by omega) (by omega), List.take_of_length_le (by show d.length ≤ (32 : Int).toNat; omega), List.drop_of_length_le (by show d.length ≤ (32 : Int).toNat; omega)]
  rw [e1, e2, e3]
  rfl
theorem dig_size (t : ByteArray) : (Mf.dig t).size = 32 := by
  have hl : (Mf.padN (32 - t.size) (bytesOf t)).length = (bytesOf t).length + (32 - t.size) := Mf.padN_len _ _
  rw [bytesOf_length] at hl
  have h : (Mf.dig t).data.toList.length = 32 := by
    unfold Mf.dig strOfNums
    simp [List.length_take]
    omega
  rw [Lib.size_eq, h]
theorem bytes_calls (a0 a1 : Int) (a2 : ByteArray) (w : World) : Calls Tryd.prog 6 #[.int .i64 a0, .int .i64 a1, .string a2] w fun e w' => e = .returned (.bool true) ∧ Below w.heap.size w w' := by
  obtain ⟨t, ht, hs⟩ := few_f a2
  have m1 : Go.bits .and .i64 a0 1073741823 = a0 % 1073741824 := Bt.mask64 a0 30 (by decide)
  have m2 : Go.bits .and .i64 a1 1048575 = a1 % 1048576 := Bt.mask64 a1 20 (by decide)
  obtain ⟨v, hv⟩ : ∃ v : Nat, (v : Int) = 1 + a0 % 1073741824 := ⟨(1 + a0 % 1073741824).toNat, by omega⟩
  obtain ⟨l, hl⟩ : ∃ l : Nat, (l : Int) = a1 % 1048576 := ⟨(a1 % 1048576).toNat, by omega⟩
  have hc : tinderboxlaw20_cut.f a0 a1 t = some ((v : Int), (l : Int), Mf.dig t) := by
    unfold tinderboxlaw20_cut.f
    rw [m1, m2, if_pos ⟨by omega, by omega, by omega⟩, hv, hl]
  have hd := dig_size t
  obtain ⟨d, hdd, hdb⟩ := Tx.of_text (Mf.dig t)
  rw [hdd] at hc hd
  rw [Tx.B_size] at hd
  obtain ⟨q, hq, hqb⟩ := Tx.of_text t
  have hql : q.length ≤ 1000 := by rw [hq, Tx.B_size] at hs; omega
  have k2 := take_f q hqb hql 400 (by decide)
  have k3 := rtake_f q hqb hql 400 (by decide)
  rw [← hq] at k2 k3
  exact Mf.mbytes_calls 400 a0 a1 a2 t _ _ _ _ _ _ _ _ _ _ _ _ _ ht hc (put_f (by omega) (by omega) hd 400 (by decide)) (back_f (by omega) (by omega) hd hdb 400 (by decide)) k2 k3 (rput_f (by omega) (by omega) hd 400 (by decide)) awake_f (Or.inr ⟨rfl, rfl, rfl⟩) w
end Go.Proofs.YtjmabdgebhndhaaDoor.Pure
