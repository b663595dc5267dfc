/- The check of the sum (by exclusive or) of three texts of one length is that of their checks. For every input. -/
import Derived.Test.YtpidfledopnhpaaXCrcLinearx1
import Derived.Test.YtpidfledopnhpaaXCrcLinearx2
import Derived.Test.YtpidfledopnhpaaMBits
import Derived.Test.YtpidfledopnhpaaMText
import Derived.Test.YtpidfledopnhpaaCrc
namespace Go.Proofs.Ytpidfledopnhpaa.Pure
open Go.RowKit Go.Proofs.Ytpidfledopnhpaa Go.Proofs.Ytpidfledopnhpaa.XCrcLinear Go.Proofs.YtpidfledopnhpaaW.PrintWords Go.Proofs.YtpidfledopnhpaaW.PrintLast Go.Proofs.YtpidfledopnhpaaW.PrintMore
set_option linter.unusedVariables false
set_option linter.unusedSimpArgs false
/-! the program's check -/
def bytesN (s : ByteArray) : List Nat := s.data.toList.map UInt8.toNat
theorem bytesN_len (s : ByteArray) : (bytesN s).length = s.size := by unfold bytesN; simp
theorem bytesN_lt (s : ByteArray) : ∀ x ∈ bytesN s, x < 256 := by
  intro x hx
  unfold bytesN at hx
  obtain ⟨y, _, rfl⟩ := List.mem_map.1 hx
  exact y.toNat_lt
theorem bytesN_drop (s : ByteArray) (i : Nat) (h : i < s.size) : (bytesN s).drop i = (bytesN s).getD i 0 :: (bytesN s).drop (i + 1) := by
  have hl : i < (bytesN s).length := by rw [bytesN_len]; exact h
  rw [List.drop_eq_getElem_cons hl, List.getD_eq_getElem?_getD, List.getElem?_eq_getElem hl]
  rfl
theorem getD_lt (s : ByteArray) (i : Nat) : (bytesN s).getD i 0 < 256 := by
  rw [List.getD_eq_getElem?_getD]
  by_cases h : i < (bytesN s).length
  · rw [List.getElem?_eq_getElem h]
    exact bytesN_lt s _ (List.getElem_mem h)
  · rw [List.getElem?_eq_none (by omega)]
    decide
theorem more_l1 (s : ByteArray) (x10 : Int) (i : Nat) (hi : i < 9223372036854775807) : ∀ (d : Nat), d ≤ 8 → ∀ (k c : Nat) (x20 : Int), c < 4294967296 → x20 = 8 - (d : Int) →
    crc_More.l1 (k + d + 1) s (c : Int) x10 (i : Int) x20 = crc_More.l0 k s ((Cm.it d c : Nat) : Int) x10 ((i + 1 : Nat) : Int) := by
  intro d
  induction d with
  | zero =>
    intro _ k c x20 hc hx
    rw [crc_More.l1, if_neg (by omega), Bt.wrap_ok (by omega) (by omega)]
    rfl
  | succ d ih =>
    intro hd k c x20 hc hx
    have hst := Cm.st_lt hc
    have h2 : (c : Int) / 2 = ((c / 2 : Nat) : Int) := by omega
    have hw : wrap64 (x20 + 1) = x20 + 1 := Bt.wrap_ok (by omega) (by omega)
    have ih' := ih (by omega) k (Cm.st c) (x20 + 1) hst (by omega)
    rw [show k + (d + 1) + 1 = (k + d + 1) + 1 by omega, crc_More.l1, if_pos (by omega), Bt.and1_32 hc, h2, hw]
    show _ = crc_More.l0 k s ((Cm.it d (Cm.st c) : Nat) : Int) x10 ((i + 1 : Nat) : Int)
    rw [← ih']
    by_cases h : c % 2 = 1
    · rw [if_pos (by omega), show (2197175160 : Int) = ((2197175160 : Nat) : Int) from rfl, Bt.x32 (by omega) (by decide)]
      unfold Cm.st
      rw [if_pos h]
    · rw [if_neg (by omega)]
      unfold Cm.st
      rw [if_neg h]
theorem more_l0 (s : ByteArray) (hs : s.size ≤ 140737488351232) : ∀ (m : Nat), m ≤ s.size → ∀ (k c : Nat) (i : Nat), c < 4294967296 → i + m = s.size →
    crc_More.l0 (k + 10 * m + 1) s (c : Int) (s.size : Int) (i : Int) = some ((Cm.run c ((bytesN s).drop i) ^^^ 4294967295 : Nat) : Int) := by
  intro m
  induction m with
  | zero =>
    intro _ k c i hc hi
    rw [crc_More.l0, if_neg (by omega), show (4294967295 : Int) = ((4294967295 : Nat) : Int) from rfl, Bt.x32 hc (by decide)]
    rw [List.drop_eq_nil_of_le (by rw [bytesN_len]; omega)]
    rfl
  | succ m ih =>
    intro hm k c i hc hi
    have hb := getD_lt s i
    have hbt : bt s (i : Int) % 4294967296 = (((bytesN s).getD i 0 : Nat) : Int) := by rw [Bt.bt_nat s i (by omega)]; show (((bytesN s).getD i 0 : Nat) : Int) % _ = _; omega
    have hx := Cm.xor32 hc (by omega : (bytesN s).getD i 0 < 4294967296)
    rw [show k + 10 * (m + 1) + 1 = ((k + 10 * m + 1) + 8 + 1) + 1 by omega, crc_More.l0, if_pos (by omega), if_pos (by omega), if_pos (by omega), hbt, Bt.x32 hc (by omega)]
    rw [more_l1 s _ i (by omega) 8 (by omega) _ _ 0 hx rfl, ih (by omega) k _ (i + 1) (Cm.it_lt 8 hx) (by omega), bytesN_drop s i (by omega), Cm.run_cons]
    rfl
theorem ones_xor {a : Nat} : (4294967295 ^^^ a) ^^^ 4294967295 = a := by rw [Nat.xor_comm 4294967295 a, Nat.xor_assoc, Nat.xor_self, Nat.xor_zero]
theorem more_f (s : ByteArray) (hs : s.size ≤ 140737488351232) (a : Nat) (ha : a < 4294967296) (k : Nat) (hk : 10 * s.size + 1 ≤ k) :
    crc_More.f k (a : Int) s = some ((Cm.run (4294967295 ^^^ a) (bytesN s) ^^^ 4294967295 : Nat) : Int) := by
  obtain ⟨j, rfl⟩ : ∃ j, k = j + 10 * s.size + 1 := ⟨k - (10 * s.size + 1), by omega⟩
  unfold crc_More.f
  rw [show (4294967295 : Int) = ((4294967295 : Nat) : Int) from rfl, Bt.x32 (by decide) ha]
  have := more_l0 s hs s.size (Nat.le_refl _) j _ 0 (Cm.xor32 (by decide : 4294967295 < 4294967296) ha) (by omega)
  rwa [List.drop_zero] at this
theorem sum_f (s : ByteArray) (hs : s.size ≤ 140737488351232) (k : Nat) (hk : 10 * s.size + 1 ≤ k) : crc_Sum.f k s = some ((Cm.crc (bytesN s) : Nat) : Int) := by
  unfold crc_Sum.f
  rw [show (0 : Int) = ((0 : Nat) : Int) from rfl, more_f s hs 0 (by decide) k hk, Nat.xor_zero]
  rfl
theorem crc_lt (s : ByteArray) : Cm.crc (bytesN s) < 4294967296 := Cm.xor32 (Cm.run_lt _ (by decide) (bytesN_lt s)) (by decide)
theorem awake_f (k : Nat) (hk : 100 ≤ k) : tinderboxlaw01_awake.f k = some true := by
  unfold tinderboxlaw01_awake.f
  have h1 : (⟨#[49, 50, 51, 52, 53, 54, 55, 56, 57]⟩ : ByteArray).size = 9 := rfl
  have h2 : (⟨#[]⟩ : ByteArray).size = 0 := rfl
  rw [sum_f _ (by omega) k (by omega), sum_f _ (by omega) k (by omega), show bytesN (⟨#[49, 50, 51, 52, 53, 54, 55, 56, 57]⟩ : ByteArray) = [49, 50, 51, 52, 53, 54, 55, 56, 57] from rfl, Cm.awake]
  rfl
theorem few_f (s : ByteArray) : ∃ t : ByteArray, tinderboxlaw01_few.f s = some t ∧ t.size ≤ 500 ∧ t.size ≤ s.size := by
  unfold tinderboxlaw01_few.f
  by_cases h : (s.size : Int) > 500
  · rw [if_pos h, if_pos (by decide), if_pos (by omega)]
    refine ⟨_, rfl, ?_, ?_⟩ <;> rw [ByteArray.size_extract] <;> omega
  · rw [if_neg h]
    exact ⟨s, rfl, by omega, by omega⟩
theorem sumL_f (l : List Nat) (hb : Tx.By l) (hl : l.length ≤ 140737488351232) (k : Nat) (hk : 10 * l.length + 1 ≤ k) : crc_Sum.f k (Tx.B l) = some ((Cm.crc l : Nat) : Int) := by
  have h := sum_f (Tx.B l) (by rw [Tx.B_size]; exact hl) k (by rw [Tx.B_size]; exact hk)
  rw [h, show bytesN (Tx.B l) = l from Tx.L_B hb]
theorem fewL_f (l : List Nat) : tinderboxlaw01_few.f (Tx.B l) = some (Tx.B (l.take 500)) := by
  unfold tinderboxlaw01_few.f
  rw [Tx.B_size]
  by_cases h : (l.length : Int) > 500
  · rw [if_pos h, if_pos (by decide), if_pos (by omega), Tx.B_extract, List.drop_zero]
  · rw [if_neg h, List.take_of_length_le (by omega)]
theorem crcL_lt {l : List Nat} (h : Tx.By l) : Cm.crc l < 4294967296 := Cm.xor32 (Cm.run_lt _ (by decide) h) (by decide)
theorem set_next (z : List Nat) (i m : Nat) (h : i < z.length) : (z.take i ++ List.replicate (m + 1) 0).set i (Tx.co z i) = z.take (i + 1) ++ List.replicate m 0 := by
  have hl : (z.take i).length = i := by rw [List.length_take]; omega
  rw [List.set_append, hl, if_neg (by omega), Nat.sub_self, Tx.take_co h, List.replicate_succ, List.set_cons_zero, List.append_assoc]
  rfl
def zs (p q : List Nat) : List Nat := List.zipWith (fun a b => a ^^^ b) p q
theorem zs_by {p q : List Nat} (hp : Tx.By p) (hq : Tx.By q) : Tx.By (zs p q) := by
  intro x hx
  unfold zs at hx
  obtain ⟨i, hi, rfl⟩ := List.mem_iff_getElem.1 hx
  rw [List.getElem_zipWith]
  exact Nat.xor_lt_two_pow (n := 8) (hp _ (List.getElem_mem _)) (hq _ (List.getElem_mem _))
theorem zs_co {p q : List Nat} {i : Nat} (h1 : i < p.length) (h2 : i < q.length) : Tx.co (zs p q) i = Tx.co p i ^^^ Tx.co q i := by
  have hl : i < (zs p q).length := by unfold zs; rw [List.length_zipWith]; omega
  rw [Tx.co_at hl, Tx.co_at h1, Tx.co_at h2]
  exact List.getElem_zipWith
theorem x3 (a b c f : Nat) : a ^^^ b ^^^ c ^^^ f = (a ^^^ f) ^^^ (b ^^^ f) ^^^ (c ^^^ f) := by
  apply Nat.eq_of_testBit_eq
  intro i
  simp only [Nat.testBit_xor]
  cases a.testBit i <;> cases b.testBit i <;> cases c.testBit i <;> cases f.testBit i <;> rfl
theorem crc_sum {l m : List Nat} (h : l.length = m.length) : Cm.crc (zs l m) = Cm.crc l ^^^ Cm.crc m ^^^ Cm.crc (List.replicate l.length 0) := by
  have hz : (zs l m).length = l.length := by unfold zs; rw [List.length_zipWith]; omega
  have h1 := Cm.run_xor l m 4294967295 4294967295 h
  rw [Nat.xor_self] at h1
  have h2 := Cm.run_diff (zs l m) 0 4294967295
  rw [Nat.zero_xor, hz] at h2
  unfold Cm.crc
  rw [h2, show Cm.run 0 (zs l m) = _ from h1]
  exact x3 _ _ _ _
theorem lin_l0 (p q : List Nat) (hp : Tx.By p) (hq : Tx.By q) (h5 : p.length ≤ 500) (h6 : q.length ≤ 500) (n : Nat) (hn : n = (zs p q).length) :
    ∀ (m k i : Nat), i + m = n → 6000 ≤ k → tinderboxlaw01_CrcLinear.l0 (k + m + 1) (Tx.B p) (Tx.B q) (n : Int) (Tx.I ((zs p q).take i ++ List.replicate m 0)) (Tx.I (List.replicate n 0)) (i : Int) = some true := by
  have hnl : n = min p.length q.length := by rw [hn]; unfold zs; rw [List.length_zipWith]
  intro m
  induction m with
  | zero =>
    intro k i hi hk
    have c1 : ¬ ((i : Int) < (n : Int)) := by omega
    have z0 : (0 : Int) ≤ (n : Int) := by omega
    have cp : (n : Int) ≤ ((Tx.B p).size : Int) := by rw [Tx.B_size]; omega
    have cq : (n : Int) ≤ ((Tx.B q).size : Int) := by rw [Tx.B_size]; omega
    have lz : (zs p q).length ≤ 500 := by omega
    have lp : (p.take n).length = n := by rw [List.length_take]; omega
    have lq : (q.take n).length = n := by rw [List.length_take]; omega
    have hzz : zs (p.take n) (q.take n) = zs p q := by
      unfold zs
      rw [← List.take_zipWith]
      exact List.take_of_length_le (by unfold zs at hn; omega)
    have hs := crc_sum (l := p.take n) (m := q.take n) (by omega)
    rw [hzz, lp] at hs
    have b1 := crcL_lt (hp.take n)
    have b2 := crcL_lt (hq.take n)
    have b3 := crcL_lt (Tx.By.rep n (by decide : 0 < 256))
    have ht : (zs p q).take i ++ List.replicate 0 0 = zs p q := by rw [List.replicate_zero, List.append_nil]; exact List.take_of_length_le (by omega)
    rw [tinderboxlaw01_CrcLinear.l0, if_neg c1, awake_f _ (by omega), Option.bind_some, if_pos rfl, ht, Tx.strOfNums_I, sumL_f _ (zs_by hp hq) (by omega) _ (by omega), Option.bind_some, if_pos z0, if_pos cp, Int.toNat_natCast,
      Tx.B_extract, List.drop_zero, sumL_f _ (hp.take n) (by omega) _ (by omega), Option.bind_some, if_pos cq, Tx.B_extract, List.drop_zero, sumL_f _ (hq.take n) (by omega) _ (by omega), Option.bind_some, Tx.strOfNums_I,
      sumL_f _ (Tx.By.rep n (by decide)) (by rw [List.length_replicate]; omega) _ (by rw [List.length_replicate]; omega), Option.bind_some, Bt.x32 b1 b2, Bt.x32 (Cm.xor32 b1 b2) b3, hs]
    simp
  | succ m ih =>
    intro k i hi hk
    have c1 : (i : Int) < (n : Int) := by omega
    have c2 : (0 : Int) ≤ (i : Int) := by omega
    have cp : (i : Int) < ((Tx.B p).size : Int) := by rw [Tx.B_size]; omega
    have cq : (i : Int) < ((Tx.B q).size : Int) := by rw [Tx.B_size]; omega
    have hlen : ((zs p q).take i ++ List.replicate (m + 1) 0).length = n := by rw [List.length_append, List.length_take, List.length_replicate]; omega
    have cl : (i : Int) < ((Tx.I ((zs p q).take i ++ List.replicate (m + 1) 0)).length : Int) := by rw [Tx.I_len, hlen]; exact c1
    have d1 : i < p.length := by omega
    have d2 : i < q.length := by omega
    have d3 : i < (zs p q).length := by omega
    have e1 : wrap64 ((i : Int) + 1) = ((i + 1 : Nat) : Int) := by rw [Bt.wrap_ok (by omega) (by omega)]; omega
    have ih1 := ih k (i + 1) (by omega) hk
    rw [show k + (m + 1) + 1 = (k + m + 1) + 1 by omega, tinderboxlaw01_CrcLinear.l0, if_pos c1, if_pos c2, if_pos cp, if_pos cq, if_pos cl, Tx.bt_B hp, Tx.bt_B hq, Bt.x8 (Tx.co_lt hp i) (Tx.co_lt hq i), Int.toNat_natCast, Tx.I_set,
      ← zs_co d1 d2, set_next _ _ _ d3, e1, ih1]
theorem CrcLinear : tinderboxlaw01_CrcLinear.Pure := by
  intro a b _ _
  obtain ⟨m, rfl, hm⟩ := Tx.of_text a
  obtain ⟨m', rfl, hm'⟩ := Tx.of_text b
  obtain ⟨p, hp⟩ : ∃ p, p = m.take 500 := ⟨_, rfl⟩
  obtain ⟨q, hq⟩ : ∃ q, q = m'.take 500 := ⟨_, rfl⟩
  have bp : Tx.By p := by rw [hp]; exact hm.take 500
  have bq : Tx.By q := by rw [hq]; exact hm'.take 500
  have lp : p.length ≤ 500 := by rw [hp, List.length_take]; omega
  have lq : q.length ≤ 500 := by rw [hq, List.length_take]; omega
  have fa := fewL_f m
  have fb := fewL_f m'
  rw [← hp] at fa
  rw [← hq] at fb
  obtain ⟨n, hn⟩ : ∃ n, n = (zs p q).length := ⟨_, rfl⟩
  have hnl : n = min p.length q.length := by rw [hn]; unfold zs; rw [List.length_zipWith]
  have e1 : mn ((Tx.B p).size : Int) ((Tx.B q).size : Int) = (n : Int) := by rw [Tx.B_size, Tx.B_size]; unfold mn; split <;> omega
  have c1 : (0 : Int) ≤ (n : Int) := by omega
  have c2 : ((n : Int)).toNat ≤ 281474976710656 := by omega
  obtain ⟨K, hK⟩ : ∃ K, K = 7000 := ⟨_, rfl⟩
  have hl := lin_l0 p q bp bq lp lq n hn n K 0 (by omega) (by omega)
  rw [List.take_zero, List.nil_append] at hl
  refine ⟨K + n + 1, ?_⟩
  unfold tinderboxlaw01_CrcLinear.f
  rw [fa, Option.bind_some, fb, Option.bind_some, e1, if_pos c1, if_pos c2, Int.toNat_natCast, Tx.I_rep]
  exact hl
end Go.Proofs.Ytpidfledopnhpaa.Pure
