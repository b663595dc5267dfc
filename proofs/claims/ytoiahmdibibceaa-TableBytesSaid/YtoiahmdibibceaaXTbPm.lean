import Derived.Test.YtoiahmdibibceaaXTbPl
import Derived.Test.YtoiahmdibibceaaXTbLD
import Derived.Test.YtoiahmdibibceaaXTbRput
set_option linter.unusedVariables false
set_option linter.unusedSimpArgs false
namespace Go.Proofs.Ytoiahmdibibceaa.Tb
open Go.RowKit Go.Proofs.Ytoiahmdibibceaa Go.Proofs.Ytoiahmdibibceaa.XTableBytes Go.Proofs.Ytoiahmdibibceaa.Pure
theorem most_eq (i : Nat) : mostF i = (mostN i : Int) := by unfold mostF mostN; split <;> (try split) <;> (try split) <;> (try split) <;> (try split) <;> (try split) <;> (try split) <;> rfl
theorem aend_f (l : List Nat) (e : Nat) : tinderboxref04_At_End.f (Tx.B l) (e : Int) = some ((Cd.rend l e : Nat) : Int) := by
  have h := cend_f l e
  unfold tinderboxref04_At_End.f Cd.rend
  by_cases he : e = 0
  · subst he
    rw [if_pos (by rfl)]
    by_cases h2 : l = []
    · rw [if_pos (Tx.toList_nil.2 h2), if_neg (by rintro ⟨_, h⟩; exact h h2)]
    · rw [if_neg (fun h => h2 (Tx.toList_nil.1 h)), if_pos ⟨rfl, h2⟩]
      rfl
  · rw [if_neg (by omega), if_neg (by rintro ⟨h', _⟩; exact he h')]
/-- What the reader makes of a text. -/
def bt (l : List Nat) : Bt := ⟨nnN l 0, (nnN l 1 : Int) == 1, nnN l 2, nnN l 3, nnN l 4, nnN l 6, (nnN l 5 : Int) == 1, (nnN l 7 : Int) == 1⟩
def resN (l : List Nat) : Bt × Int := getR (bt l) (Cd.rend (stN l 8).1 (stN l 8).2 : Nat)
theorem crd {l : List Nat} (hb : Tx.By l) (hl : l.length < 4611686018427387904) (i : Nat) : code_Reader_Num.f 14 (Tx.B (stN l i).1) (((stN l i).2 : Nat) : Int) ((mostN i : Nat) : Int) = some (((nnN l i : Nat) : Int), Tx.B (stN l (i + 1)).1, (((stN l (i + 1)).2 : Nat) : Int)) :=
  crnum_f _ (stN_ok hb i).1 (Nat.lt_of_le_of_lt (stN_ok hb i).2 hl) _ _ 14 (by decide)
theorem get_l {l : List Nat} (hb : Tx.By l) (hl : l.length < 4611686018427387904) : Ret 47 #[.string (Tx.B l)] (.tuple #[.agg (resN l).1.c, .int .i64 (resN l).2]) := fun w => by
  have c0 := crd hb hl 0
  have c1 := crd hb hl 1
  have c2 := crd hb hl 2
  have c3 := crd hb hl 3
  have c4 := crd hb hl 4
  have c5 := crd hb hl 5
  have c6 := crd hb hl 6
  have c7 := crd hb hl 7
  have m0 : ((mostN 0 : Nat) : Int) = 1 := rfl
  have m1 : ((mostN 1 : Nat) : Int) = 1 := rfl
  have m2 : ((mostN 2 : Nat) : Int) = 7 := rfl
  have m3 : ((mostN 3 : Nat) : Int) = 1073741824 := rfl
  have m4 : ((mostN 4 : Nat) : Int) = 1073741824 := rfl
  have m5 : ((mostN 5 : Nat) : Int) = 1 := rfl
  have m6 : ((mostN 6 : Nat) : Int) = 1073741824 := rfl
  have m7 : ((mostN 7 : Nat) : Int) = 1 := rfl
  rw [m0] at c0; rw [m1] at c1; rw [m2] at c2; rw [m3] at c3; rw [m4] at c4; rw [m5] at c5; rw [m6] at c6; rw [m7] at c7
  have hE := cend_f (stN l 8).1 (stN l 8).2
  have hn : ∀ i, (0 : Int) ≤ ((nnN l i : Nat) : Int) ∧ ((nnN l i : Nat) : Int) ≤ 1073741824 := fun i => ⟨Int.natCast_nonneg _, Int.ofNat_le.2 (nnN_le hb i)⟩
  exact get_calls 14 (Tx.B l) _ _ _ _ _ _ _ _ _ _ _ _ _ _ _ _ _ _ _ _ _ _ _ _ _ c0 c1 c2 c3 c4 c5 c6 c7 hE ⟨hn 0, hn 1, hn 2, hn 3, hn 4, hn 5, hn 6, hn 7⟩ w
theorem rget_l {l : List Nat} (hb : Tx.By l) (hl : l.length < 4611686018427387904) : Ret 48 #[.string (Tx.B l)] (.tuple #[.agg (resN l).1.c, .int .i64 (resN l).2]) := fun w =>
  rget_calls 14 (Tx.B l) ⟨fun i => Tx.B (stN l i).1, fun i => ((stN l i).2 : Nat), fun i => (nnN l i : Nat)⟩ _ ⟨rfl, rfl⟩ (fun i _ => by rw [most_eq]; exact ranum_f _ (stN_ok hb i).1 (Nat.lt_of_le_of_lt (stN_ok hb i).2 hl) _ _ 14 (by decide)) (aend_f _ _) (fun i _ => ⟨Int.natCast_nonneg _, Int.ofNat_le.2 (nnN_le hb i)⟩) w
theorem fl_one {n : Nat} (h : n ≤ 1) : fl ((n : Int) == 1) = (n : Int) := by
  have : n = 0 ∨ n = 1 := by omega
  rcases this with rfl | rfl <;> rfl
theorem res_ok {l : List Nat} (h : (resN l).2 = 0) : resN l = (bt l, 0) ∧ (stN l 8).2 = 0 ∧ (stN l 8).1 = [] := by
  unfold resN getR at h ⊢
  by_cases hr : ((Cd.rend (stN l 8).1 (stN l 8).2 : Nat) : Int) = 0
  · rw [if_neg (by simpa using hr)] at h ⊢
    by_cases hc : (bt l).chk = false
    · rw [if_pos hc] at h; exact absurd h (by decide)
    · rw [if_neg hc]
      refine ⟨rfl, ?_⟩
      unfold Cd.rend at hr
      by_cases hx : (stN l 8).2 = 0 ∧ (stN l 8).1 ≠ []
      · rw [if_pos hx] at hr; exact absurd hr (by decide)
      · rw [if_neg hx] at hr
        have h0 : (stN l 8).2 = 0 := by omega
        exact ⟨h0, Classical.byContradiction fun q => hx ⟨h0, q⟩⟩
  · rw [if_pos hr] at h; exact absurd h hr
theorem num_c {n : Nat} (h : n ≤ 1073741824) : code_Num.f 14 (n : Int) = some (Tx.B (Cd.num n)) := cnum_f (by omega) 14 (by decide)
theorem num_sz {n : Nat} (h : n ≤ 1073741824) : (Tx.B (Cd.num n)).size ≤ 16 := by
  rw [Tx.B_size]; exact Nat.le_trans (Cd.num_len (by omega)) (by decide)
theorem put_g {l : List Nat} (hb : Tx.By l) (h : (resN l).2 = 0) : Ret 49 #[.agg (resN l).1.c] (.string (Tx.B l)) := fun w => by
  obtain ⟨hr, he, hn⟩ := res_ok h
  obtain ⟨hl, h1, h5, h7⟩ := read_all hb he hn
  have c := fun i => num_c (nnN_le hb i)
  have z := fun i => num_sz (nnN_le hb i)
  have hx : ∀ i, (0 : Int) ≤ ((nnN l i : Nat) : Int) ∧ ((nnN l i : Nat) : Int) ≤ 1073741824 := fun i => ⟨Int.natCast_nonneg _, Int.ofNat_le.2 (nnN_le hb i)⟩
  have q := put_calls 14 (nnN l 0) ((nnN l 1 : Int) == 1) (nnN l 2) (nnN l 3) (nnN l 4) (nnN l 6) ((nnN l 5 : Int) == 1) ((nnN l 7 : Int) == 1) _ _ _ _ _ _ _ _ (hx 0) (hx 2) (hx 3) (hx 4) (hx 6)
    (c 0) (by rw [fl_one h1]; exact c 1) (c 2) (c 3) (c 4) (by rw [fl_one h5]; exact c 5) (c 6) (by rw [fl_one h7]; exact c 7) ⟨z 0, z 1, z 2, z 3, z 4, z 5, z 6, z 7⟩ w
  rw [hr]
  simp only [Tx.B_append, List.append_assoc] at q
  rw [← hl] at q
  exact q
theorem rnum_c {n : Nat} (h : n ≤ 1073741824) : tinderboxref04_Num.f 14 (n : Int) = some (Tx.B (Cd.num n)) := rcnum_f (by omega) 14 (by decide)
def fn (b : Bool) : Nat := if b = true then 1 else 0
theorem fl_fn (b : Bool) : fl b = ((fn b : Nat) : Int) := by cases b <;> rfl
theorem fn_le (b : Bool) : fn b ≤ 1 := by cases b <;> decide
def putL (a : Nat) (tr : Bool) (ts ls v0 v1 : Nat) (g0 g1 : Bool) : List Nat :=
  Cd.num a ++ (Cd.num (fn tr) ++ (Cd.num ts ++ (Cd.num ls ++ (Cd.num v0 ++ (Cd.num (fn g0) ++ (Cd.num v1 ++ Cd.num (fn g1)))))))
theorem put_b (a : Nat) (tr : Bool) (ts ls v0 v1 : Nat) (g0 g1 : Bool) (ha : a ≤ 1073741824) (hts : ts ≤ 1073741824) (hls : ls ≤ 1073741824) (hv0 : v0 ≤ 1073741824) (hv1 : v1 ≤ 1073741824) :
    Ret 49 #[.agg (bcells a tr ts ls v0 v1 g0 g1)] (.string (Tx.B (putL a tr ts ls v0 v1 g0 g1))) ∧ Ret 50 #[.agg (bcells a tr ts ls v0 v1 g0 g1)] (.string (Tx.B (putL a tr ts ls v0 v1 g0 g1))) := by
  have f1 : ∀ b, fn b ≤ 1073741824 := fun b => Nat.le_trans (fn_le b) (by decide)
  have hx : ∀ n : Nat, n ≤ 1073741824 → (0 : Int) ≤ (n : Int) ∧ (n : Int) ≤ 1073741824 := fun n h => ⟨Int.natCast_nonneg _, Int.ofNat_le.2 h⟩
  refine ⟨fun w => ?_, fun w => ?_⟩
  · have q := put_calls 14 a tr ts ls v0 v1 g0 g1 _ _ _ _ _ _ _ _ (hx a ha) (hx ts hts) (hx ls hls) (hx v0 hv0) (hx v1 hv1) (num_c ha) (by rw [fl_fn]; exact num_c (f1 tr)) (num_c hts) (num_c hls) (num_c hv0) (by rw [fl_fn]; exact num_c (f1 g0)) (num_c hv1) (by rw [fl_fn]; exact num_c (f1 g1))
      ⟨num_sz ha, num_sz (f1 tr), num_sz hts, num_sz hls, num_sz hv0, num_sz (f1 g0), num_sz hv1, num_sz (f1 g1)⟩ w
    simp only [Tx.B_append, List.append_assoc] at q
    exact q
  · have q := rput_calls 14 a tr ts ls v0 v1 g0 g1 _ _ _ _ _ _ _ _ (hx a ha) (hx ts hts) (hx ls hls) (hx v0 hv0) (hx v1 hv1) (rnum_c ha) (by rw [fl_fn]; exact rnum_c (f1 tr)) (rnum_c hts) (rnum_c hls) (rnum_c hv0) (by rw [fl_fn]; exact rnum_c (f1 g0)) (rnum_c hv1) (by rw [fl_fn]; exact rnum_c (f1 g1))
      ⟨num_sz ha, num_sz (f1 tr), num_sz hts, num_sz hls, num_sz hv0, num_sz (f1 g0), num_sz hv1, num_sz (f1 g1)⟩ w
    unfold accS at q
    rw [show (⟨#[]⟩ : ByteArray) = Tx.B [] from rfl] at q
    simp only [Tx.B_append, List.append_assoc, List.nil_append] at q
    exact q
theorem fn_eq (b : Bool) : (((fn b : Nat) : Int) == 1) = b := by cases b <;> rfl
theorem back_b (a : Nat) (tr : Bool) (ts ls v0 v1 : Nat) (g0 g1 : Bool) (ha : a ≤ 1) (hts : ts ≤ 7) (hls : ls ≤ 1073741824) (hv0 : v0 ≤ 1073741824) (hv1 : v1 ≤ 1073741824) (hc : chkB a tr ts ls v0 v1 g0 g1 = true) :
    resN (putL a tr ts ls v0 v1 g0 g1) = (⟨a, tr, ts, ls, v0, v1, g0, g1⟩, 0) := by
  obtain ⟨l, hl⟩ : ∃ l, l = putL a tr ts ls v0 v1 g0 g1 := ⟨_, rfl⟩
  rw [← hl]
  have s0 : stN l 0 = (putL a tr ts ls v0 v1 g0 g1, 0) := by rw [hl]; rfl
  unfold putL at s0
  obtain ⟨s1, n0⟩ := rd_step (i := 0) ha s0
  obtain ⟨s2, n1⟩ := rd_step (i := 1) (fn_le tr) s1
  obtain ⟨s3, n2⟩ := rd_step (i := 2) hts s2
  obtain ⟨s4, n3⟩ := rd_step (i := 3) hls s3
  obtain ⟨s5, n4⟩ := rd_step (i := 4) hv0 s4
  obtain ⟨s6, n5⟩ := rd_step (i := 5) (fn_le g0) s5
  obtain ⟨s7, n6⟩ := rd_step (i := 6) hv1 s6
  rw [← List.append_nil (Cd.num (fn g1))] at s7
  obtain ⟨s8, n7⟩ := rd_step (i := 7) (fn_le g1) s7
  have hb : bt l = ⟨a, tr, ts, ls, v0, v1, g0, g1⟩ := by
    unfold bt
    rw [n0, n1, n2, n3, n4, n5, n6, n7, fn_eq, fn_eq, fn_eq]
  unfold resN
  rw [hb, s8]
  have hr : ((Cd.rend ([] : List Nat) 0 : Nat) : Int) = 0 := rfl
  show getR _ ((Cd.rend ([] : List Nat) 0 : Nat) : Int) = _
  rw [hr]
  unfold getR Bt.chk
  rw [if_neg (by decide), if_neg (by rw [hc]; decide)]
end Go.Proofs.Ytoiahmdibibceaa.Tb
