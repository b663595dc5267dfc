import Derived.Test.YtoiahmdibibceaaXTableBytesx1
import Derived.Test.YtoiahmdibibceaaXTableBytesx2
import Derived.Test.YtoiahmdibibceaaXTableBytesx3
import Derived.Test.YtoiahmdibibceaaXTbA
import Derived.Test.YtoiahmdibibceaaXTbB
set_option linter.unusedVariables false
set_option linter.unusedSimpArgs false
namespace Go.Proofs.Ytoiahmdibibceaa.Tb
open Go.RowKit Go.Proofs.YtoiahmdibibceaaW.PrintWords Go.Proofs.YtoiahmdibibceaaW.PrintLast Go.Proofs.YtoiahmdibibceaaW.PrintMore
open Go.Proofs.Ytoiahmdibibceaa.XTableBytes
theorem blk_but {w w' : World} {b g : Nat} {o : Obj} (h : w.heap[b]? = some o) (hk : KeepBut w w' g none) (hne : b ≠ g) : w'.heap[b]? = some o := (hk.2 b (blk_lt h) hne (by simp)).trans h
def getR (x : Bt) (r : Int) : Bt × Int := if r ≠ 0 then (Bt.zero, r) else if x.chk = false then (Bt.zero, 3) else (x, 0)
set_option maxRecDepth 100000 in
set_option maxHeartbeats 16000000 in
theorem get_calls (k : Nat) (t : ByteArray) (n0 n1 n2 n3 n4 n5 n6 n7 : Int) (s1 s2 s3 s4 s5 s6 s7 s8 : ByteArray) (e1 e2 e3 e4 e5 e6 e7 e8 : Int) (r : Int) (h0 : code_Reader_Num.f k t 0 1 = some (n0, s1, e1)) (h1 : code_Reader_Num.f k s1 e1 1 = some (n1, s2, e2)) (h2 : code_Reader_Num.f k s2 e2 7 = some (n2, s3, e3)) (h3 : code_Reader_Num.f k s3 e3 1073741824 = some (n3, s4, e4)) (h4 : code_Reader_Num.f k s4 e4 1073741824 = some (n4, s5, e5)) (h5 : code_Reader_Num.f k s5 e5 1 = some (n5, s6, e6)) (h6 : code_Reader_Num.f k s6 e6 1073741824 = some (n6, s7, e7)) (h7 : code_Reader_Num.f k s7 e7 1 = some (n7, s8, e8)) (hE : code_Reader_End.f s8 e8 = some (r, s8, e8)) (b : (0 ≤ n0 ∧ n0 ≤ 1073741824) ∧ (0 ≤ n1 ∧ n1 ≤ 1073741824) ∧ (0 ≤ n2 ∧ n2 ≤ 1073741824) ∧ (0 ≤ n3 ∧ n3 ≤ 1073741824) ∧ (0 ≤ n4 ∧ n4 ≤ 1073741824) ∧ (0 ≤ n5 ∧ n5 ≤ 1073741824) ∧ (0 ≤ n6 ∧ n6 ≤ 1073741824) ∧ (0 ≤ n7 ∧ n7 ≤ 1073741824)) (w : World) : Calls Try.prog 47 #[.string t] w fun e w' => e = .returned (.tuple #[.agg (getR ⟨n0, (n1 == 1), n2, n3, n4, n6, (n5 == 1), (n7 == 1)⟩ r).1.c, .int .i64 (getR ⟨n0, (n1 == 1), n2, n3, n4, n6, (n5 == 1), (n7 == 1)⟩ r).2]) ∧ Below w.heap.size w w' := by
  obtain ⟨b0, b1, b2, b3, b4, b5, b6, b7⟩ := b
  have i0 : IntKind.i64.wrap n0 = n0 := IntWalk.i64_in _ (by omega)
  have H0 := Aside0.mk h0
  have i1 : IntKind.i64.wrap n1 = n1 := IntWalk.i64_in _ (by omega)
  have H1 := Aside0.mk h1
  have i2 : IntKind.i64.wrap n2 = n2 := IntWalk.i64_in _ (by omega)
  have H2 := Aside0.mk h2
  have i3 : IntKind.i64.wrap n3 = n3 := IntWalk.i64_in _ (by omega)
  have H3 := Aside0.mk h3
  have i4 : IntKind.i64.wrap n4 = n4 := IntWalk.i64_in _ (by omega)
  have H4 := Aside0.mk h4
  have i5 : IntKind.i64.wrap n5 = n5 := IntWalk.i64_in _ (by omega)
  have H5 := Aside0.mk h5
  have i6 : IntKind.i64.wrap n6 = n6 := IntWalk.i64_in _ (by omega)
  have H6 := Aside0.mk h6
  have i7 : IntKind.i64.wrap n7 = n7 := IntWalk.i64_in _ (by omega)
  have H7 := Aside0.mk h7
  have HEE := Aside0.mk hE
  clear hE h0 h1 h2 h3 h4 h5 h6 h7 b0 b1 b2 b3 b4 b5 b6 b7
  go_enter Try.func47, Try.ntmps47
  go_upto_region 1 with (fail)
  refine wp_gen (fun W => W.heap[w.heap.size]? = some (.cells (bcells 0 false 0 0 0 0 false false) 40 (0, 0)) ∧ Below w.heap.size w W) ⟨blk_new _ _, below_alloc (Below.refl _ _) _⟩ ?_
  rintro W ⟨bz, hb⟩
  have HB := Aside0.mk hb
  have BZ := Aside0.mk bz
  clear bz hb
  go_upto_region 2 with (first | (go_at_call 18; (with_reducible refine (code_New.calls _ _ _ w _ HB.out rfl).mono ?_); rintro e w8 ⟨g, rfl, hi, hb, hb2⟩; have BZ := Aside0.mk (blk_keep BZ.out hb2); have HI := Aside0.mk hi; have HB := Aside0.mk hb; have HNE := Aside0.mk (Ne.symm (IsS84.ne_blk HI.out BZ.out (by decide))); clear hi hb hb2))
  go_upto_region 3 with (first | (go_at_call 20; (with_reducible refine (code_Reader_Num.calls k g _ _ _ _ _ _ w _ HI.out HB.out (by first | with_reducible exact H0.out | with_reducible exact H1.out | with_reducible exact H2.out | with_reducible exact H3.out)).mono ?_); rintro e w8 ⟨rfl, hi, hb, hk⟩; have HI := Aside0.mk hi; have HB := Aside0.mk hb; have BZ := Aside0.mk (blk_but BZ.out hk HNE.out); clear hi hb hk))
  have HN5 := Aside0.mk (show g ≠ w8.heap.size from Nat.ne_of_lt HI.out.lt)
  have HG5 := Aside0.mk (show w.heap.size ≤ w8.heap.size from HB.out.size)
  have HZ5 := Aside0.mk (show w.heap.size ≠ w8.heap.size from Nat.ne_of_lt (blk_lt BZ.out))
  refine wp_gen (fun W => IsS84 w W g s4 e4 ∧ W.heap[w8.heap.size]? = some (.cells (bcells n0 (n1 == 1) n2 n3 0 0 false false) 40 (0, 0)) ∧ W.heap[w.heap.size]? = some (.cells (bcells 0 false 0 0 0 0 false false) 40 (0, 0)) ∧ Below w.heap.size w W) ⟨HI.out.alloc _, blk_new _ _, blk_alloc BZ.out _, below_alloc HB.out _⟩ ?_
  obtain ⟨g5, hg5⟩ : ∃ q, q = w8.heap.size := ⟨_, rfl⟩
  rw [← hg5] at HN5 HG5 HZ5
  simp only [← hg5]
  clear hg5 HI BZ HB
  rintro W ⟨hi, bx, bz, hb⟩
  have HP := Aside0.mk (And.intro hi (And.intro bx (And.intro bz hb)))
  clear hi bx bz hb
  go_wp2
  go_loopg [22] 2 (fun kq v22 w' => ∃ i : Nat, i ≤ 2 ∧ kq + i = 2 ∧ v22 = .int .i64 i ∧ (i = 0 ∧ Aside0 (IsS84 w w' g s4 e4 ∧ w'.heap[g5]? = some (.cells (bcells n0 (n1 == 1) n2 n3 0 0 false false) 40 (0, 0)) ∧ w'.heap[w.heap.size]? = some (.cells (bcells 0 false 0 0 0 0 false false) 40 (0, 0)) ∧ Below w.heap.size w w') ∨ i = 1 ∧ Aside0 (IsS84 w w' g s6 e6 ∧ w'.heap[g5]? = some (.cells (bcells n0 (n1 == 1) n2 n3 n4 0 (n5 == 1) false) 40 (0, 0)) ∧ w'.heap[w.heap.size]? = some (.cells (bcells 0 false 0 0 0 0 false false) 40 (0, 0)) ∧ Below w.heap.size w w') ∨ i = 2 ∧ Aside0 (IsS84 w w' g s8 e8 ∧ w'.heap[g5]? = some (.cells (bcells n0 (n1 == 1) n2 n3 n4 n6 (n5 == 1) (n7 == 1)) 40 (0, 0)) ∧ w'.heap[w.heap.size]? = some (.cells (bcells 0 false 0 0 0 0 false false) 40 (0, 0)) ∧ Below w.heap.size w w')))
  case atStart => exact ⟨0, by omega, by omega, rfl, Or.inl ⟨rfl, HP⟩⟩
  case round =>
    clear HP
    obtain ⟨i, hi_, hki, rfl, hor⟩ := hrel
    rcases hor with ⟨rfl, HP⟩ | ⟨rfl, HP⟩ | ⟨rfl, HP⟩
    · skip
      obtain ⟨hi, bx, bz, hb⟩ := HP.out
      have HI := Aside0.mk hi
      have BX := Aside0.mk bx
      have BZ := Aside0.mk bz
      have HB := Aside0.mk hb
      have c0 := (blk_cell bx 0).trans rfl; have fc0 := blk_frozen bx 0; have c1 := (blk_cell bx 1).trans rfl; have fc1 := blk_frozen bx 1; have c2 := (blk_cell bx 2).trans rfl; have fc2 := blk_frozen bx 2; have c3 := (blk_cell bx 3).trans rfl; have fc3 := blk_frozen bx 3; have c4 := (blk_cell bx 4).trans rfl; have fc4 := blk_frozen bx 4; have c5 := (blk_cell bx 5).trans rfl; have fc5 := blk_frozen bx 5; have c6 := (blk_cell bx 6).trans rfl; have fc6 := blk_frozen bx 6; have c7 := (blk_cell bx 7).trans rfl; have fc7 := blk_frozen bx 7
      clear HP hi bx bz hb
      go_upto_region 7 with (first | (go_at_call 20; (with_reducible refine (code_Reader_Num.calls k g _ _ _ _ _ _ w _ HI.out HB.out (by first | with_reducible exact H4.out)).mono ?_); rintro e w8 ⟨rfl, hi, hb, hk⟩; have HI := Aside0.mk hi; have HB := Aside0.mk hb; have BZ := Aside0.mk (blk_but BZ.out hk HNE.out); have bx := blk_but BX.out hk (Ne.symm HN5.out); have BX := Aside0.mk bx; have c0 := (blk_cell bx 0).trans rfl; have fc0 := blk_frozen bx 0; have c1 := (blk_cell bx 1).trans rfl; have fc1 := blk_frozen bx 1; have c2 := (blk_cell bx 2).trans rfl; have fc2 := blk_frozen bx 2; have c3 := (blk_cell bx 3).trans rfl; have fc3 := blk_frozen bx 3; have c4 := (blk_cell bx 4).trans rfl; have fc4 := blk_frozen bx 4; have c5 := (blk_cell bx 5).trans rfl; have fc5 := blk_frozen bx 5; have c6 := (blk_cell bx 6).trans rfl; have fc6 := blk_frozen bx 6; have c7 := (blk_cell bx 7).trans rfl; have fc7 := blk_frozen bx 7; clear bx; clear hi hb hk))
      refine wp_gen (fun W => IsS84 w W g s5 e5 ∧ W.heap[g5]? = some (.cells (bcells n0 (n1 == 1) n2 n3 n4 0 false false) 40 (0, 0)) ∧ W.heap[w.heap.size]? = some (.cells (bcells 0 false 0 0 0 0 false false) 40 (0, 0)) ∧ Below w.heap.size w W) ⟨HI.out.far HN5.out _, blk_set BX.out 4 _, blk_far BZ.out HZ5.out _, below_set HB.out HG5.out⟩ ?_
      clear HI BX BZ HB c0 fc0 c1 fc1 c2 fc2 c3 fc3 c4 fc4 c5 fc5 c6 fc6 c7 fc7
      rintro W ⟨hi, bx, bz, hb⟩
      have HP := Aside0.mk (And.intro hi (And.intro bx (And.intro bz hb)))
      clear hi bx bz hb
      obtain ⟨hi, bx, bz, hb⟩ := HP.out
      have HI := Aside0.mk hi
      have BX := Aside0.mk bx
      have BZ := Aside0.mk bz
      have HB := Aside0.mk hb
      have c0 := (blk_cell bx 0).trans rfl; have fc0 := blk_frozen bx 0; have c1 := (blk_cell bx 1).trans rfl; have fc1 := blk_frozen bx 1; have c2 := (blk_cell bx 2).trans rfl; have fc2 := blk_frozen bx 2; have c3 := (blk_cell bx 3).trans rfl; have fc3 := blk_frozen bx 3; have c4 := (blk_cell bx 4).trans rfl; have fc4 := blk_frozen bx 4; have c5 := (blk_cell bx 5).trans rfl; have fc5 := blk_frozen bx 5; have c6 := (blk_cell bx 6).trans rfl; have fc6 := blk_frozen bx 6; have c7 := (blk_cell bx 7).trans rfl; have fc7 := blk_frozen bx 7
      clear HP hi bx bz hb
      go_wp2_with (first | (go_at_call 20; (with_reducible refine (code_Reader_Num.calls k g _ _ _ _ _ _ w _ HI.out HB.out (by first | with_reducible exact H5.out)).mono ?_); rintro e w8 ⟨rfl, hi, hb, hk⟩; have HI := Aside0.mk hi; have HB := Aside0.mk hb; have BZ := Aside0.mk (blk_but BZ.out hk HNE.out); have bx := blk_but BX.out hk (Ne.symm HN5.out); have BX := Aside0.mk bx; have c0 := (blk_cell bx 0).trans rfl; have fc0 := blk_frozen bx 0; have c1 := (blk_cell bx 1).trans rfl; have fc1 := blk_frozen bx 1; have c2 := (blk_cell bx 2).trans rfl; have fc2 := blk_frozen bx 2; have c3 := (blk_cell bx 3).trans rfl; have fc3 := blk_frozen bx 3; have c4 := (blk_cell bx 4).trans rfl; have fc4 := blk_frozen bx 4; have c5 := (blk_cell bx 5).trans rfl; have fc5 := blk_frozen bx 5; have c6 := (blk_cell bx 6).trans rfl; have fc6 := blk_frozen bx 6; have c7 := (blk_cell bx 7).trans rfl; have fc7 := blk_frozen bx 7; clear bx; clear hi hb hk))
      go_roundg (gk - 1)
      case measure => omega
      case rel => exact ⟨1, by omega, by omega, rfl, Or.inr <| Or.inl ⟨rfl, ⟨⟨HI.out.far HN5.out _, blk_set BX.out 6 _, blk_far BZ.out HZ5.out _, below_set HB.out HG5.out⟩⟩⟩⟩
    · skip
      obtain ⟨hi, bx, bz, hb⟩ := HP.out
      have HI := Aside0.mk hi
      have BX := Aside0.mk bx
      have BZ := Aside0.mk bz
      have HB := Aside0.mk hb
      have c0 := (blk_cell bx 0).trans rfl; have fc0 := blk_frozen bx 0; have c1 := (blk_cell bx 1).trans rfl; have fc1 := blk_frozen bx 1; have c2 := (blk_cell bx 2).trans rfl; have fc2 := blk_frozen bx 2; have c3 := (blk_cell bx 3).trans rfl; have fc3 := blk_frozen bx 3; have c4 := (blk_cell bx 4).trans rfl; have fc4 := blk_frozen bx 4; have c5 := (blk_cell bx 5).trans rfl; have fc5 := blk_frozen bx 5; have c6 := (blk_cell bx 6).trans rfl; have fc6 := blk_frozen bx 6; have c7 := (blk_cell bx 7).trans rfl; have fc7 := blk_frozen bx 7
      clear HP hi bx bz hb
      go_upto_region 7 with (first | (go_at_call 20; (with_reducible refine (code_Reader_Num.calls k g _ _ _ _ _ _ w _ HI.out HB.out (by first | with_reducible exact H6.out)).mono ?_); rintro e w8 ⟨rfl, hi, hb, hk⟩; have HI := Aside0.mk hi; have HB := Aside0.mk hb; have BZ := Aside0.mk (blk_but BZ.out hk HNE.out); have bx := blk_but BX.out hk (Ne.symm HN5.out); have BX := Aside0.mk bx; have c0 := (blk_cell bx 0).trans rfl; have fc0 := blk_frozen bx 0; have c1 := (blk_cell bx 1).trans rfl; have fc1 := blk_frozen bx 1; have c2 := (blk_cell bx 2).trans rfl; have fc2 := blk_frozen bx 2; have c3 := (blk_cell bx 3).trans rfl; have fc3 := blk_frozen bx 3; have c4 := (blk_cell bx 4).trans rfl; have fc4 := blk_frozen bx 4; have c5 := (blk_cell bx 5).trans rfl; have fc5 := blk_frozen bx 5; have c6 := (blk_cell bx 6).trans rfl; have fc6 := blk_frozen bx 6; have c7 := (blk_cell bx 7).trans rfl; have fc7 := blk_frozen bx 7; clear bx; clear hi hb hk))
      refine wp_gen (fun W => IsS84 w W g s7 e7 ∧ W.heap[g5]? = some (.cells (bcells n0 (n1 == 1) n2 n3 n4 n6 (n5 == 1) false) 40 (0, 0)) ∧ W.heap[w.heap.size]? = some (.cells (bcells 0 false 0 0 0 0 false false) 40 (0, 0)) ∧ Below w.heap.size w W) ⟨HI.out.far HN5.out _, blk_set BX.out 5 _, blk_far BZ.out HZ5.out _, below_set HB.out HG5.out⟩ ?_
      clear HI BX BZ HB c0 fc0 c1 fc1 c2 fc2 c3 fc3 c4 fc4 c5 fc5 c6 fc6 c7 fc7
      rintro W ⟨hi, bx, bz, hb⟩
      have HP := Aside0.mk (And.intro hi (And.intro bx (And.intro bz hb)))
      clear hi bx bz hb
      obtain ⟨hi, bx, bz, hb⟩ := HP.out
      have HI := Aside0.mk hi
      have BX := Aside0.mk bx
      have BZ := Aside0.mk bz
      have HB := Aside0.mk hb
      have c0 := (blk_cell bx 0).trans rfl; have fc0 := blk_frozen bx 0; have c1 := (blk_cell bx 1).trans rfl; have fc1 := blk_frozen bx 1; have c2 := (blk_cell bx 2).trans rfl; have fc2 := blk_frozen bx 2; have c3 := (blk_cell bx 3).trans rfl; have fc3 := blk_frozen bx 3; have c4 := (blk_cell bx 4).trans rfl; have fc4 := blk_frozen bx 4; have c5 := (blk_cell bx 5).trans rfl; have fc5 := blk_frozen bx 5; have c6 := (blk_cell bx 6).trans rfl; have fc6 := blk_frozen bx 6; have c7 := (blk_cell bx 7).trans rfl; have fc7 := blk_frozen bx 7
      clear HP hi bx bz hb
      go_wp2_with (first | (go_at_call 20; (with_reducible refine (code_Reader_Num.calls k g _ _ _ _ _ _ w _ HI.out HB.out (by first | with_reducible exact H7.out)).mono ?_); rintro e w8 ⟨rfl, hi, hb, hk⟩; have HI := Aside0.mk hi; have HB := Aside0.mk hb; have BZ := Aside0.mk (blk_but BZ.out hk HNE.out); have bx := blk_but BX.out hk (Ne.symm HN5.out); have BX := Aside0.mk bx; have c0 := (blk_cell bx 0).trans rfl; have fc0 := blk_frozen bx 0; have c1 := (blk_cell bx 1).trans rfl; have fc1 := blk_frozen bx 1; have c2 := (blk_cell bx 2).trans rfl; have fc2 := blk_frozen bx 2; have c3 := (blk_cell bx 3).trans rfl; have fc3 := blk_frozen bx 3; have c4 := (blk_cell bx 4).trans rfl; have fc4 := blk_frozen bx 4; have c5 := (blk_cell bx 5).trans rfl; have fc5 := blk_frozen bx 5; have c6 := (blk_cell bx 6).trans rfl; have fc6 := blk_frozen bx 6; have c7 := (blk_cell bx 7).trans rfl; have fc7 := blk_frozen bx 7; clear bx; clear hi hb hk))
      go_roundg (gk - 1)
      case measure => omega
      case rel => exact ⟨2, by omega, by omega, rfl, Or.inr <| Or.inr ⟨rfl, ⟨⟨HI.out.far HN5.out _, blk_set BX.out 7 _, blk_far BZ.out HZ5.out _, below_set HB.out HG5.out⟩⟩⟩⟩
    · skip
      obtain ⟨hi, bx, bz, hb⟩ := HP.out
      have HI := Aside0.mk hi
      have BX := Aside0.mk bx
      have BZ := Aside0.mk bz
      have HB := Aside0.mk hb
      have c0 := (blk_cell bx 0).trans rfl; have fc0 := blk_frozen bx 0; have c1 := (blk_cell bx 1).trans rfl; have fc1 := blk_frozen bx 1; have c2 := (blk_cell bx 2).trans rfl; have fc2 := blk_frozen bx 2; have c3 := (blk_cell bx 3).trans rfl; have fc3 := blk_frozen bx 3; have c4 := (blk_cell bx 4).trans rfl; have fc4 := blk_frozen bx 4; have c5 := (blk_cell bx 5).trans rfl; have fc5 := blk_frozen bx 5; have c6 := (blk_cell bx 6).trans rfl; have fc6 := blk_frozen bx 6; have c7 := (blk_cell bx 7).trans rfl; have fc7 := blk_frozen bx 7
      clear HP hi bx bz hb
      by_cases hr : r = 0
      · have hr0 : (r != 0) = false := by simpa using hr
        by_cases hc0 : chkB n0 (n1 == 1) n2 n3 n4 n6 (n5 == 1) (n7 == 1) = false
        · have hc := hc0
          go_wp2_with (first | (go_at_call 23; (with_reducible refine (code_Reader_End.calls g _ _ _ _ _ w _ HI.out HB.out HEE.out).mono ?_); rintro e w8 ⟨rfl, hi, hb, hk⟩; have HI := Aside0.mk hi; have HB := Aside0.mk hb; have bz := blk_but BZ.out hk HNE.out; have BZ := Aside0.mk bz; have z0 := (blk_cell bz 0).trans rfl; have fz0 := blk_frozen bz 0; have z1 := (blk_cell bz 1).trans rfl; have fz1 := blk_frozen bz 1; have z2 := (blk_cell bz 2).trans rfl; have fz2 := blk_frozen bz 2; have z3 := (blk_cell bz 3).trans rfl; have fz3 := blk_frozen bz 3; have z4 := (blk_cell bz 4).trans rfl; have fz4 := blk_frozen bz 4; have z5 := (blk_cell bz 5).trans rfl; have fz5 := blk_frozen bz 5; have z6 := (blk_cell bz 6).trans rfl; have fz6 := blk_frozen bz 6; have z7 := (blk_cell bz 7).trans rfl; have fz7 := blk_frozen bz 7; clear bz; have bx := blk_but BX.out hk (Ne.symm HN5.out); have BX := Aside0.mk bx; have c0 := (blk_cell bx 0).trans rfl; have fc0 := blk_frozen bx 0; have c1 := (blk_cell bx 1).trans rfl; have fc1 := blk_frozen bx 1; have c2 := (blk_cell bx 2).trans rfl; have fc2 := blk_frozen bx 2; have c3 := (blk_cell bx 3).trans rfl; have fc3 := blk_frozen bx 3; have c4 := (blk_cell bx 4).trans rfl; have fc4 := blk_frozen bx 4; have c5 := (blk_cell bx 5).trans rfl; have fc5 := blk_frozen bx 5; have c6 := (blk_cell bx 6).trans rfl; have fc6 := blk_frozen bx 6; have c7 := (blk_cell bx 7).trans rfl; have fc7 := blk_frozen bx 7; clear bx; clear hi hb hk) | (go_at_call 36; (with_reducible refine (check_calls _ _ _ _ _ _ _ _ _).mono ?_); rintro e w8 ⟨rfl, hb8⟩; rw [hc]; have HB := Aside0.mk (below_step HB.out hb8); have bz := blk_keep BZ.out hb8; have BZ := Aside0.mk bz; have z0 := (blk_cell bz 0).trans rfl; have fz0 := blk_frozen bz 0; have z1 := (blk_cell bz 1).trans rfl; have fz1 := blk_frozen bz 1; have z2 := (blk_cell bz 2).trans rfl; have fz2 := blk_frozen bz 2; have z3 := (blk_cell bz 3).trans rfl; have fz3 := blk_frozen bz 3; have z4 := (blk_cell bz 4).trans rfl; have fz4 := blk_frozen bz 4; have z5 := (blk_cell bz 5).trans rfl; have fz5 := blk_frozen bz 5; have z6 := (blk_cell bz 6).trans rfl; have fz6 := blk_frozen bz 6; have z7 := (blk_cell bz 7).trans rfl; have fz7 := blk_frozen bz 7; clear bz; have bx := blk_keep BX.out hb8; have BX := Aside0.mk bx; have c0 := (blk_cell bx 0).trans rfl; have fc0 := blk_frozen bx 0; have c1 := (blk_cell bx 1).trans rfl; have fc1 := blk_frozen bx 1; have c2 := (blk_cell bx 2).trans rfl; have fc2 := blk_frozen bx 2; have c3 := (blk_cell bx 3).trans rfl; have fc3 := blk_frozen bx 3; have c4 := (blk_cell bx 4).trans rfl; have fc4 := blk_frozen bx 4; have c5 := (blk_cell bx 5).trans rfl; have fc5 := blk_frozen bx 5; have c6 := (blk_cell bx 6).trans rfl; have fc6 := blk_frozen bx 6; have c7 := (blk_cell bx 7).trans rfl; have fc7 := blk_frozen bx 7; clear bx; clear hb8))
          refine bodyPost_ret (ret2_row rfl _ _ _ w.heap.size 40 #[_, _, _, _, _, _, _, _] (0, 0) _ (.int .i64 3) rfl rfl (by first | exact blk_all8 (t := 40) BZ.out rfl _ _ _ _ _ _ _ _ | exact blk_drew1 (blk_all8 (t := 40) BZ.out rfl _ _ _ _ _ _ _ _) | exact blk_drewN (blk_all8 (t := 40) BZ.out rfl _ _ _ _ _ _ _ _) _) Try.underlying40 rfl info40) rfl ?_
          exact ⟨by rw [show getR ⟨n0, (n1 == 1), n2, n3, n4, n6, (n5 == 1), (n7 == 1)⟩ r = (Bt.zero, 3) from by unfold getR Bt.chk; simp [hr, hc]]; rfl, (by repeat (first | with_reducible exact HB.out | with_reducible apply pw_below_drewN | with_reducible apply below_drew1 | refine below_set ?_ (Nat.le_refl _)))⟩
        · have hc : chkB n0 (n1 == 1) n2 n3 n4 n6 (n5 == 1) (n7 == 1) = true := by simpa using hc0
          clear hc0
          go_wp2_with (first | (go_at_call 23; (with_reducible refine (code_Reader_End.calls g _ _ _ _ _ w _ HI.out HB.out HEE.out).mono ?_); rintro e w8 ⟨rfl, hi, hb, hk⟩; have HI := Aside0.mk hi; have HB := Aside0.mk hb; have bz := blk_but BZ.out hk HNE.out; have BZ := Aside0.mk bz; have z0 := (blk_cell bz 0).trans rfl; have fz0 := blk_frozen bz 0; have z1 := (blk_cell bz 1).trans rfl; have fz1 := blk_frozen bz 1; have z2 := (blk_cell bz 2).trans rfl; have fz2 := blk_frozen bz 2; have z3 := (blk_cell bz 3).trans rfl; have fz3 := blk_frozen bz 3; have z4 := (blk_cell bz 4).trans rfl; have fz4 := blk_frozen bz 4; have z5 := (blk_cell bz 5).trans rfl; have fz5 := blk_frozen bz 5; have z6 := (blk_cell bz 6).trans rfl; have fz6 := blk_frozen bz 6; have z7 := (blk_cell bz 7).trans rfl; have fz7 := blk_frozen bz 7; clear bz; have bx := blk_but BX.out hk (Ne.symm HN5.out); have BX := Aside0.mk bx; have c0 := (blk_cell bx 0).trans rfl; have fc0 := blk_frozen bx 0; have c1 := (blk_cell bx 1).trans rfl; have fc1 := blk_frozen bx 1; have c2 := (blk_cell bx 2).trans rfl; have fc2 := blk_frozen bx 2; have c3 := (blk_cell bx 3).trans rfl; have fc3 := blk_frozen bx 3; have c4 := (blk_cell bx 4).trans rfl; have fc4 := blk_frozen bx 4; have c5 := (blk_cell bx 5).trans rfl; have fc5 := blk_frozen bx 5; have c6 := (blk_cell bx 6).trans rfl; have fc6 := blk_frozen bx 6; have c7 := (blk_cell bx 7).trans rfl; have fc7 := blk_frozen bx 7; clear bx; clear hi hb hk) | (go_at_call 36; (with_reducible refine (check_calls _ _ _ _ _ _ _ _ _).mono ?_); rintro e w8 ⟨rfl, hb8⟩; rw [hc]; have HB := Aside0.mk (below_step HB.out hb8); have bz := blk_keep BZ.out hb8; have BZ := Aside0.mk bz; have z0 := (blk_cell bz 0).trans rfl; have fz0 := blk_frozen bz 0; have z1 := (blk_cell bz 1).trans rfl; have fz1 := blk_frozen bz 1; have z2 := (blk_cell bz 2).trans rfl; have fz2 := blk_frozen bz 2; have z3 := (blk_cell bz 3).trans rfl; have fz3 := blk_frozen bz 3; have z4 := (blk_cell bz 4).trans rfl; have fz4 := blk_frozen bz 4; have z5 := (blk_cell bz 5).trans rfl; have fz5 := blk_frozen bz 5; have z6 := (blk_cell bz 6).trans rfl; have fz6 := blk_frozen bz 6; have z7 := (blk_cell bz 7).trans rfl; have fz7 := blk_frozen bz 7; clear bz; have bx := blk_keep BX.out hb8; have BX := Aside0.mk bx; have c0 := (blk_cell bx 0).trans rfl; have fc0 := blk_frozen bx 0; have c1 := (blk_cell bx 1).trans rfl; have fc1 := blk_frozen bx 1; have c2 := (blk_cell bx 2).trans rfl; have fc2 := blk_frozen bx 2; have c3 := (blk_cell bx 3).trans rfl; have fc3 := blk_frozen bx 3; have c4 := (blk_cell bx 4).trans rfl; have fc4 := blk_frozen bx 4; have c5 := (blk_cell bx 5).trans rfl; have fc5 := blk_frozen bx 5; have c6 := (blk_cell bx 6).trans rfl; have fc6 := blk_frozen bx 6; have c7 := (blk_cell bx 7).trans rfl; have fc7 := blk_frozen bx 7; clear bx; clear hb8))
          refine bodyPost_ret (ret2_row rfl _ _ _ w.heap.size 40 #[_, _, _, _, _, _, _, _] (0, 0) _ (.int .i64 0) rfl rfl (by first | exact blk_all8 (t := 40) BZ.out rfl _ _ _ _ _ _ _ _ | exact blk_drew1 (blk_all8 (t := 40) BZ.out rfl _ _ _ _ _ _ _ _) | exact blk_drewN (blk_all8 (t := 40) BZ.out rfl _ _ _ _ _ _ _ _) _) Try.underlying40 rfl info40) rfl ?_
          exact ⟨by rw [show getR ⟨n0, (n1 == 1), n2, n3, n4, n6, (n5 == 1), (n7 == 1)⟩ r = (⟨n0, (n1 == 1), n2, n3, n4, n6, (n5 == 1), (n7 == 1)⟩, 0) from by unfold getR Bt.chk; simp [hr, hc]]; rfl, (by repeat (first | with_reducible exact HB.out | with_reducible apply pw_below_drewN | with_reducible apply below_drew1 | refine below_set ?_ (Nat.le_refl _)))⟩
      · have hr0 : (r != 0) = true := by simpa using hr
        go_wp2_with (first | (go_at_call 23; (with_reducible refine (code_Reader_End.calls g _ _ _ _ _ w _ HI.out HB.out HEE.out).mono ?_); rintro e w8 ⟨rfl, hi, hb, hk⟩; have HI := Aside0.mk hi; have HB := Aside0.mk hb; have bz := blk_but BZ.out hk HNE.out; have BZ := Aside0.mk bz; have z0 := (blk_cell bz 0).trans rfl; have fz0 := blk_frozen bz 0; have z1 := (blk_cell bz 1).trans rfl; have fz1 := blk_frozen bz 1; have z2 := (blk_cell bz 2).trans rfl; have fz2 := blk_frozen bz 2; have z3 := (blk_cell bz 3).trans rfl; have fz3 := blk_frozen bz 3; have z4 := (blk_cell bz 4).trans rfl; have fz4 := blk_frozen bz 4; have z5 := (blk_cell bz 5).trans rfl; have fz5 := blk_frozen bz 5; have z6 := (blk_cell bz 6).trans rfl; have fz6 := blk_frozen bz 6; have z7 := (blk_cell bz 7).trans rfl; have fz7 := blk_frozen bz 7; clear bz; have bx := blk_but BX.out hk (Ne.symm HN5.out); have BX := Aside0.mk bx; have c0 := (blk_cell bx 0).trans rfl; have fc0 := blk_frozen bx 0; have c1 := (blk_cell bx 1).trans rfl; have fc1 := blk_frozen bx 1; have c2 := (blk_cell bx 2).trans rfl; have fc2 := blk_frozen bx 2; have c3 := (blk_cell bx 3).trans rfl; have fc3 := blk_frozen bx 3; have c4 := (blk_cell bx 4).trans rfl; have fc4 := blk_frozen bx 4; have c5 := (blk_cell bx 5).trans rfl; have fc5 := blk_frozen bx 5; have c6 := (blk_cell bx 6).trans rfl; have fc6 := blk_frozen bx 6; have c7 := (blk_cell bx 7).trans rfl; have fc7 := blk_frozen bx 7; clear bx; clear hi hb hk) | (go_at_call 36; (with_reducible refine (check_calls _ _ _ _ _ _ _ _ _).mono ?_); rintro e w8 ⟨rfl, hb8⟩; rw [hc]; have HB := Aside0.mk (below_step HB.out hb8); have bz := blk_keep BZ.out hb8; have BZ := Aside0.mk bz; have z0 := (blk_cell bz 0).trans rfl; have fz0 := blk_frozen bz 0; have z1 := (blk_cell bz 1).trans rfl; have fz1 := blk_frozen bz 1; have z2 := (blk_cell bz 2).trans rfl; have fz2 := blk_frozen bz 2; have z3 := (blk_cell bz 3).trans rfl; have fz3 := blk_frozen bz 3; have z4 := (blk_cell bz 4).trans rfl; have fz4 := blk_frozen bz 4; have z5 := (blk_cell bz 5).trans rfl; have fz5 := blk_frozen bz 5; have z6 := (blk_cell bz 6).trans rfl; have fz6 := blk_frozen bz 6; have z7 := (blk_cell bz 7).trans rfl; have fz7 := blk_frozen bz 7; clear bz; have bx := blk_keep BX.out hb8; have BX := Aside0.mk bx; have c0 := (blk_cell bx 0).trans rfl; have fc0 := blk_frozen bx 0; have c1 := (blk_cell bx 1).trans rfl; have fc1 := blk_frozen bx 1; have c2 := (blk_cell bx 2).trans rfl; have fc2 := blk_frozen bx 2; have c3 := (blk_cell bx 3).trans rfl; have fc3 := blk_frozen bx 3; have c4 := (blk_cell bx 4).trans rfl; have fc4 := blk_frozen bx 4; have c5 := (blk_cell bx 5).trans rfl; have fc5 := blk_frozen bx 5; have c6 := (blk_cell bx 6).trans rfl; have fc6 := blk_frozen bx 6; have c7 := (blk_cell bx 7).trans rfl; have fc7 := blk_frozen bx 7; clear bx; clear hb8))
        refine bodyPost_ret (ret2_row rfl _ _ _ w.heap.size 40 #[_, _, _, _, _, _, _, _] (0, 0) _ (.int .i64 r) rfl rfl (by first | exact blk_all8 (t := 40) BZ.out rfl _ _ _ _ _ _ _ _ | exact blk_drew1 (blk_all8 (t := 40) BZ.out rfl _ _ _ _ _ _ _ _) | exact blk_drewN (blk_all8 (t := 40) BZ.out rfl _ _ _ _ _ _ _ _) _) Try.underlying40 rfl info40) rfl ?_
        exact ⟨by rw [show getR ⟨n0, (n1 == 1), n2, n3, n4, n6, (n5 == 1), (n7 == 1)⟩ r = (Bt.zero, r) from by unfold getR Bt.chk; simp [hr]]; rfl, (by repeat (first | with_reducible exact HB.out | with_reducible apply pw_below_drewN | with_reducible apply below_drew1 | refine below_set ?_ (Nat.le_refl _)))⟩
end Go.Proofs.Ytoiahmdibibceaa.Tb
