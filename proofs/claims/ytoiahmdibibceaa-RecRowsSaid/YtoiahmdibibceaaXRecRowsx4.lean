-- Written by xprint.py of this repo (the kit's print with turns of our own) out of the translation.
import Derived.Test.YtoiahmdibibceaaXRecRowsx0
import Derived.Test.YtoiahmdibibceaaXRecRowsx2
import Derived.Test.YtoiahmdibibceaaXRecRowsx3
namespace Go.Proofs.Ytoiahmdibibceaa.XRecRows
open Go.RowKit Go.Proofs.YtoiahmdibibceaaW.PrintWords Go.Proofs.YtoiahmdibibceaaW.PrintLast Go.Proofs.YtoiahmdibibceaaW.PrintMore
attribute [local go_sem] max2_int min2_int max_two min_two max_three min_three max_four min_four   -- for this text's walks alone
set_option linter.unusedVariables false
set_option linter.unusedSimpArgs false

/-! ### rec_Take: function 44 -/
def rec_Take.row (k : Nat) : List Int → ByteArray → Int → Option (List Int × ByteArray × Int)
  | [], s, e => some ([], s, e)
  | m :: l, s, e => (code_Reader_Num.f k s e m).bind fun b => (rec_Take.row k l b.2.1 b.2.2).bind fun c => some (wrap64 b.1 :: c.1, c.2.1, c.2.2)
def rec_Take.fin (kd : Int) (x : Int × Int × Int × Int × Int) (s : ByteArray) (e : Int) : Option (Int × Int × Int × Int × Int × Int × Int × ByteArray × Int) :=
  if e = 0 then (if Rc.chk kd x.1 x.2.1 x.2.2.1 x.2.2.2.1 x.2.2.2.2 = true then some (kd, x.1, x.2.1, x.2.2.1, x.2.2.2.1, x.2.2.2.2, 0, s, e) else some (0, 0, 0, 0, 0, 0, 3, s, e)) else some (0, 0, 0, 0, 0, 0, e, s, e)
def rec_Take.f (k : Nat) (s0_0 : ByteArray) (s0_1 : Int) : Option (Int × Int × Int × Int × Int × Int × Int × ByteArray × Int) :=
  (code_Reader_Fixed.f k s0_0 s0_1 1).bind fun b => (rec_Take.row k (Rc.mosts (wrap64 b.1)) b.2.1 b.2.2).bind fun c => rec_Take.fin (wrap64 b.1) (Rc.mkR (wrap64 b.1) c.1) c.2.1 c.2.2
theorem rec_Take.mono_l (k : Nat) : ∀ (l : List Int) (s : ByteArray) (e : Int), LeO (rec_Take.row k l s e) (rec_Take.row (k + 1) l s e)
  | [], s, e => LeO.refl _
  | m :: l, s, e => LeO.bind (code_Reader_Num.mono _ _ _ _) (fun _ => LeO.bind (rec_Take.mono_l k l _ _) (fun _ => LeO.refl _))
theorem rec_Take.mono : ∀ s0 s1 k, LeO (rec_Take.f k s0 s1) (rec_Take.f (k + 1) s0 s1) := by
  intro s0 s1 k
  exact LeO.bind (code_Reader_Fixed.mono _ _ _ _) (fun _ => LeO.bind (rec_Take.mono_l k _ _ _) (fun _ => LeO.refl _))
theorem rec_Take.step {k : Nat} {m : Int} {l : List Int} {s : ByteArray} {e : Int} {r : List Int × ByteArray × Int} (h : rec_Take.row k (m :: l) s e = some r) :
    ∃ n s' e' r', code_Reader_Num.f k s e m = some (n, s', e') ∧ rec_Take.row k l s' e' = some r' ∧ r = (wrap64 n :: r'.1, r'.2.1, r'.2.2) := by
  obtain ⟨⟨n, s', e'⟩, h1, h2⟩ := Option.bind_eq_some_iff.mp h
  obtain ⟨r', h3, h4⟩ := Option.bind_eq_some_iff.mp h2
  exact ⟨n, s', e', r', h1, h3, (Option.some.inj h4).symm⟩
theorem rec_Take.cells6 {W : World} {g t : Nat} {v0 v1 v2 v3 v4 v5 : Value} (h : W.heap[g]? = some (.cells #[v0, v1, v2, v3, v4, v5] t (0, 0))) : W.cell? ⟨g, 0, none⟩ = some v0 ∧ W.cell? ⟨g, 1, none⟩ = some v1 ∧ W.cell? ⟨g, 2, none⟩ = some v2 ∧ W.cell? ⟨g, 3, none⟩ = some v3 ∧ W.cell? ⟨g, 4, none⟩ = some v4 ∧ W.cell? ⟨g, 5, none⟩ = some v5 :=
  ⟨(blk_cell h 0).trans rfl, (blk_cell h 1).trans rfl, (blk_cell h 2).trans rfl, (blk_cell h 3).trans rfl, (blk_cell h 4).trans rfl, (blk_cell h 5).trans rfl⟩
theorem rec_Take.froz6 {W : World} {g t : Nat} {cs : Array Value} (h : W.heap[g]? = some (.cells cs t (0, 0))) : W.frozen? ⟨g, 0, none⟩ = false ∧ W.frozen? ⟨g, 1, none⟩ = false ∧ W.frozen? ⟨g, 2, none⟩ = false ∧ W.frozen? ⟨g, 3, none⟩ = false ∧ W.frozen? ⟨g, 4, none⟩ = false ∧ W.frozen? ⟨g, 5, none⟩ = false :=
  ⟨blk_frozen h 0, blk_frozen h 1, blk_frozen h 2, blk_frozen h 3, blk_frozen h 4, blk_frozen h 5⟩
/-- What stands in memory while a record is taken. -/
structure rec_Take.St (w0 w W : World) (g g0 gx : Nat) (s : ByteArray) (e : Int) (zs xs : Array Value) : Prop where
  I : IsS84 w0 W g s e
  B : Below w0.heap.size w0 W
  K : KeepBut w W g none
  z : W.heap[g0]? = some (.cells zs 58 (0, 0))
  x : W.heap[gx]? = some (.cells xs 58 (0, 0))
theorem rec_Take.St.num {w0 w W W' : World} {g g0 gx : Nat} {s s' : ByteArray} {e e' : Int} {zs xs : Array Value} (h : rec_Take.St w0 w W g g0 gx s e zs xs) (h0 : g < g0) (hx : g < gx) (hi : IsS84 w0 W' g s' e') (hb : Below w0.heap.size w0 W') (hk : KeepBut W W' g none) : rec_Take.St w0 w W' g g0 gx s' e' zs xs :=
  ⟨hi, hb, h.K.trans hk (.inl rfl), hk.blk h.z (by omega) (by simp), hk.blk h.x (by omega) (by simp)⟩
theorem rec_Take.St.below {w0 w W W' : World} {g g0 gx : Nat} {s : ByteArray} {e : Int} {zs xs : Array Value} (h : rec_Take.St w0 w W g g0 gx s e zs xs) (hb : Below W.heap.size W W') : rec_Take.St w0 w W' g g0 gx s e zs xs :=
  ⟨h.I.below hb, below_step h.B hb, h.K.trans (KeepBut.of_below hb g none) (.inl rfl), (hb.block _ (blk_lt h.z)).trans h.z, (hb.block _ (blk_lt h.x)).trans h.x⟩
theorem rec_Take.keep_far {w W : World} {g b j : Nat} {v : Value} (h : KeepBut w W g none) (hb : w.heap.size ≤ b) : KeepBut w (W.setCell ⟨b, j, none⟩ v) g none :=
  ⟨by simpa [World.setCell] using h.1, fun i hi hg hr => (Below.heap_setCell W ⟨b, j, none⟩ v i (fun (e : i = b) => by omega)).trans (h.2 i hi hg hr)⟩
theorem rec_Take.St.setx {w0 w W : World} {g g0 gx : Nat} {s : ByteArray} {e : Int} {zs xs : Array Value} (h : rec_Take.St w0 w W g g0 gx s e zs xs) (hw : w0.heap.size ≤ w.heap.size) (h0 : w.heap.size ≤ g0) (hx : g0 < gx) (hg : g < g0) (j : Nat) (v : Value) : rec_Take.St w0 w (W.setCell ⟨gx, j, none⟩ v) g g0 gx s e zs (xs.setIfInBounds j v) :=
  ⟨h.I.far (show g ≠ gx by omega) v, below_set h.B (by omega), rec_Take.keep_far h.K (by omega), blk_far h.z (show g0 ≠ gx by omega) v, blk_set h.x j v⟩
theorem rec_Take.St.setz {w0 w W : World} {g g0 gx : Nat} {s : ByteArray} {e : Int} {zs xs : Array Value} (h : rec_Take.St w0 w W g g0 gx s e zs xs) (hw : w0.heap.size ≤ w.heap.size) (h0 : w.heap.size ≤ g0) (hx : g0 < gx) (hg : g < g0) (j : Nat) (v : Value) : rec_Take.St w0 w (W.setCell ⟨g0, j, none⟩ v) g g0 gx s e (zs.setIfInBounds j v) xs :=
  ⟨h.I.far (show g ≠ g0 by omega) v, below_set h.B (by omega), rec_Take.keep_far h.K h0, blk_set h.z j v, blk_far h.x (show gx ≠ g0 by omega) v⟩

set_option maxHeartbeats 16000000 in
set_option maxRecDepth 100000 in
theorem rec_Take.c1 (k : Nat) (g : Nat) (s0_0 : ByteArray) (s0_1 : Int) (r1 r2 r3 r4 r5 r6 r7 : Int) (r8 : ByteArray) (r9 : Int) (w0 w : World) (hI : IsS84 w0 w g s0_0 s0_1) (hB : Below w0.heap.size w0 w) (n : Int) (e0 : ByteArray) (e1 : Int) (h1 : code_Reader_Fixed.f k s0_0 s0_1 1 = some (n, e0, e1)) (hn : wrap64 n = 1)
    (h : (rec_Take.row k (Rc.mosts (wrap64 n)) e0 e1).bind (fun c => rec_Take.fin (wrap64 n) (Rc.mkR (wrap64 n) c.1) c.2.1 c.2.2) = some (r1, r2, r3, r4, r5, r6, r7, r8, r9)) :
    Calls Try.prog 44 #[.pointer (some ⟨g, 0, none⟩)] w fun e w' => e = .returned (.tuple #[.agg #[.int .i64 r1, .int .i64 r2, .int .i64 r3, .int .i64 r4, .int .i64 r5, .int .i64 r6], .int .i64 r7]) ∧ IsS84 w0 w' g r8 r9 ∧ Below w0.heap.size w0 w' ∧ KeepBut w w' g none := by
  have hw0 := hB.size
  have lg : g < w.heap.size := hI.lt
  rw [hn] at h
  obtain ⟨c, hc, h⟩ := Option.bind_eq_some_iff.mp h
  have hc : rec_Take.row k [15, 1023, 511] e0 e1 = some c := hc
  obtain ⟨m1, f1, g1_, d1, a1, hc, hd1⟩ := rec_Take.step hc
  have A1 := Aside0.mk a1
  clear a1
  obtain ⟨m2, f2, g2_, d2, a2, hc, hd2⟩ := rec_Take.step hc
  have A2 := Aside0.mk a2
  clear a2
  obtain ⟨m3, f3, g3_, d3, a3, hc, hd3⟩ := rec_Take.step hc
  have A3 := Aside0.mk a3
  clear a3
  obtain rfl := Option.some.inj hc
  clear hc
  subst hd3
  subst hd2
  subst hd1
  have h : rec_Take.fin 1 ((wrap64 m1), (wrap64 m2), (wrap64 m3), 0, 0) f3 g3_ = some (r1, r2, r3, r4, r5, r6, r7, r8, r9) := h
  have HI := Aside0.mk hI
  have HB := Aside0.mk hB
  have H1 := Aside0.mk h1
  clear hI hB h1
  go_enter Try.func44, Try.ntmps44
  go_wp2_with (first | (go_at_call 27; (with_reducible refine (code_Reader_Fixed.calls k g s0_0 s0_1 1 n e0 e1 w0 _ ?side1 ?side2 H1.out).mono ?_); (case side1 => ((repeat (with_reducible first | apply IsS84.alloc | apply IsS84.drewN | apply IsS84.drew)); exact HI.out)); (case side2 => ((repeat (with_reducible first | apply below_alloc | apply pw_below_drewN | apply below_drew1)); exact HB.out)); rintro e w1 ⟨rfl, hi, hb, hk⟩) | (go_at_call 60; refine (Rc.fields_1 w1.heap.size 0 0 0 0 0 _ (Rc.rec_new w1 1 0 0 0 0 0)).mono ?_; rintro e w2 ⟨vl, vm, rfl, ⟨bl, rfl, hl, gl⟩, ⟨bm, rfl, hm, gm⟩, hq⟩; rw [Rc.size_alloc] at gl gm; have S0 : rec_Take.St w0 w w1 g w.heap.size w.heap.size e0 e1 #[.int .i64 0, .int .i64 0, .int .i64 0, .int .i64 0, .int .i64 0, .int .i64 0] #[.int .i64 0, .int .i64 0, .int .i64 0, .int .i64 0, .int .i64 0, .int .i64 0] := ⟨hi, hb, (keep_alloc (KeepBut.refl w g none) _).trans hk (.inl rfl), hk.blk (Rc.rec_new w 0 0 0 0 0 0) (by omega) (by simp), hk.blk (Rc.rec_new w 0 0 0 0 0 0) (by omega) (by simp)⟩; have gz : w.heap.size < w1.heap.size := (Nat.lt_of_lt_of_le (by rw [Rc.size_alloc]; omega) hk.1); have S1 := S0.below (below_alloc (Below.refl _ _) (.cells #[.int .i64 1, .int .i64 0, .int .i64 0, .int .i64 0, .int .i64 0, .int .i64 0] 58)); have S2 : rec_Take.St w0 w _ g w.heap.size w1.heap.size e0 e1 #[.int .i64 0, .int .i64 0, .int .i64 0, .int .i64 0, .int .i64 0, .int .i64 0] #[.int .i64 1, .int .i64 0, .int .i64 0, .int .i64 0, .int .i64 0, .int .i64 0] := ⟨S1.I, S1.B, S1.K, S1.z, Rc.rec_new w1 1 0 0 0 0 0⟩; have S := S2.below hq; clear S0 S1 S2 hi hb hk hq))
  refine wp_loop_rounds 4 ?_
  have p0 : w2.cell? ⟨bl, 0, none⟩ = some (.pointer (some ⟨w1.heap.size, 1, none⟩)) := (blk_cell hl 0).trans rfl
  have q0 : w2.cell? ⟨bm, 0, none⟩ = some (.int .i64 15) := (blk_cell hm 0).trans rfl
  rw [rounds_succ]
  go_wp2_with (go_at_call 20; (with_reducible refine (code_Reader_Num.calls k g e0 e1 15 m1 f1 g1_ w0 _ ?side1 ?side2 A1.out).mono ?_); (case side1 => exact S.I); (case side2 => exact S.B); rintro e v1 ⟨rfl, hi, hb, hk⟩; have S_ := S.num (by omega) (by omega) hi hb hk; have hl_ := hk.blk hl (by omega) (by simp); have hm_ := hk.blk hm (by omega) (by simp); clear S hl hm p0 q0 hi hb hk; have S := S_; have hl := hl_; have hm := hm_; clear S_ hl_ hm_; have x0 : v1.cell? ⟨w1.heap.size, 1, none⟩ = some (.int .i64 0) := (blk_cell S.x 1).trans rfl; have z0 := blk_frozen S.x 1)
  have S_ : rec_Take.St w0 w (v1.setCell ⟨w1.heap.size, 1, none⟩ (.int .i64 (wrap64 m1))) g w.heap.size w1.heap.size f1 g1_ #[.int .i64 0, .int .i64 0, .int .i64 0, .int .i64 0, .int .i64 0, .int .i64 0] #[.int .i64 1, .int .i64 (wrap64 m1), .int .i64 0, .int .i64 0, .int .i64 0, .int .i64 0] := S.setx hw0 (Nat.le_refl _) gz (by omega) 1 _
  have hl_ := blk_far hl (show bl ≠ (⟨w1.heap.size, 1, none⟩ : Addr).block by show bl ≠ w1.heap.size; omega) (.int .i64 (wrap64 m1))
  have hm_ := blk_far hm (show bm ≠ (⟨w1.heap.size, 1, none⟩ : Addr).block by show bm ≠ w1.heap.size; omega) (.int .i64 (wrap64 m1))
  clear S hl hm x0 z0
  generalize v1.setCell ⟨w1.heap.size, 1, none⟩ (.int .i64 (wrap64 m1)) = w3 at S_ hl_ hm_ ⊢
  have S := S_
  have hl := hl_
  have hm := hm_
  clear S_ hl_ hm_
  have p1 : w3.cell? ⟨bl, 1, none⟩ = some (.pointer (some ⟨w1.heap.size, 2, none⟩)) := (blk_cell hl 1).trans rfl
  have q1 : w3.cell? ⟨bm, 1, none⟩ = some (.int .i64 1023) := (blk_cell hm 1).trans rfl
  rw [rounds_succ]
  go_wp2_with (go_at_call 20; (with_reducible refine (code_Reader_Num.calls k g f1 g1_ 1023 m2 f2 g2_ w0 _ ?side1 ?side2 A2.out).mono ?_); (case side1 => exact S.I); (case side2 => exact S.B); rintro e v2 ⟨rfl, hi, hb, hk⟩; have S_ := S.num (by omega) (by omega) hi hb hk; have hl_ := hk.blk hl (by omega) (by simp); have hm_ := hk.blk hm (by omega) (by simp); clear S hl hm p1 q1 hi hb hk; have S := S_; have hl := hl_; have hm := hm_; clear S_ hl_ hm_; have x1 : v2.cell? ⟨w1.heap.size, 2, none⟩ = some (.int .i64 0) := (blk_cell S.x 2).trans rfl; have z1 := blk_frozen S.x 2)
  have S_ : rec_Take.St w0 w (v2.setCell ⟨w1.heap.size, 2, none⟩ (.int .i64 (wrap64 m2))) g w.heap.size w1.heap.size f2 g2_ #[.int .i64 0, .int .i64 0, .int .i64 0, .int .i64 0, .int .i64 0, .int .i64 0] #[.int .i64 1, .int .i64 (wrap64 m1), .int .i64 (wrap64 m2), .int .i64 0, .int .i64 0, .int .i64 0] := S.setx hw0 (Nat.le_refl _) gz (by omega) 2 _
  have hl_ := blk_far hl (show bl ≠ (⟨w1.heap.size, 2, none⟩ : Addr).block by show bl ≠ w1.heap.size; omega) (.int .i64 (wrap64 m2))
  have hm_ := blk_far hm (show bm ≠ (⟨w1.heap.size, 2, none⟩ : Addr).block by show bm ≠ w1.heap.size; omega) (.int .i64 (wrap64 m2))
  clear S hl hm x1 z1
  generalize v2.setCell ⟨w1.heap.size, 2, none⟩ (.int .i64 (wrap64 m2)) = w4 at S_ hl_ hm_ ⊢
  have S := S_
  have hl := hl_
  have hm := hm_
  clear S_ hl_ hm_
  have p2 : w4.cell? ⟨bl, 2, none⟩ = some (.pointer (some ⟨w1.heap.size, 3, none⟩)) := (blk_cell hl 2).trans rfl
  have q2 : w4.cell? ⟨bm, 2, none⟩ = some (.int .i64 511) := (blk_cell hm 2).trans rfl
  rw [rounds_succ]
  go_wp2_with (go_at_call 20; (with_reducible refine (code_Reader_Num.calls k g f2 g2_ 511 m3 f3 g3_ w0 _ ?side1 ?side2 A3.out).mono ?_); (case side1 => exact S.I); (case side2 => exact S.B); rintro e v3 ⟨rfl, hi, hb, hk⟩; have S_ := S.num (by omega) (by omega) hi hb hk; have hl_ := hk.blk hl (by omega) (by simp); have hm_ := hk.blk hm (by omega) (by simp); clear S hl hm p2 q2 hi hb hk; have S := S_; have hl := hl_; have hm := hm_; clear S_ hl_ hm_; have x2 : v3.cell? ⟨w1.heap.size, 3, none⟩ = some (.int .i64 0) := (blk_cell S.x 3).trans rfl; have z2 := blk_frozen S.x 3)
  have S_ : rec_Take.St w0 w (v3.setCell ⟨w1.heap.size, 3, none⟩ (.int .i64 (wrap64 m3))) g w.heap.size w1.heap.size f3 g3_ #[.int .i64 0, .int .i64 0, .int .i64 0, .int .i64 0, .int .i64 0, .int .i64 0] #[.int .i64 1, .int .i64 (wrap64 m1), .int .i64 (wrap64 m2), .int .i64 (wrap64 m3), .int .i64 0, .int .i64 0] := S.setx hw0 (Nat.le_refl _) gz (by omega) 3 _
  have hl_ := blk_far hl (show bl ≠ (⟨w1.heap.size, 3, none⟩ : Addr).block by show bl ≠ w1.heap.size; omega) (.int .i64 (wrap64 m3))
  have hm_ := blk_far hm (show bm ≠ (⟨w1.heap.size, 3, none⟩ : Addr).block by show bm ≠ w1.heap.size; omega) (.int .i64 (wrap64 m3))
  clear S hl hm x2 z2
  generalize v3.setCell ⟨w1.heap.size, 3, none⟩ (.int .i64 (wrap64 m3)) = w5 at S_ hl_ hm_ ⊢
  have S := S_
  have hl := hl_
  have hm := hm_
  clear S_ hl_ hm_
  rw [rounds_succ]
  unfold rec_Take.fin at h
  by_cases he : g3_ = 0
  · rw [if_pos he] at h
    have he1 : (g3_ != 0) = false := by rw [he]; rfl
    go_upto_region 10 with (go_at_call 24; (with_reducible refine (code_Reader_Err.calls g f3 g3_ g3_ f3 g3_ w0 _ ?side1 ?side2 rfl).mono ?_); (case side1 => ((repeat (with_reducible first | apply IsS84.alloc | apply IsS84.drewN | apply IsS84.drew)); exact S.I)); (case side2 => ((repeat (with_reducible first | apply below_alloc | apply pw_below_drewN | apply below_drew1)); exact S.B)); rintro e u1 ⟨rfl, hi, hb, hk⟩; have S_ := S.num (by omega) (by omega) hi hb hk; clear S hi hb hk; have S := S_; clear S_)
    obtain ⟨x0, x1, x2, x3, x4, x5⟩ := rec_Take.cells6 S.x
    cases hch : Rc.chk 1 (wrap64 m1) (wrap64 m2) (wrap64 m3) 0 0
    · have h' := h
      simp only [hch] at h'
      simp only [if_false, Bool.false_eq_true, Option.some.injEq, Prod.mk.injEq] at h'
      obtain ⟨rfl, rfl, rfl, rfl, rfl, rfl, rfl, rfl, rfl⟩ := h'
      clear h
      go_wp2_with (go_at_call 41; refine (Rc.check_calls 1 (wrap64 m1) (wrap64 m2) (wrap64 m3) 0 0 _).mono ?_; rintro e u2 ⟨rfl, hb⟩; have S_ := S.below hb; clear S hb x0 x1 x2 x3 x4 x5; have S := S_; clear S_; obtain ⟨y0, y1, y2, y3, y4, y5⟩ := rec_Take.cells6 S.x; obtain ⟨z0, z1, z2, z3, z4, z5⟩ := rec_Take.cells6 S.z; obtain ⟨zf0, zf1, zf2, zf3, zf4, zf5⟩ := rec_Take.froz6 S.z)
      have S6 : rec_Take.St w0 w _ g w.heap.size w1.heap.size f3 g3_ #[.int .i64 0, .int .i64 0, .int .i64 0, .int .i64 0, .int .i64 0, .int .i64 0] #[.int .i64 1, .int .i64 (wrap64 m1), .int .i64 (wrap64 m2), .int .i64 (wrap64 m3), .int .i64 0, .int .i64 0] := (((((S.setz hw0 (Nat.le_refl _) gz lg 0 (.int .i64 0)).setz hw0 (Nat.le_refl _) gz lg 1 (.int .i64 0)).setz hw0 (Nat.le_refl _) gz lg 2 (.int .i64 0)).setz hw0 (Nat.le_refl _) gz lg 3 (.int .i64 0)).setz hw0 (Nat.le_refl _) gz lg 4 (.int .i64 0)).setz hw0 (Nat.le_refl _) gz lg 5 (.int .i64 0)
      refine bodyPost_ret (results_ct rfl _ _ w.heap.size 58 #[.int .i64 0, .int .i64 0, .int .i64 0, .int .i64 0, .int .i64 0, .int .i64 0] (0, 0) _ rfl S6.z Try.underlying58 rfl (by kernel_rfl)) rfl ?_
      exact ⟨rfl, S6.I, S6.B, S6.K⟩
    · have h' := h
      simp only [hch] at h'
      simp only [if_true, Option.some.injEq, Prod.mk.injEq] at h'
      obtain ⟨rfl, rfl, rfl, rfl, rfl, rfl, rfl, rfl, rfl⟩ := h'
      clear h
      go_wp2_with (go_at_call 41; refine (Rc.check_calls 1 (wrap64 m1) (wrap64 m2) (wrap64 m3) 0 0 _).mono ?_; rintro e u2 ⟨rfl, hb⟩; have S_ := S.below hb; clear S hb x0 x1 x2 x3 x4 x5; have S := S_; clear S_; obtain ⟨y0, y1, y2, y3, y4, y5⟩ := rec_Take.cells6 S.x; obtain ⟨z0, z1, z2, z3, z4, z5⟩ := rec_Take.cells6 S.z; obtain ⟨zf0, zf1, zf2, zf3, zf4, zf5⟩ := rec_Take.froz6 S.z)
      have S6 : rec_Take.St w0 w _ g w.heap.size w1.heap.size f3 g3_ #[.int .i64 1, .int .i64 (wrap64 m1), .int .i64 (wrap64 m2), .int .i64 (wrap64 m3), .int .i64 0, .int .i64 0] #[.int .i64 1, .int .i64 (wrap64 m1), .int .i64 (wrap64 m2), .int .i64 (wrap64 m3), .int .i64 0, .int .i64 0] := (((((S.setz hw0 (Nat.le_refl _) gz lg 0 (.int .i64 1)).setz hw0 (Nat.le_refl _) gz lg 1 (.int .i64 (wrap64 m1))).setz hw0 (Nat.le_refl _) gz lg 2 (.int .i64 (wrap64 m2))).setz hw0 (Nat.le_refl _) gz lg 3 (.int .i64 (wrap64 m3))).setz hw0 (Nat.le_refl _) gz lg 4 (.int .i64 0)).setz hw0 (Nat.le_refl _) gz lg 5 (.int .i64 0)
      refine bodyPost_ret (results_ct rfl _ _ w.heap.size 58 #[.int .i64 1, .int .i64 (wrap64 m1), .int .i64 (wrap64 m2), .int .i64 (wrap64 m3), .int .i64 0, .int .i64 0] (0, 0) _ rfl S6.z Try.underlying58 rfl (by kernel_rfl)) rfl ?_
      exact ⟨rfl, S6.I, S6.B, S6.K⟩
  · rw [if_neg he] at h
    have he1 : (g3_ != 0) = true := bne_iff_ne.mpr he
    simp only [Option.some.injEq, Prod.mk.injEq] at h
    obtain ⟨rfl, rfl, rfl, rfl, rfl, rfl, rfl, rfl, rfl⟩ := h
    go_upto_region 9 with (go_at_call 24; (with_reducible refine (code_Reader_Err.calls g f3 g3_ g3_ f3 g3_ w0 _ ?side1 ?side2 rfl).mono ?_); (case side1 => ((repeat (with_reducible first | apply IsS84.alloc | apply IsS84.drewN | apply IsS84.drew)); exact S.I)); (case side2 => ((repeat (with_reducible first | apply below_alloc | apply pw_below_drewN | apply below_drew1)); exact S.B)); rintro e u1 ⟨rfl, hi, hb, hk⟩; have S_ := S.num (by omega) (by omega) hi hb hk; clear S hi hb hk; have S := S_; clear S_)
    go_wp2_with (go_at_call 24; (with_reducible refine (code_Reader_Err.calls g f3 g3_ g3_ f3 g3_ w0 _ ?side1 ?side2 rfl).mono ?_); (case side1 => ((repeat (with_reducible first | apply IsS84.alloc | apply IsS84.drewN | apply IsS84.drew)); exact S.I)); (case side2 => ((repeat (with_reducible first | apply below_alloc | apply pw_below_drewN | apply below_drew1)); exact S.B)); rintro e u2 ⟨rfl, hi, hb, hk⟩; have S_ := S.num (by omega) (by omega) hi hb hk; clear S hi hb hk; have S := S_; clear S_; obtain ⟨z0, z1, z2, z3, z4, z5⟩ := rec_Take.cells6 S.z; obtain ⟨zf0, zf1, zf2, zf3, zf4, zf5⟩ := rec_Take.froz6 S.z)
    have S6 : rec_Take.St w0 w _ g w.heap.size w1.heap.size f3 g3_ #[.int .i64 0, .int .i64 0, .int .i64 0, .int .i64 0, .int .i64 0, .int .i64 0] #[.int .i64 1, .int .i64 (wrap64 m1), .int .i64 (wrap64 m2), .int .i64 (wrap64 m3), .int .i64 0, .int .i64 0] := (((((S.setz hw0 (Nat.le_refl _) gz lg 0 (.int .i64 0)).setz hw0 (Nat.le_refl _) gz lg 1 (.int .i64 0)).setz hw0 (Nat.le_refl _) gz lg 2 (.int .i64 0)).setz hw0 (Nat.le_refl _) gz lg 3 (.int .i64 0)).setz hw0 (Nat.le_refl _) gz lg 4 (.int .i64 0)).setz hw0 (Nat.le_refl _) gz lg 5 (.int .i64 0)
    refine bodyPost_ret (results_ct rfl _ _ w.heap.size 58 #[.int .i64 0, .int .i64 0, .int .i64 0, .int .i64 0, .int .i64 0, .int .i64 0] (0, 0) _ rfl S6.z Try.underlying58 rfl (by kernel_rfl)) rfl ?_
    exact ⟨rfl, S6.I, S6.B, S6.K⟩
set_option maxHeartbeats 16000000 in
set_option maxRecDepth 100000 in
theorem rec_Take.c2 (k : Nat) (g : Nat) (s0_0 : ByteArray) (s0_1 : Int) (r1 r2 r3 r4 r5 r6 r7 : Int) (r8 : ByteArray) (r9 : Int) (w0 w : World) (hI : IsS84 w0 w g s0_0 s0_1) (hB : Below w0.heap.size w0 w) (n : Int) (e0 : ByteArray) (e1 : Int) (h1 : code_Reader_Fixed.f k s0_0 s0_1 1 = some (n, e0, e1)) (hn : wrap64 n = 2)
    (h : (rec_Take.row k (Rc.mosts (wrap64 n)) e0 e1).bind (fun c => rec_Take.fin (wrap64 n) (Rc.mkR (wrap64 n) c.1) c.2.1 c.2.2) = some (r1, r2, r3, r4, r5, r6, r7, r8, r9)) :
    Calls Try.prog 44 #[.pointer (some ⟨g, 0, none⟩)] w fun e w' => e = .returned (.tuple #[.agg #[.int .i64 r1, .int .i64 r2, .int .i64 r3, .int .i64 r4, .int .i64 r5, .int .i64 r6], .int .i64 r7]) ∧ IsS84 w0 w' g r8 r9 ∧ Below w0.heap.size w0 w' ∧ KeepBut w w' g none := by
  have hw0 := hB.size
  have lg : g < w.heap.size := hI.lt
  rw [hn] at h
  obtain ⟨c, hc, h⟩ := Option.bind_eq_some_iff.mp h
  have hc : rec_Take.row k [15, 1023] e0 e1 = some c := hc
  obtain ⟨m1, f1, g1_, d1, a1, hc, hd1⟩ := rec_Take.step hc
  have A1 := Aside0.mk a1
  clear a1
  obtain ⟨m2, f2, g2_, d2, a2, hc, hd2⟩ := rec_Take.step hc
  have A2 := Aside0.mk a2
  clear a2
  obtain rfl := Option.some.inj hc
  clear hc
  subst hd2
  subst hd1
  have h : rec_Take.fin 2 ((wrap64 m1), (wrap64 m2), 0, 0, 0) f2 g2_ = some (r1, r2, r3, r4, r5, r6, r7, r8, r9) := h
  have HI := Aside0.mk hI
  have HB := Aside0.mk hB
  have H1 := Aside0.mk h1
  clear hI hB h1
  go_enter Try.func44, Try.ntmps44
  go_wp2_with (first | (go_at_call 27; (with_reducible refine (code_Reader_Fixed.calls k g s0_0 s0_1 1 n e0 e1 w0 _ ?side1 ?side2 H1.out).mono ?_); (case side1 => ((repeat (with_reducible first | apply IsS84.alloc | apply IsS84.drewN | apply IsS84.drew)); exact HI.out)); (case side2 => ((repeat (with_reducible first | apply below_alloc | apply pw_below_drewN | apply below_drew1)); exact HB.out)); rintro e w1 ⟨rfl, hi, hb, hk⟩) | (go_at_call 60; refine (Rc.fields_2 w1.heap.size 0 0 0 0 0 _ (Rc.rec_new w1 2 0 0 0 0 0)).mono ?_; rintro e w2 ⟨vl, vm, rfl, ⟨bl, rfl, hl, gl⟩, ⟨bm, rfl, hm, gm⟩, hq⟩; rw [Rc.size_alloc] at gl gm; have S0 : rec_Take.St w0 w w1 g w.heap.size w.heap.size e0 e1 #[.int .i64 0, .int .i64 0, .int .i64 0, .int .i64 0, .int .i64 0, .int .i64 0] #[.int .i64 0, .int .i64 0, .int .i64 0, .int .i64 0, .int .i64 0, .int .i64 0] := ⟨hi, hb, (keep_alloc (KeepBut.refl w g none) _).trans hk (.inl rfl), hk.blk (Rc.rec_new w 0 0 0 0 0 0) (by omega) (by simp), hk.blk (Rc.rec_new w 0 0 0 0 0 0) (by omega) (by simp)⟩; have gz : w.heap.size < w1.heap.size := (Nat.lt_of_lt_of_le (by rw [Rc.size_alloc]; omega) hk.1); have S1 := S0.below (below_alloc (Below.refl _ _) (.cells #[.int .i64 2, .int .i64 0, .int .i64 0, .int .i64 0, .int .i64 0, .int .i64 0] 58)); have S2 : rec_Take.St w0 w _ g w.heap.size w1.heap.size e0 e1 #[.int .i64 0, .int .i64 0, .int .i64 0, .int .i64 0, .int .i64 0, .int .i64 0] #[.int .i64 2, .int .i64 0, .int .i64 0, .int .i64 0, .int .i64 0, .int .i64 0] := ⟨S1.I, S1.B, S1.K, S1.z, Rc.rec_new w1 2 0 0 0 0 0⟩; have S := S2.below hq; clear S0 S1 S2 hi hb hk hq))
  refine wp_loop_rounds 3 ?_
  have p0 : w2.cell? ⟨bl, 0, none⟩ = some (.pointer (some ⟨w1.heap.size, 1, none⟩)) := (blk_cell hl 0).trans rfl
  have q0 : w2.cell? ⟨bm, 0, none⟩ = some (.int .i64 15) := (blk_cell hm 0).trans rfl
  rw [rounds_succ]
  go_wp2_with (go_at_call 20; (with_reducible refine (code_Reader_Num.calls k g e0 e1 15 m1 f1 g1_ w0 _ ?side1 ?side2 A1.out).mono ?_); (case side1 => exact S.I); (case side2 => exact S.B); rintro e v1 ⟨rfl, hi, hb, hk⟩; have S_ := S.num (by omega) (by omega) hi hb hk; have hl_ := hk.blk hl (by omega) (by simp); have hm_ := hk.blk hm (by omega) (by simp); clear S hl hm p0 q0 hi hb hk; have S := S_; have hl := hl_; have hm := hm_; clear S_ hl_ hm_; have x0 : v1.cell? ⟨w1.heap.size, 1, none⟩ = some (.int .i64 0) := (blk_cell S.x 1).trans rfl; have z0 := blk_frozen S.x 1)
  have S_ : rec_Take.St w0 w (v1.setCell ⟨w1.heap.size, 1, none⟩ (.int .i64 (wrap64 m1))) g w.heap.size w1.heap.size f1 g1_ #[.int .i64 0, .int .i64 0, .int .i64 0, .int .i64 0, .int .i64 0, .int .i64 0] #[.int .i64 2, .int .i64 (wrap64 m1), .int .i64 0, .int .i64 0, .int .i64 0, .int .i64 0] := S.setx hw0 (Nat.le_refl _) gz (by omega) 1 _
  have hl_ := blk_far hl (show bl ≠ (⟨w1.heap.size, 1, none⟩ : Addr).block by show bl ≠ w1.heap.size; omega) (.int .i64 (wrap64 m1))
  have hm_ := blk_far hm (show bm ≠ (⟨w1.heap.size, 1, none⟩ : Addr).block by show bm ≠ w1.heap.size; omega) (.int .i64 (wrap64 m1))
  clear S hl hm x0 z0
  generalize v1.setCell ⟨w1.heap.size, 1, none⟩ (.int .i64 (wrap64 m1)) = w3 at S_ hl_ hm_ ⊢
  have S := S_
  have hl := hl_
  have hm := hm_
  clear S_ hl_ hm_
  have p1 : w3.cell? ⟨bl, 1, none⟩ = some (.pointer (some ⟨w1.heap.size, 2, none⟩)) := (blk_cell hl 1).trans rfl
  have q1 : w3.cell? ⟨bm, 1, none⟩ = some (.int .i64 1023) := (blk_cell hm 1).trans rfl
  rw [rounds_succ]
  go_wp2_with (go_at_call 20; (with_reducible refine (code_Reader_Num.calls k g f1 g1_ 1023 m2 f2 g2_ w0 _ ?side1 ?side2 A2.out).mono ?_); (case side1 => exact S.I); (case side2 => exact S.B); rintro e v2 ⟨rfl, hi, hb, hk⟩; have S_ := S.num (by omega) (by omega) hi hb hk; have hl_ := hk.blk hl (by omega) (by simp); have hm_ := hk.blk hm (by omega) (by simp); clear S hl hm p1 q1 hi hb hk; have S := S_; have hl := hl_; have hm := hm_; clear S_ hl_ hm_; have x1 : v2.cell? ⟨w1.heap.size, 2, none⟩ = some (.int .i64 0) := (blk_cell S.x 2).trans rfl; have z1 := blk_frozen S.x 2)
  have S_ : rec_Take.St w0 w (v2.setCell ⟨w1.heap.size, 2, none⟩ (.int .i64 (wrap64 m2))) g w.heap.size w1.heap.size f2 g2_ #[.int .i64 0, .int .i64 0, .int .i64 0, .int .i64 0, .int .i64 0, .int .i64 0] #[.int .i64 2, .int .i64 (wrap64 m1), .int .i64 (wrap64 m2), .int .i64 0, .int .i64 0, .int .i64 0] := S.setx hw0 (Nat.le_refl _) gz (by omega) 2 _
  have hl_ := blk_far hl (show bl ≠ (⟨w1.heap.size, 2, none⟩ : Addr).block by show bl ≠ w1.heap.size; omega) (.int .i64 (wrap64 m2))
  have hm_ := blk_far hm (show bm ≠ (⟨w1.heap.size, 2, none⟩ : Addr).block by show bm ≠ w1.heap.size; omega) (.int .i64 (wrap64 m2))
  clear S hl hm x1 z1
  generalize v2.setCell ⟨w1.heap.size, 2, none⟩ (.int .i64 (wrap64 m2)) = w4 at S_ hl_ hm_ ⊢
  have S := S_
  have hl := hl_
  have hm := hm_
  clear S_ hl_ hm_
  rw [rounds_succ]
  unfold rec_Take.fin at h
  by_cases he : g2_ = 0
  · rw [if_pos he] at h
    have he1 : (g2_ != 0) = false := by rw [he]; rfl
    go_upto_region 10 with (go_at_call 24; (with_reducible refine (code_Reader_Err.calls g f2 g2_ g2_ f2 g2_ w0 _ ?side1 ?side2 rfl).mono ?_); (case side1 => ((repeat (with_reducible first | apply IsS84.alloc | apply IsS84.drewN | apply IsS84.drew)); exact S.I)); (case side2 => ((repeat (with_reducible first | apply below_alloc | apply pw_below_drewN | apply below_drew1)); exact S.B)); rintro e u1 ⟨rfl, hi, hb, hk⟩; have S_ := S.num (by omega) (by omega) hi hb hk; clear S hi hb hk; have S := S_; clear S_)
    obtain ⟨x0, x1, x2, x3, x4, x5⟩ := rec_Take.cells6 S.x
    cases hch : Rc.chk 2 (wrap64 m1) (wrap64 m2) 0 0 0
    · have h' := h
      simp only [hch] at h'
      simp only [if_false, Bool.false_eq_true, Option.some.injEq, Prod.mk.injEq] at h'
      obtain ⟨rfl, rfl, rfl, rfl, rfl, rfl, rfl, rfl, rfl⟩ := h'
      clear h
      go_wp2_with (go_at_call 41; refine (Rc.check_calls 2 (wrap64 m1) (wrap64 m2) 0 0 0 _).mono ?_; rintro e u2 ⟨rfl, hb⟩; have S_ := S.below hb; clear S hb x0 x1 x2 x3 x4 x5; have S := S_; clear S_; obtain ⟨y0, y1, y2, y3, y4, y5⟩ := rec_Take.cells6 S.x; obtain ⟨z0, z1, z2, z3, z4, z5⟩ := rec_Take.cells6 S.z; obtain ⟨zf0, zf1, zf2, zf3, zf4, zf5⟩ := rec_Take.froz6 S.z)
      have S6 : rec_Take.St w0 w _ g w.heap.size w1.heap.size f2 g2_ #[.int .i64 0, .int .i64 0, .int .i64 0, .int .i64 0, .int .i64 0, .int .i64 0] #[.int .i64 2, .int .i64 (wrap64 m1), .int .i64 (wrap64 m2), .int .i64 0, .int .i64 0, .int .i64 0] := (((((S.setz hw0 (Nat.le_refl _) gz lg 0 (.int .i64 0)).setz hw0 (Nat.le_refl _) gz lg 1 (.int .i64 0)).setz hw0 (Nat.le_refl _) gz lg 2 (.int .i64 0)).setz hw0 (Nat.le_refl _) gz lg 3 (.int .i64 0)).setz hw0 (Nat.le_refl _) gz lg 4 (.int .i64 0)).setz hw0 (Nat.le_refl _) gz lg 5 (.int .i64 0)
      refine bodyPost_ret (results_ct rfl _ _ w.heap.size 58 #[.int .i64 0, .int .i64 0, .int .i64 0, .int .i64 0, .int .i64 0, .int .i64 0] (0, 0) _ rfl S6.z Try.underlying58 rfl (by kernel_rfl)) rfl ?_
      exact ⟨rfl, S6.I, S6.B, S6.K⟩
    · have h' := h
      simp only [hch] at h'
      simp only [if_true, Option.some.injEq, Prod.mk.injEq] at h'
      obtain ⟨rfl, rfl, rfl, rfl, rfl, rfl, rfl, rfl, rfl⟩ := h'
      clear h
      go_wp2_with (go_at_call 41; refine (Rc.check_calls 2 (wrap64 m1) (wrap64 m2) 0 0 0 _).mono ?_; rintro e u2 ⟨rfl, hb⟩; have S_ := S.below hb; clear S hb x0 x1 x2 x3 x4 x5; have S := S_; clear S_; obtain ⟨y0, y1, y2, y3, y4, y5⟩ := rec_Take.cells6 S.x; obtain ⟨z0, z1, z2, z3, z4, z5⟩ := rec_Take.cells6 S.z; obtain ⟨zf0, zf1, zf2, zf3, zf4, zf5⟩ := rec_Take.froz6 S.z)
      have S6 : rec_Take.St w0 w _ g w.heap.size w1.heap.size f2 g2_ #[.int .i64 2, .int .i64 (wrap64 m1), .int .i64 (wrap64 m2), .int .i64 0, .int .i64 0, .int .i64 0] #[.int .i64 2, .int .i64 (wrap64 m1), .int .i64 (wrap64 m2), .int .i64 0, .int .i64 0, .int .i64 0] := (((((S.setz hw0 (Nat.le_refl _) gz lg 0 (.int .i64 2)).setz hw0 (Nat.le_refl _) gz lg 1 (.int .i64 (wrap64 m1))).setz hw0 (Nat.le_refl _) gz lg 2 (.int .i64 (wrap64 m2))).setz hw0 (Nat.le_refl _) gz lg 3 (.int .i64 0)).setz hw0 (Nat.le_refl _) gz lg 4 (.int .i64 0)).setz hw0 (Nat.le_refl _) gz lg 5 (.int .i64 0)
      refine bodyPost_ret (results_ct rfl _ _ w.heap.size 58 #[.int .i64 2, .int .i64 (wrap64 m1), .int .i64 (wrap64 m2), .int .i64 0, .int .i64 0, .int .i64 0] (0, 0) _ rfl S6.z Try.underlying58 rfl (by kernel_rfl)) rfl ?_
      exact ⟨rfl, S6.I, S6.B, S6.K⟩
  · rw [if_neg he] at h
    have he1 : (g2_ != 0) = true := bne_iff_ne.mpr he
    simp only [Option.some.injEq, Prod.mk.injEq] at h
    obtain ⟨rfl, rfl, rfl, rfl, rfl, rfl, rfl, rfl, rfl⟩ := h
    go_upto_region 9 with (go_at_call 24; (with_reducible refine (code_Reader_Err.calls g f2 g2_ g2_ f2 g2_ w0 _ ?side1 ?side2 rfl).mono ?_); (case side1 => ((repeat (with_reducible first | apply IsS84.alloc | apply IsS84.drewN | apply IsS84.drew)); exact S.I)); (case side2 => ((repeat (with_reducible first | apply below_alloc | apply pw_below_drewN | apply below_drew1)); exact S.B)); rintro e u1 ⟨rfl, hi, hb, hk⟩; have S_ := S.num (by omega) (by omega) hi hb hk; clear S hi hb hk; have S := S_; clear S_)
    go_wp2_with (go_at_call 24; (with_reducible refine (code_Reader_Err.calls g f2 g2_ g2_ f2 g2_ w0 _ ?side1 ?side2 rfl).mono ?_); (case side1 => ((repeat (with_reducible first | apply IsS84.alloc | apply IsS84.drewN | apply IsS84.drew)); exact S.I)); (case side2 => ((repeat (with_reducible first | apply below_alloc | apply pw_below_drewN | apply below_drew1)); exact S.B)); rintro e u2 ⟨rfl, hi, hb, hk⟩; have S_ := S.num (by omega) (by omega) hi hb hk; clear S hi hb hk; have S := S_; clear S_; obtain ⟨z0, z1, z2, z3, z4, z5⟩ := rec_Take.cells6 S.z; obtain ⟨zf0, zf1, zf2, zf3, zf4, zf5⟩ := rec_Take.froz6 S.z)
    have S6 : rec_Take.St w0 w _ g w.heap.size w1.heap.size f2 g2_ #[.int .i64 0, .int .i64 0, .int .i64 0, .int .i64 0, .int .i64 0, .int .i64 0] #[.int .i64 2, .int .i64 (wrap64 m1), .int .i64 (wrap64 m2), .int .i64 0, .int .i64 0, .int .i64 0] := (((((S.setz hw0 (Nat.le_refl _) gz lg 0 (.int .i64 0)).setz hw0 (Nat.le_refl _) gz lg 1 (.int .i64 0)).setz hw0 (Nat.le_refl _) gz lg 2 (.int .i64 0)).setz hw0 (Nat.le_refl _) gz lg 3 (.int .i64 0)).setz hw0 (Nat.le_refl _) gz lg 4 (.int .i64 0)).setz hw0 (Nat.le_refl _) gz lg 5 (.int .i64 0)
    refine bodyPost_ret (results_ct rfl _ _ w.heap.size 58 #[.int .i64 0, .int .i64 0, .int .i64 0, .int .i64 0, .int .i64 0, .int .i64 0] (0, 0) _ rfl S6.z Try.underlying58 rfl (by kernel_rfl)) rfl ?_
    exact ⟨rfl, S6.I, S6.B, S6.K⟩
set_option maxHeartbeats 16000000 in
set_option maxRecDepth 100000 in
theorem rec_Take.c3 (k : Nat) (g : Nat) (s0_0 : ByteArray) (s0_1 : Int) (r1 r2 r3 r4 r5 r6 r7 : Int) (r8 : ByteArray) (r9 : Int) (w0 w : World) (hI : IsS84 w0 w g s0_0 s0_1) (hB : Below w0.heap.size w0 w) (n : Int) (e0 : ByteArray) (e1 : Int) (h1 : code_Reader_Fixed.f k s0_0 s0_1 1 = some (n, e0, e1)) (hn : wrap64 n = 3)
    (h : (rec_Take.row k (Rc.mosts (wrap64 n)) e0 e1).bind (fun c => rec_Take.fin (wrap64 n) (Rc.mkR (wrap64 n) c.1) c.2.1 c.2.2) = some (r1, r2, r3, r4, r5, r6, r7, r8, r9)) :
    Calls Try.prog 44 #[.pointer (some ⟨g, 0, none⟩)] w fun e w' => e = .returned (.tuple #[.agg #[.int .i64 r1, .int .i64 r2, .int .i64 r3, .int .i64 r4, .int .i64 r5, .int .i64 r6], .int .i64 r7]) ∧ IsS84 w0 w' g r8 r9 ∧ Below w0.heap.size w0 w' ∧ KeepBut w w' g none := by
  have hw0 := hB.size
  have lg : g < w.heap.size := hI.lt
  rw [hn] at h
  obtain ⟨c, hc, h⟩ := Option.bind_eq_some_iff.mp h
  have hc : rec_Take.row k [511, 511] e0 e1 = some c := hc
  obtain ⟨m1, f1, g1_, d1, a1, hc, hd1⟩ := rec_Take.step hc
  have A1 := Aside0.mk a1
  clear a1
  obtain ⟨m2, f2, g2_, d2, a2, hc, hd2⟩ := rec_Take.step hc
  have A2 := Aside0.mk a2
  clear a2
  obtain rfl := Option.some.inj hc
  clear hc
  subst hd2
  subst hd1
  have h : rec_Take.fin 3 (0, 0, (wrap64 m1), (wrap64 m2), 0) f2 g2_ = some (r1, r2, r3, r4, r5, r6, r7, r8, r9) := h
  have HI := Aside0.mk hI
  have HB := Aside0.mk hB
  have H1 := Aside0.mk h1
  clear hI hB h1
  go_enter Try.func44, Try.ntmps44
  go_wp2_with (first | (go_at_call 27; (with_reducible refine (code_Reader_Fixed.calls k g s0_0 s0_1 1 n e0 e1 w0 _ ?side1 ?side2 H1.out).mono ?_); (case side1 => ((repeat (with_reducible first | apply IsS84.alloc | apply IsS84.drewN | apply IsS84.drew)); exact HI.out)); (case side2 => ((repeat (with_reducible first | apply below_alloc | apply pw_below_drewN | apply below_drew1)); exact HB.out)); rintro e w1 ⟨rfl, hi, hb, hk⟩) | (go_at_call 60; refine (Rc.fields_3 w1.heap.size 0 0 0 0 0 _ (Rc.rec_new w1 3 0 0 0 0 0)).mono ?_; rintro e w2 ⟨vl, vm, rfl, ⟨bl, rfl, hl, gl⟩, ⟨bm, rfl, hm, gm⟩, hq⟩; rw [Rc.size_alloc] at gl gm; have S0 : rec_Take.St w0 w w1 g w.heap.size w.heap.size e0 e1 #[.int .i64 0, .int .i64 0, .int .i64 0, .int .i64 0, .int .i64 0, .int .i64 0] #[.int .i64 0, .int .i64 0, .int .i64 0, .int .i64 0, .int .i64 0, .int .i64 0] := ⟨hi, hb, (keep_alloc (KeepBut.refl w g none) _).trans hk (.inl rfl), hk.blk (Rc.rec_new w 0 0 0 0 0 0) (by omega) (by simp), hk.blk (Rc.rec_new w 0 0 0 0 0 0) (by omega) (by simp)⟩; have gz : w.heap.size < w1.heap.size := (Nat.lt_of_lt_of_le (by rw [Rc.size_alloc]; omega) hk.1); have S1 := S0.below (below_alloc (Below.refl _ _) (.cells #[.int .i64 3, .int .i64 0, .int .i64 0, .int .i64 0, .int .i64 0, .int .i64 0] 58)); have S2 : rec_Take.St w0 w _ g w.heap.size w1.heap.size e0 e1 #[.int .i64 0, .int .i64 0, .int .i64 0, .int .i64 0, .int .i64 0, .int .i64 0] #[.int .i64 3, .int .i64 0, .int .i64 0, .int .i64 0, .int .i64 0, .int .i64 0] := ⟨S1.I, S1.B, S1.K, S1.z, Rc.rec_new w1 3 0 0 0 0 0⟩; have S := S2.below hq; clear S0 S1 S2 hi hb hk hq))
  refine wp_loop_rounds 3 ?_
  have p0 : w2.cell? ⟨bl, 0, none⟩ = some (.pointer (some ⟨w1.heap.size, 3, none⟩)) := (blk_cell hl 0).trans rfl
  have q0 : w2.cell? ⟨bm, 0, none⟩ = some (.int .i64 511) := (blk_cell hm 0).trans rfl
  rw [rounds_succ]
  go_wp2_with (go_at_call 20; (with_reducible refine (code_Reader_Num.calls k g e0 e1 511 m1 f1 g1_ w0 _ ?side1 ?side2 A1.out).mono ?_); (case side1 => exact S.I); (case side2 => exact S.B); rintro e v1 ⟨rfl, hi, hb, hk⟩; have S_ := S.num (by omega) (by omega) hi hb hk; have hl_ := hk.blk hl (by omega) (by simp); have hm_ := hk.blk hm (by omega) (by simp); clear S hl hm p0 q0 hi hb hk; have S := S_; have hl := hl_; have hm := hm_; clear S_ hl_ hm_; have x0 : v1.cell? ⟨w1.heap.size, 3, none⟩ = some (.int .i64 0) := (blk_cell S.x 3).trans rfl; have z0 := blk_frozen S.x 3)
  have S_ : rec_Take.St w0 w (v1.setCell ⟨w1.heap.size, 3, none⟩ (.int .i64 (wrap64 m1))) g w.heap.size w1.heap.size f1 g1_ #[.int .i64 0, .int .i64 0, .int .i64 0, .int .i64 0, .int .i64 0, .int .i64 0] #[.int .i64 3, .int .i64 0, .int .i64 0, .int .i64 (wrap64 m1), .int .i64 0, .int .i64 0] := S.setx hw0 (Nat.le_refl _) gz (by omega) 3 _
  have hl_ := blk_far hl (show bl ≠ (⟨w1.heap.size, 3, none⟩ : Addr).block by show bl ≠ w1.heap.size; omega) (.int .i64 (wrap64 m1))
  have hm_ := blk_far hm (show bm ≠ (⟨w1.heap.size, 3, none⟩ : Addr).block by show bm ≠ w1.heap.size; omega) (.int .i64 (wrap64 m1))
  clear S hl hm x0 z0
  generalize v1.setCell ⟨w1.heap.size, 3, none⟩ (.int .i64 (wrap64 m1)) = w3 at S_ hl_ hm_ ⊢
  have S := S_
  have hl := hl_
  have hm := hm_
  clear S_ hl_ hm_
  have p1 : w3.cell? ⟨bl, 1, none⟩ = some (.pointer (some ⟨w1.heap.size, 4, none⟩)) := (blk_cell hl 1).trans rfl
  have q1 : w3.cell? ⟨bm, 1, none⟩ = some (.int .i64 511) := (blk_cell hm 1).trans rfl
  rw [rounds_succ]
  go_wp2_with (go_at_call 20; (with_reducible refine (code_Reader_Num.calls k g f1 g1_ 511 m2 f2 g2_ w0 _ ?side1 ?side2 A2.out).mono ?_); (case side1 => exact S.I); (case side2 => exact S.B); rintro e v2 ⟨rfl, hi, hb, hk⟩; have S_ := S.num (by omega) (by omega) hi hb hk; have hl_ := hk.blk hl (by omega) (by simp); have hm_ := hk.blk hm (by omega) (by simp); clear S hl hm p1 q1 hi hb hk; have S := S_; have hl := hl_; have hm := hm_; clear S_ hl_ hm_; have x1 : v2.cell? ⟨w1.heap.size, 4, none⟩ = some (.int .i64 0) := (blk_cell S.x 4).trans rfl; have z1 := blk_frozen S.x 4)
  have S_ : rec_Take.St w0 w (v2.setCell ⟨w1.heap.size, 4, none⟩ (.int .i64 (wrap64 m2))) g w.heap.size w1.heap.size f2 g2_ #[.int .i64 0, .int .i64 0, .int .i64 0, .int .i64 0, .int .i64 0, .int .i64 0] #[.int .i64 3, .int .i64 0, .int .i64 0, .int .i64 (wrap64 m1), .int .i64 (wrap64 m2), .int .i64 0] := S.setx hw0 (Nat.le_refl _) gz (by omega) 4 _
  have hl_ := blk_far hl (show bl ≠ (⟨w1.heap.size, 4, none⟩ : Addr).block by show bl ≠ w1.heap.size; omega) (.int .i64 (wrap64 m2))
  have hm_ := blk_far hm (show bm ≠ (⟨w1.heap.size, 4, none⟩ : Addr).block by show bm ≠ w1.heap.size; omega) (.int .i64 (wrap64 m2))
  clear S hl hm x1 z1
  generalize v2.setCell ⟨w1.heap.size, 4, none⟩ (.int .i64 (wrap64 m2)) = w4 at S_ hl_ hm_ ⊢
  have S := S_
  have hl := hl_
  have hm := hm_
  clear S_ hl_ hm_
  rw [rounds_succ]
  unfold rec_Take.fin at h
  by_cases he : g2_ = 0
  · rw [if_pos he] at h
    have he1 : (g2_ != 0) = false := by rw [he]; rfl
    go_upto_region 10 with (go_at_call 24; (with_reducible refine (code_Reader_Err.calls g f2 g2_ g2_ f2 g2_ w0 _ ?side1 ?side2 rfl).mono ?_); (case side1 => ((repeat (with_reducible first | apply IsS84.alloc | apply IsS84.drewN | apply IsS84.drew)); exact S.I)); (case side2 => ((repeat (with_reducible first | apply below_alloc | apply pw_below_drewN | apply below_drew1)); exact S.B)); rintro e u1 ⟨rfl, hi, hb, hk⟩; have S_ := S.num (by omega) (by omega) hi hb hk; clear S hi hb hk; have S := S_; clear S_)
    obtain ⟨x0, x1, x2, x3, x4, x5⟩ := rec_Take.cells6 S.x
    cases hch : Rc.chk 3 0 0 (wrap64 m1) (wrap64 m2) 0
    · have h' := h
      simp only [hch] at h'
      simp only [if_false, Bool.false_eq_true, Option.some.injEq, Prod.mk.injEq] at h'
      obtain ⟨rfl, rfl, rfl, rfl, rfl, rfl, rfl, rfl, rfl⟩ := h'
      clear h
      go_wp2_with (go_at_call 41; refine (Rc.check_calls 3 0 0 (wrap64 m1) (wrap64 m2) 0 _).mono ?_; rintro e u2 ⟨rfl, hb⟩; have S_ := S.below hb; clear S hb x0 x1 x2 x3 x4 x5; have S := S_; clear S_; obtain ⟨y0, y1, y2, y3, y4, y5⟩ := rec_Take.cells6 S.x; obtain ⟨z0, z1, z2, z3, z4, z5⟩ := rec_Take.cells6 S.z; obtain ⟨zf0, zf1, zf2, zf3, zf4, zf5⟩ := rec_Take.froz6 S.z)
      have S6 : rec_Take.St w0 w _ g w.heap.size w1.heap.size f2 g2_ #[.int .i64 0, .int .i64 0, .int .i64 0, .int .i64 0, .int .i64 0, .int .i64 0] #[.int .i64 3, .int .i64 0, .int .i64 0, .int .i64 (wrap64 m1), .int .i64 (wrap64 m2), .int .i64 0] := (((((S.setz hw0 (Nat.le_refl _) gz lg 0 (.int .i64 0)).setz hw0 (Nat.le_refl _) gz lg 1 (.int .i64 0)).setz hw0 (Nat.le_refl _) gz lg 2 (.int .i64 0)).setz hw0 (Nat.le_refl _) gz lg 3 (.int .i64 0)).setz hw0 (Nat.le_refl _) gz lg 4 (.int .i64 0)).setz hw0 (Nat.le_refl _) gz lg 5 (.int .i64 0)
      refine bodyPost_ret (results_ct rfl _ _ w.heap.size 58 #[.int .i64 0, .int .i64 0, .int .i64 0, .int .i64 0, .int .i64 0, .int .i64 0] (0, 0) _ rfl S6.z Try.underlying58 rfl (by kernel_rfl)) rfl ?_
      exact ⟨rfl, S6.I, S6.B, S6.K⟩
    · have h' := h
      simp only [hch] at h'
      simp only [if_true, Option.some.injEq, Prod.mk.injEq] at h'
      obtain ⟨rfl, rfl, rfl, rfl, rfl, rfl, rfl, rfl, rfl⟩ := h'
      clear h
      go_wp2_with (go_at_call 41; refine (Rc.check_calls 3 0 0 (wrap64 m1) (wrap64 m2) 0 _).mono ?_; rintro e u2 ⟨rfl, hb⟩; have S_ := S.below hb; clear S hb x0 x1 x2 x3 x4 x5; have S := S_; clear S_; obtain ⟨y0, y1, y2, y3, y4, y5⟩ := rec_Take.cells6 S.x; obtain ⟨z0, z1, z2, z3, z4, z5⟩ := rec_Take.cells6 S.z; obtain ⟨zf0, zf1, zf2, zf3, zf4, zf5⟩ := rec_Take.froz6 S.z)
      have S6 : rec_Take.St w0 w _ g w.heap.size w1.heap.size f2 g2_ #[.int .i64 3, .int .i64 0, .int .i64 0, .int .i64 (wrap64 m1), .int .i64 (wrap64 m2), .int .i64 0] #[.int .i64 3, .int .i64 0, .int .i64 0, .int .i64 (wrap64 m1), .int .i64 (wrap64 m2), .int .i64 0] := (((((S.setz hw0 (Nat.le_refl _) gz lg 0 (.int .i64 3)).setz hw0 (Nat.le_refl _) gz lg 1 (.int .i64 0)).setz hw0 (Nat.le_refl _) gz lg 2 (.int .i64 0)).setz hw0 (Nat.le_refl _) gz lg 3 (.int .i64 (wrap64 m1))).setz hw0 (Nat.le_refl _) gz lg 4 (.int .i64 (wrap64 m2))).setz hw0 (Nat.le_refl _) gz lg 5 (.int .i64 0)
      refine bodyPost_ret (results_ct rfl _ _ w.heap.size 58 #[.int .i64 3, .int .i64 0, .int .i64 0, .int .i64 (wrap64 m1), .int .i64 (wrap64 m2), .int .i64 0] (0, 0) _ rfl S6.z Try.underlying58 rfl (by kernel_rfl)) rfl ?_
      exact ⟨rfl, S6.I, S6.B, S6.K⟩
  · rw [if_neg he] at h
    have he1 : (g2_ != 0) = true := bne_iff_ne.mpr he
    simp only [Option.some.injEq, Prod.mk.injEq] at h
    obtain ⟨rfl, rfl, rfl, rfl, rfl, rfl, rfl, rfl, rfl⟩ := h
    go_upto_region 9 with (go_at_call 24; (with_reducible refine (code_Reader_Err.calls g f2 g2_ g2_ f2 g2_ w0 _ ?side1 ?side2 rfl).mono ?_); (case side1 => ((repeat (with_reducible first | apply IsS84.alloc | apply IsS84.drewN | apply IsS84.drew)); exact S.I)); (case side2 => ((repeat (with_reducible first | apply below_alloc | apply pw_below_drewN | apply below_drew1)); exact S.B)); rintro e u1 ⟨rfl, hi, hb, hk⟩; have S_ := S.num (by omega) (by omega) hi hb hk; clear S hi hb hk; have S := S_; clear S_)
    go_wp2_with (go_at_call 24; (with_reducible refine (code_Reader_Err.calls g f2 g2_ g2_ f2 g2_ w0 _ ?side1 ?side2 rfl).mono ?_); (case side1 => ((repeat (with_reducible first | apply IsS84.alloc | apply IsS84.drewN | apply IsS84.drew)); exact S.I)); (case side2 => ((repeat (with_reducible first | apply below_alloc | apply pw_below_drewN | apply below_drew1)); exact S.B)); rintro e u2 ⟨rfl, hi, hb, hk⟩; have S_ := S.num (by omega) (by omega) hi hb hk; clear S hi hb hk; have S := S_; clear S_; obtain ⟨z0, z1, z2, z3, z4, z5⟩ := rec_Take.cells6 S.z; obtain ⟨zf0, zf1, zf2, zf3, zf4, zf5⟩ := rec_Take.froz6 S.z)
    have S6 : rec_Take.St w0 w _ g w.heap.size w1.heap.size f2 g2_ #[.int .i64 0, .int .i64 0, .int .i64 0, .int .i64 0, .int .i64 0, .int .i64 0] #[.int .i64 3, .int .i64 0, .int .i64 0, .int .i64 (wrap64 m1), .int .i64 (wrap64 m2), .int .i64 0] := (((((S.setz hw0 (Nat.le_refl _) gz lg 0 (.int .i64 0)).setz hw0 (Nat.le_refl _) gz lg 1 (.int .i64 0)).setz hw0 (Nat.le_refl _) gz lg 2 (.int .i64 0)).setz hw0 (Nat.le_refl _) gz lg 3 (.int .i64 0)).setz hw0 (Nat.le_refl _) gz lg 4 (.int .i64 0)).setz hw0 (Nat.le_refl _) gz lg 5 (.int .i64 0)
    refine bodyPost_ret (results_ct rfl _ _ w.heap.size 58 #[.int .i64 0, .int .i64 0, .int .i64 0, .int .i64 0, .int .i64 0, .int .i64 0] (0, 0) _ rfl S6.z Try.underlying58 rfl (by kernel_rfl)) rfl ?_
    exact ⟨rfl, S6.I, S6.B, S6.K⟩
set_option maxHeartbeats 16000000 in
set_option maxRecDepth 100000 in
theorem rec_Take.c4 (k : Nat) (g : Nat) (s0_0 : ByteArray) (s0_1 : Int) (r1 r2 r3 r4 r5 r6 r7 : Int) (r8 : ByteArray) (r9 : Int) (w0 w : World) (hI : IsS84 w0 w g s0_0 s0_1) (hB : Below w0.heap.size w0 w) (n : Int) (e0 : ByteArray) (e1 : Int) (h1 : code_Reader_Fixed.f k s0_0 s0_1 1 = some (n, e0, e1)) (hn : wrap64 n = 4)
    (h : (rec_Take.row k (Rc.mosts (wrap64 n)) e0 e1).bind (fun c => rec_Take.fin (wrap64 n) (Rc.mkR (wrap64 n) c.1) c.2.1 c.2.2) = some (r1, r2, r3, r4, r5, r6, r7, r8, r9)) :
    Calls Try.prog 44 #[.pointer (some ⟨g, 0, none⟩)] w fun e w' => e = .returned (.tuple #[.agg #[.int .i64 r1, .int .i64 r2, .int .i64 r3, .int .i64 r4, .int .i64 r5, .int .i64 r6], .int .i64 r7]) ∧ IsS84 w0 w' g r8 r9 ∧ Below w0.heap.size w0 w' ∧ KeepBut w w' g none := by
  have hw0 := hB.size
  have lg : g < w.heap.size := hI.lt
  rw [hn] at h
  obtain ⟨c, hc, h⟩ := Option.bind_eq_some_iff.mp h
  have hc : rec_Take.row k [15, 1024] e0 e1 = some c := hc
  obtain ⟨m1, f1, g1_, d1, a1, hc, hd1⟩ := rec_Take.step hc
  have A1 := Aside0.mk a1
  clear a1
  obtain ⟨m2, f2, g2_, d2, a2, hc, hd2⟩ := rec_Take.step hc
  have A2 := Aside0.mk a2
  clear a2
  obtain rfl := Option.some.inj hc
  clear hc
  subst hd2
  subst hd1
  have h : rec_Take.fin 4 ((wrap64 m1), 0, 0, 0, (wrap64 m2)) f2 g2_ = some (r1, r2, r3, r4, r5, r6, r7, r8, r9) := h
  have HI := Aside0.mk hI
  have HB := Aside0.mk hB
  have H1 := Aside0.mk h1
  clear hI hB h1
  go_enter Try.func44, Try.ntmps44
  go_wp2_with (first | (go_at_call 27; (with_reducible refine (code_Reader_Fixed.calls k g s0_0 s0_1 1 n e0 e1 w0 _ ?side1 ?side2 H1.out).mono ?_); (case side1 => ((repeat (with_reducible first | apply IsS84.alloc | apply IsS84.drewN | apply IsS84.drew)); exact HI.out)); (case side2 => ((repeat (with_reducible first | apply below_alloc | apply pw_below_drewN | apply below_drew1)); exact HB.out)); rintro e w1 ⟨rfl, hi, hb, hk⟩) | (go_at_call 60; refine (Rc.fields_4 w1.heap.size 0 0 0 0 0 _ (Rc.rec_new w1 4 0 0 0 0 0)).mono ?_; rintro e w2 ⟨vl, vm, rfl, ⟨bl, rfl, hl, gl⟩, ⟨bm, rfl, hm, gm⟩, hq⟩; rw [Rc.size_alloc] at gl gm; have S0 : rec_Take.St w0 w w1 g w.heap.size w.heap.size e0 e1 #[.int .i64 0, .int .i64 0, .int .i64 0, .int .i64 0, .int .i64 0, .int .i64 0] #[.int .i64 0, .int .i64 0, .int .i64 0, .int .i64 0, .int .i64 0, .int .i64 0] := ⟨hi, hb, (keep_alloc (KeepBut.refl w g none) _).trans hk (.inl rfl), hk.blk (Rc.rec_new w 0 0 0 0 0 0) (by omega) (by simp), hk.blk (Rc.rec_new w 0 0 0 0 0 0) (by omega) (by simp)⟩; have gz : w.heap.size < w1.heap.size := (Nat.lt_of_lt_of_le (by rw [Rc.size_alloc]; omega) hk.1); have S1 := S0.below (below_alloc (Below.refl _ _) (.cells #[.int .i64 4, .int .i64 0, .int .i64 0, .int .i64 0, .int .i64 0, .int .i64 0] 58)); have S2 : rec_Take.St w0 w _ g w.heap.size w1.heap.size e0 e1 #[.int .i64 0, .int .i64 0, .int .i64 0, .int .i64 0, .int .i64 0, .int .i64 0] #[.int .i64 4, .int .i64 0, .int .i64 0, .int .i64 0, .int .i64 0, .int .i64 0] := ⟨S1.I, S1.B, S1.K, S1.z, Rc.rec_new w1 4 0 0 0 0 0⟩; have S := S2.below hq; clear S0 S1 S2 hi hb hk hq))
  refine wp_loop_rounds 3 ?_
  have p0 : w2.cell? ⟨bl, 0, none⟩ = some (.pointer (some ⟨w1.heap.size, 1, none⟩)) := (blk_cell hl 0).trans rfl
  have q0 : w2.cell? ⟨bm, 0, none⟩ = some (.int .i64 15) := (blk_cell hm 0).trans rfl
  rw [rounds_succ]
  go_wp2_with (go_at_call 20; (with_reducible refine (code_Reader_Num.calls k g e0 e1 15 m1 f1 g1_ w0 _ ?side1 ?side2 A1.out).mono ?_); (case side1 => exact S.I); (case side2 => exact S.B); rintro e v1 ⟨rfl, hi, hb, hk⟩; have S_ := S.num (by omega) (by omega) hi hb hk; have hl_ := hk.blk hl (by omega) (by simp); have hm_ := hk.blk hm (by omega) (by simp); clear S hl hm p0 q0 hi hb hk; have S := S_; have hl := hl_; have hm := hm_; clear S_ hl_ hm_; have x0 : v1.cell? ⟨w1.heap.size, 1, none⟩ = some (.int .i64 0) := (blk_cell S.x 1).trans rfl; have z0 := blk_frozen S.x 1)
  have S_ : rec_Take.St w0 w (v1.setCell ⟨w1.heap.size, 1, none⟩ (.int .i64 (wrap64 m1))) g w.heap.size w1.heap.size f1 g1_ #[.int .i64 0, .int .i64 0, .int .i64 0, .int .i64 0, .int .i64 0, .int .i64 0] #[.int .i64 4, .int .i64 (wrap64 m1), .int .i64 0, .int .i64 0, .int .i64 0, .int .i64 0] := S.setx hw0 (Nat.le_refl _) gz (by omega) 1 _
  have hl_ := blk_far hl (show bl ≠ (⟨w1.heap.size, 1, none⟩ : Addr).block by show bl ≠ w1.heap.size; omega) (.int .i64 (wrap64 m1))
  have hm_ := blk_far hm (show bm ≠ (⟨w1.heap.size, 1, none⟩ : Addr).block by show bm ≠ w1.heap.size; omega) (.int .i64 (wrap64 m1))
  clear S hl hm x0 z0
  generalize v1.setCell ⟨w1.heap.size, 1, none⟩ (.int .i64 (wrap64 m1)) = w3 at S_ hl_ hm_ ⊢
  have S := S_
  have hl := hl_
  have hm := hm_
  clear S_ hl_ hm_
  have p1 : w3.cell? ⟨bl, 1, none⟩ = some (.pointer (some ⟨w1.heap.size, 5, none⟩)) := (blk_cell hl 1).trans rfl
  have q1 : w3.cell? ⟨bm, 1, none⟩ = some (.int .i64 1024) := (blk_cell hm 1).trans rfl
  rw [rounds_succ]
  go_wp2_with (go_at_call 20; (with_reducible refine (code_Reader_Num.calls k g f1 g1_ 1024 m2 f2 g2_ w0 _ ?side1 ?side2 A2.out).mono ?_); (case side1 => exact S.I); (case side2 => exact S.B); rintro e v2 ⟨rfl, hi, hb, hk⟩; have S_ := S.num (by omega) (by omega) hi hb hk; have hl_ := hk.blk hl (by omega) (by simp); have hm_ := hk.blk hm (by omega) (by simp); clear S hl hm p1 q1 hi hb hk; have S := S_; have hl := hl_; have hm := hm_; clear S_ hl_ hm_; have x1 : v2.cell? ⟨w1.heap.size, 5, none⟩ = some (.int .i64 0) := (blk_cell S.x 5).trans rfl; have z1 := blk_frozen S.x 5)
  have S_ : rec_Take.St w0 w (v2.setCell ⟨w1.heap.size, 5, none⟩ (.int .i64 (wrap64 m2))) g w.heap.size w1.heap.size f2 g2_ #[.int .i64 0, .int .i64 0, .int .i64 0, .int .i64 0, .int .i64 0, .int .i64 0] #[.int .i64 4, .int .i64 (wrap64 m1), .int .i64 0, .int .i64 0, .int .i64 0, .int .i64 (wrap64 m2)] := S.setx hw0 (Nat.le_refl _) gz (by omega) 5 _
  have hl_ := blk_far hl (show bl ≠ (⟨w1.heap.size, 5, none⟩ : Addr).block by show bl ≠ w1.heap.size; omega) (.int .i64 (wrap64 m2))
  have hm_ := blk_far hm (show bm ≠ (⟨w1.heap.size, 5, none⟩ : Addr).block by show bm ≠ w1.heap.size; omega) (.int .i64 (wrap64 m2))
  clear S hl hm x1 z1
  generalize v2.setCell ⟨w1.heap.size, 5, none⟩ (.int .i64 (wrap64 m2)) = w4 at S_ hl_ hm_ ⊢
  have S := S_
  have hl := hl_
  have hm := hm_
  clear S_ hl_ hm_
  rw [rounds_succ]
  unfold rec_Take.fin at h
  by_cases he : g2_ = 0
  · rw [if_pos he] at h
    have he1 : (g2_ != 0) = false := by rw [he]; rfl
    go_upto_region 10 with (go_at_call 24; (with_reducible refine (code_Reader_Err.calls g f2 g2_ g2_ f2 g2_ w0 _ ?side1 ?side2 rfl).mono ?_); (case side1 => ((repeat (with_reducible first | apply IsS84.alloc | apply IsS84.drewN | apply IsS84.drew)); exact S.I)); (case side2 => ((repeat (with_reducible first | apply below_alloc | apply pw_below_drewN | apply below_drew1)); exact S.B)); rintro e u1 ⟨rfl, hi, hb, hk⟩; have S_ := S.num (by omega) (by omega) hi hb hk; clear S hi hb hk; have S := S_; clear S_)
    obtain ⟨x0, x1, x2, x3, x4, x5⟩ := rec_Take.cells6 S.x
    cases hch : Rc.chk 4 (wrap64 m1) 0 0 0 (wrap64 m2)
    · have h' := h
      simp only [hch] at h'
      simp only [if_false, Bool.false_eq_true, Option.some.injEq, Prod.mk.injEq] at h'
      obtain ⟨rfl, rfl, rfl, rfl, rfl, rfl, rfl, rfl, rfl⟩ := h'
      clear h
      go_wp2_with (go_at_call 41; refine (Rc.check_calls 4 (wrap64 m1) 0 0 0 (wrap64 m2) _).mono ?_; rintro e u2 ⟨rfl, hb⟩; have S_ := S.below hb; clear S hb x0 x1 x2 x3 x4 x5; have S := S_; clear S_; obtain ⟨y0, y1, y2, y3, y4, y5⟩ := rec_Take.cells6 S.x; obtain ⟨z0, z1, z2, z3, z4, z5⟩ := rec_Take.cells6 S.z; obtain ⟨zf0, zf1, zf2, zf3, zf4, zf5⟩ := rec_Take.froz6 S.z)
      have S6 : rec_Take.St w0 w _ g w.heap.size w1.heap.size f2 g2_ #[.int .i64 0, .int .i64 0, .int .i64 0, .int .i64 0, .int .i64 0, .int .i64 0] #[.int .i64 4, .int .i64 (wrap64 m1), .int .i64 0, .int .i64 0, .int .i64 0, .int .i64 (wrap64 m2)] := (((((S.setz hw0 (Nat.le_refl _) gz lg 0 (.int .i64 0)).setz hw0 (Nat.le_refl _) gz lg 1 (.int .i64 0)).setz hw0 (Nat.le_refl _) gz lg 2 (.int .i64 0)).setz hw0 (Nat.le_refl _) gz lg 3 (.int .i64 0)).setz hw0 (Nat.le_refl _) gz lg 4 (.int .i64 0)).setz hw0 (Nat.le_refl _) gz lg 5 (.int .i64 0)
      refine bodyPost_ret (results_ct rfl _ _ w.heap.size 58 #[.int .i64 0, .int .i64 0, .int .i64 0, .int .i64 0, .int .i64 0, .int .i64 0] (0, 0) _ rfl S6.z Try.underlying58 rfl (by kernel_rfl)) rfl ?_
      exact ⟨rfl, S6.I, S6.B, S6.K⟩
    · have h' := h
      simp only [hch] at h'
      simp only [if_true, Option.some.injEq, Prod.mk.injEq] at h'
      obtain ⟨rfl, rfl, rfl, rfl, rfl, rfl, rfl, rfl, rfl⟩ := h'
      clear h
      go_wp2_with (go_at_call 41; refine (Rc.check_calls 4 (wrap64 m1) 0 0 0 (wrap64 m2) _).mono ?_; rintro e u2 ⟨rfl, hb⟩; have S_ := S.below hb; clear S hb x0 x1 x2 x3 x4 x5; have S := S_; clear S_; obtain ⟨y0, y1, y2, y3, y4, y5⟩ := rec_Take.cells6 S.x; obtain ⟨z0, z1, z2, z3, z4, z5⟩ := rec_Take.cells6 S.z; obtain ⟨zf0, zf1, zf2, zf3, zf4, zf5⟩ := rec_Take.froz6 S.z)
      have S6 : rec_Take.St w0 w _ g w.heap.size w1.heap.size f2 g2_ #[.int .i64 4, .int .i64 (wrap64 m1), .int .i64 0, .int .i64 0, .int .i64 0, .int .i64 (wrap64 m2)] #[.int .i64 4, .int .i64 (wrap64 m1), .int .i64 0, .int .i64 0, .int .i64 0, .int .i64 (wrap64 m2)] := (((((S.setz hw0 (Nat.le_refl _) gz lg 0 (.int .i64 4)).setz hw0 (Nat.le_refl _) gz lg 1 (.int .i64 (wrap64 m1))).setz hw0 (Nat.le_refl _) gz lg 2 (.int .i64 0)).setz hw0 (Nat.le_refl _) gz lg 3 (.int .i64 0)).setz hw0 (Nat.le_refl _) gz lg 4 (.int .i64 0)).setz hw0 (Nat.le_refl _) gz lg 5 (.int .i64 (wrap64 m2))
      refine bodyPost_ret (results_ct rfl _ _ w.heap.size 58 #[.int .i64 4, .int .i64 (wrap64 m1), .int .i64 0, .int .i64 0, .int .i64 0, .int .i64 (wrap64 m2)] (0, 0) _ rfl S6.z Try.underlying58 rfl (by kernel_rfl)) rfl ?_
      exact ⟨rfl, S6.I, S6.B, S6.K⟩
  · rw [if_neg he] at h
    have he1 : (g2_ != 0) = true := bne_iff_ne.mpr he
    simp only [Option.some.injEq, Prod.mk.injEq] at h
    obtain ⟨rfl, rfl, rfl, rfl, rfl, rfl, rfl, rfl, rfl⟩ := h
    go_upto_region 9 with (go_at_call 24; (with_reducible refine (code_Reader_Err.calls g f2 g2_ g2_ f2 g2_ w0 _ ?side1 ?side2 rfl).mono ?_); (case side1 => ((repeat (with_reducible first | apply IsS84.alloc | apply IsS84.drewN | apply IsS84.drew)); exact S.I)); (case side2 => ((repeat (with_reducible first | apply below_alloc | apply pw_below_drewN | apply below_drew1)); exact S.B)); rintro e u1 ⟨rfl, hi, hb, hk⟩; have S_ := S.num (by omega) (by omega) hi hb hk; clear S hi hb hk; have S := S_; clear S_)
    go_wp2_with (go_at_call 24; (with_reducible refine (code_Reader_Err.calls g f2 g2_ g2_ f2 g2_ w0 _ ?side1 ?side2 rfl).mono ?_); (case side1 => ((repeat (with_reducible first | apply IsS84.alloc | apply IsS84.drewN | apply IsS84.drew)); exact S.I)); (case side2 => ((repeat (with_reducible first | apply below_alloc | apply pw_below_drewN | apply below_drew1)); exact S.B)); rintro e u2 ⟨rfl, hi, hb, hk⟩; have S_ := S.num (by omega) (by omega) hi hb hk; clear S hi hb hk; have S := S_; clear S_; obtain ⟨z0, z1, z2, z3, z4, z5⟩ := rec_Take.cells6 S.z; obtain ⟨zf0, zf1, zf2, zf3, zf4, zf5⟩ := rec_Take.froz6 S.z)
    have S6 : rec_Take.St w0 w _ g w.heap.size w1.heap.size f2 g2_ #[.int .i64 0, .int .i64 0, .int .i64 0, .int .i64 0, .int .i64 0, .int .i64 0] #[.int .i64 4, .int .i64 (wrap64 m1), .int .i64 0, .int .i64 0, .int .i64 0, .int .i64 (wrap64 m2)] := (((((S.setz hw0 (Nat.le_refl _) gz lg 0 (.int .i64 0)).setz hw0 (Nat.le_refl _) gz lg 1 (.int .i64 0)).setz hw0 (Nat.le_refl _) gz lg 2 (.int .i64 0)).setz hw0 (Nat.le_refl _) gz lg 3 (.int .i64 0)).setz hw0 (Nat.le_refl _) gz lg 4 (.int .i64 0)).setz hw0 (Nat.le_refl _) gz lg 5 (.int .i64 0)
    refine bodyPost_ret (results_ct rfl _ _ w.heap.size 58 #[.int .i64 0, .int .i64 0, .int .i64 0, .int .i64 0, .int .i64 0, .int .i64 0] (0, 0) _ rfl S6.z Try.underlying58 rfl (by kernel_rfl)) rfl ?_
    exact ⟨rfl, S6.I, S6.B, S6.K⟩
set_option maxHeartbeats 16000000 in
set_option maxRecDepth 100000 in
theorem rec_Take.c5 (k : Nat) (g : Nat) (s0_0 : ByteArray) (s0_1 : Int) (r1 r2 r3 r4 r5 r6 r7 : Int) (r8 : ByteArray) (r9 : Int) (w0 w : World) (hI : IsS84 w0 w g s0_0 s0_1) (hB : Below w0.heap.size w0 w) (n : Int) (e0 : ByteArray) (e1 : Int) (h1 : code_Reader_Fixed.f k s0_0 s0_1 1 = some (n, e0, e1)) (hn : wrap64 n = 5)
    (h : (rec_Take.row k (Rc.mosts (wrap64 n)) e0 e1).bind (fun c => rec_Take.fin (wrap64 n) (Rc.mkR (wrap64 n) c.1) c.2.1 c.2.2) = some (r1, r2, r3, r4, r5, r6, r7, r8, r9)) :
    Calls Try.prog 44 #[.pointer (some ⟨g, 0, none⟩)] w fun e w' => e = .returned (.tuple #[.agg #[.int .i64 r1, .int .i64 r2, .int .i64 r3, .int .i64 r4, .int .i64 r5, .int .i64 r6], .int .i64 r7]) ∧ IsS84 w0 w' g r8 r9 ∧ Below w0.heap.size w0 w' ∧ KeepBut w w' g none := by
  have hw0 := hB.size
  have lg : g < w.heap.size := hI.lt
  rw [hn] at h
  obtain ⟨c, hc, h⟩ := Option.bind_eq_some_iff.mp h
  have hc : rec_Take.row k [15] e0 e1 = some c := hc
  obtain ⟨m1, f1, g1_, d1, a1, hc, hd1⟩ := rec_Take.step hc
  have A1 := Aside0.mk a1
  clear a1
  obtain rfl := Option.some.inj hc
  clear hc
  subst hd1
  have h : rec_Take.fin 5 ((wrap64 m1), 0, 0, 0, 0) f1 g1_ = some (r1, r2, r3, r4, r5, r6, r7, r8, r9) := h
  have HI := Aside0.mk hI
  have HB := Aside0.mk hB
  have H1 := Aside0.mk h1
  clear hI hB h1
  go_enter Try.func44, Try.ntmps44
  go_wp2_with (first | (go_at_call 27; (with_reducible refine (code_Reader_Fixed.calls k g s0_0 s0_1 1 n e0 e1 w0 _ ?side1 ?side2 H1.out).mono ?_); (case side1 => ((repeat (with_reducible first | apply IsS84.alloc | apply IsS84.drewN | apply IsS84.drew)); exact HI.out)); (case side2 => ((repeat (with_reducible first | apply below_alloc | apply pw_below_drewN | apply below_drew1)); exact HB.out)); rintro e w1 ⟨rfl, hi, hb, hk⟩) | (go_at_call 60; refine (Rc.fields_5 w1.heap.size 0 0 0 0 0 _ (Rc.rec_new w1 5 0 0 0 0 0)).mono ?_; rintro e w2 ⟨vl, vm, rfl, ⟨bl, rfl, hl, gl⟩, ⟨bm, rfl, hm, gm⟩, hq⟩; rw [Rc.size_alloc] at gl gm; have S0 : rec_Take.St w0 w w1 g w.heap.size w.heap.size e0 e1 #[.int .i64 0, .int .i64 0, .int .i64 0, .int .i64 0, .int .i64 0, .int .i64 0] #[.int .i64 0, .int .i64 0, .int .i64 0, .int .i64 0, .int .i64 0, .int .i64 0] := ⟨hi, hb, (keep_alloc (KeepBut.refl w g none) _).trans hk (.inl rfl), hk.blk (Rc.rec_new w 0 0 0 0 0 0) (by omega) (by simp), hk.blk (Rc.rec_new w 0 0 0 0 0 0) (by omega) (by simp)⟩; have gz : w.heap.size < w1.heap.size := (Nat.lt_of_lt_of_le (by rw [Rc.size_alloc]; omega) hk.1); have S1 := S0.below (below_alloc (Below.refl _ _) (.cells #[.int .i64 5, .int .i64 0, .int .i64 0, .int .i64 0, .int .i64 0, .int .i64 0] 58)); have S2 : rec_Take.St w0 w _ g w.heap.size w1.heap.size e0 e1 #[.int .i64 0, .int .i64 0, .int .i64 0, .int .i64 0, .int .i64 0, .int .i64 0] #[.int .i64 5, .int .i64 0, .int .i64 0, .int .i64 0, .int .i64 0, .int .i64 0] := ⟨S1.I, S1.B, S1.K, S1.z, Rc.rec_new w1 5 0 0 0 0 0⟩; have S := S2.below hq; clear S0 S1 S2 hi hb hk hq))
  refine wp_loop_rounds 2 ?_
  have p0 : w2.cell? ⟨bl, 0, none⟩ = some (.pointer (some ⟨w1.heap.size, 1, none⟩)) := (blk_cell hl 0).trans rfl
  have q0 : w2.cell? ⟨bm, 0, none⟩ = some (.int .i64 15) := (blk_cell hm 0).trans rfl
  rw [rounds_succ]
  go_wp2_with (go_at_call 20; (with_reducible refine (code_Reader_Num.calls k g e0 e1 15 m1 f1 g1_ w0 _ ?side1 ?side2 A1.out).mono ?_); (case side1 => exact S.I); (case side2 => exact S.B); rintro e v1 ⟨rfl, hi, hb, hk⟩; have S_ := S.num (by omega) (by omega) hi hb hk; have hl_ := hk.blk hl (by omega) (by simp); have hm_ := hk.blk hm (by omega) (by simp); clear S hl hm p0 q0 hi hb hk; have S := S_; have hl := hl_; have hm := hm_; clear S_ hl_ hm_; have x0 : v1.cell? ⟨w1.heap.size, 1, none⟩ = some (.int .i64 0) := (blk_cell S.x 1).trans rfl; have z0 := blk_frozen S.x 1)
  have S_ : rec_Take.St w0 w (v1.setCell ⟨w1.heap.size, 1, none⟩ (.int .i64 (wrap64 m1))) g w.heap.size w1.heap.size f1 g1_ #[.int .i64 0, .int .i64 0, .int .i64 0, .int .i64 0, .int .i64 0, .int .i64 0] #[.int .i64 5, .int .i64 (wrap64 m1), .int .i64 0, .int .i64 0, .int .i64 0, .int .i64 0] := S.setx hw0 (Nat.le_refl _) gz (by omega) 1 _
  have hl_ := blk_far hl (show bl ≠ (⟨w1.heap.size, 1, none⟩ : Addr).block by show bl ≠ w1.heap.size; omega) (.int .i64 (wrap64 m1))
  have hm_ := blk_far hm (show bm ≠ (⟨w1.heap.size, 1, none⟩ : Addr).block by show bm ≠ w1.heap.size; omega) (.int .i64 (wrap64 m1))
  clear S hl hm x0 z0
  generalize v1.setCell ⟨w1.heap.size, 1, none⟩ (.int .i64 (wrap64 m1)) = w3 at S_ hl_ hm_ ⊢
  have S := S_
  have hl := hl_
  have hm := hm_
  clear S_ hl_ hm_
  rw [rounds_succ]
  unfold rec_Take.fin at h
  by_cases he : g1_ = 0
  · rw [if_pos he] at h
    have he1 : (g1_ != 0) = false := by rw [he]; rfl
    go_upto_region 10 with (go_at_call 24; (with_reducible refine (code_Reader_Err.calls g f1 g1_ g1_ f1 g1_ w0 _ ?side1 ?side2 rfl).mono ?_); (case side1 => ((repeat (with_reducible first | apply IsS84.alloc | apply IsS84.drewN | apply IsS84.drew)); exact S.I)); (case side2 => ((repeat (with_reducible first | apply below_alloc | apply pw_below_drewN | apply below_drew1)); exact S.B)); rintro e u1 ⟨rfl, hi, hb, hk⟩; have S_ := S.num (by omega) (by omega) hi hb hk; clear S hi hb hk; have S := S_; clear S_)
    obtain ⟨x0, x1, x2, x3, x4, x5⟩ := rec_Take.cells6 S.x
    cases hch : Rc.chk 5 (wrap64 m1) 0 0 0 0
    · have h' := h
      simp only [hch] at h'
      simp only [if_false, Bool.false_eq_true, Option.some.injEq, Prod.mk.injEq] at h'
      obtain ⟨rfl, rfl, rfl, rfl, rfl, rfl, rfl, rfl, rfl⟩ := h'
      clear h
      go_wp2_with (go_at_call 41; refine (Rc.check_calls 5 (wrap64 m1) 0 0 0 0 _).mono ?_; rintro e u2 ⟨rfl, hb⟩; have S_ := S.below hb; clear S hb x0 x1 x2 x3 x4 x5; have S := S_; clear S_; obtain ⟨y0, y1, y2, y3, y4, y5⟩ := rec_Take.cells6 S.x; obtain ⟨z0, z1, z2, z3, z4, z5⟩ := rec_Take.cells6 S.z; obtain ⟨zf0, zf1, zf2, zf3, zf4, zf5⟩ := rec_Take.froz6 S.z)
      have S6 : rec_Take.St w0 w _ g w.heap.size w1.heap.size f1 g1_ #[.int .i64 0, .int .i64 0, .int .i64 0, .int .i64 0, .int .i64 0, .int .i64 0] #[.int .i64 5, .int .i64 (wrap64 m1), .int .i64 0, .int .i64 0, .int .i64 0, .int .i64 0] := (((((S.setz hw0 (Nat.le_refl _) gz lg 0 (.int .i64 0)).setz hw0 (Nat.le_refl _) gz lg 1 (.int .i64 0)).setz hw0 (Nat.le_refl _) gz lg 2 (.int .i64 0)).setz hw0 (Nat.le_refl _) gz lg 3 (.int .i64 0)).setz hw0 (Nat.le_refl _) gz lg 4 (.int .i64 0)).setz hw0 (Nat.le_refl _) gz lg 5 (.int .i64 0)
      refine bodyPost_ret (results_ct rfl _ _ w.heap.size 58 #[.int .i64 0, .int .i64 0, .int .i64 0, .int .i64 0, .int .i64 0, .int .i64 0] (0, 0) _ rfl S6.z Try.underlying58 rfl (by kernel_rfl)) rfl ?_
      exact ⟨rfl, S6.I, S6.B, S6.K⟩
    · have h' := h
      simp only [hch] at h'
      simp only [if_true, Option.some.injEq, Prod.mk.injEq] at h'
      obtain ⟨rfl, rfl, rfl, rfl, rfl, rfl, rfl, rfl, rfl⟩ := h'
      clear h
      go_wp2_with (go_at_call 41; refine (Rc.check_calls 5 (wrap64 m1) 0 0 0 0 _).mono ?_; rintro e u2 ⟨rfl, hb⟩; have S_ := S.below hb; clear S hb x0 x1 x2 x3 x4 x5; have S := S_; clear S_; obtain ⟨y0, y1, y2, y3, y4, y5⟩ := rec_Take.cells6 S.x; obtain ⟨z0, z1, z2, z3, z4, z5⟩ := rec_Take.cells6 S.z; obtain ⟨zf0, zf1, zf2, zf3, zf4, zf5⟩ := rec_Take.froz6 S.z)
      have S6 : rec_Take.St w0 w _ g w.heap.size w1.heap.size f1 g1_ #[.int .i64 5, .int .i64 (wrap64 m1), .int .i64 0, .int .i64 0, .int .i64 0, .int .i64 0] #[.int .i64 5, .int .i64 (wrap64 m1), .int .i64 0, .int .i64 0, .int .i64 0, .int .i64 0] := (((((S.setz hw0 (Nat.le_refl _) gz lg 0 (.int .i64 5)).setz hw0 (Nat.le_refl _) gz lg 1 (.int .i64 (wrap64 m1))).setz hw0 (Nat.le_refl _) gz lg 2 (.int .i64 0)).setz hw0 (Nat.le_refl _) gz lg 3 (.int .i64 0)).setz hw0 (Nat.le_refl _) gz lg 4 (.int .i64 0)).setz hw0 (Nat.le_refl _) gz lg 5 (.int .i64 0)
      refine bodyPost_ret (results_ct rfl _ _ w.heap.size 58 #[.int .i64 5, .int .i64 (wrap64 m1), .int .i64 0, .int .i64 0, .int .i64 0, .int .i64 0] (0, 0) _ rfl S6.z Try.underlying58 rfl (by kernel_rfl)) rfl ?_
      exact ⟨rfl, S6.I, S6.B, S6.K⟩
  · rw [if_neg he] at h
    have he1 : (g1_ != 0) = true := bne_iff_ne.mpr he
    simp only [Option.some.injEq, Prod.mk.injEq] at h
    obtain ⟨rfl, rfl, rfl, rfl, rfl, rfl, rfl, rfl, rfl⟩ := h
    go_upto_region 9 with (go_at_call 24; (with_reducible refine (code_Reader_Err.calls g f1 g1_ g1_ f1 g1_ w0 _ ?side1 ?side2 rfl).mono ?_); (case side1 => ((repeat (with_reducible first | apply IsS84.alloc | apply IsS84.drewN | apply IsS84.drew)); exact S.I)); (case side2 => ((repeat (with_reducible first | apply below_alloc | apply pw_below_drewN | apply below_drew1)); exact S.B)); rintro e u1 ⟨rfl, hi, hb, hk⟩; have S_ := S.num (by omega) (by omega) hi hb hk; clear S hi hb hk; have S := S_; clear S_)
    go_wp2_with (go_at_call 24; (with_reducible refine (code_Reader_Err.calls g f1 g1_ g1_ f1 g1_ w0 _ ?side1 ?side2 rfl).mono ?_); (case side1 => ((repeat (with_reducible first | apply IsS84.alloc | apply IsS84.drewN | apply IsS84.drew)); exact S.I)); (case side2 => ((repeat (with_reducible first | apply below_alloc | apply pw_below_drewN | apply below_drew1)); exact S.B)); rintro e u2 ⟨rfl, hi, hb, hk⟩; have S_ := S.num (by omega) (by omega) hi hb hk; clear S hi hb hk; have S := S_; clear S_; obtain ⟨z0, z1, z2, z3, z4, z5⟩ := rec_Take.cells6 S.z; obtain ⟨zf0, zf1, zf2, zf3, zf4, zf5⟩ := rec_Take.froz6 S.z)
    have S6 : rec_Take.St w0 w _ g w.heap.size w1.heap.size f1 g1_ #[.int .i64 0, .int .i64 0, .int .i64 0, .int .i64 0, .int .i64 0, .int .i64 0] #[.int .i64 5, .int .i64 (wrap64 m1), .int .i64 0, .int .i64 0, .int .i64 0, .int .i64 0] := (((((S.setz hw0 (Nat.le_refl _) gz lg 0 (.int .i64 0)).setz hw0 (Nat.le_refl _) gz lg 1 (.int .i64 0)).setz hw0 (Nat.le_refl _) gz lg 2 (.int .i64 0)).setz hw0 (Nat.le_refl _) gz lg 3 (.int .i64 0)).setz hw0 (Nat.le_refl _) gz lg 4 (.int .i64 0)).setz hw0 (Nat.le_refl _) gz lg 5 (.int .i64 0)
    refine bodyPost_ret (results_ct rfl _ _ w.heap.size 58 #[.int .i64 0, .int .i64 0, .int .i64 0, .int .i64 0, .int .i64 0, .int .i64 0] (0, 0) _ rfl S6.z Try.underlying58 rfl (by kernel_rfl)) rfl ?_
    exact ⟨rfl, S6.I, S6.B, S6.K⟩
set_option maxHeartbeats 16000000 in
set_option maxRecDepth 100000 in
theorem rec_Take.c6 (k : Nat) (g : Nat) (s0_0 : ByteArray) (s0_1 : Int) (r1 r2 r3 r4 r5 r6 r7 : Int) (r8 : ByteArray) (r9 : Int) (w0 w : World) (hI : IsS84 w0 w g s0_0 s0_1) (hB : Below w0.heap.size w0 w) (n : Int) (e0 : ByteArray) (e1 : Int) (h1 : code_Reader_Fixed.f k s0_0 s0_1 1 = some (n, e0, e1)) (hn : wrap64 n = 6)
    (h : (rec_Take.row k (Rc.mosts (wrap64 n)) e0 e1).bind (fun c => rec_Take.fin (wrap64 n) (Rc.mkR (wrap64 n) c.1) c.2.1 c.2.2) = some (r1, r2, r3, r4, r5, r6, r7, r8, r9)) :
    Calls Try.prog 44 #[.pointer (some ⟨g, 0, none⟩)] w fun e w' => e = .returned (.tuple #[.agg #[.int .i64 r1, .int .i64 r2, .int .i64 r3, .int .i64 r4, .int .i64 r5, .int .i64 r6], .int .i64 r7]) ∧ IsS84 w0 w' g r8 r9 ∧ Below w0.heap.size w0 w' ∧ KeepBut w w' g none := by
  have hw0 := hB.size
  have lg : g < w.heap.size := hI.lt
  rw [hn] at h
  obtain ⟨c, hc, h⟩ := Option.bind_eq_some_iff.mp h
  have hc : rec_Take.row k [15, 15] e0 e1 = some c := hc
  obtain ⟨m1, f1, g1_, d1, a1, hc, hd1⟩ := rec_Take.step hc
  have A1 := Aside0.mk a1
  clear a1
  obtain ⟨m2, f2, g2_, d2, a2, hc, hd2⟩ := rec_Take.step hc
  have A2 := Aside0.mk a2
  clear a2
  obtain rfl := Option.some.inj hc
  clear hc
  subst hd2
  subst hd1
  have h : rec_Take.fin 6 ((wrap64 m1), 0, 0, (wrap64 m2), 0) f2 g2_ = some (r1, r2, r3, r4, r5, r6, r7, r8, r9) := h
  have HI := Aside0.mk hI
  have HB := Aside0.mk hB
  have H1 := Aside0.mk h1
  clear hI hB h1
  go_enter Try.func44, Try.ntmps44
  go_wp2_with (first | (go_at_call 27; (with_reducible refine (code_Reader_Fixed.calls k g s0_0 s0_1 1 n e0 e1 w0 _ ?side1 ?side2 H1.out).mono ?_); (case side1 => ((repeat (with_reducible first | apply IsS84.alloc | apply IsS84.drewN | apply IsS84.drew)); exact HI.out)); (case side2 => ((repeat (with_reducible first | apply below_alloc | apply pw_below_drewN | apply below_drew1)); exact HB.out)); rintro e w1 ⟨rfl, hi, hb, hk⟩) | (go_at_call 60; refine (Rc.fields_6 w1.heap.size 0 0 0 0 0 _ (Rc.rec_new w1 6 0 0 0 0 0)).mono ?_; rintro e w2 ⟨vl, vm, rfl, ⟨bl, rfl, hl, gl⟩, ⟨bm, rfl, hm, gm⟩, hq⟩; rw [Rc.size_alloc] at gl gm; have S0 : rec_Take.St w0 w w1 g w.heap.size w.heap.size e0 e1 #[.int .i64 0, .int .i64 0, .int .i64 0, .int .i64 0, .int .i64 0, .int .i64 0] #[.int .i64 0, .int .i64 0, .int .i64 0, .int .i64 0, .int .i64 0, .int .i64 0] := ⟨hi, hb, (keep_alloc (KeepBut.refl w g none) _).trans hk (.inl rfl), hk.blk (Rc.rec_new w 0 0 0 0 0 0) (by omega) (by simp), hk.blk (Rc.rec_new w 0 0 0 0 0 0) (by omega) (by simp)⟩; have gz : w.heap.size < w1.heap.size := (Nat.lt_of_lt_of_le (by rw [Rc.size_alloc]; omega) hk.1); have S1 := S0.below (below_alloc (Below.refl _ _) (.cells #[.int .i64 6, .int .i64 0, .int .i64 0, .int .i64 0, .int .i64 0, .int .i64 0] 58)); have S2 : rec_Take.St w0 w _ g w.heap.size w1.heap.size e0 e1 #[.int .i64 0, .int .i64 0, .int .i64 0, .int .i64 0, .int .i64 0, .int .i64 0] #[.int .i64 6, .int .i64 0, .int .i64 0, .int .i64 0, .int .i64 0, .int .i64 0] := ⟨S1.I, S1.B, S1.K, S1.z, Rc.rec_new w1 6 0 0 0 0 0⟩; have S := S2.below hq; clear S0 S1 S2 hi hb hk hq))
  refine wp_loop_rounds 3 ?_
  have p0 : w2.cell? ⟨bl, 0, none⟩ = some (.pointer (some ⟨w1.heap.size, 1, none⟩)) := (blk_cell hl 0).trans rfl
  have q0 : w2.cell? ⟨bm, 0, none⟩ = some (.int .i64 15) := (blk_cell hm 0).trans rfl
  rw [rounds_succ]
  go_wp2_with (go_at_call 20; (with_reducible refine (code_Reader_Num.calls k g e0 e1 15 m1 f1 g1_ w0 _ ?side1 ?side2 A1.out).mono ?_); (case side1 => exact S.I); (case side2 => exact S.B); rintro e v1 ⟨rfl, hi, hb, hk⟩; have S_ := S.num (by omega) (by omega) hi hb hk; have hl_ := hk.blk hl (by omega) (by simp); have hm_ := hk.blk hm (by omega) (by simp); clear S hl hm p0 q0 hi hb hk; have S := S_; have hl := hl_; have hm := hm_; clear S_ hl_ hm_; have x0 : v1.cell? ⟨w1.heap.size, 1, none⟩ = some (.int .i64 0) := (blk_cell S.x 1).trans rfl; have z0 := blk_frozen S.x 1)
  have S_ : rec_Take.St w0 w (v1.setCell ⟨w1.heap.size, 1, none⟩ (.int .i64 (wrap64 m1))) g w.heap.size w1.heap.size f1 g1_ #[.int .i64 0, .int .i64 0, .int .i64 0, .int .i64 0, .int .i64 0, .int .i64 0] #[.int .i64 6, .int .i64 (wrap64 m1), .int .i64 0, .int .i64 0, .int .i64 0, .int .i64 0] := S.setx hw0 (Nat.le_refl _) gz (by omega) 1 _
  have hl_ := blk_far hl (show bl ≠ (⟨w1.heap.size, 1, none⟩ : Addr).block by show bl ≠ w1.heap.size; omega) (.int .i64 (wrap64 m1))
  have hm_ := blk_far hm (show bm ≠ (⟨w1.heap.size, 1, none⟩ : Addr).block by show bm ≠ w1.heap.size; omega) (.int .i64 (wrap64 m1))
  clear S hl hm x0 z0
  generalize v1.setCell ⟨w1.heap.size, 1, none⟩ (.int .i64 (wrap64 m1)) = w3 at S_ hl_ hm_ ⊢
  have S := S_
  have hl := hl_
  have hm := hm_
  clear S_ hl_ hm_
  have p1 : w3.cell? ⟨bl, 1, none⟩ = some (.pointer (some ⟨w1.heap.size, 4, none⟩)) := (blk_cell hl 1).trans rfl
  have q1 : w3.cell? ⟨bm, 1, none⟩ = some (.int .i64 15) := (blk_cell hm 1).trans rfl
  rw [rounds_succ]
  go_wp2_with (go_at_call 20; (with_reducible refine (code_Reader_Num.calls k g f1 g1_ 15 m2 f2 g2_ w0 _ ?side1 ?side2 A2.out).mono ?_); (case side1 => exact S.I); (case side2 => exact S.B); rintro e v2 ⟨rfl, hi, hb, hk⟩; have S_ := S.num (by omega) (by omega) hi hb hk; have hl_ := hk.blk hl (by omega) (by simp); have hm_ := hk.blk hm (by omega) (by simp); clear S hl hm p1 q1 hi hb hk; have S := S_; have hl := hl_; have hm := hm_; clear S_ hl_ hm_; have x1 : v2.cell? ⟨w1.heap.size, 4, none⟩ = some (.int .i64 0) := (blk_cell S.x 4).trans rfl; have z1 := blk_frozen S.x 4)
  have S_ : rec_Take.St w0 w (v2.setCell ⟨w1.heap.size, 4, none⟩ (.int .i64 (wrap64 m2))) g w.heap.size w1.heap.size f2 g2_ #[.int .i64 0, .int .i64 0, .int .i64 0, .int .i64 0, .int .i64 0, .int .i64 0] #[.int .i64 6, .int .i64 (wrap64 m1), .int .i64 0, .int .i64 0, .int .i64 (wrap64 m2), .int .i64 0] := S.setx hw0 (Nat.le_refl _) gz (by omega) 4 _
  have hl_ := blk_far hl (show bl ≠ (⟨w1.heap.size, 4, none⟩ : Addr).block by show bl ≠ w1.heap.size; omega) (.int .i64 (wrap64 m2))
  have hm_ := blk_far hm (show bm ≠ (⟨w1.heap.size, 4, none⟩ : Addr).block by show bm ≠ w1.heap.size; omega) (.int .i64 (wrap64 m2))
  clear S hl hm x1 z1
  generalize v2.setCell ⟨w1.heap.size, 4, none⟩ (.int .i64 (wrap64 m2)) = w4 at S_ hl_ hm_ ⊢
  have S := S_
  have hl := hl_
  have hm := hm_
  clear S_ hl_ hm_
  rw [rounds_succ]
  unfold rec_Take.fin at h
  by_cases he : g2_ = 0
  · rw [if_pos he] at h
    have he1 : (g2_ != 0) = false := by rw [he]; rfl
    go_upto_region 10 with (go_at_call 24; (with_reducible refine (code_Reader_Err.calls g f2 g2_ g2_ f2 g2_ w0 _ ?side1 ?side2 rfl).mono ?_); (case side1 => ((repeat (with_reducible first | apply IsS84.alloc | apply IsS84.drewN | apply IsS84.drew)); exact S.I)); (case side2 => ((repeat (with_reducible first | apply below_alloc | apply pw_below_drewN | apply below_drew1)); exact S.B)); rintro e u1 ⟨rfl, hi, hb, hk⟩; have S_ := S.num (by omega) (by omega) hi hb hk; clear S hi hb hk; have S := S_; clear S_)
    obtain ⟨x0, x1, x2, x3, x4, x5⟩ := rec_Take.cells6 S.x
    cases hch : Rc.chk 6 (wrap64 m1) 0 0 (wrap64 m2) 0
    · have h' := h
      simp only [hch] at h'
      simp only [if_false, Bool.false_eq_true, Option.some.injEq, Prod.mk.injEq] at h'
      obtain ⟨rfl, rfl, rfl, rfl, rfl, rfl, rfl, rfl, rfl⟩ := h'
      clear h
      go_wp2_with (go_at_call 41; refine (Rc.check_calls 6 (wrap64 m1) 0 0 (wrap64 m2) 0 _).mono ?_; rintro e u2 ⟨rfl, hb⟩; have S_ := S.below hb; clear S hb x0 x1 x2 x3 x4 x5; have S := S_; clear S_; obtain ⟨y0, y1, y2, y3, y4, y5⟩ := rec_Take.cells6 S.x; obtain ⟨z0, z1, z2, z3, z4, z5⟩ := rec_Take.cells6 S.z; obtain ⟨zf0, zf1, zf2, zf3, zf4, zf5⟩ := rec_Take.froz6 S.z)
      have S6 : rec_Take.St w0 w _ g w.heap.size w1.heap.size f2 g2_ #[.int .i64 0, .int .i64 0, .int .i64 0, .int .i64 0, .int .i64 0, .int .i64 0] #[.int .i64 6, .int .i64 (wrap64 m1), .int .i64 0, .int .i64 0, .int .i64 (wrap64 m2), .int .i64 0] := (((((S.setz hw0 (Nat.le_refl _) gz lg 0 (.int .i64 0)).setz hw0 (Nat.le_refl _) gz lg 1 (.int .i64 0)).setz hw0 (Nat.le_refl _) gz lg 2 (.int .i64 0)).setz hw0 (Nat.le_refl _) gz lg 3 (.int .i64 0)).setz hw0 (Nat.le_refl _) gz lg 4 (.int .i64 0)).setz hw0 (Nat.le_refl _) gz lg 5 (.int .i64 0)
      refine bodyPost_ret (results_ct rfl _ _ w.heap.size 58 #[.int .i64 0, .int .i64 0, .int .i64 0, .int .i64 0, .int .i64 0, .int .i64 0] (0, 0) _ rfl S6.z Try.underlying58 rfl (by kernel_rfl)) rfl ?_
      exact ⟨rfl, S6.I, S6.B, S6.K⟩
    · have h' := h
      simp only [hch] at h'
      simp only [if_true, Option.some.injEq, Prod.mk.injEq] at h'
      obtain ⟨rfl, rfl, rfl, rfl, rfl, rfl, rfl, rfl, rfl⟩ := h'
      clear h
      go_wp2_with (go_at_call 41; refine (Rc.check_calls 6 (wrap64 m1) 0 0 (wrap64 m2) 0 _).mono ?_; rintro e u2 ⟨rfl, hb⟩; have S_ := S.below hb; clear S hb x0 x1 x2 x3 x4 x5; have S := S_; clear S_; obtain ⟨y0, y1, y2, y3, y4, y5⟩ := rec_Take.cells6 S.x; obtain ⟨z0, z1, z2, z3, z4, z5⟩ := rec_Take.cells6 S.z; obtain ⟨zf0, zf1, zf2, zf3, zf4, zf5⟩ := rec_Take.froz6 S.z)
      have S6 : rec_Take.St w0 w _ g w.heap.size w1.heap.size f2 g2_ #[.int .i64 6, .int .i64 (wrap64 m1), .int .i64 0, .int .i64 0, .int .i64 (wrap64 m2), .int .i64 0] #[.int .i64 6, .int .i64 (wrap64 m1), .int .i64 0, .int .i64 0, .int .i64 (wrap64 m2), .int .i64 0] := (((((S.setz hw0 (Nat.le_refl _) gz lg 0 (.int .i64 6)).setz hw0 (Nat.le_refl _) gz lg 1 (.int .i64 (wrap64 m1))).setz hw0 (Nat.le_refl _) gz lg 2 (.int .i64 0)).setz hw0 (Nat.le_refl _) gz lg 3 (.int .i64 0)).setz hw0 (Nat.le_refl _) gz lg 4 (.int .i64 (wrap64 m2))).setz hw0 (Nat.le_refl _) gz lg 5 (.int .i64 0)
      refine bodyPost_ret (results_ct rfl _ _ w.heap.size 58 #[.int .i64 6, .int .i64 (wrap64 m1), .int .i64 0, .int .i64 0, .int .i64 (wrap64 m2), .int .i64 0] (0, 0) _ rfl S6.z Try.underlying58 rfl (by kernel_rfl)) rfl ?_
      exact ⟨rfl, S6.I, S6.B, S6.K⟩
  · rw [if_neg he] at h
    have he1 : (g2_ != 0) = true := bne_iff_ne.mpr he
    simp only [Option.some.injEq, Prod.mk.injEq] at h
    obtain ⟨rfl, rfl, rfl, rfl, rfl, rfl, rfl, rfl, rfl⟩ := h
    go_upto_region 9 with (go_at_call 24; (with_reducible refine (code_Reader_Err.calls g f2 g2_ g2_ f2 g2_ w0 _ ?side1 ?side2 rfl).mono ?_); (case side1 => ((repeat (with_reducible first | apply IsS84.alloc | apply IsS84.drewN | apply IsS84.drew)); exact S.I)); (case side2 => ((repeat (with_reducible first | apply below_alloc | apply pw_below_drewN | apply below_drew1)); exact S.B)); rintro e u1 ⟨rfl, hi, hb, hk⟩; have S_ := S.num (by omega) (by omega) hi hb hk; clear S hi hb hk; have S := S_; clear S_)
    go_wp2_with (go_at_call 24; (with_reducible refine (code_Reader_Err.calls g f2 g2_ g2_ f2 g2_ w0 _ ?side1 ?side2 rfl).mono ?_); (case side1 => ((repeat (with_reducible first | apply IsS84.alloc | apply IsS84.drewN | apply IsS84.drew)); exact S.I)); (case side2 => ((repeat (with_reducible first | apply below_alloc | apply pw_below_drewN | apply below_drew1)); exact S.B)); rintro e u2 ⟨rfl, hi, hb, hk⟩; have S_ := S.num (by omega) (by omega) hi hb hk; clear S hi hb hk; have S := S_; clear S_; obtain ⟨z0, z1, z2, z3, z4, z5⟩ := rec_Take.cells6 S.z; obtain ⟨zf0, zf1, zf2, zf3, zf4, zf5⟩ := rec_Take.froz6 S.z)
    have S6 : rec_Take.St w0 w _ g w.heap.size w1.heap.size f2 g2_ #[.int .i64 0, .int .i64 0, .int .i64 0, .int .i64 0, .int .i64 0, .int .i64 0] #[.int .i64 6, .int .i64 (wrap64 m1), .int .i64 0, .int .i64 0, .int .i64 (wrap64 m2), .int .i64 0] := (((((S.setz hw0 (Nat.le_refl _) gz lg 0 (.int .i64 0)).setz hw0 (Nat.le_refl _) gz lg 1 (.int .i64 0)).setz hw0 (Nat.le_refl _) gz lg 2 (.int .i64 0)).setz hw0 (Nat.le_refl _) gz lg 3 (.int .i64 0)).setz hw0 (Nat.le_refl _) gz lg 4 (.int .i64 0)).setz hw0 (Nat.le_refl _) gz lg 5 (.int .i64 0)
    refine bodyPost_ret (results_ct rfl _ _ w.heap.size 58 #[.int .i64 0, .int .i64 0, .int .i64 0, .int .i64 0, .int .i64 0, .int .i64 0] (0, 0) _ rfl S6.z Try.underlying58 rfl (by kernel_rfl)) rfl ?_
    exact ⟨rfl, S6.I, S6.B, S6.K⟩
set_option maxHeartbeats 16000000 in
set_option maxRecDepth 100000 in
theorem rec_Take.c7 (k : Nat) (g : Nat) (s0_0 : ByteArray) (s0_1 : Int) (r1 r2 r3 r4 r5 r6 r7 : Int) (r8 : ByteArray) (r9 : Int) (w0 w : World) (hI : IsS84 w0 w g s0_0 s0_1) (hB : Below w0.heap.size w0 w) (n : Int) (e0 : ByteArray) (e1 : Int) (h1 : code_Reader_Fixed.f k s0_0 s0_1 1 = some (n, e0, e1)) (hn : wrap64 n = 7)
    (h : (rec_Take.row k (Rc.mosts (wrap64 n)) e0 e1).bind (fun c => rec_Take.fin (wrap64 n) (Rc.mkR (wrap64 n) c.1) c.2.1 c.2.2) = some (r1, r2, r3, r4, r5, r6, r7, r8, r9)) :
    Calls Try.prog 44 #[.pointer (some ⟨g, 0, none⟩)] w fun e w' => e = .returned (.tuple #[.agg #[.int .i64 r1, .int .i64 r2, .int .i64 r3, .int .i64 r4, .int .i64 r5, .int .i64 r6], .int .i64 r7]) ∧ IsS84 w0 w' g r8 r9 ∧ Below w0.heap.size w0 w' ∧ KeepBut w w' g none := by
  have hw0 := hB.size
  have lg : g < w.heap.size := hI.lt
  rw [hn] at h
  obtain ⟨c, hc, h⟩ := Option.bind_eq_some_iff.mp h
  have hc : rec_Take.row k [15] e0 e1 = some c := hc
  obtain ⟨m1, f1, g1_, d1, a1, hc, hd1⟩ := rec_Take.step hc
  have A1 := Aside0.mk a1
  clear a1
  obtain rfl := Option.some.inj hc
  clear hc
  subst hd1
  have h : rec_Take.fin 7 ((wrap64 m1), 0, 0, 0, 0) f1 g1_ = some (r1, r2, r3, r4, r5, r6, r7, r8, r9) := h
  have HI := Aside0.mk hI
  have HB := Aside0.mk hB
  have H1 := Aside0.mk h1
  clear hI hB h1
  go_enter Try.func44, Try.ntmps44
  go_wp2_with (first | (go_at_call 27; (with_reducible refine (code_Reader_Fixed.calls k g s0_0 s0_1 1 n e0 e1 w0 _ ?side1 ?side2 H1.out).mono ?_); (case side1 => ((repeat (with_reducible first | apply IsS84.alloc | apply IsS84.drewN | apply IsS84.drew)); exact HI.out)); (case side2 => ((repeat (with_reducible first | apply below_alloc | apply pw_below_drewN | apply below_drew1)); exact HB.out)); rintro e w1 ⟨rfl, hi, hb, hk⟩) | (go_at_call 60; refine (Rc.fields_7 w1.heap.size 0 0 0 0 0 _ (Rc.rec_new w1 7 0 0 0 0 0)).mono ?_; rintro e w2 ⟨vl, vm, rfl, ⟨bl, rfl, hl, gl⟩, ⟨bm, rfl, hm, gm⟩, hq⟩; rw [Rc.size_alloc] at gl gm; have S0 : rec_Take.St w0 w w1 g w.heap.size w.heap.size e0 e1 #[.int .i64 0, .int .i64 0, .int .i64 0, .int .i64 0, .int .i64 0, .int .i64 0] #[.int .i64 0, .int .i64 0, .int .i64 0, .int .i64 0, .int .i64 0, .int .i64 0] := ⟨hi, hb, (keep_alloc (KeepBut.refl w g none) _).trans hk (.inl rfl), hk.blk (Rc.rec_new w 0 0 0 0 0 0) (by omega) (by simp), hk.blk (Rc.rec_new w 0 0 0 0 0 0) (by omega) (by simp)⟩; have gz : w.heap.size < w1.heap.size := (Nat.lt_of_lt_of_le (by rw [Rc.size_alloc]; omega) hk.1); have S1 := S0.below (below_alloc (Below.refl _ _) (.cells #[.int .i64 7, .int .i64 0, .int .i64 0, .int .i64 0, .int .i64 0, .int .i64 0] 58)); have S2 : rec_Take.St w0 w _ g w.heap.size w1.heap.size e0 e1 #[.int .i64 0, .int .i64 0, .int .i64 0, .int .i64 0, .int .i64 0, .int .i64 0] #[.int .i64 7, .int .i64 0, .int .i64 0, .int .i64 0, .int .i64 0, .int .i64 0] := ⟨S1.I, S1.B, S1.K, S1.z, Rc.rec_new w1 7 0 0 0 0 0⟩; have S := S2.below hq; clear S0 S1 S2 hi hb hk hq))
  refine wp_loop_rounds 2 ?_
  have p0 : w2.cell? ⟨bl, 0, none⟩ = some (.pointer (some ⟨w1.heap.size, 1, none⟩)) := (blk_cell hl 0).trans rfl
  have q0 : w2.cell? ⟨bm, 0, none⟩ = some (.int .i64 15) := (blk_cell hm 0).trans rfl
  rw [rounds_succ]
  go_wp2_with (go_at_call 20; (with_reducible refine (code_Reader_Num.calls k g e0 e1 15 m1 f1 g1_ w0 _ ?side1 ?side2 A1.out).mono ?_); (case side1 => exact S.I); (case side2 => exact S.B); rintro e v1 ⟨rfl, hi, hb, hk⟩; have S_ := S.num (by omega) (by omega) hi hb hk; have hl_ := hk.blk hl (by omega) (by simp); have hm_ := hk.blk hm (by omega) (by simp); clear S hl hm p0 q0 hi hb hk; have S := S_; have hl := hl_; have hm := hm_; clear S_ hl_ hm_; have x0 : v1.cell? ⟨w1.heap.size, 1, none⟩ = some (.int .i64 0) := (blk_cell S.x 1).trans rfl; have z0 := blk_frozen S.x 1)
  have S_ : rec_Take.St w0 w (v1.setCell ⟨w1.heap.size, 1, none⟩ (.int .i64 (wrap64 m1))) g w.heap.size w1.heap.size f1 g1_ #[.int .i64 0, .int .i64 0, .int .i64 0, .int .i64 0, .int .i64 0, .int .i64 0] #[.int .i64 7, .int .i64 (wrap64 m1), .int .i64 0, .int .i64 0, .int .i64 0, .int .i64 0] := S.setx hw0 (Nat.le_refl _) gz (by omega) 1 _
  have hl_ := blk_far hl (show bl ≠ (⟨w1.heap.size, 1, none⟩ : Addr).block by show bl ≠ w1.heap.size; omega) (.int .i64 (wrap64 m1))
  have hm_ := blk_far hm (show bm ≠ (⟨w1.heap.size, 1, none⟩ : Addr).block by show bm ≠ w1.heap.size; omega) (.int .i64 (wrap64 m1))
  clear S hl hm x0 z0
  generalize v1.setCell ⟨w1.heap.size, 1, none⟩ (.int .i64 (wrap64 m1)) = w3 at S_ hl_ hm_ ⊢
  have S := S_
  have hl := hl_
  have hm := hm_
  clear S_ hl_ hm_
  rw [rounds_succ]
  unfold rec_Take.fin at h
  by_cases he : g1_ = 0
  · rw [if_pos he] at h
    have he1 : (g1_ != 0) = false := by rw [he]; rfl
    go_upto_region 10 with (go_at_call 24; (with_reducible refine (code_Reader_Err.calls g f1 g1_ g1_ f1 g1_ w0 _ ?side1 ?side2 rfl).mono ?_); (case side1 => ((repeat (with_reducible first | apply IsS84.alloc | apply IsS84.drewN | apply IsS84.drew)); exact S.I)); (case side2 => ((repeat (with_reducible first | apply below_alloc | apply pw_below_drewN | apply below_drew1)); exact S.B)); rintro e u1 ⟨rfl, hi, hb, hk⟩; have S_ := S.num (by omega) (by omega) hi hb hk; clear S hi hb hk; have S := S_; clear S_)
    obtain ⟨x0, x1, x2, x3, x4, x5⟩ := rec_Take.cells6 S.x
    cases hch : Rc.chk 7 (wrap64 m1) 0 0 0 0
    · have h' := h
      simp only [hch] at h'
      simp only [if_false, Bool.false_eq_true, Option.some.injEq, Prod.mk.injEq] at h'
      obtain ⟨rfl, rfl, rfl, rfl, rfl, rfl, rfl, rfl, rfl⟩ := h'
      clear h
      go_wp2_with (go_at_call 41; refine (Rc.check_calls 7 (wrap64 m1) 0 0 0 0 _).mono ?_; rintro e u2 ⟨rfl, hb⟩; have S_ := S.below hb; clear S hb x0 x1 x2 x3 x4 x5; have S := S_; clear S_; obtain ⟨y0, y1, y2, y3, y4, y5⟩ := rec_Take.cells6 S.x; obtain ⟨z0, z1, z2, z3, z4, z5⟩ := rec_Take.cells6 S.z; obtain ⟨zf0, zf1, zf2, zf3, zf4, zf5⟩ := rec_Take.froz6 S.z)
      have S6 : rec_Take.St w0 w _ g w.heap.size w1.heap.size f1 g1_ #[.int .i64 0, .int .i64 0, .int .i64 0, .int .i64 0, .int .i64 0, .int .i64 0] #[.int .i64 7, .int .i64 (wrap64 m1), .int .i64 0, .int .i64 0, .int .i64 0, .int .i64 0] := (((((S.setz hw0 (Nat.le_refl _) gz lg 0 (.int .i64 0)).setz hw0 (Nat.le_refl _) gz lg 1 (.int .i64 0)).setz hw0 (Nat.le_refl _) gz lg 2 (.int .i64 0)).setz hw0 (Nat.le_refl _) gz lg 3 (.int .i64 0)).setz hw0 (Nat.le_refl _) gz lg 4 (.int .i64 0)).setz hw0 (Nat.le_refl _) gz lg 5 (.int .i64 0)
      refine bodyPost_ret (results_ct rfl _ _ w.heap.size 58 #[.int .i64 0, .int .i64 0, .int .i64 0, .int .i64 0, .int .i64 0, .int .i64 0] (0, 0) _ rfl S6.z Try.underlying58 rfl (by kernel_rfl)) rfl ?_
      exact ⟨rfl, S6.I, S6.B, S6.K⟩
    · have h' := h
      simp only [hch] at h'
      simp only [if_true, Option.some.injEq, Prod.mk.injEq] at h'
      obtain ⟨rfl, rfl, rfl, rfl, rfl, rfl, rfl, rfl, rfl⟩ := h'
      clear h
      go_wp2_with (go_at_call 41; refine (Rc.check_calls 7 (wrap64 m1) 0 0 0 0 _).mono ?_; rintro e u2 ⟨rfl, hb⟩; have S_ := S.below hb; clear S hb x0 x1 x2 x3 x4 x5; have S := S_; clear S_; obtain ⟨y0, y1, y2, y3, y4, y5⟩ := rec_Take.cells6 S.x; obtain ⟨z0, z1, z2, z3, z4, z5⟩ := rec_Take.cells6 S.z; obtain ⟨zf0, zf1, zf2, zf3, zf4, zf5⟩ := rec_Take.froz6 S.z)
      have S6 : rec_Take.St w0 w _ g w.heap.size w1.heap.size f1 g1_ #[.int .i64 7, .int .i64 (wrap64 m1), .int .i64 0, .int .i64 0, .int .i64 0, .int .i64 0] #[.int .i64 7, .int .i64 (wrap64 m1), .int .i64 0, .int .i64 0, .int .i64 0, .int .i64 0] := (((((S.setz hw0 (Nat.le_refl _) gz lg 0 (.int .i64 7)).setz hw0 (Nat.le_refl _) gz lg 1 (.int .i64 (wrap64 m1))).setz hw0 (Nat.le_refl _) gz lg 2 (.int .i64 0)).setz hw0 (Nat.le_refl _) gz lg 3 (.int .i64 0)).setz hw0 (Nat.le_refl _) gz lg 4 (.int .i64 0)).setz hw0 (Nat.le_refl _) gz lg 5 (.int .i64 0)
      refine bodyPost_ret (results_ct rfl _ _ w.heap.size 58 #[.int .i64 7, .int .i64 (wrap64 m1), .int .i64 0, .int .i64 0, .int .i64 0, .int .i64 0] (0, 0) _ rfl S6.z Try.underlying58 rfl (by kernel_rfl)) rfl ?_
      exact ⟨rfl, S6.I, S6.B, S6.K⟩
  · rw [if_neg he] at h
    have he1 : (g1_ != 0) = true := bne_iff_ne.mpr he
    simp only [Option.some.injEq, Prod.mk.injEq] at h
    obtain ⟨rfl, rfl, rfl, rfl, rfl, rfl, rfl, rfl, rfl⟩ := h
    go_upto_region 9 with (go_at_call 24; (with_reducible refine (code_Reader_Err.calls g f1 g1_ g1_ f1 g1_ w0 _ ?side1 ?side2 rfl).mono ?_); (case side1 => ((repeat (with_reducible first | apply IsS84.alloc | apply IsS84.drewN | apply IsS84.drew)); exact S.I)); (case side2 => ((repeat (with_reducible first | apply below_alloc | apply pw_below_drewN | apply below_drew1)); exact S.B)); rintro e u1 ⟨rfl, hi, hb, hk⟩; have S_ := S.num (by omega) (by omega) hi hb hk; clear S hi hb hk; have S := S_; clear S_)
    go_wp2_with (go_at_call 24; (with_reducible refine (code_Reader_Err.calls g f1 g1_ g1_ f1 g1_ w0 _ ?side1 ?side2 rfl).mono ?_); (case side1 => ((repeat (with_reducible first | apply IsS84.alloc | apply IsS84.drewN | apply IsS84.drew)); exact S.I)); (case side2 => ((repeat (with_reducible first | apply below_alloc | apply pw_below_drewN | apply below_drew1)); exact S.B)); rintro e u2 ⟨rfl, hi, hb, hk⟩; have S_ := S.num (by omega) (by omega) hi hb hk; clear S hi hb hk; have S := S_; clear S_; obtain ⟨z0, z1, z2, z3, z4, z5⟩ := rec_Take.cells6 S.z; obtain ⟨zf0, zf1, zf2, zf3, zf4, zf5⟩ := rec_Take.froz6 S.z)
    have S6 : rec_Take.St w0 w _ g w.heap.size w1.heap.size f1 g1_ #[.int .i64 0, .int .i64 0, .int .i64 0, .int .i64 0, .int .i64 0, .int .i64 0] #[.int .i64 7, .int .i64 (wrap64 m1), .int .i64 0, .int .i64 0, .int .i64 0, .int .i64 0] := (((((S.setz hw0 (Nat.le_refl _) gz lg 0 (.int .i64 0)).setz hw0 (Nat.le_refl _) gz lg 1 (.int .i64 0)).setz hw0 (Nat.le_refl _) gz lg 2 (.int .i64 0)).setz hw0 (Nat.le_refl _) gz lg 3 (.int .i64 0)).setz hw0 (Nat.le_refl _) gz lg 4 (.int .i64 0)).setz hw0 (Nat.le_refl _) gz lg 5 (.int .i64 0)
    refine bodyPost_ret (results_ct rfl _ _ w.heap.size 58 #[.int .i64 0, .int .i64 0, .int .i64 0, .int .i64 0, .int .i64 0, .int .i64 0] (0, 0) _ rfl S6.z Try.underlying58 rfl (by kernel_rfl)) rfl ?_
    exact ⟨rfl, S6.I, S6.B, S6.K⟩
set_option maxHeartbeats 16000000 in
set_option maxRecDepth 100000 in
theorem rec_Take.c8 (k : Nat) (g : Nat) (s0_0 : ByteArray) (s0_1 : Int) (r1 r2 r3 r4 r5 r6 r7 : Int) (r8 : ByteArray) (r9 : Int) (w0 w : World) (hI : IsS84 w0 w g s0_0 s0_1) (hB : Below w0.heap.size w0 w) (n : Int) (e0 : ByteArray) (e1 : Int) (h1 : code_Reader_Fixed.f k s0_0 s0_1 1 = some (n, e0, e1)) (hn : wrap64 n = 8)
    (h : (rec_Take.row k (Rc.mosts (wrap64 n)) e0 e1).bind (fun c => rec_Take.fin (wrap64 n) (Rc.mkR (wrap64 n) c.1) c.2.1 c.2.2) = some (r1, r2, r3, r4, r5, r6, r7, r8, r9)) :
    Calls Try.prog 44 #[.pointer (some ⟨g, 0, none⟩)] w fun e w' => e = .returned (.tuple #[.agg #[.int .i64 r1, .int .i64 r2, .int .i64 r3, .int .i64 r4, .int .i64 r5, .int .i64 r6], .int .i64 r7]) ∧ IsS84 w0 w' g r8 r9 ∧ Below w0.heap.size w0 w' ∧ KeepBut w w' g none := by
  have hw0 := hB.size
  have lg : g < w.heap.size := hI.lt
  rw [hn] at h
  obtain ⟨c, hc, h⟩ := Option.bind_eq_some_iff.mp h
  have hc : rec_Take.row k [31] e0 e1 = some c := hc
  obtain ⟨m1, f1, g1_, d1, a1, hc, hd1⟩ := rec_Take.step hc
  have A1 := Aside0.mk a1
  clear a1
  obtain rfl := Option.some.inj hc
  clear hc
  subst hd1
  have h : rec_Take.fin 8 (0, 0, (wrap64 m1), 0, 0) f1 g1_ = some (r1, r2, r3, r4, r5, r6, r7, r8, r9) := h
  have HI := Aside0.mk hI
  have HB := Aside0.mk hB
  have H1 := Aside0.mk h1
  clear hI hB h1
  go_enter Try.func44, Try.ntmps44
  go_wp2_with (first | (go_at_call 27; (with_reducible refine (code_Reader_Fixed.calls k g s0_0 s0_1 1 n e0 e1 w0 _ ?side1 ?side2 H1.out).mono ?_); (case side1 => ((repeat (with_reducible first | apply IsS84.alloc | apply IsS84.drewN | apply IsS84.drew)); exact HI.out)); (case side2 => ((repeat (with_reducible first | apply below_alloc | apply pw_below_drewN | apply below_drew1)); exact HB.out)); rintro e w1 ⟨rfl, hi, hb, hk⟩) | (go_at_call 60; refine (Rc.fields_8 w1.heap.size 0 0 0 0 0 _ (Rc.rec_new w1 8 0 0 0 0 0)).mono ?_; rintro e w2 ⟨vl, vm, rfl, ⟨bl, rfl, hl, gl⟩, ⟨bm, rfl, hm, gm⟩, hq⟩; rw [Rc.size_alloc] at gl gm; have S0 : rec_Take.St w0 w w1 g w.heap.size w.heap.size e0 e1 #[.int .i64 0, .int .i64 0, .int .i64 0, .int .i64 0, .int .i64 0, .int .i64 0] #[.int .i64 0, .int .i64 0, .int .i64 0, .int .i64 0, .int .i64 0, .int .i64 0] := ⟨hi, hb, (keep_alloc (KeepBut.refl w g none) _).trans hk (.inl rfl), hk.blk (Rc.rec_new w 0 0 0 0 0 0) (by omega) (by simp), hk.blk (Rc.rec_new w 0 0 0 0 0 0) (by omega) (by simp)⟩; have gz : w.heap.size < w1.heap.size := (Nat.lt_of_lt_of_le (by rw [Rc.size_alloc]; omega) hk.1); have S1 := S0.below (below_alloc (Below.refl _ _) (.cells #[.int .i64 8, .int .i64 0, .int .i64 0, .int .i64 0, .int .i64 0, .int .i64 0] 58)); have S2 : rec_Take.St w0 w _ g w.heap.size w1.heap.size e0 e1 #[.int .i64 0, .int .i64 0, .int .i64 0, .int .i64 0, .int .i64 0, .int .i64 0] #[.int .i64 8, .int .i64 0, .int .i64 0, .int .i64 0, .int .i64 0, .int .i64 0] := ⟨S1.I, S1.B, S1.K, S1.z, Rc.rec_new w1 8 0 0 0 0 0⟩; have S := S2.below hq; clear S0 S1 S2 hi hb hk hq))
  refine wp_loop_rounds 2 ?_
  have p0 : w2.cell? ⟨bl, 0, none⟩ = some (.pointer (some ⟨w1.heap.size, 3, none⟩)) := (blk_cell hl 0).trans rfl
  have q0 : w2.cell? ⟨bm, 0, none⟩ = some (.int .i64 31) := (blk_cell hm 0).trans rfl
  rw [rounds_succ]
  go_wp2_with (go_at_call 20; (with_reducible refine (code_Reader_Num.calls k g e0 e1 31 m1 f1 g1_ w0 _ ?side1 ?side2 A1.out).mono ?_); (case side1 => exact S.I); (case side2 => exact S.B); rintro e v1 ⟨rfl, hi, hb, hk⟩; have S_ := S.num (by omega) (by omega) hi hb hk; have hl_ := hk.blk hl (by omega) (by simp); have hm_ := hk.blk hm (by omega) (by simp); clear S hl hm p0 q0 hi hb hk; have S := S_; have hl := hl_; have hm := hm_; clear S_ hl_ hm_; have x0 : v1.cell? ⟨w1.heap.size, 3, none⟩ = some (.int .i64 0) := (blk_cell S.x 3).trans rfl; have z0 := blk_frozen S.x 3)
  have S_ : rec_Take.St w0 w (v1.setCell ⟨w1.heap.size, 3, none⟩ (.int .i64 (wrap64 m1))) g w.heap.size w1.heap.size f1 g1_ #[.int .i64 0, .int .i64 0, .int .i64 0, .int .i64 0, .int .i64 0, .int .i64 0] #[.int .i64 8, .int .i64 0, .int .i64 0, .int .i64 (wrap64 m1), .int .i64 0, .int .i64 0] := S.setx hw0 (Nat.le_refl _) gz (by omega) 3 _
  have hl_ := blk_far hl (show bl ≠ (⟨w1.heap.size, 3, none⟩ : Addr).block by show bl ≠ w1.heap.size; omega) (.int .i64 (wrap64 m1))
  have hm_ := blk_far hm (show bm ≠ (⟨w1.heap.size, 3, none⟩ : Addr).block by show bm ≠ w1.heap.size; omega) (.int .i64 (wrap64 m1))
  clear S hl hm x0 z0
  generalize v1.setCell ⟨w1.heap.size, 3, none⟩ (.int .i64 (wrap64 m1)) = w3 at S_ hl_ hm_ ⊢
  have S := S_
  have hl := hl_
  have hm := hm_
  clear S_ hl_ hm_
  rw [rounds_succ]
  unfold rec_Take.fin at h
  by_cases he : g1_ = 0
  · rw [if_pos he] at h
    have he1 : (g1_ != 0) = false := by rw [he]; rfl
    go_upto_region 10 with (go_at_call 24; (with_reducible refine (code_Reader_Err.calls g f1 g1_ g1_ f1 g1_ w0 _ ?side1 ?side2 rfl).mono ?_); (case side1 => ((repeat (with_reducible first | apply IsS84.alloc | apply IsS84.drewN | apply IsS84.drew)); exact S.I)); (case side2 => ((repeat (with_reducible first | apply below_alloc | apply pw_below_drewN | apply below_drew1)); exact S.B)); rintro e u1 ⟨rfl, hi, hb, hk⟩; have S_ := S.num (by omega) (by omega) hi hb hk; clear S hi hb hk; have S := S_; clear S_)
    obtain ⟨x0, x1, x2, x3, x4, x5⟩ := rec_Take.cells6 S.x
    cases hch : Rc.chk 8 0 0 (wrap64 m1) 0 0
    · have h' := h
      simp only [hch] at h'
      simp only [if_false, Bool.false_eq_true, Option.some.injEq, Prod.mk.injEq] at h'
      obtain ⟨rfl, rfl, rfl, rfl, rfl, rfl, rfl, rfl, rfl⟩ := h'
      clear h
      go_wp2_with (go_at_call 41; refine (Rc.check_calls 8 0 0 (wrap64 m1) 0 0 _).mono ?_; rintro e u2 ⟨rfl, hb⟩; have S_ := S.below hb; clear S hb x0 x1 x2 x3 x4 x5; have S := S_; clear S_; obtain ⟨y0, y1, y2, y3, y4, y5⟩ := rec_Take.cells6 S.x; obtain ⟨z0, z1, z2, z3, z4, z5⟩ := rec_Take.cells6 S.z; obtain ⟨zf0, zf1, zf2, zf3, zf4, zf5⟩ := rec_Take.froz6 S.z)
      have S6 : rec_Take.St w0 w _ g w.heap.size w1.heap.size f1 g1_ #[.int .i64 0, .int .i64 0, .int .i64 0, .int .i64 0, .int .i64 0, .int .i64 0] #[.int .i64 8, .int .i64 0, .int .i64 0, .int .i64 (wrap64 m1), .int .i64 0, .int .i64 0] := (((((S.setz hw0 (Nat.le_refl _) gz lg 0 (.int .i64 0)).setz hw0 (Nat.le_refl _) gz lg 1 (.int .i64 0)).setz hw0 (Nat.le_refl _) gz lg 2 (.int .i64 0)).setz hw0 (Nat.le_refl _) gz lg 3 (.int .i64 0)).setz hw0 (Nat.le_refl _) gz lg 4 (.int .i64 0)).setz hw0 (Nat.le_refl _) gz lg 5 (.int .i64 0)
      refine bodyPost_ret (results_ct rfl _ _ w.heap.size 58 #[.int .i64 0, .int .i64 0, .int .i64 0, .int .i64 0, .int .i64 0, .int .i64 0] (0, 0) _ rfl S6.z Try.underlying58 rfl (by kernel_rfl)) rfl ?_
      exact ⟨rfl, S6.I, S6.B, S6.K⟩
    · have h' := h
      simp only [hch] at h'
      simp only [if_true, Option.some.injEq, Prod.mk.injEq] at h'
      obtain ⟨rfl, rfl, rfl, rfl, rfl, rfl, rfl, rfl, rfl⟩ := h'
      clear h
      go_wp2_with (go_at_call 41; refine (Rc.check_calls 8 0 0 (wrap64 m1) 0 0 _).mono ?_; rintro e u2 ⟨rfl, hb⟩; have S_ := S.below hb; clear S hb x0 x1 x2 x3 x4 x5; have S := S_; clear S_; obtain ⟨y0, y1, y2, y3, y4, y5⟩ := rec_Take.cells6 S.x; obtain ⟨z0, z1, z2, z3, z4, z5⟩ := rec_Take.cells6 S.z; obtain ⟨zf0, zf1, zf2, zf3, zf4, zf5⟩ := rec_Take.froz6 S.z)
      have S6 : rec_Take.St w0 w _ g w.heap.size w1.heap.size f1 g1_ #[.int .i64 8, .int .i64 0, .int .i64 0, .int .i64 (wrap64 m1), .int .i64 0, .int .i64 0] #[.int .i64 8, .int .i64 0, .int .i64 0, .int .i64 (wrap64 m1), .int .i64 0, .int .i64 0] := (((((S.setz hw0 (Nat.le_refl _) gz lg 0 (.int .i64 8)).setz hw0 (Nat.le_refl _) gz lg 1 (.int .i64 0)).setz hw0 (Nat.le_refl _) gz lg 2 (.int .i64 0)).setz hw0 (Nat.le_refl _) gz lg 3 (.int .i64 (wrap64 m1))).setz hw0 (Nat.le_refl _) gz lg 4 (.int .i64 0)).setz hw0 (Nat.le_refl _) gz lg 5 (.int .i64 0)
      refine bodyPost_ret (results_ct rfl _ _ w.heap.size 58 #[.int .i64 8, .int .i64 0, .int .i64 0, .int .i64 (wrap64 m1), .int .i64 0, .int .i64 0] (0, 0) _ rfl S6.z Try.underlying58 rfl (by kernel_rfl)) rfl ?_
      exact ⟨rfl, S6.I, S6.B, S6.K⟩
  · rw [if_neg he] at h
    have he1 : (g1_ != 0) = true := bne_iff_ne.mpr he
    simp only [Option.some.injEq, Prod.mk.injEq] at h
    obtain ⟨rfl, rfl, rfl, rfl, rfl, rfl, rfl, rfl, rfl⟩ := h
    go_upto_region 9 with (go_at_call 24; (with_reducible refine (code_Reader_Err.calls g f1 g1_ g1_ f1 g1_ w0 _ ?side1 ?side2 rfl).mono ?_); (case side1 => ((repeat (with_reducible first | apply IsS84.alloc | apply IsS84.drewN | apply IsS84.drew)); exact S.I)); (case side2 => ((repeat (with_reducible first | apply below_alloc | apply pw_below_drewN | apply below_drew1)); exact S.B)); rintro e u1 ⟨rfl, hi, hb, hk⟩; have S_ := S.num (by omega) (by omega) hi hb hk; clear S hi hb hk; have S := S_; clear S_)
    go_wp2_with (go_at_call 24; (with_reducible refine (code_Reader_Err.calls g f1 g1_ g1_ f1 g1_ w0 _ ?side1 ?side2 rfl).mono ?_); (case side1 => ((repeat (with_reducible first | apply IsS84.alloc | apply IsS84.drewN | apply IsS84.drew)); exact S.I)); (case side2 => ((repeat (with_reducible first | apply below_alloc | apply pw_below_drewN | apply below_drew1)); exact S.B)); rintro e u2 ⟨rfl, hi, hb, hk⟩; have S_ := S.num (by omega) (by omega) hi hb hk; clear S hi hb hk; have S := S_; clear S_; obtain ⟨z0, z1, z2, z3, z4, z5⟩ := rec_Take.cells6 S.z; obtain ⟨zf0, zf1, zf2, zf3, zf4, zf5⟩ := rec_Take.froz6 S.z)
    have S6 : rec_Take.St w0 w _ g w.heap.size w1.heap.size f1 g1_ #[.int .i64 0, .int .i64 0, .int .i64 0, .int .i64 0, .int .i64 0, .int .i64 0] #[.int .i64 8, .int .i64 0, .int .i64 0, .int .i64 (wrap64 m1), .int .i64 0, .int .i64 0] := (((((S.setz hw0 (Nat.le_refl _) gz lg 0 (.int .i64 0)).setz hw0 (Nat.le_refl _) gz lg 1 (.int .i64 0)).setz hw0 (Nat.le_refl _) gz lg 2 (.int .i64 0)).setz hw0 (Nat.le_refl _) gz lg 3 (.int .i64 0)).setz hw0 (Nat.le_refl _) gz lg 4 (.int .i64 0)).setz hw0 (Nat.le_refl _) gz lg 5 (.int .i64 0)
    refine bodyPost_ret (results_ct rfl _ _ w.heap.size 58 #[.int .i64 0, .int .i64 0, .int .i64 0, .int .i64 0, .int .i64 0, .int .i64 0] (0, 0) _ rfl S6.z Try.underlying58 rfl (by kernel_rfl)) rfl ?_
    exact ⟨rfl, S6.I, S6.B, S6.K⟩
set_option maxHeartbeats 16000000 in
set_option maxRecDepth 100000 in
theorem rec_Take.c9 (k : Nat) (g : Nat) (s0_0 : ByteArray) (s0_1 : Int) (r1 r2 r3 r4 r5 r6 r7 : Int) (r8 : ByteArray) (r9 : Int) (w0 w : World) (hI : IsS84 w0 w g s0_0 s0_1) (hB : Below w0.heap.size w0 w) (n : Int) (e0 : ByteArray) (e1 : Int) (h1 : code_Reader_Fixed.f k s0_0 s0_1 1 = some (n, e0, e1)) (hn : wrap64 n = 9)
    (h : (rec_Take.row k (Rc.mosts (wrap64 n)) e0 e1).bind (fun c => rec_Take.fin (wrap64 n) (Rc.mkR (wrap64 n) c.1) c.2.1 c.2.2) = some (r1, r2, r3, r4, r5, r6, r7, r8, r9)) :
    Calls Try.prog 44 #[.pointer (some ⟨g, 0, none⟩)] w fun e w' => e = .returned (.tuple #[.agg #[.int .i64 r1, .int .i64 r2, .int .i64 r3, .int .i64 r4, .int .i64 r5, .int .i64 r6], .int .i64 r7]) ∧ IsS84 w0 w' g r8 r9 ∧ Below w0.heap.size w0 w' ∧ KeepBut w w' g none := by
  have hw0 := hB.size
  have lg : g < w.heap.size := hI.lt
  rw [hn] at h
  obtain ⟨c, hc, h⟩ := Option.bind_eq_some_iff.mp h
  have hc : rec_Take.row k [31, 1073741824] e0 e1 = some c := hc
  obtain ⟨m1, f1, g1_, d1, a1, hc, hd1⟩ := rec_Take.step hc
  have A1 := Aside0.mk a1
  clear a1
  obtain ⟨m2, f2, g2_, d2, a2, hc, hd2⟩ := rec_Take.step hc
  have A2 := Aside0.mk a2
  clear a2
  obtain rfl := Option.some.inj hc
  clear hc
  subst hd2
  subst hd1
  have h : rec_Take.fin 9 (0, 0, (wrap64 m1), 0, (wrap64 m2)) f2 g2_ = some (r1, r2, r3, r4, r5, r6, r7, r8, r9) := h
  have HI := Aside0.mk hI
  have HB := Aside0.mk hB
  have H1 := Aside0.mk h1
  clear hI hB h1
  go_enter Try.func44, Try.ntmps44
  go_wp2_with (first | (go_at_call 27; (with_reducible refine (code_Reader_Fixed.calls k g s0_0 s0_1 1 n e0 e1 w0 _ ?side1 ?side2 H1.out).mono ?_); (case side1 => ((repeat (with_reducible first | apply IsS84.alloc | apply IsS84.drewN | apply IsS84.drew)); exact HI.out)); (case side2 => ((repeat (with_reducible first | apply below_alloc | apply pw_below_drewN | apply below_drew1)); exact HB.out)); rintro e w1 ⟨rfl, hi, hb, hk⟩) | (go_at_call 60; refine (Rc.fields_9 w1.heap.size 0 0 0 0 0 _ (Rc.rec_new w1 9 0 0 0 0 0)).mono ?_; rintro e w2 ⟨vl, vm, rfl, ⟨bl, rfl, hl, gl⟩, ⟨bm, rfl, hm, gm⟩, hq⟩; rw [Rc.size_alloc] at gl gm; have S0 : rec_Take.St w0 w w1 g w.heap.size w.heap.size e0 e1 #[.int .i64 0, .int .i64 0, .int .i64 0, .int .i64 0, .int .i64 0, .int .i64 0] #[.int .i64 0, .int .i64 0, .int .i64 0, .int .i64 0, .int .i64 0, .int .i64 0] := ⟨hi, hb, (keep_alloc (KeepBut.refl w g none) _).trans hk (.inl rfl), hk.blk (Rc.rec_new w 0 0 0 0 0 0) (by omega) (by simp), hk.blk (Rc.rec_new w 0 0 0 0 0 0) (by omega) (by simp)⟩; have gz : w.heap.size < w1.heap.size := (Nat.lt_of_lt_of_le (by rw [Rc.size_alloc]; omega) hk.1); have S1 := S0.below (below_alloc (Below.refl _ _) (.cells #[.int .i64 9, .int .i64 0, .int .i64 0, .int .i64 0, .int .i64 0, .int .i64 0] 58)); have S2 : rec_Take.St w0 w _ g w.heap.size w1.heap.size e0 e1 #[.int .i64 0, .int .i64 0, .int .i64 0, .int .i64 0, .int .i64 0, .int .i64 0] #[.int .i64 9, .int .i64 0, .int .i64 0, .int .i64 0, .int .i64 0, .int .i64 0] := ⟨S1.I, S1.B, S1.K, S1.z, Rc.rec_new w1 9 0 0 0 0 0⟩; have S := S2.below hq; clear S0 S1 S2 hi hb hk hq))
  refine wp_loop_rounds 3 ?_
  have p0 : w2.cell? ⟨bl, 0, none⟩ = some (.pointer (some ⟨w1.heap.size, 3, none⟩)) := (blk_cell hl 0).trans rfl
  have q0 : w2.cell? ⟨bm, 0, none⟩ = some (.int .i64 31) := (blk_cell hm 0).trans rfl
  rw [rounds_succ]
  go_wp2_with (go_at_call 20; (with_reducible refine (code_Reader_Num.calls k g e0 e1 31 m1 f1 g1_ w0 _ ?side1 ?side2 A1.out).mono ?_); (case side1 => exact S.I); (case side2 => exact S.B); rintro e v1 ⟨rfl, hi, hb, hk⟩; have S_ := S.num (by omega) (by omega) hi hb hk; have hl_ := hk.blk hl (by omega) (by simp); have hm_ := hk.blk hm (by omega) (by simp); clear S hl hm p0 q0 hi hb hk; have S := S_; have hl := hl_; have hm := hm_; clear S_ hl_ hm_; have x0 : v1.cell? ⟨w1.heap.size, 3, none⟩ = some (.int .i64 0) := (blk_cell S.x 3).trans rfl; have z0 := blk_frozen S.x 3)
  have S_ : rec_Take.St w0 w (v1.setCell ⟨w1.heap.size, 3, none⟩ (.int .i64 (wrap64 m1))) g w.heap.size w1.heap.size f1 g1_ #[.int .i64 0, .int .i64 0, .int .i64 0, .int .i64 0, .int .i64 0, .int .i64 0] #[.int .i64 9, .int .i64 0, .int .i64 0, .int .i64 (wrap64 m1), .int .i64 0, .int .i64 0] := S.setx hw0 (Nat.le_refl _) gz (by omega) 3 _
  have hl_ := blk_far hl (show bl ≠ (⟨w1.heap.size, 3, none⟩ : Addr).block by show bl ≠ w1.heap.size; omega) (.int .i64 (wrap64 m1))
  have hm_ := blk_far hm (show bm ≠ (⟨w1.heap.size, 3, none⟩ : Addr).block by show bm ≠ w1.heap.size; omega) (.int .i64 (wrap64 m1))
  clear S hl hm x0 z0
  generalize v1.setCell ⟨w1.heap.size, 3, none⟩ (.int .i64 (wrap64 m1)) = w3 at S_ hl_ hm_ ⊢
  have S := S_
  have hl := hl_
  have hm := hm_
  clear S_ hl_ hm_
  have p1 : w3.cell? ⟨bl, 1, none⟩ = some (.pointer (some ⟨w1.heap.size, 5, none⟩)) := (blk_cell hl 1).trans rfl
  have q1 : w3.cell? ⟨bm, 1, none⟩ = some (.int .i64 1073741824) := (blk_cell hm 1).trans rfl
  rw [rounds_succ]
  go_wp2_with (go_at_call 20; (with_reducible refine (code_Reader_Num.calls k g f1 g1_ 1073741824 m2 f2 g2_ w0 _ ?side1 ?side2 A2.out).mono ?_); (case side1 => exact S.I); (case side2 => exact S.B); rintro e v2 ⟨rfl, hi, hb, hk⟩; have S_ := S.num (by omega) (by omega) hi hb hk; have hl_ := hk.blk hl (by omega) (by simp); have hm_ := hk.blk hm (by omega) (by simp); clear S hl hm p1 q1 hi hb hk; have S := S_; have hl := hl_; have hm := hm_; clear S_ hl_ hm_; have x1 : v2.cell? ⟨w1.heap.size, 5, none⟩ = some (.int .i64 0) := (blk_cell S.x 5).trans rfl; have z1 := blk_frozen S.x 5)
  have S_ : rec_Take.St w0 w (v2.setCell ⟨w1.heap.size, 5, none⟩ (.int .i64 (wrap64 m2))) g w.heap.size w1.heap.size f2 g2_ #[.int .i64 0, .int .i64 0, .int .i64 0, .int .i64 0, .int .i64 0, .int .i64 0] #[.int .i64 9, .int .i64 0, .int .i64 0, .int .i64 (wrap64 m1), .int .i64 0, .int .i64 (wrap64 m2)] := S.setx hw0 (Nat.le_refl _) gz (by omega) 5 _
  have hl_ := blk_far hl (show bl ≠ (⟨w1.heap.size, 5, none⟩ : Addr).block by show bl ≠ w1.heap.size; omega) (.int .i64 (wrap64 m2))
  have hm_ := blk_far hm (show bm ≠ (⟨w1.heap.size, 5, none⟩ : Addr).block by show bm ≠ w1.heap.size; omega) (.int .i64 (wrap64 m2))
  clear S hl hm x1 z1
  generalize v2.setCell ⟨w1.heap.size, 5, none⟩ (.int .i64 (wrap64 m2)) = w4 at S_ hl_ hm_ ⊢
  have S := S_
  have hl := hl_
  have hm := hm_
  clear S_ hl_ hm_
  rw [rounds_succ]
  unfold rec_Take.fin at h
  by_cases he : g2_ = 0
  · rw [if_pos he] at h
    have he1 : (g2_ != 0) = false := by rw [he]; rfl
    go_upto_region 10 with (go_at_call 24; (with_reducible refine (code_Reader_Err.calls g f2 g2_ g2_ f2 g2_ w0 _ ?side1 ?side2 rfl).mono ?_); (case side1 => ((repeat (with_reducible first | apply IsS84.alloc | apply IsS84.drewN | apply IsS84.drew)); exact S.I)); (case side2 => ((repeat (with_reducible first | apply below_alloc | apply pw_below_drewN | apply below_drew1)); exact S.B)); rintro e u1 ⟨rfl, hi, hb, hk⟩; have S_ := S.num (by omega) (by omega) hi hb hk; clear S hi hb hk; have S := S_; clear S_)
    obtain ⟨x0, x1, x2, x3, x4, x5⟩ := rec_Take.cells6 S.x
    cases hch : Rc.chk 9 0 0 (wrap64 m1) 0 (wrap64 m2)
    · have h' := h
      simp only [hch] at h'
      simp only [if_false, Bool.false_eq_true, Option.some.injEq, Prod.mk.injEq] at h'
      obtain ⟨rfl, rfl, rfl, rfl, rfl, rfl, rfl, rfl, rfl⟩ := h'
      clear h
      go_wp2_with (go_at_call 41; refine (Rc.check_calls 9 0 0 (wrap64 m1) 0 (wrap64 m2) _).mono ?_; rintro e u2 ⟨rfl, hb⟩; have S_ := S.below hb; clear S hb x0 x1 x2 x3 x4 x5; have S := S_; clear S_; obtain ⟨y0, y1, y2, y3, y4, y5⟩ := rec_Take.cells6 S.x; obtain ⟨z0, z1, z2, z3, z4, z5⟩ := rec_Take.cells6 S.z; obtain ⟨zf0, zf1, zf2, zf3, zf4, zf5⟩ := rec_Take.froz6 S.z)
      have S6 : rec_Take.St w0 w _ g w.heap.size w1.heap.size f2 g2_ #[.int .i64 0, .int .i64 0, .int .i64 0, .int .i64 0, .int .i64 0, .int .i64 0] #[.int .i64 9, .int .i64 0, .int .i64 0, .int .i64 (wrap64 m1), .int .i64 0, .int .i64 (wrap64 m2)] := (((((S.setz hw0 (Nat.le_refl _) gz lg 0 (.int .i64 0)).setz hw0 (Nat.le_refl _) gz lg 1 (.int .i64 0)).setz hw0 (Nat.le_refl _) gz lg 2 (.int .i64 0)).setz hw0 (Nat.le_refl _) gz lg 3 (.int .i64 0)).setz hw0 (Nat.le_refl _) gz lg 4 (.int .i64 0)).setz hw0 (Nat.le_refl _) gz lg 5 (.int .i64 0)
      refine bodyPost_ret (results_ct rfl _ _ w.heap.size 58 #[.int .i64 0, .int .i64 0, .int .i64 0, .int .i64 0, .int .i64 0, .int .i64 0] (0, 0) _ rfl S6.z Try.underlying58 rfl (by kernel_rfl)) rfl ?_
      exact ⟨rfl, S6.I, S6.B, S6.K⟩
    · have h' := h
      simp only [hch] at h'
      simp only [if_true, Option.some.injEq, Prod.mk.injEq] at h'
      obtain ⟨rfl, rfl, rfl, rfl, rfl, rfl, rfl, rfl, rfl⟩ := h'
      clear h
      go_wp2_with (go_at_call 41; refine (Rc.check_calls 9 0 0 (wrap64 m1) 0 (wrap64 m2) _).mono ?_; rintro e u2 ⟨rfl, hb⟩; have S_ := S.below hb; clear S hb x0 x1 x2 x3 x4 x5; have S := S_; clear S_; obtain ⟨y0, y1, y2, y3, y4, y5⟩ := rec_Take.cells6 S.x; obtain ⟨z0, z1, z2, z3, z4, z5⟩ := rec_Take.cells6 S.z; obtain ⟨zf0, zf1, zf2, zf3, zf4, zf5⟩ := rec_Take.froz6 S.z)
      have S6 : rec_Take.St w0 w _ g w.heap.size w1.heap.size f2 g2_ #[.int .i64 9, .int .i64 0, .int .i64 0, .int .i64 (wrap64 m1), .int .i64 0, .int .i64 (wrap64 m2)] #[.int .i64 9, .int .i64 0, .int .i64 0, .int .i64 (wrap64 m1), .int .i64 0, .int .i64 (wrap64 m2)] := (((((S.setz hw0 (Nat.le_refl _) gz lg 0 (.int .i64 9)).setz hw0 (Nat.le_refl _) gz lg 1 (.int .i64 0)).setz hw0 (Nat.le_refl _) gz lg 2 (.int .i64 0)).setz hw0 (Nat.le_refl _) gz lg 3 (.int .i64 (wrap64 m1))).setz hw0 (Nat.le_refl _) gz lg 4 (.int .i64 0)).setz hw0 (Nat.le_refl _) gz lg 5 (.int .i64 (wrap64 m2))
      refine bodyPost_ret (results_ct rfl _ _ w.heap.size 58 #[.int .i64 9, .int .i64 0, .int .i64 0, .int .i64 (wrap64 m1), .int .i64 0, .int .i64 (wrap64 m2)] (0, 0) _ rfl S6.z Try.underlying58 rfl (by kernel_rfl)) rfl ?_
      exact ⟨rfl, S6.I, S6.B, S6.K⟩
  · rw [if_neg he] at h
    have he1 : (g2_ != 0) = true := bne_iff_ne.mpr he
    simp only [Option.some.injEq, Prod.mk.injEq] at h
    obtain ⟨rfl, rfl, rfl, rfl, rfl, rfl, rfl, rfl, rfl⟩ := h
    go_upto_region 9 with (go_at_call 24; (with_reducible refine (code_Reader_Err.calls g f2 g2_ g2_ f2 g2_ w0 _ ?side1 ?side2 rfl).mono ?_); (case side1 => ((repeat (with_reducible first | apply IsS84.alloc | apply IsS84.drewN | apply IsS84.drew)); exact S.I)); (case side2 => ((repeat (with_reducible first | apply below_alloc | apply pw_below_drewN | apply below_drew1)); exact S.B)); rintro e u1 ⟨rfl, hi, hb, hk⟩; have S_ := S.num (by omega) (by omega) hi hb hk; clear S hi hb hk; have S := S_; clear S_)
    go_wp2_with (go_at_call 24; (with_reducible refine (code_Reader_Err.calls g f2 g2_ g2_ f2 g2_ w0 _ ?side1 ?side2 rfl).mono ?_); (case side1 => ((repeat (with_reducible first | apply IsS84.alloc | apply IsS84.drewN | apply IsS84.drew)); exact S.I)); (case side2 => ((repeat (with_reducible first | apply below_alloc | apply pw_below_drewN | apply below_drew1)); exact S.B)); rintro e u2 ⟨rfl, hi, hb, hk⟩; have S_ := S.num (by omega) (by omega) hi hb hk; clear S hi hb hk; have S := S_; clear S_; obtain ⟨z0, z1, z2, z3, z4, z5⟩ := rec_Take.cells6 S.z; obtain ⟨zf0, zf1, zf2, zf3, zf4, zf5⟩ := rec_Take.froz6 S.z)
    have S6 : rec_Take.St w0 w _ g w.heap.size w1.heap.size f2 g2_ #[.int .i64 0, .int .i64 0, .int .i64 0, .int .i64 0, .int .i64 0, .int .i64 0] #[.int .i64 9, .int .i64 0, .int .i64 0, .int .i64 (wrap64 m1), .int .i64 0, .int .i64 (wrap64 m2)] := (((((S.setz hw0 (Nat.le_refl _) gz lg 0 (.int .i64 0)).setz hw0 (Nat.le_refl _) gz lg 1 (.int .i64 0)).setz hw0 (Nat.le_refl _) gz lg 2 (.int .i64 0)).setz hw0 (Nat.le_refl _) gz lg 3 (.int .i64 0)).setz hw0 (Nat.le_refl _) gz lg 4 (.int .i64 0)).setz hw0 (Nat.le_refl _) gz lg 5 (.int .i64 0)
    refine bodyPost_ret (results_ct rfl _ _ w.heap.size 58 #[.int .i64 0, .int .i64 0, .int .i64 0, .int .i64 0, .int .i64 0, .int .i64 0] (0, 0) _ rfl S6.z Try.underlying58 rfl (by kernel_rfl)) rfl ?_
    exact ⟨rfl, S6.I, S6.B, S6.K⟩
set_option maxHeartbeats 16000000 in
set_option maxRecDepth 100000 in
theorem rec_Take.c0 (k : Nat) (g : Nat) (s0_0 : ByteArray) (s0_1 : Int) (r1 r2 r3 r4 r5 r6 r7 : Int) (r8 : ByteArray) (r9 : Int) (w0 w : World) (hI : IsS84 w0 w g s0_0 s0_1) (hB : Below w0.heap.size w0 w) (n : Int) (e0 : ByteArray) (e1 : Int) (h1 : code_Reader_Fixed.f k s0_0 s0_1 1 = some (n, e0, e1)) (n1 : wrap64 n ≠ 1) (n2 : wrap64 n ≠ 2) (n3 : wrap64 n ≠ 3) (n4 : wrap64 n ≠ 4) (n5 : wrap64 n ≠ 5) (n6 : wrap64 n ≠ 6) (n7 : wrap64 n ≠ 7) (n8 : wrap64 n ≠ 8) (n9 : wrap64 n ≠ 9)
    (h : (rec_Take.row k (Rc.mosts (wrap64 n)) e0 e1).bind (fun c => rec_Take.fin (wrap64 n) (Rc.mkR (wrap64 n) c.1) c.2.1 c.2.2) = some (r1, r2, r3, r4, r5, r6, r7, r8, r9)) :
    Calls Try.prog 44 #[.pointer (some ⟨g, 0, none⟩)] w fun e w' => e = .returned (.tuple #[.agg #[.int .i64 r1, .int .i64 r2, .int .i64 r3, .int .i64 r4, .int .i64 r5, .int .i64 r6], .int .i64 r7]) ∧ IsS84 w0 w' g r8 r9 ∧ Below w0.heap.size w0 w' ∧ KeepBut w w' g none := by
  have hw0 := hB.size
  have lg : g < w.heap.size := hI.lt
  obtain ⟨c, hc, h⟩ := Option.bind_eq_some_iff.mp h
  have hc : rec_Take.row k [] e0 e1 = some c := by rw [Rc.mosts_none n1 n2 n3 n4 n5 n6 n7 n8 n9] at hc; exact hc
  obtain rfl := Option.some.inj hc
  clear hc
  have h : rec_Take.fin (wrap64 n) (0, 0, 0, 0, 0) e0 e1 = some (r1, r2, r3, r4, r5, r6, r7, r8, r9) := by rw [show Rc.mkR (wrap64 n) ([] : List Int) = (0, 0, 0, 0, 0) from by unfold Rc.mkR; simp] at h; exact h
  have HI := Aside0.mk hI
  have HB := Aside0.mk hB
  have H1 := Aside0.mk h1
  clear hI hB h1
  go_enter Try.func44, Try.ntmps44
  go_wp2_with (first | (go_at_call 27; (with_reducible refine (code_Reader_Fixed.calls k g s0_0 s0_1 1 n e0 e1 w0 _ ?side1 ?side2 H1.out).mono ?_); (case side1 => ((repeat (with_reducible first | apply IsS84.alloc | apply IsS84.drewN | apply IsS84.drew)); exact HI.out)); (case side2 => ((repeat (with_reducible first | apply below_alloc | apply pw_below_drewN | apply below_drew1)); exact HB.out)); rintro e w1 ⟨rfl, hi, hb, hk⟩) | (go_at_call 60; refine (Rc.fields_0 w1.heap.size (wrap64 n) 0 0 0 0 0 _ (Rc.rec_new w1 (wrap64 n) 0 0 0 0 0) n1 n2 n3 n4 n5 n6 n7 n8 n9).mono ?_; rintro e w2 ⟨rfl, hq⟩; have S0 : rec_Take.St w0 w w1 g w.heap.size w.heap.size e0 e1 #[.int .i64 0, .int .i64 0, .int .i64 0, .int .i64 0, .int .i64 0, .int .i64 0] #[.int .i64 0, .int .i64 0, .int .i64 0, .int .i64 0, .int .i64 0, .int .i64 0] := ⟨hi, hb, (keep_alloc (KeepBut.refl w g none) _).trans hk (.inl rfl), hk.blk (Rc.rec_new w 0 0 0 0 0 0) (by omega) (by simp), hk.blk (Rc.rec_new w 0 0 0 0 0 0) (by omega) (by simp)⟩; have gz : w.heap.size < w1.heap.size := (Nat.lt_of_lt_of_le (by rw [Rc.size_alloc]; omega) hk.1); have S1 := S0.below (below_alloc (Below.refl _ _) (.cells #[.int .i64 (wrap64 n), .int .i64 0, .int .i64 0, .int .i64 0, .int .i64 0, .int .i64 0] 58)); have S2 : rec_Take.St w0 w _ g w.heap.size w1.heap.size e0 e1 #[.int .i64 0, .int .i64 0, .int .i64 0, .int .i64 0, .int .i64 0, .int .i64 0] #[.int .i64 (wrap64 n), .int .i64 0, .int .i64 0, .int .i64 0, .int .i64 0, .int .i64 0] := ⟨S1.I, S1.B, S1.K, S1.z, Rc.rec_new w1 (wrap64 n) 0 0 0 0 0⟩; have S := S2.below hq; clear S0 S1 S2 hi hb hk hq))
  refine wp_loop_rounds 1 ?_
  rw [rounds_succ]
  unfold rec_Take.fin at h
  by_cases he : e1 = 0
  · rw [if_pos he] at h
    have he1 : (e1 != 0) = false := by rw [he]; rfl
    go_upto_region 10 with (go_at_call 24; (with_reducible refine (code_Reader_Err.calls g e0 e1 e1 e0 e1 w0 _ ?side1 ?side2 rfl).mono ?_); (case side1 => ((repeat (with_reducible first | apply IsS84.alloc | apply IsS84.drewN | apply IsS84.drew)); exact S.I)); (case side2 => ((repeat (with_reducible first | apply below_alloc | apply pw_below_drewN | apply below_drew1)); exact S.B)); rintro e u1 ⟨rfl, hi, hb, hk⟩; have S_ := S.num (by omega) (by omega) hi hb hk; clear S hi hb hk; have S := S_; clear S_)
    obtain ⟨x0, x1, x2, x3, x4, x5⟩ := rec_Take.cells6 S.x
    cases hch : Rc.chk (wrap64 n) 0 0 0 0 0
    · have h' := h
      simp only [hch] at h'
      simp only [if_false, Bool.false_eq_true, Option.some.injEq, Prod.mk.injEq] at h'
      obtain ⟨rfl, rfl, rfl, rfl, rfl, rfl, rfl, rfl, rfl⟩ := h'
      clear h
      go_wp2_with (go_at_call 41; refine (Rc.check_calls (wrap64 n) 0 0 0 0 0 _).mono ?_; rintro e u2 ⟨rfl, hb⟩; have S_ := S.below hb; clear S hb x0 x1 x2 x3 x4 x5; have S := S_; clear S_; obtain ⟨y0, y1, y2, y3, y4, y5⟩ := rec_Take.cells6 S.x; obtain ⟨z0, z1, z2, z3, z4, z5⟩ := rec_Take.cells6 S.z; obtain ⟨zf0, zf1, zf2, zf3, zf4, zf5⟩ := rec_Take.froz6 S.z)
      have S6 : rec_Take.St w0 w _ g w.heap.size w1.heap.size e0 e1 #[.int .i64 0, .int .i64 0, .int .i64 0, .int .i64 0, .int .i64 0, .int .i64 0] #[.int .i64 (wrap64 n), .int .i64 0, .int .i64 0, .int .i64 0, .int .i64 0, .int .i64 0] := (((((S.setz hw0 (Nat.le_refl _) gz lg 0 (.int .i64 0)).setz hw0 (Nat.le_refl _) gz lg 1 (.int .i64 0)).setz hw0 (Nat.le_refl _) gz lg 2 (.int .i64 0)).setz hw0 (Nat.le_refl _) gz lg 3 (.int .i64 0)).setz hw0 (Nat.le_refl _) gz lg 4 (.int .i64 0)).setz hw0 (Nat.le_refl _) gz lg 5 (.int .i64 0)
      refine bodyPost_ret (results_ct rfl _ _ w.heap.size 58 #[.int .i64 0, .int .i64 0, .int .i64 0, .int .i64 0, .int .i64 0, .int .i64 0] (0, 0) _ rfl S6.z Try.underlying58 rfl (by kernel_rfl)) rfl ?_
      exact ⟨rfl, S6.I, S6.B, S6.K⟩
    · have h' := h
      simp only [hch] at h'
      simp only [if_true, Option.some.injEq, Prod.mk.injEq] at h'
      obtain ⟨rfl, rfl, rfl, rfl, rfl, rfl, rfl, rfl, rfl⟩ := h'
      clear h
      go_wp2_with (go_at_call 41; refine (Rc.check_calls (wrap64 n) 0 0 0 0 0 _).mono ?_; rintro e u2 ⟨rfl, hb⟩; have S_ := S.below hb; clear S hb x0 x1 x2 x3 x4 x5; have S := S_; clear S_; obtain ⟨y0, y1, y2, y3, y4, y5⟩ := rec_Take.cells6 S.x; obtain ⟨z0, z1, z2, z3, z4, z5⟩ := rec_Take.cells6 S.z; obtain ⟨zf0, zf1, zf2, zf3, zf4, zf5⟩ := rec_Take.froz6 S.z)
      have S6 : rec_Take.St w0 w _ g w.heap.size w1.heap.size e0 e1 #[.int .i64 (wrap64 n), .int .i64 0, .int .i64 0, .int .i64 0, .int .i64 0, .int .i64 0] #[.int .i64 (wrap64 n), .int .i64 0, .int .i64 0, .int .i64 0, .int .i64 0, .int .i64 0] := (((((S.setz hw0 (Nat.le_refl _) gz lg 0 (.int .i64 (wrap64 n))).setz hw0 (Nat.le_refl _) gz lg 1 (.int .i64 0)).setz hw0 (Nat.le_refl _) gz lg 2 (.int .i64 0)).setz hw0 (Nat.le_refl _) gz lg 3 (.int .i64 0)).setz hw0 (Nat.le_refl _) gz lg 4 (.int .i64 0)).setz hw0 (Nat.le_refl _) gz lg 5 (.int .i64 0)
      refine bodyPost_ret (results_ct rfl _ _ w.heap.size 58 #[.int .i64 (wrap64 n), .int .i64 0, .int .i64 0, .int .i64 0, .int .i64 0, .int .i64 0] (0, 0) _ rfl S6.z Try.underlying58 rfl (by kernel_rfl)) rfl ?_
      exact ⟨rfl, S6.I, S6.B, S6.K⟩
  · rw [if_neg he] at h
    have he1 : (e1 != 0) = true := bne_iff_ne.mpr he
    simp only [Option.some.injEq, Prod.mk.injEq] at h
    obtain ⟨rfl, rfl, rfl, rfl, rfl, rfl, rfl, rfl, rfl⟩ := h
    go_upto_region 9 with (go_at_call 24; (with_reducible refine (code_Reader_Err.calls g e0 e1 e1 e0 e1 w0 _ ?side1 ?side2 rfl).mono ?_); (case side1 => ((repeat (with_reducible first | apply IsS84.alloc | apply IsS84.drewN | apply IsS84.drew)); exact S.I)); (case side2 => ((repeat (with_reducible first | apply below_alloc | apply pw_below_drewN | apply below_drew1)); exact S.B)); rintro e u1 ⟨rfl, hi, hb, hk⟩; have S_ := S.num (by omega) (by omega) hi hb hk; clear S hi hb hk; have S := S_; clear S_)
    go_wp2_with (go_at_call 24; (with_reducible refine (code_Reader_Err.calls g e0 e1 e1 e0 e1 w0 _ ?side1 ?side2 rfl).mono ?_); (case side1 => ((repeat (with_reducible first | apply IsS84.alloc | apply IsS84.drewN | apply IsS84.drew)); exact S.I)); (case side2 => ((repeat (with_reducible first | apply below_alloc | apply pw_below_drewN | apply below_drew1)); exact S.B)); rintro e u2 ⟨rfl, hi, hb, hk⟩; have S_ := S.num (by omega) (by omega) hi hb hk; clear S hi hb hk; have S := S_; clear S_; obtain ⟨z0, z1, z2, z3, z4, z5⟩ := rec_Take.cells6 S.z; obtain ⟨zf0, zf1, zf2, zf3, zf4, zf5⟩ := rec_Take.froz6 S.z)
    have S6 : rec_Take.St w0 w _ g w.heap.size w1.heap.size e0 e1 #[.int .i64 0, .int .i64 0, .int .i64 0, .int .i64 0, .int .i64 0, .int .i64 0] #[.int .i64 (wrap64 n), .int .i64 0, .int .i64 0, .int .i64 0, .int .i64 0, .int .i64 0] := (((((S.setz hw0 (Nat.le_refl _) gz lg 0 (.int .i64 0)).setz hw0 (Nat.le_refl _) gz lg 1 (.int .i64 0)).setz hw0 (Nat.le_refl _) gz lg 2 (.int .i64 0)).setz hw0 (Nat.le_refl _) gz lg 3 (.int .i64 0)).setz hw0 (Nat.le_refl _) gz lg 4 (.int .i64 0)).setz hw0 (Nat.le_refl _) gz lg 5 (.int .i64 0)
    refine bodyPost_ret (results_ct rfl _ _ w.heap.size 58 #[.int .i64 0, .int .i64 0, .int .i64 0, .int .i64 0, .int .i64 0, .int .i64 0] (0, 0) _ rfl S6.z Try.underlying58 rfl (by kernel_rfl)) rfl ?_
    exact ⟨rfl, S6.I, S6.B, S6.K⟩
theorem rec_Take.calls (k : Nat) (g : Nat) (s0_0 : ByteArray) (s0_1 : Int) (r1 : Int) (r2 : Int) (r3 : Int) (r4 : Int) (r5 : Int) (r6 : Int) (r7 : Int) (r8 : ByteArray) (r9 : Int) (w0 w : World) (hI : IsS84 w0 w g s0_0 s0_1) (hB : Below w0.heap.size w0 w) (h : rec_Take.f k s0_0 s0_1 = some (r1, r2, r3, r4, r5, r6, r7, r8, r9)) :
    Calls Try.prog 44 #[.pointer (some ⟨g, 0, none⟩)] w fun e w' => e = .returned (.tuple #[.agg #[.int .i64 r1, .int .i64 r2, .int .i64 r3, .int .i64 r4, .int .i64 r5, .int .i64 r6], .int .i64 r7]) ∧ IsS84 w0 w' g r8 r9 ∧ Below w0.heap.size w0 w' ∧ KeepBut w w' g none := by
  obtain ⟨⟨n, e0, e1⟩, h1, h⟩ := Option.bind_eq_some_iff.mp h
  by_cases n1 : wrap64 n = 1
  · exact rec_Take.c1 k g s0_0 s0_1 r1 r2 r3 r4 r5 r6 r7 r8 r9 w0 w hI hB n e0 e1 h1 n1 h
  by_cases n2 : wrap64 n = 2
  · exact rec_Take.c2 k g s0_0 s0_1 r1 r2 r3 r4 r5 r6 r7 r8 r9 w0 w hI hB n e0 e1 h1 n2 h
  by_cases n3 : wrap64 n = 3
  · exact rec_Take.c3 k g s0_0 s0_1 r1 r2 r3 r4 r5 r6 r7 r8 r9 w0 w hI hB n e0 e1 h1 n3 h
  by_cases n4 : wrap64 n = 4
  · exact rec_Take.c4 k g s0_0 s0_1 r1 r2 r3 r4 r5 r6 r7 r8 r9 w0 w hI hB n e0 e1 h1 n4 h
  by_cases n5 : wrap64 n = 5
  · exact rec_Take.c5 k g s0_0 s0_1 r1 r2 r3 r4 r5 r6 r7 r8 r9 w0 w hI hB n e0 e1 h1 n5 h
  by_cases n6 : wrap64 n = 6
  · exact rec_Take.c6 k g s0_0 s0_1 r1 r2 r3 r4 r5 r6 r7 r8 r9 w0 w hI hB n e0 e1 h1 n6 h
  by_cases n7 : wrap64 n = 7
  · exact rec_Take.c7 k g s0_0 s0_1 r1 r2 r3 r4 r5 r6 r7 r8 r9 w0 w hI hB n e0 e1 h1 n7 h
  by_cases n8 : wrap64 n = 8
  · exact rec_Take.c8 k g s0_0 s0_1 r1 r2 r3 r4 r5 r6 r7 r8 r9 w0 w hI hB n e0 e1 h1 n8 h
  by_cases n9 : wrap64 n = 9
  · exact rec_Take.c9 k g s0_0 s0_1 r1 r2 r3 r4 r5 r6 r7 r8 r9 w0 w hI hB n e0 e1 h1 n9 h
  exact rec_Take.c0 k g s0_0 s0_1 r1 r2 r3 r4 r5 r6 r7 r8 r9 w0 w hI hB n e0 e1 h1 n1 n2 n3 n4 n5 n6 n7 n8 n9 h

end Go.Proofs.Ytoiahmdibibceaa.XRecRows
