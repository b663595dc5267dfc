-- Written by xprint.py of this repo (the kit's print with turns of our own) out of the translation.
import Derived.Test.YtoiahmdibibceaaXRecRowsx0
namespace Go.Proofs.Ytoiahmdibibceaa.XRecRows
open Go.RowKit Go.Proofs.YtoiahmdibibceaaW.PrintWords Go.Proofs.YtoiahmdibibceaaW.PrintLast Go.Proofs.YtoiahmdibibceaaW.PrintMore
attribute [local go_sem] max2_int min2_int max_two min_two max_three min_three max_four min_four   -- for this text's walks alone
set_option linter.unusedVariables false
set_option linter.unusedSimpArgs false

/-- A state of type 84 at block g of W; what its slices lead to came in by w0. -/
def IsS84 (w0 W : World) (g : Nat) (f0 : ByteArray) (f1 : Int) : Prop := W.heap[g]? = some (.cells #[.string f0, .int .i64 f1] 84 (0, 0)) ∧ w0.heap.size ≤ g
theorem IsS84.grown {w0 W : World} {g : Nat} {f0 : ByteArray} {f1 : Int} {W1 : World} {row : Option Nat} (h : IsS84 w0 W g f0 f1) (hw : W.grownBy W1 row) (hne : some g ≠ row) : IsS84 w0 W1 g f0 f1 := by
  obtain ⟨hb, hg⟩ := h
  exact ⟨blk_grown hb hw hne, hg⟩
theorem IsS84.own_neN {w0 W : World} {g : Nat} {f0 : ByteArray} {f1 : Int} {α : Type} {d : Kd α} {e : Nat} {base : Nat} {ok : Nat → Prop} {v : Value} {xs : List α} (h : IsS84 w0 W g f0 f1) (ho : Kd.N d e W base ok v xs) (ht : e ≠ 84) : some g ≠ v.ownBlock := by
  obtain ⟨hb, hg⟩ := h
  exact Kd.N_ne ho hb ht
theorem IsS84.fresh {w0 W : World} {g : Nat} {f0 : ByteArray} {f1 : Int} (h : IsS84 w0 W g f0 f1) : ∀ k, W.heap.size ≤ k → k ≠ g := by
  obtain ⟨hb, hg⟩ := h
  exact Kd.freshB hb
theorem IsS84.kept {w0 W : World} {g : Nat} {f0 : ByteArray} {f1 : Int} {W1 : World} {S : Nat → Prop} (h : IsS84 w0 W g f0 f1) (hk : Kept W W1 S) (hne : ¬ S g) : IsS84 w0 W1 g f0 f1 := by
  obtain ⟨hb, hg⟩ := h
  exact ⟨blk_kept hb hk hne, hg⟩
theorem IsS84.below {w0 W : World} {g : Nat} {f0 : ByteArray} {f1 : Int} {W1 : World} (h : IsS84 w0 W g f0 f1) (hw : Below W.heap.size W W1) : IsS84 w0 W1 g f0 f1 := h.grown (grown_of_below hw none) (by simp)
theorem IsS84.alloc {w0 W : World} {g : Nat} {f0 : ByteArray} {f1 : Int} (h : IsS84 w0 W g f0 f1) (o : Obj) : IsS84 w0 (W.alloc o) g f0 f1 := h.below (below_alloc (Below.refl _ _) o)
theorem IsS84.drewN {w0 W : World} {g : Nat} {f0 : ByteArray} {f1 : Int} (h : IsS84 w0 W g f0 f1) (m : Nat) : IsS84 w0 (W.drewN m) g f0 f1 := h
theorem IsS84.drew {w0 W : World} {g : Nat} {f0 : ByteArray} {f1 : Int} (h : IsS84 w0 W g f0 f1) : IsS84 w0 W.drew g f0 f1 := h
theorem IsS84.at_ {w0 W : World} {g : Nat} {f0 : ByteArray} {f1 : Int} {w' : World} {m : Nat} (hq : W.drewN m = w') (h : IsS84 w0 W g f0 f1) : IsS84 w0 w' g f0 f1 := by subst hq; exact IsS84.drewN h m
theorem IsS84.apart {w0 W : World} {g : Nat} {f0 : ByteArray} {f1 : Int} {α : Type} {d : Kd α} {e : Nat} {base : Nat} {ok : Nat → Prop} {v : Value} {xs : List α} (h : IsS84 w0 W g f0 f1) (ho : d.R e W base ok v xs) (ht : ∀ q, q ∈ e :: d.E → q ≠ 84) : d.R e W base (fun k => ok k ∧ k ≠ g) v xs := by
  obtain ⟨hb, hg⟩ := h
  exact Kd.R_types ho hb ht
theorem IsS84.own_ne {w0 W : World} {g : Nat} {f0 : ByteArray} {f1 : Int} {α : Type} {d : Kd α} {e : Nat} {base : Nat} {ok : Nat → Prop} {v : Value} {xs : List α} (h : IsS84 w0 W g f0 f1) (ho : d.R e W base ok v xs) (ht : e ≠ 84) : some g ≠ v.ownBlock := by
  obtain ⟨hb, hg⟩ := h
  exact Kd.R_ne ho hb ht
theorem IsS84.apartQ {w0 W : World} {g : Nat} {f0 : ByteArray} {f1 : Int} {α : Type} {d : Kd α} {e : Nat} {base : Nat} {ok : Nat → Prop} {v : Value} {xs : List α} (h : IsS84 w0 W g f0 f1) (ho : d.Q e W base ok v xs) (ht : ∀ q, q ∈ e :: d.E → q ≠ 84) : d.Q e W base (fun k => ok k ∧ k ≠ g) v xs := by
  obtain ⟨hb, hg⟩ := h
  exact Kd.Q_types ho hb ht
theorem IsS84.own_neQ {w0 W : World} {g : Nat} {f0 : ByteArray} {f1 : Int} {α : Type} {d : Kd α} {e : Nat} {base : Nat} {ok : Nat → Prop} {v : Value} {xs : List α} (h : IsS84 w0 W g f0 f1) (ho : d.Q e W base ok v xs) (ht : e ≠ 84) : some g ≠ v.ownBlock := by
  obtain ⟨hb, hg⟩ := h
  exact Kd.Q_ne ho hb ht
theorem IsS84.apartS {w0 W : World} {g : Nat} {f0 : ByteArray} {f1 : Int} {α : Type} {d : Kd α} {e : Nat} {base : Nat} {ok : Nat → Prop} {v : Value} {xs : List α} (h : IsS84 w0 W g f0 f1) (ho : d.S e W base ok v xs) (ht : ∀ q, q ∈ e :: d.E → q ≠ 84) : d.S e W base (fun k => ok k ∧ k ≠ g) v xs := by
  obtain ⟨hb, hg⟩ := h
  exact Kd.S_types ho hb ht
theorem IsS84.own_neS {w0 W : World} {g : Nat} {f0 : ByteArray} {f1 : Int} {α : Type} {d : Kd α} {e : Nat} {base : Nat} {ok : Nat → Prop} {v : Value} {xs : List α} (h : IsS84 w0 W g f0 f1) (ho : d.S e W base ok v xs) (ht : e ≠ 84) : some g ≠ v.ownBlock := by
  obtain ⟨hb, hg⟩ := h
  exact Kd.S_ne ho hb ht
theorem IsS84.lt {w0 W : World} {g : Nat} {f0 : ByteArray} {f1 : Int} (h : IsS84 w0 W g f0 f1) : g < W.heap.size := by
  obtain ⟨hb, hg⟩ := h
  exact blk_lt hb
theorem IsS84.ge {w0 W : World} {g : Nat} {f0 : ByteArray} {f1 : Int} (h : IsS84 w0 W g f0 f1) : w0.heap.size ≤ g := by
  obtain ⟨hb, hg⟩ := h
  exact hg
theorem IsS84.ne_blk {w0 W : World} {g : Nat} {f0 : ByteArray} {f1 : Int} {a : Nat} {cs : Array Value} {t : TypeId} {fr : Nat × Nat} (h : IsS84 w0 W g f0 f1) (hb2 : W.heap[a]? = some (.cells cs t fr)) (ht : t ≠ 84) : g ≠ a := by
  obtain ⟨hb, hg⟩ := h
  rintro rfl
  rw [hb] at hb2
  injection hb2 with hb2
  injection hb2 with _ ht2
  exact ht ht2.symm
theorem IsS84.far {w0 W : World} {g : Nat} {f0 : ByteArray} {f1 : Int} {p : Addr} (h : IsS84 w0 W g f0 f1) (hne : g ≠ p.block) (u : Value) : IsS84 w0 (W.setCell p u) g f0 f1 := by
  obtain ⟨hb, hg⟩ := h
  exact ⟨blk_far hb hne u, hg⟩
theorem cellS84_0 {W : World} {g : Nat} {f0 : ByteArray} {f1 : Int} (h : W.heap[g]? = some (.cells #[.string f0, .int .i64 f1] 84 (0, 0))) : W.cell? ⟨g, 0, none⟩ = some (.string f0) := (blk_cell h 0).trans rfl
theorem IsS84.set_0 {w0 W : World} {g : Nat} {f0 : ByteArray} {f1 : Int} (h : IsS84 w0 W g f0 f1) (x : ByteArray) : IsS84 w0 (W.setCell ⟨g, 0, none⟩ (.string x)) g x f1 := by
  obtain ⟨hb, hg⟩ := h
  exact ⟨by simpa using blk_set hb 0 (.string x), hg⟩
theorem cellS84_1 {W : World} {g : Nat} {f0 : ByteArray} {f1 : Int} (h : W.heap[g]? = some (.cells #[.string f0, .int .i64 f1] 84 (0, 0))) : W.cell? ⟨g, 1, none⟩ = some (.int .i64 f1) := (blk_cell h 1).trans rfl
theorem IsS84.set_1 {w0 W : World} {g : Nat} {f0 : ByteArray} {f1 : Int} (h : IsS84 w0 W g f0 f1) (x : Int) : IsS84 w0 (W.setCell ⟨g, 1, none⟩ (.int .i64 x)) g f0 x := by
  obtain ⟨hb, hg⟩ := h
  exact ⟨by simpa using blk_set hb 1 (.int .i64 x), hg⟩
theorem IsS84.new (w0 W : World) (f0 : ByteArray) (f1 : Int) (hB : Below w0.heap.size w0 W) : IsS84 w0 (W.alloc (.cells #[.string f0, .int .i64 f1] 84)) W.heap.size f0 f1 := ⟨by simpa using heap_alloc_new W _, hB.size⟩

/-! ### code_New: function 18 -/
def code_New.f (a0 : ByteArray) : Option (ByteArray × Int) := some (a0, 0)
set_option maxHeartbeats 8000000 in
set_option maxRecDepth 100000 in
theorem code_New.calls (a0 : ByteArray) (r1 : ByteArray) (r2 : Int) (w0 w : World) (hB : Below w0.heap.size w0 w) (h : code_New.f a0 = some (r1, r2)) :
    Calls Try.prog 18 #[.string a0] w fun e w' => ∃ g_ : Nat, e = .returned (.pointer (some ⟨g_, 0, none⟩)) ∧ IsS84 w0 w' g_ r1 r2 ∧ Below w0.heap.size w0 w' ∧ Below w.heap.size w w' := by
  have hu84 := Try.underlying84
  have HBW := Aside0.mk (Below.refl w.heap.size w)
  have HW0 := Aside0.mk hB.size
  have HB := Aside0.mk hB
  clear hB
  have H : (some (a0, 0)) = some (r1, r2) := h
  clear h
  simp only [Option.some.injEq, Prod.mk.injEq] at H
  obtain ⟨rfl, rfl⟩ := H
  go_enter Try.func18, Try.ntmps18
  go_wp2_with (first | ((with_reducible refine gate_dst (N := 5) rfl ?_); refine box_event ?hg (N := 5) ?hd (cs := #[.string a0, .int .i64 0]) (t := 84) ?hr ?_; (case hd => rfl); (case hg => rfl); (case hr => first | (go_simp; done) | (go_simp; rfl)); intro gb101 hg w2 hbox hb; have n0_ := Aside0.mk (below_step HBW.out hb); have n1_ := Aside0.mk (below_step (by repeat (first | (with_reducible first | exact HB.out | apply below_alloc | apply pw_below_drewN | apply below_drew1) | exact HB.out)) hb); have n2_ := Aside0.mk (hbox); have n3_ := Aside0.mk ((by rw [hg]; exact (below_size (by repeat (first | (with_reducible first | exact HBW.out | apply below_alloc | apply pw_below_drewN | apply below_drew1) | exact HBW.out))) : w.heap.size ≤ gb101)); have n4_ := Aside0.mk ((Nat.le_trans HW0.out (by rw [hg]; exact (below_size (by repeat (first | (with_reducible first | exact HBW.out | apply below_alloc | apply pw_below_drewN | apply below_drew1) | exact HBW.out))) : w.heap.size ≤ gb101) : w0.heap.size ≤ gb101)); clear HBW; clear HB; have HBW := n0_; have HB := n1_; have BK101 := n2_; have GW101 := n3_; have GE101 := n4_; clear n0_ n1_ n2_ n3_ n4_; clear hb hbox hg))
  go_ret
  exact ⟨_, rfl, (show IsS84 w0 _ gb101 a0 0 from ⟨by (with_reducible repeat (first | refine blk_drewN ?_ _ | refine blk_drew ?_ | refine blk_alloc ?_ _)); exact BK101.out, GE101.out⟩), by repeat (first | (with_reducible first | exact HB.out | apply below_alloc | apply pw_below_drewN | apply below_drew1 | refine below_set ?_ GE101.out) | exact HB.out), by repeat (first | (with_reducible first | exact HBW.out | apply below_alloc | apply pw_below_drewN | apply below_drew1 | refine below_set ?_ GW101.out) | exact HBW.out)⟩

/-! ### code_Reader_Err: function 24 -/
def code_Reader_Err.f (s0_0 : ByteArray) (s0_1 : Int) : Option (Int × ByteArray × Int) := some (s0_1, s0_0, s0_1)
set_option maxHeartbeats 8000000 in
set_option maxRecDepth 100000 in
theorem code_Reader_Err.calls (g : Nat) (s0_0 : ByteArray) (s0_1 : Int) (r1 : Int) (r2 : ByteArray) (r3 : Int) (w0 w : World) (hI : IsS84 w0 w g s0_0 s0_1) (hB : Below w0.heap.size w0 w) (h : code_Reader_Err.f s0_0 s0_1 = some (r1, r2, r3)) :
    Calls Try.prog 24 #[.pointer (some ⟨g, 0, none⟩)] w fun e w' => e = .returned (.int .i64 r1) ∧ IsS84 w0 w' g r2 r3 ∧ Below w0.heap.size w0 w' ∧ KeepBut w w' g none := by
  have HI0 := Aside0.mk hI
  have HK := Aside0.mk (KeepBut.refl w g none)
  have HL := Aside0.mk hB.size
  clear hI
  have HW0 := Aside0.mk hB.size
  have HB := Aside0.mk hB
  clear hB
  have H : (some (s0_1, s0_0, s0_1)) = some (r1, r2, r3) := h
  clear h
  simp only [Option.some.injEq, Prod.mk.injEq] at H
  obtain ⟨rfl, rfl, rfl⟩ := H
  obtain ⟨HGz2, hgz2⟩ := HI0.out
  have hcz2_0 := cellS84_0 HGz2
  have hcz2_1 := cellS84_1 HGz2
  have hfz2_0 := blk_frozen HGz2 0
  have hfz2_1 := blk_frozen HGz2 1
  clear HGz2 hgz2
  go_enter Try.func24, Try.ntmps24
  go_wp2
  go_ret
  exact ⟨by first | rfl | (simp [errW_none, errW_some] <;> rfl) | (simp [*, errW_none, errW_some] <;> rfl), by repeat (first | (with_reducible first | exact HI0.out | apply IsS84.alloc | apply IsS84.drewN | apply IsS84.drew | apply IsS84.set_0 | apply IsS84.set_1) | exact HI0.out), by repeat (first | (with_reducible first | exact HB.out | apply below_alloc | apply pw_below_drewN | apply below_drew1 | refine below_set ?_ (IsS84.ge HI0.out)) | exact HB.out), by repeat (first | (with_reducible first | exact HK.out | apply KeepBut.set_ | apply keep_drewN | apply keep_drew | apply keep_alloc) | exact HK.out)⟩

/-! ### code_Reader_End: function 23 -/
def code_Reader_End.f (s0_0 : ByteArray) (s0_1 : Int) : Option (Int × ByteArray × Int) := (code_Reader_Err.f s0_0 s0_1).bind fun bt102 => (if bt102.1 = 0 then (if bt102.2.1.toList = ([] : List UInt8) then ((code_Reader_Err.f bt102.2.1 bt102.2.2).bind fun bt105 => (some (bt105.1, bt105.2.1, bt105.2.2))) else (some (4, bt102.2.1, bt102.2.2))) else ((code_Reader_Err.f bt102.2.1 bt102.2.2).bind fun bt108 => (some (bt108.1, bt108.2.1, bt108.2.2))))
set_option maxHeartbeats 8000000 in
set_option maxRecDepth 100000 in
theorem code_Reader_End.calls (g : Nat) (s0_0 : ByteArray) (s0_1 : Int) (r1 : Int) (r2 : ByteArray) (r3 : Int) (w0 w : World) (hI : IsS84 w0 w g s0_0 s0_1) (hB : Below w0.heap.size w0 w) (h : code_Reader_End.f s0_0 s0_1 = some (r1, r2, r3)) :
    Calls Try.prog 23 #[.pointer (some ⟨g, 0, none⟩)] w fun e w' => e = .returned (.int .i64 r1) ∧ IsS84 w0 w' g r2 r3 ∧ Below w0.heap.size w0 w' ∧ KeepBut w w' g none := by
  have HI0 := Aside0.mk hI
  have HK := Aside0.mk (KeepBut.refl w g none)
  have HL := Aside0.mk hB.size
  clear hI
  have HW0 := Aside0.mk hB.size
  have HB := Aside0.mk hB
  clear hB
  have H : ((code_Reader_Err.f s0_0 s0_1).bind fun bt102 => (if bt102.1 = 0 then (if bt102.2.1.toList = ([] : List UInt8) then ((code_Reader_Err.f bt102.2.1 bt102.2.2).bind fun bt105 => (some (bt105.1, bt105.2.1, bt105.2.2))) else (some (4, bt102.2.1, bt102.2.2))) else ((code_Reader_Err.f bt102.2.1 bt102.2.2).bind fun bt108 => (some (bt108.1, bt108.2.1, bt108.2.2))))) = some (r1, r2, r3) := h
  clear h
  replace H := Option.bind_eq_some_iff.mp H
  obtain ⟨⟨t102, t103, t104⟩, A20, H⟩ := H
  replace H : (if t102 = 0 then (if t103.toList = ([] : List UInt8) then ((code_Reader_Err.f t103 t104).bind fun bt105 => (some (bt105.1, bt105.2.1, bt105.2.2))) else (some (4, t103, t104))) else ((code_Reader_Err.f t103 t104).bind fun bt108 => (some (bt108.1, bt108.2.1, bt108.2.2)))) = some (r1, r2, r3) := H
  have A2 := Aside0.mk A20
  clear A20
  by_cases c3 : t102 = 0
  · rw [if_pos c3] at H
    have c3b0 : (t102 == 0) = true := beq_iff_eq.mpr c3
    have c3b1 : (t102 != 0) = false := bne_eq_false_iff_eq.mpr c3
    clear c3
    by_cases c4 : t103.toList = ([] : List UInt8)
    · rw [if_pos c4] at H
      have c4b0 : (t103.toList == ([] : List UInt8)) = true := beq_iff_eq.mpr c4
      have c4b1 : (t103.toList != ([] : List UInt8)) = false := bne_eq_false_iff_eq.mpr c4
      clear c4
      replace H := Option.bind_eq_some_iff.mp H
      obtain ⟨⟨t105, t106, t107⟩, A50, H⟩ := H
      replace H : (some (t105, t106, t107)) = some (r1, r2, r3) := H
      have A5 := Aside0.mk A50
      clear A50
      simp only [Option.some.injEq, Prod.mk.injEq] at H
      obtain ⟨rfl, rfl, rfl⟩ := H
      go_enter Try.func23, Try.ntmps23
      go_wp2_with (first | ((with_reducible refine gate_callee (f := 24) rfl ?_); refine goesL_ (some 4) rfl rfl Try.func24 (by kernel_rfl) rfl #[.pointer (some ⟨g, 0, none⟩)] rfl (by (try simp only [List.map_toArray, List.map_cons, List.map_nil]); first | done | rfl | (simp only [List.length_drop, List.length_take]; rfl)) ?_; (with_reducible refine (code_Reader_Err.calls g s0_0 s0_1 t102 t103 t104 w0 _ ?side1 ?side2 A2.out).mono ?_); (case side1 => repeat (first | (with_reducible first | exact HI0.out | apply IsS84.alloc | apply IsS84.drewN | apply IsS84.drew | apply IsS84.set_0 | apply IsS84.set_1) | exact HI0.out)); (case side2 => repeat (first | (with_reducible first | exact HB.out | apply below_alloc | apply pw_below_drewN | apply below_drew1 | refine below_set ?_ (IsS84.ge HI0.out)) | exact HB.out)); rintro e w6 ⟨rfl, hi, hb, hk⟩; refine ⟨_, rfl, ?_⟩; have n0_ := Aside0.mk (KeepBut.trans (by repeat (first | (with_reducible first | exact HK.out | apply KeepBut.set_ | apply keep_drewN | apply keep_drew | apply keep_alloc) | exact HK.out)) hk (.inl rfl)); have n1_ := Aside0.mk (hb); have n2_ := Aside0.mk (hi); clear HK; clear HB; clear HI0; have HK := n0_; have HB := n1_; have HI0 := n2_; clear n0_ n1_ n2_; (try clear hb); (try clear hb2); (try clear hk); (try clear hi); obtain ⟨HGz7, hgz7⟩ := HI0.out; have hcz7_0 := cellS84_0 HGz7; have hcz7_1 := cellS84_1 HGz7; have hfz7_0 := blk_frozen HGz7 0; have hfz7_1 := blk_frozen HGz7 1; clear HGz7 hgz7) | ((with_reducible refine gate_callee (f := 24) rfl ?_); refine goesL_ (some 14) rfl rfl Try.func24 (by kernel_rfl) rfl #[.pointer (some ⟨g, 0, none⟩)] rfl (by (try simp only [List.map_toArray, List.map_cons, List.map_nil]); first | done | rfl | (simp only [List.length_drop, List.length_take]; rfl)) ?_; (with_reducible refine (code_Reader_Err.calls g t103 t104 t105 t106 t107 w0 _ ?side1 ?side2 A5.out).mono ?_); (case side1 => repeat (first | (with_reducible first | exact HI0.out | apply IsS84.alloc | apply IsS84.drewN | apply IsS84.drew | apply IsS84.set_0 | apply IsS84.set_1) | exact HI0.out)); (case side2 => repeat (first | (with_reducible first | exact HB.out | apply below_alloc | apply pw_below_drewN | apply below_drew1 | refine below_set ?_ (IsS84.ge HI0.out)) | exact HB.out)); rintro e w8 ⟨rfl, hi, hb, hk⟩; refine ⟨_, rfl, ?_⟩; have n0_ := Aside0.mk (KeepBut.trans (by repeat (first | (with_reducible first | exact HK.out | apply KeepBut.set_ | apply keep_drewN | apply keep_drew | apply keep_alloc) | exact HK.out)) hk (.inl rfl)); have n1_ := Aside0.mk (hb); have n2_ := Aside0.mk (hi); clear HK; clear HB; clear HI0; have HK := n0_; have HB := n1_; have HI0 := n2_; clear n0_ n1_ n2_; (try clear hb); (try clear hb2); (try clear hk); (try clear hi)))
      go_ret
      exact ⟨by first | rfl | (simp [errW_none, errW_some] <;> rfl) | (simp [*, errW_none, errW_some] <;> rfl), by repeat (first | (with_reducible first | exact HI0.out | apply IsS84.alloc | apply IsS84.drewN | apply IsS84.drew | apply IsS84.set_0 | apply IsS84.set_1) | exact HI0.out), by repeat (first | (with_reducible first | exact HB.out | apply below_alloc | apply pw_below_drewN | apply below_drew1 | refine below_set ?_ (IsS84.ge HI0.out)) | exact HB.out), by repeat (first | (with_reducible first | exact HK.out | apply KeepBut.set_ | apply keep_drewN | apply keep_drew | apply keep_alloc) | exact HK.out)⟩
    · rw [if_neg c4] at H
      have c4b0 : (t103.toList == ([] : List UInt8)) = false := beq_eq_false_iff_ne.mpr c4
      have c4b1 : (t103.toList != ([] : List UInt8)) = true := bne_iff_ne.mpr c4
      simp only [Option.some.injEq, Prod.mk.injEq] at H
      obtain ⟨rfl, rfl, rfl⟩ := H
      go_enter Try.func23, Try.ntmps23
      go_wp2_with (first | ((with_reducible refine gate_callee (f := 24) rfl ?_); refine goesL_ (some 4) rfl rfl Try.func24 (by kernel_rfl) rfl #[.pointer (some ⟨g, 0, none⟩)] rfl (by (try simp only [List.map_toArray, List.map_cons, List.map_nil]); first | done | rfl | (simp only [List.length_drop, List.length_take]; rfl)) ?_; (with_reducible refine (code_Reader_Err.calls g s0_0 s0_1 t102 t103 t104 w0 _ ?side1 ?side2 A2.out).mono ?_); (case side1 => repeat (first | (with_reducible first | exact HI0.out | apply IsS84.alloc | apply IsS84.drewN | apply IsS84.drew | apply IsS84.set_0 | apply IsS84.set_1) | exact HI0.out)); (case side2 => repeat (first | (with_reducible first | exact HB.out | apply below_alloc | apply pw_below_drewN | apply below_drew1 | refine below_set ?_ (IsS84.ge HI0.out)) | exact HB.out)); rintro e w9 ⟨rfl, hi, hb, hk⟩; refine ⟨_, rfl, ?_⟩; have n0_ := Aside0.mk (KeepBut.trans (by repeat (first | (with_reducible first | exact HK.out | apply KeepBut.set_ | apply keep_drewN | apply keep_drew | apply keep_alloc) | exact HK.out)) hk (.inl rfl)); have n1_ := Aside0.mk (hb); have n2_ := Aside0.mk (hi); clear HK; clear HB; clear HI0; have HK := n0_; have HB := n1_; have HI0 := n2_; clear n0_ n1_ n2_; (try clear hb); (try clear hb2); (try clear hk); (try clear hi); obtain ⟨HGz10, hgz10⟩ := HI0.out; have hcz10_0 := cellS84_0 HGz10; have hcz10_1 := cellS84_1 HGz10; have hfz10_0 := blk_frozen HGz10 0; have hfz10_1 := blk_frozen HGz10 1; clear HGz10 hgz10))
      go_ret
      exact ⟨by first | rfl | (simp [errW_none, errW_some] <;> rfl) | (simp [*, errW_none, errW_some] <;> rfl), by repeat (first | (with_reducible first | exact HI0.out | apply IsS84.alloc | apply IsS84.drewN | apply IsS84.drew | apply IsS84.set_0 | apply IsS84.set_1) | exact HI0.out), by repeat (first | (with_reducible first | exact HB.out | apply below_alloc | apply pw_below_drewN | apply below_drew1 | refine below_set ?_ (IsS84.ge HI0.out)) | exact HB.out), by repeat (first | (with_reducible first | exact HK.out | apply KeepBut.set_ | apply keep_drewN | apply keep_drew | apply keep_alloc) | exact HK.out)⟩
  · rw [if_neg c3] at H
    have c3b0 : (t102 == 0) = false := beq_eq_false_iff_ne.mpr c3
    have c3b1 : (t102 != 0) = true := bne_iff_ne.mpr c3
    replace H := Option.bind_eq_some_iff.mp H
    obtain ⟨⟨t108, t109, t110⟩, A110, H⟩ := H
    replace H : (some (t108, t109, t110)) = some (r1, r2, r3) := H
    have A11 := Aside0.mk A110
    clear A110
    simp only [Option.some.injEq, Prod.mk.injEq] at H
    obtain ⟨rfl, rfl, rfl⟩ := H
    go_enter Try.func23, Try.ntmps23
    go_wp2_with (first | ((with_reducible refine gate_callee (f := 24) rfl ?_); refine goesL_ (some 4) rfl rfl Try.func24 (by kernel_rfl) rfl #[.pointer (some ⟨g, 0, none⟩)] rfl (by (try simp only [List.map_toArray, List.map_cons, List.map_nil]); first | done | rfl | (simp only [List.length_drop, List.length_take]; rfl)) ?_; (with_reducible refine (code_Reader_Err.calls g s0_0 s0_1 t102 t103 t104 w0 _ ?side1 ?side2 A2.out).mono ?_); (case side1 => repeat (first | (with_reducible first | exact HI0.out | apply IsS84.alloc | apply IsS84.drewN | apply IsS84.drew | apply IsS84.set_0 | apply IsS84.set_1) | exact HI0.out)); (case side2 => repeat (first | (with_reducible first | exact HB.out | apply below_alloc | apply pw_below_drewN | apply below_drew1 | refine below_set ?_ (IsS84.ge HI0.out)) | exact HB.out)); rintro e w12 ⟨rfl, hi, hb, hk⟩; refine ⟨_, rfl, ?_⟩; have n0_ := Aside0.mk (KeepBut.trans (by repeat (first | (with_reducible first | exact HK.out | apply KeepBut.set_ | apply keep_drewN | apply keep_drew | apply keep_alloc) | exact HK.out)) hk (.inl rfl)); have n1_ := Aside0.mk (hb); have n2_ := Aside0.mk (hi); clear HK; clear HB; clear HI0; have HK := n0_; have HB := n1_; have HI0 := n2_; clear n0_ n1_ n2_; (try clear hb); (try clear hb2); (try clear hk); (try clear hi)) | ((with_reducible refine gate_callee (f := 24) rfl ?_); refine goesL_ (some 14) rfl rfl Try.func24 (by kernel_rfl) rfl #[.pointer (some ⟨g, 0, none⟩)] rfl (by (try simp only [List.map_toArray, List.map_cons, List.map_nil]); first | done | rfl | (simp only [List.length_drop, List.length_take]; rfl)) ?_; (with_reducible refine (code_Reader_Err.calls g t103 t104 t108 t109 t110 w0 _ ?side1 ?side2 A11.out).mono ?_); (case side1 => repeat (first | (with_reducible first | exact HI0.out | apply IsS84.alloc | apply IsS84.drewN | apply IsS84.drew | apply IsS84.set_0 | apply IsS84.set_1) | exact HI0.out)); (case side2 => repeat (first | (with_reducible first | exact HB.out | apply below_alloc | apply pw_below_drewN | apply below_drew1 | refine below_set ?_ (IsS84.ge HI0.out)) | exact HB.out)); rintro e w13 ⟨rfl, hi, hb, hk⟩; refine ⟨_, rfl, ?_⟩; have n0_ := Aside0.mk (KeepBut.trans (by repeat (first | (with_reducible first | exact HK.out | apply KeepBut.set_ | apply keep_drewN | apply keep_drew | apply keep_alloc) | exact HK.out)) hk (.inl rfl)); have n1_ := Aside0.mk (hb); have n2_ := Aside0.mk (hi); clear HK; clear HB; clear HI0; have HK := n0_; have HB := n1_; have HI0 := n2_; clear n0_ n1_ n2_; (try clear hb); (try clear hb2); (try clear hk); (try clear hi)))
    go_ret
    exact ⟨by first | rfl | (simp [errW_none, errW_some] <;> rfl) | (simp [*, errW_none, errW_some] <;> rfl), by repeat (first | (with_reducible first | exact HI0.out | apply IsS84.alloc | apply IsS84.drewN | apply IsS84.drew | apply IsS84.set_0 | apply IsS84.set_1) | exact HI0.out), by repeat (first | (with_reducible first | exact HB.out | apply below_alloc | apply pw_below_drewN | apply below_drew1 | refine below_set ?_ (IsS84.ge HI0.out)) | exact HB.out), by repeat (first | (with_reducible first | exact HK.out | apply KeepBut.set_ | apply keep_drewN | apply keep_drew | apply keep_alloc) | exact HK.out)⟩

-- NOT PRINTED: function 60 (rec_fields)

/-! ### rec_in: function 61 -/
def rec_in.f (a0 : Int) (a1 : Int) (a2 : Int) : Option (Bool) := if a0 ≥ a1 then (some (decide (a0 ≤ a2))) else (some false)
set_option maxHeartbeats 8000000 in
set_option maxRecDepth 100000 in
theorem rec_in.calls (a0 : Int) (a1 : Int) (a2 : Int) (r : Bool) (w : World) (h : rec_in.f a0 a1 a2 = some r) :
    Calls Try.prog 61 #[.int .i64 a0, .int .i64 a1, .int .i64 a2] w fun e w' => e = .returned (.bool r) ∧ Drawn0 w w' := by
  have H : (if a0 ≥ a1 then (some (decide (a0 ≤ a2))) else (some false)) = some r := h
  clear h
  by_cases c4 : a0 ≥ a1
  · rw [if_pos c4] at H
    have c4b0 : decide (a1 ≤ a0) = true := decide_eq_true c4
    clear c4
    obtain rfl := Option.some.inj H
    go_enter Try.func61, Try.ntmps61
    go_wp2
    go_ret
    exact ⟨by first | rfl | (simp; done) | (simp [*]; done), by repeat (first | exact Drawn0.refl _ | apply Drawn0.step)⟩
  · rw [if_neg c4] at H
    have c4b0 : decide (a1 ≤ a0) = false := decide_eq_false c4
    clear c4
    obtain rfl := Option.some.inj H
    go_enter Try.func61, Try.ntmps61
    go_wp2
    go_ret
    exact ⟨by first | rfl | (simp; done) | (simp [*]; done), by repeat (first | exact Drawn0.refl _ | apply Drawn0.step)⟩

/-! ### rec_Check: function 41 -/
def rec_Check.f (a0_0 a0_1 a0_2 a0_3 a0_4 a0_5 : Int) : Option Bool := some (Rc.chk a0_0 a0_1 a0_2 a0_3 a0_4 a0_5)
theorem rec_Check.calls (a0_0 : Int) (a0_1 : Int) (a0_2 : Int) (a0_3 : Int) (a0_4 : Int) (a0_5 : Int) (r : Bool) (w : World) (h : rec_Check.f a0_0 a0_1 a0_2 a0_3 a0_4 a0_5 = some r) :
    Calls Try.prog 41 #[.agg #[.int .i64 a0_0, .int .i64 a0_1, .int .i64 a0_2, .int .i64 a0_3, .int .i64 a0_4, .int .i64 a0_5]] w fun e w' => e = .returned (.bool r) ∧ Below w.heap.size w w' := by
  obtain rfl := Option.some.inj h
  exact Rc.check_calls a0_0 a0_1 a0_2 a0_3 a0_4 a0_5 w

/-! ### code_Num: function 17 -/
def code_Num.l0 : Nat → Int → List Int → Option (ByteArray)
  | 0, _, _ => none
  | k + 1, x0, x3 => if x0 > 0 then (if x3.length < 140737488355328 then ((some (x3 ++ [(x0) % 256] : List Int)).bind fun y114 => (if 0 < (y114.length : Int) then (code_Num.l0 k (x0 / 256) (y114.set (0 : Int).toNat (((rd y114 0) + 1) % 256))) else (none))) else (none)) else (some (strOfNums x3))
def code_Num.f (k : Nat) (a0 : Int) : Option (ByteArray) := code_Num.l0 k a0 (([0] : List Int))
theorem code_Num.mono_l : ∀ k, (∀ y0 y1, LeO (code_Num.l0 k y0 y1) (code_Num.l0 (k + 1) y0 y1))
  | 0 => fun _ _ r h => by simp [code_Num.l0] at h
  | k + 1 => by
    have ih0 := code_Num.mono_l k
    · intro y0 y1
      unfold code_Num.l0
      repeat' first
      | (with_reducible exact ih0 _ _)
      | (with_reducible exact LeO.refl _)
      | (with_reducible exact LeO.none _)
      | (with_reducible refine LeO.ite ?_ ?_)
      | (with_reducible refine LeO.bind ?_ (fun _ => ?_))
      | exact ih0 _ _
      | exact LeO.none _
      | refine LeO.ite ?_ ?_
      | refine LeO.bind ?_ (fun _ => ?_)
theorem code_Num.mono : ∀ a0 k, LeO (code_Num.f k a0) (code_Num.f (k + 1) a0) := by
  intro a0 k
  have ih0 := code_Num.mono_l k
  unfold code_Num.f
  repeat' first
      | (with_reducible exact ih0 _ _)
      | (with_reducible exact LeO.refl _)
      | (with_reducible exact LeO.none _)
      | (with_reducible refine LeO.ite ?_ ?_)
      | (with_reducible refine LeO.bind ?_ (fun _ => ?_))
      | exact ih0 _ _
      | exact LeO.none _
      | refine LeO.ite ?_ ?_
      | refine LeO.bind ?_ (fun _ => ?_)
set_option maxHeartbeats 8000000 in
set_option maxRecDepth 100000 in
theorem code_Num.calls (k : Nat) (a0 : Int) (r : ByteArray) (w : World) (h : code_Num.f k a0 = some r) :
    Calls Try.prog 17 #[.int .u64 a0] w fun e w' => e = .returned (.string r) ∧ Below w.heap.size w w' := by
  have HB := Aside0.mk (Below.refl w.heap.size w)
  have H : (code_Num.l0 k a0 (([0] : List Int))) = some r := h
  clear h
  obtain ⟨y111, hy111⟩ : ∃ y_ : List Int, y_ = (([0] : List Int)) := ⟨_, rfl⟩
  replace H : (code_Num.l0 k a0 y111) = some r := by first | (rw [hy111]; with_reducible exact H) | (have H2_ := (Option.bind_some _ _).symm.trans H; rw [hy111]; with_reducible exact H2_) | (have H2_ := (Option.bind_some _ _).symm.trans H; with_reducible exact H2_) | with_reducible exact H | (rw [hy111]; exact H) | exact H
  have Ny111 := Aside0.mk hy111
  clear hy111
  have H' := Aside0.mk H
  clear H
  go_enter Try.func17, Try.ntmps17
  go_wp2_with (first | ((with_reducible refine gate_dst (N := 4) rfl ?_); refine Kd.R_lit (Kd.int .u8) _ 5 ?hg (N := 4) ?hd (xs := ([0] : List Int)) (inner := [.int .u8 0]) (ok := fun _ => True) (okp := fun _ => True) ?hr ?hp (fun _ hk => hk) trivial (Below.refl _ _) (Nat.le_refl _) (by simp) ?_; (case hd => rfl); (case hg => rfl); (case hr => first | (go_simp; done) | (go_simp; rfl)); (case hp => exact (Reps.one (show Kd.M (Kd.int .u8) _ _ _ 0 [.int .u8 0] from rfl) (Reps.none _ _))); intro v112 w2 ho3 hb hg_ hnew_; clear hg_ hnew_; (first | rw [← Ny111.out] at ho3 | (simp only [Int.reduceToNat] at ho3; rw [← Ny111.out] at ho3)); have n0_ := Aside0.mk (Kd.R_lower ho3 (below_size (by repeat (first | (with_reducible first | exact HB.out | apply below_alloc | apply pw_below_drewN | apply below_drew1) | exact HB.out)))); have n1_ := Aside0.mk (below_step (by repeat (first | (with_reducible first | exact HB.out | apply below_alloc | apply pw_below_drewN | apply below_drew1) | exact HB.out)) hb); clear HB; have HO113 := n0_; have HB := n1_; clear n0_ n1_; clear hb ho3))
  go_loopg [0, 3] k (fun kq v0 v3 w' => ∃ (x0_1 : Int) (x3_1 : List Int), v0 = .int .u64 x0_1 ∧ Aside0 (code_Num.l0 kq x0_1 x3_1 = some r) ∧ Aside0 (kq ≤ k) ∧ Aside0 (Kd.R (Kd.int .u8) 5 w' w.heap.size (fun _ => True) v3 x3_1) ∧ Aside0 (Below w.heap.size w w'))
  case atStart => exact ⟨(a0), (y111), (by first | rfl | (simp; done) | (simp [*]; done)), H', ⟨Nat.le_refl _⟩, ⟨by (with_reducible repeat (first | apply Kd.R_alloc | apply Kd.R_drewN | apply Kd.R_drew)); exact HO113.out⟩, ⟨by repeat (first | (with_reducible first | exact HB.out | apply below_alloc | apply pw_below_drewN | apply below_drew1) | exact HB.out)⟩⟩
  case round =>
    clear H'
    try clear c1
    try clear p2
    obtain ⟨x0_1, x3_1, rfl, HA, HK1, HO_3, HB⟩ := hrel
    cases gk with
    | zero => exact absurd HA.out (by simp [code_Num.l0])
    | succ k1 =>
      have H := HA.out
      clear HA
      simp only [code_Num.l0] at H
      by_cases c4 : x0_1 > 0
      · rw [if_pos c4] at H
        have c4b0 : decide (0 < x0_1) = true := decide_eq_true c4
        clear c4
        by_cases c5 : x3_1.length < 140737488355328
        · rw [if_pos c5] at H
          have LMc5 := Aside0.mk c5
          clear c5
          obtain ⟨y114, hy114⟩ : ∃ y_ : List Int, y_ = (x3_1 ++ [(x0_1) % 256]) := ⟨_, rfl⟩
          replace H : (if 0 < (y114.length : Int) then (code_Num.l0 k1 (x0_1 / 256) (y114.set (0 : Int).toNat (((rd y114 0) + 1) % 256))) else (none)) = some r := by first | (rw [hy114]; with_reducible exact H) | (have H2_ := (Option.bind_some _ _).symm.trans H; rw [hy114]; with_reducible exact H2_) | (have H2_ := (Option.bind_some _ _).symm.trans H; with_reducible exact H2_) | with_reducible exact H | (rw [hy114]; exact H) | exact H
          have Ny114 := Aside0.mk hy114
          clear hy114
          by_cases c6 : 0 < (y114.length : Int)
          · rw [if_pos c6] at H
            have c6b0 : decide (0 < (y114.length : Int)) = true := decide_eq_true c6
            have c6b1 : decide (0 < y114.length) = true := decide_eq_true (by omega)
            clear c6
            obtain ⟨y118, hy118⟩ : ∃ y_ : List Int, y_ = (y114.set (0 : Int).toNat (((rd y114 0) + 1) % 256)) := ⟨_, rfl⟩
            replace H : (code_Num.l0 k1 (x0_1 / 256) y118) = some r := by first | (rw [hy118]; with_reducible exact H) | (have H2_ := (Option.bind_some _ _).symm.trans H; rw [hy118]; with_reducible exact H2_) | (have H2_ := (Option.bind_some _ _).symm.trans H; with_reducible exact H2_) | with_reducible exact H | (rw [hy118]; exact H) | exact H
            have Ny118 := Aside0.mk hy118
            clear hy118
            have H' := Aside0.mk H
            clear H
            go_wp2_with (first | ((with_reducible refine gate_builtin (b := .append) (xs := #[.tmp 9, .tmp 12]) rfl ?_); at_builtin; refine Kd.R_append (Kd.int .u8) (w0 := w) w.heap.size rfl (.tmp 9) (.tmp 12) 81 5 (.int .u8 0) 1 rfl Try.underlying81 info5 rfl (by decide) (by omega) u3 x3_1 ((x0_1) % 256) [.int .u8 ((x0_1) % 256)] (fun _ => True) (fun _ => False) rfl rfl ?aP (fun _ hk => hk.elim) ?aF ?aO ?aB ?aS ?aL ?_; (case aP => exact rfl); (case aB => exact (by repeat (first | (with_reducible first | exact HB.out | apply below_alloc | apply pw_below_drewN | apply below_drew1) | exact HB.out))); (case aF => exact (fun _ _ => trivial)); (case aO => exact (by (with_reducible repeat (first | apply Kd.R_alloc | apply Kd.R_drewN | apply Kd.R_drew)); exact HO_3.out)); (case aS => exact (below_size (by repeat (first | (with_reducible first | exact HB.out | apply below_alloc | apply pw_below_drewN | apply below_drew1) | exact HB.out)))); (case aL => have := LMc5.out; omega); intro v115 w8 ho hb hg hat; rw [← Ny114.out] at ho; have n0_ := Aside0.mk (hb); have n1_ := Aside0.mk (ho); clear HB; clear HO_3; have HB := n0_; have HO116 := n1_; clear n0_ n1_; clear ho hb hg hat; obtain ⟨Ao9, co9, eo9⟩ := Kd.R_slice HO116.out; subst eo9; have p117 : 0 ≤ (0 : Int) := (by omega); have q117 : 0 < (y114.length : Int) := of_decide_eq_true (by first | (with_reducible assumption) | assumption); obtain ⟨ad117, e117, hx117_0⟩ := Kd.at_int (Kd.R_reads' HO116.out).2.2 0 p117 q117; cases e117; have qi117 : (0 < y114.length) = True := eq_true (by omega); (try rw [show ((0 : Int)).toNat = 0 from rfl] at hx117_0); (try rw [Addr.add_zero'] at hx117_0); replace p117 := eq_true p117; replace q117 := eq_true q117; have p7 : 0 ≤ (0 : Int) := (by omega); have q7 : (0 : Int) < ((y114.length : Int) : Int) := of_decide_eq_true (by first | (with_reducible assumption) | assumption); have qi7 : (0 < y114.length) = True := eq_true (by omega); obtain ⟨go7, co7, eo7, gb7, gl7, cl7, HG7⟩ := Kd.R_form HO116.out (by omega); (first | cases eo7 | (injection eo7 with ea_ en_ ec_; (first | subst ea_ | (injection ea_ with ea_; subst ea_)); subst ec_; clear en_)); have GB7 := Aside0.mk gb7; have GG7 := Aside0.mk HG7; clear gb7 gl7 HG7; (first | simp only [add_plain] at hx117_0 | skip); obtain ⟨hx7_0, hf7_0⟩ := Kd.R_celln 0 HO116.out (0 : Int) p7 q7; (try rw [show ((0 : Int)).toNat = 0 from rfl] at hx7_0); (try simp only [Nat.reduceMul, Nat.zero_mul, Nat.zero_add, Nat.reduceAdd] at hx7_0); (try rw [show ((0 : Int)).toNat = 0 from rfl] at hf7_0); (try simp only [Nat.reduceMul, Nat.zero_mul, Nat.zero_add, Nat.reduceAdd] at hf7_0); replace p7 := eq_true p7; replace q7 := eq_true q7; obtain ⟨hy10_, hz10_⟩ := Kd.R_celln 0 HO116.out (0 : Int) (by omega) (of_decide_eq_true (by first | (with_reducible assumption) | assumption)); (try simp only [Int.reduceToNat, Int.toNat_zero, Int.toNat_ofNat, Nat.reduceMul, Nat.zero_mul, Nat.zero_add] at hy10_ hz10_); (try rw [show ((0 : Int)).toNat = 0 from rfl] at hy10_); (try rw [show ((0 : Int)).toNat = 0 from rfl] at hz10_); have HP10 := Kd.R_putg HO116.out (0 : Int) (((rd y114 0) + 1) % 256)) | ((with_reducible refine gate_store (t := 5) (p := 18) rfl ?_); refine store_event (t := 5) (p := 18) (v := ?vo_w11) (w1 := (w8.setCell ⟨go7, (0 : Int).toNat, none⟩ (.int .u8 (((rd y114 0) + 1) % 256)))) ?hg ?ho ?hn ?hr ?_; (case ho => rfl); (case hg => rfl); (case hn => rfl); (case hr => first | (go_simp; done) | (go_simp; rfl)); intro w11 hw; have hg : w8.grownBy w11 (some go7) := (by rw [hw]; exact HP10.2); have hp_ : Kd.R (Kd.int .u8) 5 w11 w.heap.size (fun _ => True) (.slice (some ⟨go7, 0, none⟩) y114.length co9) y118 := (by rw [hw, Ny118.out]; exact HP10.1); clear HP10; have n0_ := Aside0.mk (hp_); have n1_ := Aside0.mk ((by rw [hw]; exact below_set (HB.out) GB7.out : Below w.heap.size w w11)); clear HO116; clear HB; have HO116 := n0_; have HB := n1_; clear n0_ n1_; clear hg hw hp_))
            go_roundg k1
            case measure => have := HK1.out; omega
            case rel => exact ⟨(x0_1 / 256), (y118), (by first | rfl | (simp; done) | (simp [*]; done)), H', ⟨by have := HK1.out; omega⟩, ⟨by (with_reducible repeat (first | apply Kd.R_alloc | apply Kd.R_drewN | apply Kd.R_drew)); exact HO116.out⟩, ⟨by repeat (first | (with_reducible first | exact HB.out | apply below_alloc | apply pw_below_drewN | apply below_drew1) | exact HB.out)⟩⟩
          · rw [if_neg c6] at H
            exact absurd H (by simp)
        · rw [if_neg c5] at H
          exact absurd H (by simp)
      · rw [if_neg c4] at H
        have c4b0 : decide (0 < x0_1) = false := decide_eq_false c4
        clear c4
        obtain rfl := Option.some.inj H
        have hcv12 := own_string (P := Try.prog) Try.underlying81 Try.underlying5 Try.underlying9 (Kd.own_of_R HO_3.out)
        go_wp2
        go_ret
        exact ⟨by first | rfl | (simp [errW_none, errW_some] <;> rfl) | (simp [*, errW_none, errW_some] <;> rfl), by repeat (first | (with_reducible first | exact HB.out | apply below_alloc | apply pw_below_drewN | apply below_drew1) | exact HB.out)⟩

/-! ### code_Fixed: function 64 -/
def code_Fixed.l0 : Nat → Int → List Int → Int → Int → Option (ByteArray)
  | 0, _, _, _, _ => none
  | k + 1, x0, x5, x9, x10 => if x10 < x9 then (if 0 ≤ (wrap64 (8 * x10)) then (if x5.length < 140737488355328 then (code_Fixed.l0 k x0 (x5 ++ [(shr .u64 x0 (wrap64 (8 * x10))) % 256]) x9 (wrap64 (x10 + 1))) else (none)) else (none)) else (some (strOfNums x5))
def code_Fixed.f (k : Nat) (a0 : Int) (a1 : Int) : Option (ByteArray) := code_Fixed.l0 k a0 ([] : List Int) (mn (mx a1 0) 8) 0
theorem code_Fixed.mono_l : ∀ k, (∀ y0 y1 y2 y3, LeO (code_Fixed.l0 k y0 y1 y2 y3) (code_Fixed.l0 (k + 1) y0 y1 y2 y3))
  | 0 => fun _ _ _ _ r h => by simp [code_Fixed.l0] at h
  | k + 1 => by
    have ih0 := code_Fixed.mono_l k
    · intro y0 y1 y2 y3
      unfold code_Fixed.l0
      repeat' first
      | (with_reducible exact ih0 _ _ _ _)
      | (with_reducible exact LeO.refl _)
      | (with_reducible exact LeO.none _)
      | (with_reducible refine LeO.ite ?_ ?_)
      | (with_reducible refine LeO.bind ?_ (fun _ => ?_))
      | exact ih0 _ _ _ _
      | exact LeO.none _
      | refine LeO.ite ?_ ?_
      | refine LeO.bind ?_ (fun _ => ?_)
theorem code_Fixed.mono : ∀ a0 a1 k, LeO (code_Fixed.f k a0 a1) (code_Fixed.f (k + 1) a0 a1) := by
  intro a0 a1 k
  have ih0 := code_Fixed.mono_l k
  unfold code_Fixed.f
  repeat' first
      | (with_reducible exact ih0 _ _ _ _)
      | (with_reducible exact LeO.refl _)
      | (with_reducible exact LeO.none _)
      | (with_reducible refine LeO.ite ?_ ?_)
      | (with_reducible refine LeO.bind ?_ (fun _ => ?_))
      | exact ih0 _ _ _ _
      | exact LeO.none _
      | refine LeO.ite ?_ ?_
      | refine LeO.bind ?_ (fun _ => ?_)
set_option maxHeartbeats 8000000 in
set_option maxRecDepth 100000 in
theorem code_Fixed.calls (k : Nat) (a0 : Int) (a1 : Int) (r : ByteArray) (w : World) (h : code_Fixed.f k a0 a1 = some r) :
    Calls Try.prog 64 #[.int .u64 a0, .int .i64 a1] w fun e w' => e = .returned (.string r) ∧ Below w.heap.size w w' := by
  have HB := Aside0.mk (Below.refl w.heap.size w)
  have H : (code_Fixed.l0 k a0 ([] : List Int) (mn (mx a1 0) 8) 0) = some r := h
  clear h
  obtain ⟨ji3, hji3⟩ : ∃ j_ : Int, (mx a1 0) = j_ := ⟨_, rfl⟩
  replace H : (code_Fixed.l0 k a0 ([] : List Int) (mn (ji3) 8) 0) = some r := by first | (rw [hji3] at H; exact H) | (simp only [hji3] at H ⊢; exact H)
  (try (have hji3l : 0 ≤ ji3 := by (rw [← hji3]; unfold mx; (repeat' split) <;> omega)))
  (try (have hji3m : 0 ≤ ji3 := by omega))
  have hji3_ : (if a1 < 0 then 0 else a1) = ji3 := hji3
  obtain ⟨ji4, hji4⟩ : ∃ j_ : Int, (mn (ji3) 8) = j_ := ⟨_, rfl⟩
  replace H : (code_Fixed.l0 k a0 ([] : List Int) ji4 0) = some r := by first | (rw [hji4] at H; exact H) | (simp only [hji4] at H ⊢; exact H)
  have hji4_ : (if 8 < (ji3) then 8 else (ji3)) = ji4 := hji4
  have H' := Aside0.mk H
  clear H
  go_enter Try.func64, Try.ntmps64
  go_wp2
  go_loopg [5, 10] k (fun kq v5 v10 w' => ∃ (x5_1 : List Int) (x10_1 : Int), v10 = .int .i64 x10_1 ∧ Aside0 (code_Fixed.l0 kq a0 x5_1 ji4 x10_1 = some r) ∧ Aside0 (kq ≤ k) ∧ Aside0 (Kd.R (Kd.int .u8) 5 w' w.heap.size (fun _ => True) v5 x5_1) ∧ Aside0 (Below w.heap.size w w'))
  case atStart => exact ⟨(([] : List Int)), (0), (by first | rfl | (simp; done) | (simp [*]; done)), H', ⟨Nat.le_refl _⟩, ⟨by first | exact Kd.R_nil _ _ _ _ _ | exact Kd.N_nil _ _ _ _ _ | exact Kd.V_nil _ _ _ _ _ | exact Kd.Q_nil _ _ _ _ _ | exact Kd.S_nil _ _ _ _ _⟩, ⟨by repeat (first | (with_reducible first | exact HB.out | apply below_alloc | apply pw_below_drewN | apply below_drew1) | exact HB.out)⟩⟩
  case round =>
    clear H'
    try clear p2
    obtain ⟨x5_1, x10_1, rfl, HA, HK1, HO_5, HB⟩ := hrel
    cases gk with
    | zero => exact absurd HA.out (by simp [code_Fixed.l0])
    | succ k1 =>
      have H := HA.out
      clear HA
      simp only [code_Fixed.l0] at H
      by_cases c5 : x10_1 < ji4
      · rw [if_pos c5] at H
        have c5b0 : decide (x10_1 < ji4) = true := decide_eq_true c5
        clear c5
        obtain ⟨ji6, hji6⟩ : ∃ j_ : Int, (wrap64 (8 * x10_1)) = j_ := ⟨_, rfl⟩
        replace H : (if 0 ≤ (ji6) then (if x5_1.length < 140737488355328 then (code_Fixed.l0 k1 a0 (x5_1 ++ [(shr .u64 a0 (ji6)) % 256]) ji4 (wrap64 (x10_1 + 1))) else (none)) else (none)) = some r := by first | (rw [hji6] at H; exact H) | (simp only [hji6] at H ⊢; exact H)
        have hji6w : (IntKind.i64.wrap (8 * x10_1)) = ji6 := (i64_w _).trans hji6
        by_cases c7 : 0 ≤ (ji6)
        · rw [if_pos c7] at H
          have c7b0 := eq_true c7
          have c7b1 : decide (0 ≤ (ji6)) = true := decide_eq_true c7
          clear c7
          obtain ⟨ji8, hji8⟩ : ∃ j_ : Int, (shr .u64 a0 (ji6)) = j_ := ⟨_, rfl⟩
          replace H : (if x5_1.length < 140737488355328 then (code_Fixed.l0 k1 a0 (x5_1 ++ [(ji8) % 256]) ji4 (wrap64 (x10_1 + 1))) else (none)) = some r := by first | (rw [hji8] at H; exact H) | (simp only [hji8] at H ⊢; exact H)
          have hji8_ : (a0 / 2 ^ min (ji6).toNat 64) = ji8 := hji8
          have hji8z : (ji6) ≤ 64 → (a0 / 2 ^ (ji6).toNat) = ji8 := shr_small hji8
          by_cases c9 : x5_1.length < 140737488355328
          · rw [if_pos c9] at H
            have LMc9 := Aside0.mk c9
            clear c9
            obtain ⟨y119, hy119⟩ : ∃ y_ : List Int, y_ = (x5_1 ++ [(ji8) % 256]) := ⟨_, rfl⟩
            replace H : (code_Fixed.l0 k1 a0 y119 ji4 (wrap64 (x10_1 + 1))) = some r := by first | (rw [hy119]; with_reducible exact H) | (have H2_ := (Option.bind_some _ _).symm.trans H; rw [hy119]; with_reducible exact H2_) | (have H2_ := (Option.bind_some _ _).symm.trans H; with_reducible exact H2_) | with_reducible exact H | (rw [hy119]; exact H) | exact H
            have Ny119 := Aside0.mk hy119
            clear hy119
            have H' := Aside0.mk H
            clear H
            go_wp2_with (first | ((with_reducible refine gate_builtin (b := .append) (xs := #[.tmp 13, .tmp 19]) rfl ?_); at_builtin; refine Kd.R_append (Kd.int .u8) (w0 := w) w.heap.size rfl (.tmp 13) (.tmp 19) 81 5 (.int .u8 0) 1 rfl Try.underlying81 info5 rfl (by decide) (by omega) u5 x5_1 ((ji8) % 256) [.int .u8 ((ji8) % 256)] (fun _ => True) (fun _ => False) rfl rfl ?aP (fun _ hk => hk.elim) ?aF ?aO ?aB ?aS ?aL ?_; (case aP => exact rfl); (case aB => exact (by repeat (first | (with_reducible first | exact HB.out | apply below_alloc | apply pw_below_drewN | apply below_drew1) | exact HB.out))); (case aF => exact (fun _ _ => trivial)); (case aO => exact (by (with_reducible repeat (first | apply Kd.R_alloc | apply Kd.R_drewN | apply Kd.R_drew)); exact HO_5.out)); (case aS => exact (below_size (by repeat (first | (with_reducible first | exact HB.out | apply below_alloc | apply pw_below_drewN | apply below_drew1) | exact HB.out)))); (case aL => have := LMc9.out; omega); intro v120 w10 ho hb hg hat; rw [← Ny119.out] at ho; have n0_ := Aside0.mk (hb); have n1_ := Aside0.mk (ho); clear HB; clear HO_5; have HB := n0_; have HO121 := n1_; clear n0_ n1_; clear ho hb hg hat))
            go_roundg k1
            case measure => have := HK1.out; omega
            case rel => exact ⟨(y119), (wrap64 (x10_1 + 1)), (by first | rfl | (simp; done) | (simp [*]; done)), H', ⟨by have := HK1.out; omega⟩, ⟨by (with_reducible repeat (first | apply Kd.R_alloc | apply Kd.R_drewN | apply Kd.R_drew)); exact HO121.out⟩, ⟨by repeat (first | (with_reducible first | exact HB.out | apply below_alloc | apply pw_below_drewN | apply below_drew1) | exact HB.out)⟩⟩
          · rw [if_neg c9] at H
            exact absurd H (by simp)
        · rw [if_neg c7] at H
          exact absurd H (by simp)
      · rw [if_neg c5] at H
        have c5b0 : decide (x10_1 < ji4) = false := decide_eq_false c5
        clear c5
        obtain rfl := Option.some.inj H
        have hcv11 := own_string (P := Try.prog) Try.underlying81 Try.underlying5 Try.underlying9 (Kd.own_of_R HO_5.out)
        go_wp2
        go_ret
        exact ⟨by first | rfl | (simp [errW_none, errW_some] <;> rfl) | (simp only [← hji3, ← hji4]; first | rfl | (simp [errW_none, errW_some] <;> rfl)) | (simp [*, errW_none, errW_some] <;> rfl), by repeat (first | (with_reducible first | exact HB.out | apply below_alloc | apply pw_below_drewN | apply below_drew1) | exact HB.out)⟩

/-! ### rec_Put: function 43 -/
def rec_Put.add (k : Nat) (s : ByteArray) (c : Int) : Option ByteArray := (code_Num.f k (IntKind.u64.wrap c)).bind fun t => if s.size + t.size ≤ 9223372036854775807 then some (s ++ t) else none
def rec_Put.f (k : Nat) (a0_0 a0_1 a0_2 a0_3 a0_4 a0_5 : Int) : Option ByteArray := (code_Fixed.f k (IntKind.u64.wrap a0_0) 1).bind fun s => (Rc.flds a0_0 a0_1 a0_2 a0_3 a0_4 a0_5).foldlM (fun s c => rec_Put.add k s c) s
theorem rec_Put.mono_a (s : ByteArray) (c : Int) (k : Nat) : LeO (rec_Put.add k s c) (rec_Put.add (k + 1) s c) := LeO.bind (code_Num.mono _ _) (fun _ => LeO.refl _)
theorem rec_Put.mono_l (k : Nat) : ∀ (l : List Int) (s : ByteArray), LeO (l.foldlM (fun s c => rec_Put.add k s c) s) (l.foldlM (fun s c => rec_Put.add (k + 1) s c) s)
  | [], s => LeO.refl _
  | c :: l, s => by
    rw [List.foldlM_cons, List.foldlM_cons]
    exact LeO.bind (rec_Put.mono_a s c k) (fun _ => rec_Put.mono_l k l _)
theorem rec_Put.mono : ∀ a0 a1 a2 a3 a4 a5 k, LeO (rec_Put.f k a0 a1 a2 a3 a4 a5) (rec_Put.f (k + 1) a0 a1 a2 a3 a4 a5) := by
  intro a0 a1 a2 a3 a4 a5 k
  exact LeO.bind (code_Fixed.mono _ _ _) (fun _ => rec_Put.mono_l k _ _)
theorem rec_Put.step {k : Nat} {s r : ByteArray} {c : Int} {l : List Int} (h : (c :: l).foldlM (fun s c => rec_Put.add k s c) s = some r) :
    ∃ t, code_Num.f k (IntKind.u64.wrap c) = some t ∧ s.size + t.size ≤ 9223372036854775807 ∧ l.foldlM (fun s c => rec_Put.add k s c) (s ++ t) = some r := by
  rw [List.foldlM_cons] at h
  obtain ⟨s1, h1, h⟩ := Option.bind_eq_some_iff.mp h
  obtain ⟨t, h2, h3⟩ := Option.bind_eq_some_iff.mp h1
  split at h3
  · obtain rfl := Option.some.inj h3
    exact ⟨t, h2, by assumption, h⟩
  · cases h3
set_option maxHeartbeats 8000000 in
set_option maxRecDepth 100000 in
theorem rec_Put.c1 (k : Nat) (c1 c2 c3 c4 c5 : Int) (r : ByteArray) (w : World) (h : rec_Put.f k 1 c1 c2 c3 c4 c5 = some r) : Calls Try.prog 43 #[.agg #[.int .i64 1, .int .i64 c1, .int .i64 c2, .int .i64 c3, .int .i64 c4, .int .i64 c5]] w fun e w' => e = .returned (.string r) ∧ Below w.heap.size w w' := by
  obtain ⟨s0, hs0, h⟩ := Option.bind_eq_some_iff.mp h
  have A0 := Aside0.mk (show code_Fixed.f k 1 1 = some s0 from hs0)
  have h : ([c1, c2, c3] : List Int).foldlM (fun s c => rec_Put.add k s c) s0 = some r := h
  obtain ⟨t1, ha1, z1, h⟩ := rec_Put.step h
  have A1 := Aside0.mk ha1
  clear ha1
  have y1 := eq_true z1
  obtain ⟨t2, ha2, z2, h⟩ := rec_Put.step h
  have A2 := Aside0.mk ha2
  clear ha2
  have y2 := eq_true z2
  obtain ⟨t3, ha3, z3, h⟩ := rec_Put.step h
  have A3 := Aside0.mk ha3
  clear ha3
  have y3 := eq_true z3
  obtain rfl : _ = r := Option.some.inj h
  clear hs0 h
  have hw0 : w.heap.size = w.heap.size := rfl
  have hk0 : (w.alloc (.cells #[.int .i64 1, .int .i64 c1, .int .i64 c2, .int .i64 c3, .int .i64 c4, .int .i64 c5] 58)).cell? ⟨w.heap.size, 0, none⟩ = some (.int .i64 1) := (blk_cell (Rc.rec_new w 1 c1 c2 c3 c4 c5) 0).trans rfl
  go_enter Try.func43, Try.ntmps43
  go_wp2_with (first | (go_at_call 64; (with_reducible refine (code_Fixed.calls k 1 1 s0 _ A0.out).mono ?_); rintro e w1 ⟨rfl, hb⟩; have hr1 : Rc.IsRec w1 w.heap.size 1 c1 c2 c3 c4 c5 := ((hb.block _ (by rw [Rc.size_alloc]; omega)).trans (Rc.rec_new w 1 c1 c2 c3 c4 c5)); have HB1 : Below w.heap.size w w1 := (below_step (below_alloc (Below.refl _ _) _) hb); clear hb) | (go_at_call 60; refine (Rc.fields_1 w.heap.size c1 c2 c3 c4 c5 _ hr1).mono ?_; rintro e w2 ⟨vl, vm, rfl, ⟨bl, rfl, hl, gl⟩, ⟨bm, rfl, hm, gm⟩, hb⟩; clear gl gm hm; have hr : Rc.IsRec w2 w.heap.size 1 c1 c2 c3 c4 c5 := ((hb.block _ (blk_lt hr1)).trans hr1); have HB : Below w.heap.size w w2 := (below_step HB1 hb); clear hb))
  clear hw0 hk0 hr1 HB1
  have p0 : w2.cell? ⟨bl, 0, none⟩ = some (.pointer (some ⟨w.heap.size, 1, none⟩)) := (blk_cell hl 0).trans rfl
  have q0 : w2.cell? ⟨w.heap.size, 1, none⟩ = some (.int .i64 c1) := (blk_cell hr 1).trans rfl
  refine wp_loop_rounds 4 ?_
  rw [rounds_succ]
  go_wp2_with (go_at_call 17; (with_reducible refine (code_Num.calls k (IntKind.u64.wrap c1) t1 _ A1.out).mono ?_); rintro e w3 ⟨rfl, hb⟩; have hl_ := ((hb.block _ (blk_lt hl)).trans hl); have hr_ : Rc.IsRec w3 w.heap.size 1 c1 c2 c3 c4 c5 := ((hb.block _ (blk_lt hr)).trans hr); have HB_ := below_step HB hb; clear hb hl hr HB p0 q0; have hl := hl_; have hr := hr_; have HB := HB_; clear hl_ hr_ HB_)
  have p1 : w3.cell? ⟨bl, 1, none⟩ = some (.pointer (some ⟨w.heap.size, 2, none⟩)) := (blk_cell hl 1).trans rfl
  have q1 : w3.cell? ⟨w.heap.size, 2, none⟩ = some (.int .i64 c2) := (blk_cell hr 2).trans rfl
  rw [rounds_succ]
  go_wp2_with (go_at_call 17; (with_reducible refine (code_Num.calls k (IntKind.u64.wrap c2) t2 _ A2.out).mono ?_); rintro e w4 ⟨rfl, hb⟩; have hl_ := ((hb.block _ (blk_lt hl)).trans hl); have hr_ : Rc.IsRec w4 w.heap.size 1 c1 c2 c3 c4 c5 := ((hb.block _ (blk_lt hr)).trans hr); have HB_ := below_step HB hb; clear hb hl hr HB p1 q1; have hl := hl_; have hr := hr_; have HB := HB_; clear hl_ hr_ HB_)
  have p2 : w4.cell? ⟨bl, 2, none⟩ = some (.pointer (some ⟨w.heap.size, 3, none⟩)) := (blk_cell hl 2).trans rfl
  have q2 : w4.cell? ⟨w.heap.size, 3, none⟩ = some (.int .i64 c3) := (blk_cell hr 3).trans rfl
  rw [rounds_succ]
  go_wp2_with (go_at_call 17; (with_reducible refine (code_Num.calls k (IntKind.u64.wrap c3) t3 _ A3.out).mono ?_); rintro e w5 ⟨rfl, hb⟩; have hl_ := ((hb.block _ (blk_lt hl)).trans hl); have hr_ : Rc.IsRec w5 w.heap.size 1 c1 c2 c3 c4 c5 := ((hb.block _ (blk_lt hr)).trans hr); have HB_ := below_step HB hb; clear hb hl hr HB p2 q2; have hl := hl_; have hr := hr_; have HB := HB_; clear hl_ hr_ HB_)
  rw [rounds_succ]
  go_wp2
  go_ret
  exact ⟨by first | rfl | (simp; done), by repeat (first | exact HB | apply pw_below_drewN | apply below_drew1)⟩
set_option maxHeartbeats 8000000 in
set_option maxRecDepth 100000 in
theorem rec_Put.c2 (k : Nat) (c1 c2 c3 c4 c5 : Int) (r : ByteArray) (w : World) (h : rec_Put.f k 2 c1 c2 c3 c4 c5 = some r) : Calls Try.prog 43 #[.agg #[.int .i64 2, .int .i64 c1, .int .i64 c2, .int .i64 c3, .int .i64 c4, .int .i64 c5]] w fun e w' => e = .returned (.string r) ∧ Below w.heap.size w w' := by
  obtain ⟨s0, hs0, h⟩ := Option.bind_eq_some_iff.mp h
  have A0 := Aside0.mk (show code_Fixed.f k 2 1 = some s0 from hs0)
  have h : ([c1, c2] : List Int).foldlM (fun s c => rec_Put.add k s c) s0 = some r := h
  obtain ⟨t1, ha1, z1, h⟩ := rec_Put.step h
  have A1 := Aside0.mk ha1
  clear ha1
  have y1 := eq_true z1
  obtain ⟨t2, ha2, z2, h⟩ := rec_Put.step h
  have A2 := Aside0.mk ha2
  clear ha2
  have y2 := eq_true z2
  obtain rfl : _ = r := Option.some.inj h
  clear hs0 h
  have hw0 : w.heap.size = w.heap.size := rfl
  have hk0 : (w.alloc (.cells #[.int .i64 2, .int .i64 c1, .int .i64 c2, .int .i64 c3, .int .i64 c4, .int .i64 c5] 58)).cell? ⟨w.heap.size, 0, none⟩ = some (.int .i64 2) := (blk_cell (Rc.rec_new w 2 c1 c2 c3 c4 c5) 0).trans rfl
  go_enter Try.func43, Try.ntmps43
  go_wp2_with (first | (go_at_call 64; (with_reducible refine (code_Fixed.calls k 2 1 s0 _ A0.out).mono ?_); rintro e w1 ⟨rfl, hb⟩; have hr1 : Rc.IsRec w1 w.heap.size 2 c1 c2 c3 c4 c5 := ((hb.block _ (by rw [Rc.size_alloc]; omega)).trans (Rc.rec_new w 2 c1 c2 c3 c4 c5)); have HB1 : Below w.heap.size w w1 := (below_step (below_alloc (Below.refl _ _) _) hb); clear hb) | (go_at_call 60; refine (Rc.fields_2 w.heap.size c1 c2 c3 c4 c5 _ hr1).mono ?_; rintro e w2 ⟨vl, vm, rfl, ⟨bl, rfl, hl, gl⟩, ⟨bm, rfl, hm, gm⟩, hb⟩; clear gl gm hm; have hr : Rc.IsRec w2 w.heap.size 2 c1 c2 c3 c4 c5 := ((hb.block _ (blk_lt hr1)).trans hr1); have HB : Below w.heap.size w w2 := (below_step HB1 hb); clear hb))
  clear hw0 hk0 hr1 HB1
  have p0 : w2.cell? ⟨bl, 0, none⟩ = some (.pointer (some ⟨w.heap.size, 1, none⟩)) := (blk_cell hl 0).trans rfl
  have q0 : w2.cell? ⟨w.heap.size, 1, none⟩ = some (.int .i64 c1) := (blk_cell hr 1).trans rfl
  refine wp_loop_rounds 3 ?_
  rw [rounds_succ]
  go_wp2_with (go_at_call 17; (with_reducible refine (code_Num.calls k (IntKind.u64.wrap c1) t1 _ A1.out).mono ?_); rintro e w3 ⟨rfl, hb⟩; have hl_ := ((hb.block _ (blk_lt hl)).trans hl); have hr_ : Rc.IsRec w3 w.heap.size 2 c1 c2 c3 c4 c5 := ((hb.block _ (blk_lt hr)).trans hr); have HB_ := below_step HB hb; clear hb hl hr HB p0 q0; have hl := hl_; have hr := hr_; have HB := HB_; clear hl_ hr_ HB_)
  have p1 : w3.cell? ⟨bl, 1, none⟩ = some (.pointer (some ⟨w.heap.size, 2, none⟩)) := (blk_cell hl 1).trans rfl
  have q1 : w3.cell? ⟨w.heap.size, 2, none⟩ = some (.int .i64 c2) := (blk_cell hr 2).trans rfl
  rw [rounds_succ]
  go_wp2_with (go_at_call 17; (with_reducible refine (code_Num.calls k (IntKind.u64.wrap c2) t2 _ A2.out).mono ?_); rintro e w4 ⟨rfl, hb⟩; have hl_ := ((hb.block _ (blk_lt hl)).trans hl); have hr_ : Rc.IsRec w4 w.heap.size 2 c1 c2 c3 c4 c5 := ((hb.block _ (blk_lt hr)).trans hr); have HB_ := below_step HB hb; clear hb hl hr HB p1 q1; have hl := hl_; have hr := hr_; have HB := HB_; clear hl_ hr_ HB_)
  rw [rounds_succ]
  go_wp2
  go_ret
  exact ⟨by first | rfl | (simp; done), by repeat (first | exact HB | apply pw_below_drewN | apply below_drew1)⟩
set_option maxHeartbeats 8000000 in
set_option maxRecDepth 100000 in
theorem rec_Put.c3 (k : Nat) (c1 c2 c3 c4 c5 : Int) (r : ByteArray) (w : World) (h : rec_Put.f k 3 c1 c2 c3 c4 c5 = some r) : Calls Try.prog 43 #[.agg #[.int .i64 3, .int .i64 c1, .int .i64 c2, .int .i64 c3, .int .i64 c4, .int .i64 c5]] w fun e w' => e = .returned (.string r) ∧ Below w.heap.size w w' := by
  obtain ⟨s0, hs0, h⟩ := Option.bind_eq_some_iff.mp h
  have A0 := Aside0.mk (show code_Fixed.f k 3 1 = some s0 from hs0)
  have h : ([c3, c4] : List Int).foldlM (fun s c => rec_Put.add k s c) s0 = some r := h
  obtain ⟨t1, ha1, z1, h⟩ := rec_Put.step h
  have A1 := Aside0.mk ha1
  clear ha1
  have y1 := eq_true z1
  obtain ⟨t2, ha2, z2, h⟩ := rec_Put.step h
  have A2 := Aside0.mk ha2
  clear ha2
  have y2 := eq_true z2
  obtain rfl : _ = r := Option.some.inj h
  clear hs0 h
  have hw0 : w.heap.size = w.heap.size := rfl
  have hk0 : (w.alloc (.cells #[.int .i64 3, .int .i64 c1, .int .i64 c2, .int .i64 c3, .int .i64 c4, .int .i64 c5] 58)).cell? ⟨w.heap.size, 0, none⟩ = some (.int .i64 3) := (blk_cell (Rc.rec_new w 3 c1 c2 c3 c4 c5) 0).trans rfl
  go_enter Try.func43, Try.ntmps43
  go_wp2_with (first | (go_at_call 64; (with_reducible refine (code_Fixed.calls k 3 1 s0 _ A0.out).mono ?_); rintro e w1 ⟨rfl, hb⟩; have hr1 : Rc.IsRec w1 w.heap.size 3 c1 c2 c3 c4 c5 := ((hb.block _ (by rw [Rc.size_alloc]; omega)).trans (Rc.rec_new w 3 c1 c2 c3 c4 c5)); have HB1 : Below w.heap.size w w1 := (below_step (below_alloc (Below.refl _ _) _) hb); clear hb) | (go_at_call 60; refine (Rc.fields_3 w.heap.size c1 c2 c3 c4 c5 _ hr1).mono ?_; rintro e w2 ⟨vl, vm, rfl, ⟨bl, rfl, hl, gl⟩, ⟨bm, rfl, hm, gm⟩, hb⟩; clear gl gm hm; have hr : Rc.IsRec w2 w.heap.size 3 c1 c2 c3 c4 c5 := ((hb.block _ (blk_lt hr1)).trans hr1); have HB : Below w.heap.size w w2 := (below_step HB1 hb); clear hb))
  clear hw0 hk0 hr1 HB1
  have p0 : w2.cell? ⟨bl, 0, none⟩ = some (.pointer (some ⟨w.heap.size, 3, none⟩)) := (blk_cell hl 0).trans rfl
  have q0 : w2.cell? ⟨w.heap.size, 3, none⟩ = some (.int .i64 c3) := (blk_cell hr 3).trans rfl
  refine wp_loop_rounds 3 ?_
  rw [rounds_succ]
  go_wp2_with (go_at_call 17; (with_reducible refine (code_Num.calls k (IntKind.u64.wrap c3) t1 _ A1.out).mono ?_); rintro e w3 ⟨rfl, hb⟩; have hl_ := ((hb.block _ (blk_lt hl)).trans hl); have hr_ : Rc.IsRec w3 w.heap.size 3 c1 c2 c3 c4 c5 := ((hb.block _ (blk_lt hr)).trans hr); have HB_ := below_step HB hb; clear hb hl hr HB p0 q0; have hl := hl_; have hr := hr_; have HB := HB_; clear hl_ hr_ HB_)
  have p1 : w3.cell? ⟨bl, 1, none⟩ = some (.pointer (some ⟨w.heap.size, 4, none⟩)) := (blk_cell hl 1).trans rfl
  have q1 : w3.cell? ⟨w.heap.size, 4, none⟩ = some (.int .i64 c4) := (blk_cell hr 4).trans rfl
  rw [rounds_succ]
  go_wp2_with (go_at_call 17; (with_reducible refine (code_Num.calls k (IntKind.u64.wrap c4) t2 _ A2.out).mono ?_); rintro e w4 ⟨rfl, hb⟩; have hl_ := ((hb.block _ (blk_lt hl)).trans hl); have hr_ : Rc.IsRec w4 w.heap.size 3 c1 c2 c3 c4 c5 := ((hb.block _ (blk_lt hr)).trans hr); have HB_ := below_step HB hb; clear hb hl hr HB p1 q1; have hl := hl_; have hr := hr_; have HB := HB_; clear hl_ hr_ HB_)
  rw [rounds_succ]
  go_wp2
  go_ret
  exact ⟨by first | rfl | (simp; done), by repeat (first | exact HB | apply pw_below_drewN | apply below_drew1)⟩
set_option maxHeartbeats 8000000 in
set_option maxRecDepth 100000 in
theorem rec_Put.c4 (k : Nat) (c1 c2 c3 c4 c5 : Int) (r : ByteArray) (w : World) (h : rec_Put.f k 4 c1 c2 c3 c4 c5 = some r) : Calls Try.prog 43 #[.agg #[.int .i64 4, .int .i64 c1, .int .i64 c2, .int .i64 c3, .int .i64 c4, .int .i64 c5]] w fun e w' => e = .returned (.string r) ∧ Below w.heap.size w w' := by
  obtain ⟨s0, hs0, h⟩ := Option.bind_eq_some_iff.mp h
  have A0 := Aside0.mk (show code_Fixed.f k 4 1 = some s0 from hs0)
  have h : ([c1, c5] : List Int).foldlM (fun s c => rec_Put.add k s c) s0 = some r := h
  obtain ⟨t1, ha1, z1, h⟩ := rec_Put.step h
  have A1 := Aside0.mk ha1
  clear ha1
  have y1 := eq_true z1
  obtain ⟨t2, ha2, z2, h⟩ := rec_Put.step h
  have A2 := Aside0.mk ha2
  clear ha2
  have y2 := eq_true z2
  obtain rfl : _ = r := Option.some.inj h
  clear hs0 h
  have hw0 : w.heap.size = w.heap.size := rfl
  have hk0 : (w.alloc (.cells #[.int .i64 4, .int .i64 c1, .int .i64 c2, .int .i64 c3, .int .i64 c4, .int .i64 c5] 58)).cell? ⟨w.heap.size, 0, none⟩ = some (.int .i64 4) := (blk_cell (Rc.rec_new w 4 c1 c2 c3 c4 c5) 0).trans rfl
  go_enter Try.func43, Try.ntmps43
  go_wp2_with (first | (go_at_call 64; (with_reducible refine (code_Fixed.calls k 4 1 s0 _ A0.out).mono ?_); rintro e w1 ⟨rfl, hb⟩; have hr1 : Rc.IsRec w1 w.heap.size 4 c1 c2 c3 c4 c5 := ((hb.block _ (by rw [Rc.size_alloc]; omega)).trans (Rc.rec_new w 4 c1 c2 c3 c4 c5)); have HB1 : Below w.heap.size w w1 := (below_step (below_alloc (Below.refl _ _) _) hb); clear hb) | (go_at_call 60; refine (Rc.fields_4 w.heap.size c1 c2 c3 c4 c5 _ hr1).mono ?_; rintro e w2 ⟨vl, vm, rfl, ⟨bl, rfl, hl, gl⟩, ⟨bm, rfl, hm, gm⟩, hb⟩; clear gl gm hm; have hr : Rc.IsRec w2 w.heap.size 4 c1 c2 c3 c4 c5 := ((hb.block _ (blk_lt hr1)).trans hr1); have HB : Below w.heap.size w w2 := (below_step HB1 hb); clear hb))
  clear hw0 hk0 hr1 HB1
  have p0 : w2.cell? ⟨bl, 0, none⟩ = some (.pointer (some ⟨w.heap.size, 1, none⟩)) := (blk_cell hl 0).trans rfl
  have q0 : w2.cell? ⟨w.heap.size, 1, none⟩ = some (.int .i64 c1) := (blk_cell hr 1).trans rfl
  refine wp_loop_rounds 3 ?_
  rw [rounds_succ]
  go_wp2_with (go_at_call 17; (with_reducible refine (code_Num.calls k (IntKind.u64.wrap c1) t1 _ A1.out).mono ?_); rintro e w3 ⟨rfl, hb⟩; have hl_ := ((hb.block _ (blk_lt hl)).trans hl); have hr_ : Rc.IsRec w3 w.heap.size 4 c1 c2 c3 c4 c5 := ((hb.block _ (blk_lt hr)).trans hr); have HB_ := below_step HB hb; clear hb hl hr HB p0 q0; have hl := hl_; have hr := hr_; have HB := HB_; clear hl_ hr_ HB_)
  have p1 : w3.cell? ⟨bl, 1, none⟩ = some (.pointer (some ⟨w.heap.size, 5, none⟩)) := (blk_cell hl 1).trans rfl
  have q1 : w3.cell? ⟨w.heap.size, 5, none⟩ = some (.int .i64 c5) := (blk_cell hr 5).trans rfl
  rw [rounds_succ]
  go_wp2_with (go_at_call 17; (with_reducible refine (code_Num.calls k (IntKind.u64.wrap c5) t2 _ A2.out).mono ?_); rintro e w4 ⟨rfl, hb⟩; have hl_ := ((hb.block _ (blk_lt hl)).trans hl); have hr_ : Rc.IsRec w4 w.heap.size 4 c1 c2 c3 c4 c5 := ((hb.block _ (blk_lt hr)).trans hr); have HB_ := below_step HB hb; clear hb hl hr HB p1 q1; have hl := hl_; have hr := hr_; have HB := HB_; clear hl_ hr_ HB_)
  rw [rounds_succ]
  go_wp2
  go_ret
  exact ⟨by first | rfl | (simp; done), by repeat (first | exact HB | apply pw_below_drewN | apply below_drew1)⟩
set_option maxHeartbeats 8000000 in
set_option maxRecDepth 100000 in
theorem rec_Put.c5 (k : Nat) (c1 c2 c3 c4 c5 : Int) (r : ByteArray) (w : World) (h : rec_Put.f k 5 c1 c2 c3 c4 c5 = some r) : Calls Try.prog 43 #[.agg #[.int .i64 5, .int .i64 c1, .int .i64 c2, .int .i64 c3, .int .i64 c4, .int .i64 c5]] w fun e w' => e = .returned (.string r) ∧ Below w.heap.size w w' := by
  obtain ⟨s0, hs0, h⟩ := Option.bind_eq_some_iff.mp h
  have A0 := Aside0.mk (show code_Fixed.f k 5 1 = some s0 from hs0)
  have h : ([c1] : List Int).foldlM (fun s c => rec_Put.add k s c) s0 = some r := h
  obtain ⟨t1, ha1, z1, h⟩ := rec_Put.step h
  have A1 := Aside0.mk ha1
  clear ha1
  have y1 := eq_true z1
  obtain rfl : _ = r := Option.some.inj h
  clear hs0 h
  have hw0 : w.heap.size = w.heap.size := rfl
  have hk0 : (w.alloc (.cells #[.int .i64 5, .int .i64 c1, .int .i64 c2, .int .i64 c3, .int .i64 c4, .int .i64 c5] 58)).cell? ⟨w.heap.size, 0, none⟩ = some (.int .i64 5) := (blk_cell (Rc.rec_new w 5 c1 c2 c3 c4 c5) 0).trans rfl
  go_enter Try.func43, Try.ntmps43
  go_wp2_with (first | (go_at_call 64; (with_reducible refine (code_Fixed.calls k 5 1 s0 _ A0.out).mono ?_); rintro e w1 ⟨rfl, hb⟩; have hr1 : Rc.IsRec w1 w.heap.size 5 c1 c2 c3 c4 c5 := ((hb.block _ (by rw [Rc.size_alloc]; omega)).trans (Rc.rec_new w 5 c1 c2 c3 c4 c5)); have HB1 : Below w.heap.size w w1 := (below_step (below_alloc (Below.refl _ _) _) hb); clear hb) | (go_at_call 60; refine (Rc.fields_5 w.heap.size c1 c2 c3 c4 c5 _ hr1).mono ?_; rintro e w2 ⟨vl, vm, rfl, ⟨bl, rfl, hl, gl⟩, ⟨bm, rfl, hm, gm⟩, hb⟩; clear gl gm hm; have hr : Rc.IsRec w2 w.heap.size 5 c1 c2 c3 c4 c5 := ((hb.block _ (blk_lt hr1)).trans hr1); have HB : Below w.heap.size w w2 := (below_step HB1 hb); clear hb))
  clear hw0 hk0 hr1 HB1
  have p0 : w2.cell? ⟨bl, 0, none⟩ = some (.pointer (some ⟨w.heap.size, 1, none⟩)) := (blk_cell hl 0).trans rfl
  have q0 : w2.cell? ⟨w.heap.size, 1, none⟩ = some (.int .i64 c1) := (blk_cell hr 1).trans rfl
  refine wp_loop_rounds 2 ?_
  rw [rounds_succ]
  go_wp2_with (go_at_call 17; (with_reducible refine (code_Num.calls k (IntKind.u64.wrap c1) t1 _ A1.out).mono ?_); rintro e w3 ⟨rfl, hb⟩; have hl_ := ((hb.block _ (blk_lt hl)).trans hl); have hr_ : Rc.IsRec w3 w.heap.size 5 c1 c2 c3 c4 c5 := ((hb.block _ (blk_lt hr)).trans hr); have HB_ := below_step HB hb; clear hb hl hr HB p0 q0; have hl := hl_; have hr := hr_; have HB := HB_; clear hl_ hr_ HB_)
  rw [rounds_succ]
  go_wp2
  go_ret
  exact ⟨by first | rfl | (simp; done), by repeat (first | exact HB | apply pw_below_drewN | apply below_drew1)⟩
set_option maxHeartbeats 8000000 in
set_option maxRecDepth 100000 in
theorem rec_Put.c6 (k : Nat) (c1 c2 c3 c4 c5 : Int) (r : ByteArray) (w : World) (h : rec_Put.f k 6 c1 c2 c3 c4 c5 = some r) : Calls Try.prog 43 #[.agg #[.int .i64 6, .int .i64 c1, .int .i64 c2, .int .i64 c3, .int .i64 c4, .int .i64 c5]] w fun e w' => e = .returned (.string r) ∧ Below w.heap.size w w' := by
  obtain ⟨s0, hs0, h⟩ := Option.bind_eq_some_iff.mp h
  have A0 := Aside0.mk (show code_Fixed.f k 6 1 = some s0 from hs0)
  have h : ([c1, c4] : List Int).foldlM (fun s c => rec_Put.add k s c) s0 = some r := h
  obtain ⟨t1, ha1, z1, h⟩ := rec_Put.step h
  have A1 := Aside0.mk ha1
  clear ha1
  have y1 := eq_true z1
  obtain ⟨t2, ha2, z2, h⟩ := rec_Put.step h
  have A2 := Aside0.mk ha2
  clear ha2
  have y2 := eq_true z2
  obtain rfl : _ = r := Option.some.inj h
  clear hs0 h
  have hw0 : w.heap.size = w.heap.size := rfl
  have hk0 : (w.alloc (.cells #[.int .i64 6, .int .i64 c1, .int .i64 c2, .int .i64 c3, .int .i64 c4, .int .i64 c5] 58)).cell? ⟨w.heap.size, 0, none⟩ = some (.int .i64 6) := (blk_cell (Rc.rec_new w 6 c1 c2 c3 c4 c5) 0).trans rfl
  go_enter Try.func43, Try.ntmps43
  go_wp2_with (first | (go_at_call 64; (with_reducible refine (code_Fixed.calls k 6 1 s0 _ A0.out).mono ?_); rintro e w1 ⟨rfl, hb⟩; have hr1 : Rc.IsRec w1 w.heap.size 6 c1 c2 c3 c4 c5 := ((hb.block _ (by rw [Rc.size_alloc]; omega)).trans (Rc.rec_new w 6 c1 c2 c3 c4 c5)); have HB1 : Below w.heap.size w w1 := (below_step (below_alloc (Below.refl _ _) _) hb); clear hb) | (go_at_call 60; refine (Rc.fields_6 w.heap.size c1 c2 c3 c4 c5 _ hr1).mono ?_; rintro e w2 ⟨vl, vm, rfl, ⟨bl, rfl, hl, gl⟩, ⟨bm, rfl, hm, gm⟩, hb⟩; clear gl gm hm; have hr : Rc.IsRec w2 w.heap.size 6 c1 c2 c3 c4 c5 := ((hb.block _ (blk_lt hr1)).trans hr1); have HB : Below w.heap.size w w2 := (below_step HB1 hb); clear hb))
  clear hw0 hk0 hr1 HB1
  have p0 : w2.cell? ⟨bl, 0, none⟩ = some (.pointer (some ⟨w.heap.size, 1, none⟩)) := (blk_cell hl 0).trans rfl
  have q0 : w2.cell? ⟨w.heap.size, 1, none⟩ = some (.int .i64 c1) := (blk_cell hr 1).trans rfl
  refine wp_loop_rounds 3 ?_
  rw [rounds_succ]
  go_wp2_with (go_at_call 17; (with_reducible refine (code_Num.calls k (IntKind.u64.wrap c1) t1 _ A1.out).mono ?_); rintro e w3 ⟨rfl, hb⟩; have hl_ := ((hb.block _ (blk_lt hl)).trans hl); have hr_ : Rc.IsRec w3 w.heap.size 6 c1 c2 c3 c4 c5 := ((hb.block _ (blk_lt hr)).trans hr); have HB_ := below_step HB hb; clear hb hl hr HB p0 q0; have hl := hl_; have hr := hr_; have HB := HB_; clear hl_ hr_ HB_)
  have p1 : w3.cell? ⟨bl, 1, none⟩ = some (.pointer (some ⟨w.heap.size, 4, none⟩)) := (blk_cell hl 1).trans rfl
  have q1 : w3.cell? ⟨w.heap.size, 4, none⟩ = some (.int .i64 c4) := (blk_cell hr 4).trans rfl
  rw [rounds_succ]
  go_wp2_with (go_at_call 17; (with_reducible refine (code_Num.calls k (IntKind.u64.wrap c4) t2 _ A2.out).mono ?_); rintro e w4 ⟨rfl, hb⟩; have hl_ := ((hb.block _ (blk_lt hl)).trans hl); have hr_ : Rc.IsRec w4 w.heap.size 6 c1 c2 c3 c4 c5 := ((hb.block _ (blk_lt hr)).trans hr); have HB_ := below_step HB hb; clear hb hl hr HB p1 q1; have hl := hl_; have hr := hr_; have HB := HB_; clear hl_ hr_ HB_)
  rw [rounds_succ]
  go_wp2
  go_ret
  exact ⟨by first | rfl | (simp; done), by repeat (first | exact HB | apply pw_below_drewN | apply below_drew1)⟩
set_option maxHeartbeats 8000000 in
set_option maxRecDepth 100000 in
theorem rec_Put.c7 (k : Nat) (c1 c2 c3 c4 c5 : Int) (r : ByteArray) (w : World) (h : rec_Put.f k 7 c1 c2 c3 c4 c5 = some r) : Calls Try.prog 43 #[.agg #[.int .i64 7, .int .i64 c1, .int .i64 c2, .int .i64 c3, .int .i64 c4, .int .i64 c5]] w fun e w' => e = .returned (.string r) ∧ Below w.heap.size w w' := by
  obtain ⟨s0, hs0, h⟩ := Option.bind_eq_some_iff.mp h
  have A0 := Aside0.mk (show code_Fixed.f k 7 1 = some s0 from hs0)
  have h : ([c1] : List Int).foldlM (fun s c => rec_Put.add k s c) s0 = some r := h
  obtain ⟨t1, ha1, z1, h⟩ := rec_Put.step h
  have A1 := Aside0.mk ha1
  clear ha1
  have y1 := eq_true z1
  obtain rfl : _ = r := Option.some.inj h
  clear hs0 h
  have hw0 : w.heap.size = w.heap.size := rfl
  have hk0 : (w.alloc (.cells #[.int .i64 7, .int .i64 c1, .int .i64 c2, .int .i64 c3, .int .i64 c4, .int .i64 c5] 58)).cell? ⟨w.heap.size, 0, none⟩ = some (.int .i64 7) := (blk_cell (Rc.rec_new w 7 c1 c2 c3 c4 c5) 0).trans rfl
  go_enter Try.func43, Try.ntmps43
  go_wp2_with (first | (go_at_call 64; (with_reducible refine (code_Fixed.calls k 7 1 s0 _ A0.out).mono ?_); rintro e w1 ⟨rfl, hb⟩; have hr1 : Rc.IsRec w1 w.heap.size 7 c1 c2 c3 c4 c5 := ((hb.block _ (by rw [Rc.size_alloc]; omega)).trans (Rc.rec_new w 7 c1 c2 c3 c4 c5)); have HB1 : Below w.heap.size w w1 := (below_step (below_alloc (Below.refl _ _) _) hb); clear hb) | (go_at_call 60; refine (Rc.fields_7 w.heap.size c1 c2 c3 c4 c5 _ hr1).mono ?_; rintro e w2 ⟨vl, vm, rfl, ⟨bl, rfl, hl, gl⟩, ⟨bm, rfl, hm, gm⟩, hb⟩; clear gl gm hm; have hr : Rc.IsRec w2 w.heap.size 7 c1 c2 c3 c4 c5 := ((hb.block _ (blk_lt hr1)).trans hr1); have HB : Below w.heap.size w w2 := (below_step HB1 hb); clear hb))
  clear hw0 hk0 hr1 HB1
  have p0 : w2.cell? ⟨bl, 0, none⟩ = some (.pointer (some ⟨w.heap.size, 1, none⟩)) := (blk_cell hl 0).trans rfl
  have q0 : w2.cell? ⟨w.heap.size, 1, none⟩ = some (.int .i64 c1) := (blk_cell hr 1).trans rfl
  refine wp_loop_rounds 2 ?_
  rw [rounds_succ]
  go_wp2_with (go_at_call 17; (with_reducible refine (code_Num.calls k (IntKind.u64.wrap c1) t1 _ A1.out).mono ?_); rintro e w3 ⟨rfl, hb⟩; have hl_ := ((hb.block _ (blk_lt hl)).trans hl); have hr_ : Rc.IsRec w3 w.heap.size 7 c1 c2 c3 c4 c5 := ((hb.block _ (blk_lt hr)).trans hr); have HB_ := below_step HB hb; clear hb hl hr HB p0 q0; have hl := hl_; have hr := hr_; have HB := HB_; clear hl_ hr_ HB_)
  rw [rounds_succ]
  go_wp2
  go_ret
  exact ⟨by first | rfl | (simp; done), by repeat (first | exact HB | apply pw_below_drewN | apply below_drew1)⟩
set_option maxHeartbeats 8000000 in
set_option maxRecDepth 100000 in
theorem rec_Put.c8 (k : Nat) (c1 c2 c3 c4 c5 : Int) (r : ByteArray) (w : World) (h : rec_Put.f k 8 c1 c2 c3 c4 c5 = some r) : Calls Try.prog 43 #[.agg #[.int .i64 8, .int .i64 c1, .int .i64 c2, .int .i64 c3, .int .i64 c4, .int .i64 c5]] w fun e w' => e = .returned (.string r) ∧ Below w.heap.size w w' := by
  obtain ⟨s0, hs0, h⟩ := Option.bind_eq_some_iff.mp h
  have A0 := Aside0.mk (show code_Fixed.f k 8 1 = some s0 from hs0)
  have h : ([c3] : List Int).foldlM (fun s c => rec_Put.add k s c) s0 = some r := h
  obtain ⟨t1, ha1, z1, h⟩ := rec_Put.step h
  have A1 := Aside0.mk ha1
  clear ha1
  have y1 := eq_true z1
  obtain rfl : _ = r := Option.some.inj h
  clear hs0 h
  have hw0 : w.heap.size = w.heap.size := rfl
  have hk0 : (w.alloc (.cells #[.int .i64 8, .int .i64 c1, .int .i64 c2, .int .i64 c3, .int .i64 c4, .int .i64 c5] 58)).cell? ⟨w.heap.size, 0, none⟩ = some (.int .i64 8) := (blk_cell (Rc.rec_new w 8 c1 c2 c3 c4 c5) 0).trans rfl
  go_enter Try.func43, Try.ntmps43
  go_wp2_with (first | (go_at_call 64; (with_reducible refine (code_Fixed.calls k 8 1 s0 _ A0.out).mono ?_); rintro e w1 ⟨rfl, hb⟩; have hr1 : Rc.IsRec w1 w.heap.size 8 c1 c2 c3 c4 c5 := ((hb.block _ (by rw [Rc.size_alloc]; omega)).trans (Rc.rec_new w 8 c1 c2 c3 c4 c5)); have HB1 : Below w.heap.size w w1 := (below_step (below_alloc (Below.refl _ _) _) hb); clear hb) | (go_at_call 60; refine (Rc.fields_8 w.heap.size c1 c2 c3 c4 c5 _ hr1).mono ?_; rintro e w2 ⟨vl, vm, rfl, ⟨bl, rfl, hl, gl⟩, ⟨bm, rfl, hm, gm⟩, hb⟩; clear gl gm hm; have hr : Rc.IsRec w2 w.heap.size 8 c1 c2 c3 c4 c5 := ((hb.block _ (blk_lt hr1)).trans hr1); have HB : Below w.heap.size w w2 := (below_step HB1 hb); clear hb))
  clear hw0 hk0 hr1 HB1
  have p0 : w2.cell? ⟨bl, 0, none⟩ = some (.pointer (some ⟨w.heap.size, 3, none⟩)) := (blk_cell hl 0).trans rfl
  have q0 : w2.cell? ⟨w.heap.size, 3, none⟩ = some (.int .i64 c3) := (blk_cell hr 3).trans rfl
  refine wp_loop_rounds 2 ?_
  rw [rounds_succ]
  go_wp2_with (go_at_call 17; (with_reducible refine (code_Num.calls k (IntKind.u64.wrap c3) t1 _ A1.out).mono ?_); rintro e w3 ⟨rfl, hb⟩; have hl_ := ((hb.block _ (blk_lt hl)).trans hl); have hr_ : Rc.IsRec w3 w.heap.size 8 c1 c2 c3 c4 c5 := ((hb.block _ (blk_lt hr)).trans hr); have HB_ := below_step HB hb; clear hb hl hr HB p0 q0; have hl := hl_; have hr := hr_; have HB := HB_; clear hl_ hr_ HB_)
  rw [rounds_succ]
  go_wp2
  go_ret
  exact ⟨by first | rfl | (simp; done), by repeat (first | exact HB | apply pw_below_drewN | apply below_drew1)⟩
set_option maxHeartbeats 8000000 in
set_option maxRecDepth 100000 in
theorem rec_Put.c9 (k : Nat) (c1 c2 c3 c4 c5 : Int) (r : ByteArray) (w : World) (h : rec_Put.f k 9 c1 c2 c3 c4 c5 = some r) : Calls Try.prog 43 #[.agg #[.int .i64 9, .int .i64 c1, .int .i64 c2, .int .i64 c3, .int .i64 c4, .int .i64 c5]] w fun e w' => e = .returned (.string r) ∧ Below w.heap.size w w' := by
  obtain ⟨s0, hs0, h⟩ := Option.bind_eq_some_iff.mp h
  have A0 := Aside0.mk (show code_Fixed.f k 9 1 = some s0 from hs0)
  have h : ([c3, c5] : List Int).foldlM (fun s c => rec_Put.add k s c) s0 = some r := h
  obtain ⟨t1, ha1, z1, h⟩ := rec_Put.step h
  have A1 := Aside0.mk ha1
  clear ha1
  have y1 := eq_true z1
  obtain ⟨t2, ha2, z2, h⟩ := rec_Put.step h
  have A2 := Aside0.mk ha2
  clear ha2
  have y2 := eq_true z2
  obtain rfl : _ = r := Option.some.inj h
  clear hs0 h
  have hw0 : w.heap.size = w.heap.size := rfl
  have hk0 : (w.alloc (.cells #[.int .i64 9, .int .i64 c1, .int .i64 c2, .int .i64 c3, .int .i64 c4, .int .i64 c5] 58)).cell? ⟨w.heap.size, 0, none⟩ = some (.int .i64 9) := (blk_cell (Rc.rec_new w 9 c1 c2 c3 c4 c5) 0).trans rfl
  go_enter Try.func43, Try.ntmps43
  go_wp2_with (first | (go_at_call 64; (with_reducible refine (code_Fixed.calls k 9 1 s0 _ A0.out).mono ?_); rintro e w1 ⟨rfl, hb⟩; have hr1 : Rc.IsRec w1 w.heap.size 9 c1 c2 c3 c4 c5 := ((hb.block _ (by rw [Rc.size_alloc]; omega)).trans (Rc.rec_new w 9 c1 c2 c3 c4 c5)); have HB1 : Below w.heap.size w w1 := (below_step (below_alloc (Below.refl _ _) _) hb); clear hb) | (go_at_call 60; refine (Rc.fields_9 w.heap.size c1 c2 c3 c4 c5 _ hr1).mono ?_; rintro e w2 ⟨vl, vm, rfl, ⟨bl, rfl, hl, gl⟩, ⟨bm, rfl, hm, gm⟩, hb⟩; clear gl gm hm; have hr : Rc.IsRec w2 w.heap.size 9 c1 c2 c3 c4 c5 := ((hb.block _ (blk_lt hr1)).trans hr1); have HB : Below w.heap.size w w2 := (below_step HB1 hb); clear hb))
  clear hw0 hk0 hr1 HB1
  have p0 : w2.cell? ⟨bl, 0, none⟩ = some (.pointer (some ⟨w.heap.size, 3, none⟩)) := (blk_cell hl 0).trans rfl
  have q0 : w2.cell? ⟨w.heap.size, 3, none⟩ = some (.int .i64 c3) := (blk_cell hr 3).trans rfl
  refine wp_loop_rounds 3 ?_
  rw [rounds_succ]
  go_wp2_with (go_at_call 17; (with_reducible refine (code_Num.calls k (IntKind.u64.wrap c3) t1 _ A1.out).mono ?_); rintro e w3 ⟨rfl, hb⟩; have hl_ := ((hb.block _ (blk_lt hl)).trans hl); have hr_ : Rc.IsRec w3 w.heap.size 9 c1 c2 c3 c4 c5 := ((hb.block _ (blk_lt hr)).trans hr); have HB_ := below_step HB hb; clear hb hl hr HB p0 q0; have hl := hl_; have hr := hr_; have HB := HB_; clear hl_ hr_ HB_)
  have p1 : w3.cell? ⟨bl, 1, none⟩ = some (.pointer (some ⟨w.heap.size, 5, none⟩)) := (blk_cell hl 1).trans rfl
  have q1 : w3.cell? ⟨w.heap.size, 5, none⟩ = some (.int .i64 c5) := (blk_cell hr 5).trans rfl
  rw [rounds_succ]
  go_wp2_with (go_at_call 17; (with_reducible refine (code_Num.calls k (IntKind.u64.wrap c5) t2 _ A2.out).mono ?_); rintro e w4 ⟨rfl, hb⟩; have hl_ := ((hb.block _ (blk_lt hl)).trans hl); have hr_ : Rc.IsRec w4 w.heap.size 9 c1 c2 c3 c4 c5 := ((hb.block _ (blk_lt hr)).trans hr); have HB_ := below_step HB hb; clear hb hl hr HB p1 q1; have hl := hl_; have hr := hr_; have HB := HB_; clear hl_ hr_ HB_)
  rw [rounds_succ]
  go_wp2
  go_ret
  exact ⟨by first | rfl | (simp; done), by repeat (first | exact HB | apply pw_below_drewN | apply below_drew1)⟩
set_option maxHeartbeats 8000000 in
set_option maxRecDepth 100000 in
theorem rec_Put.c0 (k : Nat) (a c1 c2 c3 c4 c5 : Int) (r : ByteArray) (w : World) (n1 : a ≠ 1) (n2 : a ≠ 2) (n3 : a ≠ 3) (n4 : a ≠ 4) (n5 : a ≠ 5) (n6 : a ≠ 6) (n7 : a ≠ 7) (n8 : a ≠ 8) (n9 : a ≠ 9) (h : rec_Put.f k a c1 c2 c3 c4 c5 = some r) : Calls Try.prog 43 #[.agg #[.int .i64 a, .int .i64 c1, .int .i64 c2, .int .i64 c3, .int .i64 c4, .int .i64 c5]] w fun e w' => e = .returned (.string r) ∧ Below w.heap.size w w' := by
  obtain ⟨s0, hs0, h⟩ := Option.bind_eq_some_iff.mp h
  have A0 := Aside0.mk hs0
  have h : ([] : List Int).foldlM (fun s c => rec_Put.add k s c) s0 = some r := by rw [Rc.flds_none n1 n2 n3 n4 n5 n6 n7 n8 n9] at h; exact h
  obtain rfl : _ = r := Option.some.inj h
  clear hs0 h
  have hw0 : w.heap.size = w.heap.size := rfl
  have hk0 : (w.alloc (.cells #[.int .i64 a, .int .i64 c1, .int .i64 c2, .int .i64 c3, .int .i64 c4, .int .i64 c5] 58)).cell? ⟨w.heap.size, 0, none⟩ = some (.int .i64 a) := (blk_cell (Rc.rec_new w a c1 c2 c3 c4 c5) 0).trans rfl
  go_enter Try.func43, Try.ntmps43
  go_wp2_with (first | (go_at_call 64; (with_reducible refine (code_Fixed.calls k (IntKind.u64.wrap a) 1 s0 _ A0.out).mono ?_); rintro e w1 ⟨rfl, hb⟩; have hr1 : Rc.IsRec w1 w.heap.size a c1 c2 c3 c4 c5 := ((hb.block _ (by rw [Rc.size_alloc]; omega)).trans (Rc.rec_new w a c1 c2 c3 c4 c5)); have HB1 : Below w.heap.size w w1 := (below_step (below_alloc (Below.refl _ _) _) hb); clear hb) | (go_at_call 60; refine (Rc.fields_0 w.heap.size a c1 c2 c3 c4 c5 _ hr1 n1 n2 n3 n4 n5 n6 n7 n8 n9).mono ?_; rintro e w2 ⟨rfl, hb⟩; have hr : Rc.IsRec w2 w.heap.size a c1 c2 c3 c4 c5 := ((hb.block _ (blk_lt hr1)).trans hr1); have HB : Below w.heap.size w w2 := (below_step HB1 hb); clear hb))
  clear hw0 hk0 hr1 HB1
  refine wp_loop_rounds 1 ?_
  rw [rounds_succ]
  go_wp2
  go_ret
  exact ⟨by first | rfl | (simp; done), by repeat (first | exact HB | apply pw_below_drewN | apply below_drew1)⟩
theorem rec_Put.calls (k : Nat) (a0_0 : Int) (a0_1 : Int) (a0_2 : Int) (a0_3 : Int) (a0_4 : Int) (a0_5 : Int) (r : ByteArray) (w : World) (h : rec_Put.f k a0_0 a0_1 a0_2 a0_3 a0_4 a0_5 = some r) :
    Calls Try.prog 43 #[.agg #[.int .i64 a0_0, .int .i64 a0_1, .int .i64 a0_2, .int .i64 a0_3, .int .i64 a0_4, .int .i64 a0_5]] w fun e w' => e = .returned (.string r) ∧ Below w.heap.size w w' := by
  by_cases n1 : a0_0 = 1
  · subst n1; exact rec_Put.c1 k a0_1 a0_2 a0_3 a0_4 a0_5 r w h
  by_cases n2 : a0_0 = 2
  · subst n2; exact rec_Put.c2 k a0_1 a0_2 a0_3 a0_4 a0_5 r w h
  by_cases n3 : a0_0 = 3
  · subst n3; exact rec_Put.c3 k a0_1 a0_2 a0_3 a0_4 a0_5 r w h
  by_cases n4 : a0_0 = 4
  · subst n4; exact rec_Put.c4 k a0_1 a0_2 a0_3 a0_4 a0_5 r w h
  by_cases n5 : a0_0 = 5
  · subst n5; exact rec_Put.c5 k a0_1 a0_2 a0_3 a0_4 a0_5 r w h
  by_cases n6 : a0_0 = 6
  · subst n6; exact rec_Put.c6 k a0_1 a0_2 a0_3 a0_4 a0_5 r w h
  by_cases n7 : a0_0 = 7
  · subst n7; exact rec_Put.c7 k a0_1 a0_2 a0_3 a0_4 a0_5 r w h
  by_cases n8 : a0_0 = 8
  · subst n8; exact rec_Put.c8 k a0_1 a0_2 a0_3 a0_4 a0_5 r w h
  by_cases n9 : a0_0 = 9
  · subst n9; exact rec_Put.c9 k a0_1 a0_2 a0_3 a0_4 a0_5 r w h
  exact rec_Put.c0 k a0_0 a0_1 a0_2 a0_3 a0_4 a0_5 r w n1 n2 n3 n4 n5 n6 n7 n8 n9 h

/-! ### code_Reader_fail: function 55 -/
def code_Reader_fail.f (s0_0 : ByteArray) (s0_1 : Int) (a1 : Int) : Option (ByteArray × Int) := if s0_1 = 0 then (some ((⟨#[]⟩ : ByteArray), a1)) else (some (s0_0, s0_1))
set_option maxHeartbeats 8000000 in
set_option maxRecDepth 100000 in
theorem code_Reader_fail.calls (g : Nat) (s0_0 : ByteArray) (s0_1 : Int) (a1 : Int) (r1 : ByteArray) (r2 : Int) (w0 w : World) (hI : IsS84 w0 w g s0_0 s0_1) (hB : Below w0.heap.size w0 w) (h : code_Reader_fail.f s0_0 s0_1 a1 = some (r1, r2)) :
    Calls Try.prog 55 #[.pointer (some ⟨g, 0, none⟩), .int .i64 a1] w fun e w' => e = .returned (.tuple #[]) ∧ IsS84 w0 w' g r1 r2 ∧ Below w0.heap.size w0 w' ∧ KeepBut w w' g none := by
  have HI0 := Aside0.mk hI
  have HK := Aside0.mk (KeepBut.refl w g none)
  have HL := Aside0.mk hB.size
  clear hI
  have HW0 := Aside0.mk hB.size
  have HB := Aside0.mk hB
  clear hB
  have H : (if s0_1 = 0 then (some ((⟨#[]⟩ : ByteArray), a1)) else (some (s0_0, s0_1))) = some (r1, r2) := h
  clear h
  by_cases c3 : s0_1 = 0
  · rw [if_pos c3] at H
    have c3b0 : (s0_1 == 0) = true := beq_iff_eq.mpr c3
    have c3b1 : (s0_1 != 0) = false := bne_eq_false_iff_eq.mpr c3
    clear c3
    simp only [Option.some.injEq, Prod.mk.injEq] at H
    obtain ⟨rfl, rfl⟩ := H
    obtain ⟨HGz4, hgz4⟩ := HI0.out
    have hcz4_0 := cellS84_0 HGz4
    have hcz4_1 := cellS84_1 HGz4
    have hfz4_0 := blk_frozen HGz4 0
    have hfz4_1 := blk_frozen HGz4 1
    clear HGz4 hgz4
    go_enter Try.func55, Try.ntmps55
    go_wp2
    first | go_end0 | ((try simp only [Exit.inBlock, Exit.then]); refine bodyPost_ret (results_none rfl _ _ _) rfl ?_)
    exact ⟨by first | rfl | (simp [errW_none, errW_some] <;> rfl) | (simp [*, errW_none, errW_some] <;> rfl), by repeat (first | (with_reducible first | exact HI0.out | apply IsS84.alloc | apply IsS84.drewN | apply IsS84.drew | apply IsS84.set_0 | apply IsS84.set_1) | exact HI0.out), by repeat (first | (with_reducible first | exact HB.out | apply below_alloc | apply pw_below_drewN | apply below_drew1 | refine below_set ?_ (IsS84.ge HI0.out)) | exact HB.out), by repeat (first | (with_reducible first | exact HK.out | apply KeepBut.set_ | apply keep_drewN | apply keep_drew | apply keep_alloc) | exact HK.out)⟩
  · rw [if_neg c3] at H
    have c3b0 : (s0_1 == 0) = false := beq_eq_false_iff_ne.mpr c3
    have c3b1 : (s0_1 != 0) = true := bne_iff_ne.mpr c3
    simp only [Option.some.injEq, Prod.mk.injEq] at H
    obtain ⟨rfl, rfl⟩ := H
    obtain ⟨HGz5, hgz5⟩ := HI0.out
    have hcz5_0 := cellS84_0 HGz5
    have hcz5_1 := cellS84_1 HGz5
    have hfz5_0 := blk_frozen HGz5 0
    have hfz5_1 := blk_frozen HGz5 1
    clear HGz5 hgz5
    go_enter Try.func55, Try.ntmps55
    go_wp2
    first | go_end0 | ((try simp only [Exit.inBlock, Exit.then]); refine bodyPost_ret (results_none rfl _ _ _) rfl ?_)
    exact ⟨by first | rfl | (simp [errW_none, errW_some] <;> rfl) | (simp [*, errW_none, errW_some] <;> rfl), by repeat (first | (with_reducible first | exact HI0.out | apply IsS84.alloc | apply IsS84.drewN | apply IsS84.drew | apply IsS84.set_0 | apply IsS84.set_1) | exact HI0.out), by repeat (first | (with_reducible first | exact HB.out | apply below_alloc | apply pw_below_drewN | apply below_drew1 | refine below_set ?_ (IsS84.ge HI0.out)) | exact HB.out), by repeat (first | (with_reducible first | exact HK.out | apply KeepBut.set_ | apply keep_drewN | apply keep_drew | apply keep_alloc) | exact HK.out)⟩

end Go.Proofs.Ytoiahmdibibceaa.XRecRows
