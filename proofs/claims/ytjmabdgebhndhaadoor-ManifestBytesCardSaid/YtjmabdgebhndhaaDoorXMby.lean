/- The law on a manifest's bytes: walked by hand over the printed contracts. Conditions: none. -/
import Derived.Test.YtjmabdgebhndhaaDoorXManifestBytesx6
import Derived.Test.YtjmabdgebhndhaaDoorXMcu
set_option linter.unusedVariables false
set_option linter.unusedSimpArgs false
namespace Go.Proofs.YtjmabdgebhndhaaDoor.Mf
open Go.RowKit Go.Proofs.YtjmabdgebhndhaaDoor Go.Proofs.YtjmabdgebhndhaaDoor.XManifestBytes Go.Proofs.YtjmabdgebhndhaaDoorW.PrintWords Go.Proofs.YtjmabdgebhndhaaDoorW.PrintLast Go.Proofs.YtjmabdgebhndhaaDoorW.PrintMore
theorem wp_gen {P : Program} {c : Code} {Q : Exit → Act → World → Prop} {a : Act} {W : World} (Good : World → Prop) (h : Good W) (k : ∀ W, Good W → Code.wp P c Q a W) : Code.wp P c Q a W := k W h
theorem to_wp {Q : Exit → Act → World → Prop} {E : Exit} {A : Act} {W : World} (Good : World → Prop) (h : Good W) (k : ∀ W, Good W → Q E A W) : Q E A W := k W h
abbrev man (x y : Int) (d : ByteArray) : Obj := .cells #[.int .i64 x, .int .i64 y, .string d] 23 (0, 0)
abbrev rd_ (s : ByteArray) (e : Int) : Obj := .cells #[.string s, .int .i64 e] 64 (0, 0)
abbrev at_ (s : ByteArray) (e : Int) : Obj := .cells #[.string s, .int .i64 e] 39 (0, 0)
attribute [local go_sem high] eqA23
theorem cell_keepB {A B : World} {g i : Nat} {v : Value} (hb : Below A.heap.size A B) (h : A.cell? ⟨g, i, none⟩ = some v) : B.cell? ⟨g, i, none⟩ = some v := by
  have hlt : g < A.heap.size := World.block_lt_of_cell? _ _ h
  unfold World.cell? at h ⊢
  rw [hb.block g hlt]
  exact h
theorem cell_keepK {A B : World} {g g' i : Nat} {v : Value} (hk : KeepBut A B g none) (hn : g' ≠ g) (h : A.cell? ⟨g', i, none⟩ = some v) : B.cell? ⟨g', i, none⟩ = some v := by
  have hlt : g' < A.heap.size := World.block_lt_of_cell? _ _ h
  unfold World.cell? at h ⊢
  rw [hk.2 g' hlt hn (by simp)]
  exact h
theorem end_f : code_Reader_End.f (⟨#[]⟩ : ByteArray) 0 = some (0, (⟨#[]⟩ : ByteArray), 0) := by simp [code_Reader_End.f, code_Reader_Err.f]
set_option maxRecDepth 100000 in
set_option maxHeartbeats 16000000 in
theorem mbytes_calls (k : Nat) (a0 a1 : Int) (a2 t P D : ByteArray) (V M : Int) (s2 : ByteArray) (e2 x1 x2 : Int) (x3 rs : ByteArray) (y1 y2 : Int) (y3 : ByteArray)
    (h1_ : tinderboxlaw20_few.f a2 = some t) (h2_ : tinderboxlaw20_cut.f a0 a1 t = some (V, M, D)) (h3_ : manifest_Put.f k V M D = some P) (h4_ : manifest_Take.f k P 0 = some (V, M, D, ⟨#[]⟩, 0))
    (h5_ : manifest_Take.f k t 0 = some (x1, x2, x3, s2, e2)) (h6_ : tinderboxref20_Take.f k t 0 = some (rs, e2, y1, y2, y3)) (h7_ : tinderboxref20_Put.f k V M D = some P) (h8_ : tinderboxlaw20_awake.f k = some true) (h9 : e2 ≠ 0 ∨ x1 = y1 ∧ x2 = y2 ∧ x3 = y3) (w : World) :
    Calls Tryd.prog 6 #[.int .i64 a0, .int .i64 a1, .string a2] w fun e w' => e = .returned (.bool true) ∧ Below w.heap.size w w' := by
  have H1 := Aside0.mk h1_
  have H2 := Aside0.mk h2_
  have H3 := Aside0.mk h3_
  have H4 := Aside0.mk h4_
  have H5 := Aside0.mk h5_
  have H6 := Aside0.mk h6_
  have H7 := Aside0.mk h7_
  have H8 := Aside0.mk h8_
  clear h1_ h2_ h3_ h4_ h5_ h6_ h7_ h8_
  have HB := Aside0.mk (Below.refl w.heap.size w)
  go_enter Tryd.func6, Tryd.ntmps6
  go_upto_region 2 with (first | (go_at_call 9; (with_reducible refine (tinderboxlaw20_few.calls a2 t _ H1.out).mono ?_); rintro e w9 ⟨rfl, hd⟩; have n0_ := Aside0.mk (show Below w.heap.size w w9 from by obtain ⟨nd, rfl⟩ := hd; exact pw_below_drewN HB.out nd); clear HB; have HB := n0_; clear n0_ hd) | (go_at_call 8; (with_reducible refine (tinderboxlaw20_cut.calls a0 a1 t V M D _ H2.out).mono ?_); rintro e w8 ⟨rfl, hb8⟩; have n0_ := Aside0.mk (below_step (by repeat (first | (with_reducible first | exact HB.out | apply below_alloc | apply pw_below_drewN | apply below_drew1) | exact HB.out)) hb8); clear HB; have HB := n0_; clear n0_ hb8))
  obtain ⟨g7, hg7⟩ : ∃ g, g = w9.heap.size := ⟨_, rfl⟩
  simp only [← hg7]
  refine wp_gen (fun W => W.heap[g7]? = some (man V M D) ∧ Below w.heap.size w W) ⟨(by rw [hg7]; exact blk_new _ _), below_alloc HB.out _⟩ ?_
  clear HB  
  rintro W ⟨bc, hb⟩
  have HB := Aside0.mk hb
  have Bc := Aside0.mk bc
  clear hb bc
  have c0 := (blk_cell Bc.out 0).trans rfl; have c1 := (blk_cell Bc.out 1).trans rfl; have c2 := (blk_cell Bc.out 2).trans rfl
  clear hg7
  go_upto_region 3 with (first | (go_at_call 19; (with_reducible refine (manifest_Put.calls k V M D P _ H3.out).mono ?_); rintro e w8 ⟨rfl, hb8⟩; have b_ := blk_below Bc.out hb8; clear Bc c0 c1 c2; have Bc := Aside0.mk b_; clear b_; have c0 := (blk_cell Bc.out 0).trans rfl; have c1 := (blk_cell Bc.out 1).trans rfl; have c2 := (blk_cell Bc.out 2).trans rfl; have n0_ := Aside0.mk (below_step (by repeat (first | (with_reducible first | exact HB.out | apply below_alloc | apply pw_below_drewN | apply below_drew1) | exact HB.out)) hb8); clear HB; have HB := n0_; clear n0_; clear hb8) | (go_at_call 18; (with_reducible refine (code_New.calls P P 0 _ _ (Below.refl _ _) rfl).mono ?_); rintro e w8 ⟨g9, rfl, hI, hb0, hb8⟩; have R_ := Aside0.mk hI.1; have GE9 := Aside0.mk (Nat.le_trans HB.out.size hI.2); have b_ := blk_below Bc.out hb8; clear Bc c0 c1 c2; have Bc := Aside0.mk b_; clear b_; have c0 := (blk_cell Bc.out 0).trans rfl; have c1 := (blk_cell Bc.out 1).trans rfl; have c2 := (blk_cell Bc.out 2).trans rfl; have n0_ := Aside0.mk (below_step (by repeat (first | (with_reducible first | exact HB.out | apply below_alloc | apply pw_below_drewN | apply below_drew1) | exact HB.out)) hb8); clear HB; have HB := n0_; clear n0_; clear hb8 hb0 hI))
  have Br := R_
  clear R_
  have r0 := (blk_cell Br.out 0).trans rfl; have r1 := (blk_cell Br.out 1).trans rfl
  refine wp_gen (fun W => W.heap[g7]? = some (man V M D) ∧ W.heap[g9]? = some (rd_ P 0) ∧ Below w.heap.size w W) ⟨Bc.out, Br.out, HB.out⟩ ?_
  clear HB Bc Br c0 c1 c2 r0 r1
  rintro W ⟨bc, br, hb⟩
  have HB := Aside0.mk hb
  have Bc := Aside0.mk bc
  have Br := Aside0.mk br
  clear hb bc br
  have c0 := (blk_cell Bc.out 0).trans rfl; have c1 := (blk_cell Bc.out 1).trans rfl; have c2 := (blk_cell Bc.out 2).trans rfl
  have r0 := (blk_cell Br.out 0).trans rfl; have r1 := (blk_cell Br.out 1).trans rfl
  go_upto_region 4 with (first | (go_at_call 20; refine (manifest_Take.calls k g9 P 0 V M D ⟨#[]⟩ 0 w _ (And.intro Br.out GE9.out) HB.out H4.out).mono ?_; rintro e w8 ⟨rfl, hI, hb8, hk8⟩; clear HB; have HB := Aside0.mk hb8; have BM0 := Br; have b_ := KeepBut.blk hk8 Bc.out (Ne.symm (IsS64.ne_blk (w0 := w) (And.intro BM0.out GE9.out) Bc.out (by decide))) (by simp); clear Bc c0 c1 c2; have Bc := Aside0.mk b_; clear b_; have c0 := (blk_cell Bc.out 0).trans rfl; have c1 := (blk_cell Bc.out 1).trans rfl; have c2 := (blk_cell Bc.out 2).trans rfl; have b_ := hI.1; clear Br r0 r1; have Br := Aside0.mk b_; clear b_; clear BM0; have r0 := (blk_cell Br.out 0).trans rfl; have r1 := (blk_cell Br.out 1).trans rfl; clear hb8 hk8 hI))
  obtain ⟨g10, hg10⟩ : ∃ g, g = w8.heap.size := ⟨_, rfl⟩
  simp only [← hg10]
  refine wp_gen (fun W => W.heap[g7]? = some (man V M D) ∧ W.heap[g9]? = some (rd_ ⟨#[]⟩ 0) ∧ W.heap[g10]? = some (man V M D) ∧ Below w.heap.size w W) ⟨blk_alloc (Bc.out) _, blk_alloc (Br.out) _, (by rw [hg10]; exact blk_new _ _), below_alloc HB.out _⟩ ?_
  clear HB Bc Br c0 c1 c2 r0 r1
  rintro W ⟨bc, br, bn, hb⟩
  have HB := Aside0.mk hb
  have Bc := Aside0.mk bc
  have Br := Aside0.mk br
  have Bn := Aside0.mk bn
  clear hb bc br bn
  have c0 := (blk_cell Bc.out 0).trans rfl; have c1 := (blk_cell Bc.out 1).trans rfl; have c2 := (blk_cell Bc.out 2).trans rfl
  have r0 := (blk_cell Br.out 0).trans rfl; have r1 := (blk_cell Br.out 1).trans rfl
  have n0 := (blk_cell Bn.out 0).trans rfl; have n1 := (blk_cell Bn.out 1).trans rfl; have n2 := (blk_cell Bn.out 2).trans rfl
  clear hg10
  go_upto_region 5 with (first | (go_at_call 18; (with_reducible refine (code_New.calls t t 0 _ _ (Below.refl _ _) rfl).mono ?_); rintro e w8 ⟨g11, rfl, hI, hb0, hb8⟩; have R_ := Aside0.mk hI.1; have GE11 := Aside0.mk (Nat.le_trans HB.out.size hI.2); have NE911 := Aside0.mk (show g9 ≠ g11 from Nat.ne_of_lt (Nat.lt_of_lt_of_le (blk_lt Br.out) hI.2)); have b_ := blk_below Bc.out hb8; clear Bc c0 c1 c2; have Bc := Aside0.mk b_; clear b_; have c0 := (blk_cell Bc.out 0).trans rfl; have c1 := (blk_cell Bc.out 1).trans rfl; have c2 := (blk_cell Bc.out 2).trans rfl; have b_ := blk_below Br.out hb8; clear Br r0 r1; have Br := Aside0.mk b_; clear b_; have r0 := (blk_cell Br.out 0).trans rfl; have r1 := (blk_cell Br.out 1).trans rfl; have b_ := blk_below Bn.out hb8; clear Bn n0 n1 n2; have Bn := Aside0.mk b_; clear b_; have n0 := (blk_cell Bn.out 0).trans rfl; have n1 := (blk_cell Bn.out 1).trans rfl; have n2 := (blk_cell Bn.out 2).trans rfl; have n0_ := Aside0.mk (below_step (by repeat (first | (with_reducible first | exact HB.out | apply below_alloc | apply pw_below_drewN | apply below_drew1) | exact HB.out)) hb8); clear HB; have HB := n0_; clear n0_; clear hb8 hb0 hI))
  have Bq := R_
  clear R_
  have q0 := (blk_cell Bq.out 0).trans rfl; have q1 := (blk_cell Bq.out 1).trans rfl
  refine wp_gen (fun W => W.heap[g7]? = some (man V M D) ∧ W.heap[g9]? = some (rd_ ⟨#[]⟩ 0) ∧ W.heap[g10]? = some (man V M D) ∧ W.heap[g11]? = some (rd_ t 0) ∧ Below w.heap.size w W) ⟨Bc.out, Br.out, Bn.out, Bq.out, HB.out⟩ ?_
  clear HB Bc Br Bn Bq c0 c1 c2 r0 r1 n0 n1 n2 q0 q1
  rintro W ⟨bc, br, bn, bq, hb⟩
  have HB := Aside0.mk hb
  have Bc := Aside0.mk bc
  have Br := Aside0.mk br
  have Bn := Aside0.mk bn
  have Bq := Aside0.mk bq
  clear hb bc br bn bq
  have c0 := (blk_cell Bc.out 0).trans rfl; have c1 := (blk_cell Bc.out 1).trans rfl; have c2 := (blk_cell Bc.out 2).trans rfl
  have r0 := (blk_cell Br.out 0).trans rfl; have r1 := (blk_cell Br.out 1).trans rfl
  have n0 := (blk_cell Bn.out 0).trans rfl; have n1 := (blk_cell Bn.out 1).trans rfl; have n2 := (blk_cell Bn.out 2).trans rfl
  have q0 := (blk_cell Bq.out 0).trans rfl; have q1 := (blk_cell Bq.out 1).trans rfl
  go_upto_region 6 with (fail)
  obtain ⟨g12, hg12⟩ : ∃ g, g = W.heap.size := ⟨_, rfl⟩
  simp only [← hg12]
  refine wp_gen (fun W => W.heap[g7]? = some (man V M D) ∧ W.heap[g9]? = some (rd_ ⟨#[]⟩ 0) ∧ W.heap[g10]? = some (man V M D) ∧ W.heap[g11]? = some (rd_ t 0) ∧ W.heap[g12]? = some (at_ t 0) ∧ Below w.heap.size w W) ⟨blk_alloc (Bc.out) _, blk_alloc (Br.out) _, blk_alloc (Bn.out) _, blk_alloc (Bq.out) _, (by rw [hg12]; exact blk_new _ _), below_alloc HB.out _⟩ ?_
  clear HB Bc Br Bn Bq c0 c1 c2 r0 r1 n0 n1 n2 q0 q1
  rintro W ⟨bc, br, bn, bq, bz, hb⟩
  have HB := Aside0.mk hb
  have Bc := Aside0.mk bc
  have Br := Aside0.mk br
  have Bn := Aside0.mk bn
  have Bq := Aside0.mk bq
  have Bz := Aside0.mk bz
  clear hb bc br bn bq bz
  have c0 := (blk_cell Bc.out 0).trans rfl; have c1 := (blk_cell Bc.out 1).trans rfl; have c2 := (blk_cell Bc.out 2).trans rfl
  have r0 := (blk_cell Br.out 0).trans rfl; have r1 := (blk_cell Br.out 1).trans rfl
  have n0 := (blk_cell Bn.out 0).trans rfl; have n1 := (blk_cell Bn.out 1).trans rfl; have n2 := (blk_cell Bn.out 2).trans rfl
  have q0 := (blk_cell Bq.out 0).trans rfl; have q1 := (blk_cell Bq.out 1).trans rfl
  have z0 := (blk_cell Bz.out 0).trans rfl; have z1 := (blk_cell Bz.out 1).trans rfl
  clear hg12
  go_upto_region 7 with (first | (go_at_call 20; refine (manifest_Take.calls k g11 t 0 x1 x2 x3 s2 e2 w _ (And.intro Bq.out GE11.out) HB.out H5.out).mono ?_; rintro e w8 ⟨rfl, hI, hb8, hk8⟩; clear HB; have HB := Aside0.mk hb8; have BM0 := Bq; have b_ := KeepBut.blk hk8 Bc.out (Ne.symm (IsS64.ne_blk (w0 := w) (And.intro BM0.out GE11.out) Bc.out (by decide))) (by simp); clear Bc c0 c1 c2; have Bc := Aside0.mk b_; clear b_; have c0 := (blk_cell Bc.out 0).trans rfl; have c1 := (blk_cell Bc.out 1).trans rfl; have c2 := (blk_cell Bc.out 2).trans rfl; have b_ := KeepBut.blk hk8 Br.out NE911.out (by simp); clear Br r0 r1; have Br := Aside0.mk b_; clear b_; have r0 := (blk_cell Br.out 0).trans rfl; have r1 := (blk_cell Br.out 1).trans rfl; have b_ := KeepBut.blk hk8 Bn.out (Ne.symm (IsS64.ne_blk (w0 := w) (And.intro BM0.out GE11.out) Bn.out (by decide))) (by simp); clear Bn n0 n1 n2; have Bn := Aside0.mk b_; clear b_; have n0 := (blk_cell Bn.out 0).trans rfl; have n1 := (blk_cell Bn.out 1).trans rfl; have n2 := (blk_cell Bn.out 2).trans rfl; have b_ := hI.1; clear Bq q0 q1; have Bq := Aside0.mk b_; clear b_; have b_ := KeepBut.blk hk8 Bz.out (Ne.symm (IsS64.ne_blk (w0 := w) (And.intro BM0.out GE11.out) Bz.out (by decide))) (by simp); clear Bz z0 z1; have Bz := Aside0.mk b_; clear b_; have z0 := (blk_cell Bz.out 0).trans rfl; have z1 := (blk_cell Bz.out 1).trans rfl; clear BM0; have q0 := (blk_cell Bq.out 0).trans rfl; have q1 := (blk_cell Bq.out 1).trans rfl; clear hb8 hk8 hI))
  obtain ⟨g13, hg13⟩ : ∃ g, g = w8.heap.size := ⟨_, rfl⟩
  simp only [← hg13]
  refine wp_gen (fun W => W.heap[g7]? = some (man V M D) ∧ W.heap[g9]? = some (rd_ ⟨#[]⟩ 0) ∧ W.heap[g10]? = some (man V M D) ∧ W.heap[g11]? = some (rd_ s2 e2) ∧ W.heap[g12]? = some (at_ t 0) ∧ W.heap[g13]? = some (man x1 x2 x3) ∧ Below w.heap.size w W) ⟨blk_alloc (Bc.out) _, blk_alloc (Br.out) _, blk_alloc (Bn.out) _, blk_alloc (Bq.out) _, blk_alloc (Bz.out) _, (by rw [hg13]; exact blk_new _ _), below_alloc HB.out _⟩ ?_
  clear HB Bc Br Bn Bq Bz c0 c1 c2 r0 r1 n0 n1 n2 q0 q1 z0 z1
  rintro W ⟨bc, br, bn, bq, bz, bo, hb⟩
  have HB := Aside0.mk hb
  have Bc := Aside0.mk bc
  have Br := Aside0.mk br
  have Bn := Aside0.mk bn
  have Bq := Aside0.mk bq
  have Bz := Aside0.mk bz
  have Bo := Aside0.mk bo
  clear hb bc br bn bq bz bo
  have c0 := (blk_cell Bc.out 0).trans rfl; have c1 := (blk_cell Bc.out 1).trans rfl; have c2 := (blk_cell Bc.out 2).trans rfl
  have r0 := (blk_cell Br.out 0).trans rfl; have r1 := (blk_cell Br.out 1).trans rfl
  have n0 := (blk_cell Bn.out 0).trans rfl; have n1 := (blk_cell Bn.out 1).trans rfl; have n2 := (blk_cell Bn.out 2).trans rfl
  have q0 := (blk_cell Bq.out 0).trans rfl; have q1 := (blk_cell Bq.out 1).trans rfl
  have z0 := (blk_cell Bz.out 0).trans rfl; have z1 := (blk_cell Bz.out 1).trans rfl
  have o0 := (blk_cell Bo.out 0).trans rfl; have o1 := (blk_cell Bo.out 1).trans rfl; have o2 := (blk_cell Bo.out 2).trans rfl
  clear hg13
  go_upto_region 8 with (first | (go_at_call 21; (with_reducible refine (tinderboxref20_Take.calls k t 0 rs e2 y1 y2 y3 _ H6.out).mono ?_); rintro e w8 ⟨rfl, hb8⟩; have b_ := blk_below Bc.out hb8; clear Bc c0 c1 c2; have Bc := Aside0.mk b_; clear b_; have c0 := (blk_cell Bc.out 0).trans rfl; have c1 := (blk_cell Bc.out 1).trans rfl; have c2 := (blk_cell Bc.out 2).trans rfl; have b_ := blk_below Br.out hb8; clear Br r0 r1; have Br := Aside0.mk b_; clear b_; have r0 := (blk_cell Br.out 0).trans rfl; have r1 := (blk_cell Br.out 1).trans rfl; have b_ := blk_below Bn.out hb8; clear Bn n0 n1 n2; have Bn := Aside0.mk b_; clear b_; have n0 := (blk_cell Bn.out 0).trans rfl; have n1 := (blk_cell Bn.out 1).trans rfl; have n2 := (blk_cell Bn.out 2).trans rfl; have b_ := blk_below Bq.out hb8; clear Bq q0 q1; have Bq := Aside0.mk b_; clear b_; have q0 := (blk_cell Bq.out 0).trans rfl; have q1 := (blk_cell Bq.out 1).trans rfl; have b_ := blk_below Bz.out hb8; clear Bz z0 z1; have Bz := Aside0.mk b_; clear b_; have z0 := (blk_cell Bz.out 0).trans rfl; have z1 := (blk_cell Bz.out 1).trans rfl; have b_ := blk_below Bo.out hb8; clear Bo o0 o1 o2; have Bo := Aside0.mk b_; clear b_; have o0 := (blk_cell Bo.out 0).trans rfl; have o1 := (blk_cell Bo.out 1).trans rfl; have o2 := (blk_cell Bo.out 2).trans rfl; have n0_ := Aside0.mk (below_step (by repeat (first | (with_reducible first | exact HB.out | apply below_alloc | apply pw_below_drewN | apply below_drew1) | exact HB.out)) hb8); clear HB; have HB := n0_; clear n0_; clear hb8))
  obtain ⟨g14, hg14⟩ : ∃ g, g = w8.heap.size := ⟨_, rfl⟩
  simp only [← hg14]
  refine wp_gen (fun W => W.heap[g7]? = some (man V M D) ∧ W.heap[g9]? = some (rd_ ⟨#[]⟩ 0) ∧ W.heap[g10]? = some (man V M D) ∧ W.heap[g11]? = some (rd_ s2 e2) ∧ W.heap[g12]? = some (at_ t 0) ∧ W.heap[g13]? = some (man x1 x2 x3) ∧ W.heap[g14]? = some (at_ rs e2) ∧ W.heap[(g14 + 1)]? = some (man y1 y2 y3) ∧ Below w.heap.size w W) ⟨blk_alloc (blk_alloc (Bc.out) _) _, blk_alloc (blk_alloc (Br.out) _) _, blk_alloc (blk_alloc (Bn.out) _) _, blk_alloc (blk_alloc (Bq.out) _) _, blk_alloc (blk_alloc (Bz.out) _) _, blk_alloc (blk_alloc (Bo.out) _) _, (by rw [hg14]; exact blk_alloc (blk_new _ _) _), (by rw [hg14]; have h := blk_new (w8.alloc (at_ rs e2)) (man y1 y2 y3); simpa using h), below_alloc (below_alloc HB.out _) _⟩ ?_
  clear HB Bc Br Bn Bq Bz Bo c0 c1 c2 r0 r1 n0 n1 n2 q0 q1 z0 z1 o0 o1 o2
  rintro W ⟨bc, br, bn, bq, bz, bo, bb, bv, hb⟩
  have HB := Aside0.mk hb
  have Bc := Aside0.mk bc
  have Br := Aside0.mk br
  have Bn := Aside0.mk bn
  have Bq := Aside0.mk bq
  have Bz := Aside0.mk bz
  have Bo := Aside0.mk bo
  have Bb := Aside0.mk bb
  have Bv := Aside0.mk bv
  clear hb bc br bn bq bz bo bb bv
  have c0 := (blk_cell Bc.out 0).trans rfl; have c1 := (blk_cell Bc.out 1).trans rfl; have c2 := (blk_cell Bc.out 2).trans rfl
  have r0 := (blk_cell Br.out 0).trans rfl; have r1 := (blk_cell Br.out 1).trans rfl
  have n0 := (blk_cell Bn.out 0).trans rfl; have n1 := (blk_cell Bn.out 1).trans rfl; have n2 := (blk_cell Bn.out 2).trans rfl
  have q0 := (blk_cell Bq.out 0).trans rfl; have q1 := (blk_cell Bq.out 1).trans rfl
  have z0 := (blk_cell Bz.out 0).trans rfl; have z1 := (blk_cell Bz.out 1).trans rfl
  have o0 := (blk_cell Bo.out 0).trans rfl; have o1 := (blk_cell Bo.out 1).trans rfl; have o2 := (blk_cell Bo.out 2).trans rfl
  have b0 := (blk_cell Bb.out 0).trans rfl; have b1 := (blk_cell Bb.out 1).trans rfl
  have v0 := (blk_cell Bv.out 0).trans rfl; have v1 := (blk_cell Bv.out 1).trans rfl; have v2 := (blk_cell Bv.out 2).trans rfl
  clear hg14
  have N7 := Aside0.mk (show g7 ≠ g9 from Ne.symm (IsS64.ne_blk (w0 := w) (And.intro Br.out GE9.out) Bc.out (by decide)))
  have N10 := Aside0.mk (show g10 ≠ g9 from Ne.symm (IsS64.ne_blk (w0 := w) (And.intro Br.out GE9.out) Bn.out (by decide)))
  have N13 := Aside0.mk (show g13 ≠ g9 from Ne.symm (IsS64.ne_blk (w0 := w) (And.intro Br.out GE9.out) Bo.out (by decide)))
  have N14 := Aside0.mk (show g14 ≠ g9 from Ne.symm (IsS64.ne_blk (w0 := w) (And.intro Br.out GE9.out) Bb.out (by decide)))
  have N15 := Aside0.mk (show (g14 + 1) ≠ g9 from Ne.symm (IsS64.ne_blk (w0 := w) (And.intro Br.out GE9.out) Bv.out (by decide)))
  have CK := Aside0.mk (show ∀ (A B : World) (g i : Nat) (v : Value), Below A.heap.size A B → A.cell? ⟨g, i, none⟩ = some v → B.cell? ⟨g, i, none⟩ = some v from fun A B g i v hb h => (cell_keepB hb h))
  have KS := Aside0.mk (show ∀ (A B : World), Below A.heap.size A B → (A.cell? ⟨g7, 0, none⟩ = some (.int .i64 V) ∧ A.cell? ⟨g7, 1, none⟩ = some (.int .i64 M) ∧ A.cell? ⟨g7, 2, none⟩ = some (.string D) ∧ A.cell? ⟨g10, 0, none⟩ = some (.int .i64 V) ∧ A.cell? ⟨g10, 1, none⟩ = some (.int .i64 M) ∧ A.cell? ⟨g10, 2, none⟩ = some (.string D) ∧ A.heap[g9]? = some (rd_ ⟨#[]⟩ 0) ∧ A.heap[g11]? = some (rd_ s2 e2) ∧ A.heap[g13]? = some (man x1 x2 x3) ∧ A.heap[g14]? = some (at_ rs e2) ∧ A.heap[(g14 + 1)]? = some (man y1 y2 y3) ∧ Below w.heap.size w A) → (B.cell? ⟨g7, 0, none⟩ = some (.int .i64 V) ∧ B.cell? ⟨g7, 1, none⟩ = some (.int .i64 M) ∧ B.cell? ⟨g7, 2, none⟩ = some (.string D) ∧ B.cell? ⟨g10, 0, none⟩ = some (.int .i64 V) ∧ B.cell? ⟨g10, 1, none⟩ = some (.int .i64 M) ∧ B.cell? ⟨g10, 2, none⟩ = some (.string D) ∧ B.heap[g9]? = some (rd_ ⟨#[]⟩ 0) ∧ B.heap[g11]? = some (rd_ s2 e2) ∧ B.heap[g13]? = some (man x1 x2 x3) ∧ B.heap[g14]? = some (at_ rs e2) ∧ B.heap[(g14 + 1)]? = some (man y1 y2 y3) ∧ Below w.heap.size w B) from fun A B hb ⟨h0, h1, h2, h3, h4, h5, h6, h7, h8, h9, h10, h11⟩ => ⟨cell_keepB hb h0, cell_keepB hb h1, cell_keepB hb h2, cell_keepB hb h3, cell_keepB hb h4, cell_keepB hb h5, blk_below h6 hb, blk_below h7 hb, blk_below h8 hb, blk_below h9 hb, blk_below h10 hb, below_step h11 hb⟩)
  have KE := Aside0.mk (show ∀ (A B : World), KeepBut A B g9 none → B.heap[g9]? = some (rd_ ⟨#[]⟩ 0) → Below w.heap.size w B → (A.cell? ⟨g7, 0, none⟩ = some (.int .i64 V) ∧ A.cell? ⟨g7, 1, none⟩ = some (.int .i64 M) ∧ A.cell? ⟨g7, 2, none⟩ = some (.string D) ∧ A.cell? ⟨g10, 0, none⟩ = some (.int .i64 V) ∧ A.cell? ⟨g10, 1, none⟩ = some (.int .i64 M) ∧ A.cell? ⟨g10, 2, none⟩ = some (.string D) ∧ A.heap[g9]? = some (rd_ ⟨#[]⟩ 0) ∧ A.heap[g11]? = some (rd_ s2 e2) ∧ A.heap[g13]? = some (man x1 x2 x3) ∧ A.heap[g14]? = some (at_ rs e2) ∧ A.heap[(g14 + 1)]? = some (man y1 y2 y3) ∧ Below w.heap.size w A) → (B.cell? ⟨g7, 0, none⟩ = some (.int .i64 V) ∧ B.cell? ⟨g7, 1, none⟩ = some (.int .i64 M) ∧ B.cell? ⟨g7, 2, none⟩ = some (.string D) ∧ B.cell? ⟨g10, 0, none⟩ = some (.int .i64 V) ∧ B.cell? ⟨g10, 1, none⟩ = some (.int .i64 M) ∧ B.cell? ⟨g10, 2, none⟩ = some (.string D) ∧ B.heap[g9]? = some (rd_ ⟨#[]⟩ 0) ∧ B.heap[g11]? = some (rd_ s2 e2) ∧ B.heap[g13]? = some (man x1 x2 x3) ∧ B.heap[g14]? = some (at_ rs e2) ∧ B.heap[(g14 + 1)]? = some (man y1 y2 y3) ∧ Below w.heap.size w B) from fun A B hk h9 hb ⟨h0, h1, h2, h3, h4, h5, h6, h7, h8, h9', h10, h11⟩ => ⟨cell_keepK hk N7.out h0, cell_keepK hk N7.out h1, cell_keepK hk N7.out h2, cell_keepK hk N10.out h3, cell_keepK hk N10.out h4, cell_keepK hk N10.out h5, h9, KeepBut.blk hk h7 (Ne.symm NE911.out) (by simp), KeepBut.blk hk h8 N13.out (by simp), KeepBut.blk hk h9' N14.out (by simp), KeepBut.blk hk h10 N15.out (by simp), hb⟩)
  have P9 := Aside0.mk (show ∀ (A : World), (A.cell? ⟨g7, 0, none⟩ = some (.int .i64 V) ∧ A.cell? ⟨g7, 1, none⟩ = some (.int .i64 M) ∧ A.cell? ⟨g7, 2, none⟩ = some (.string D) ∧ A.cell? ⟨g10, 0, none⟩ = some (.int .i64 V) ∧ A.cell? ⟨g10, 1, none⟩ = some (.int .i64 M) ∧ A.cell? ⟨g10, 2, none⟩ = some (.string D) ∧ A.heap[g9]? = some (rd_ ⟨#[]⟩ 0) ∧ A.heap[g11]? = some (rd_ s2 e2) ∧ A.heap[g13]? = some (man x1 x2 x3) ∧ A.heap[g14]? = some (at_ rs e2) ∧ A.heap[(g14 + 1)]? = some (man y1 y2 y3) ∧ Below w.heap.size w A) → A.heap[g9]? = some (rd_ ⟨#[]⟩ 0) from fun A ⟨h0, h1, h2, h3, h4, h5, h6, h7, h8, h9, h10, h11⟩ => h6)
  have PB := Aside0.mk (show ∀ (A : World), (A.cell? ⟨g7, 0, none⟩ = some (.int .i64 V) ∧ A.cell? ⟨g7, 1, none⟩ = some (.int .i64 M) ∧ A.cell? ⟨g7, 2, none⟩ = some (.string D) ∧ A.cell? ⟨g10, 0, none⟩ = some (.int .i64 V) ∧ A.cell? ⟨g10, 1, none⟩ = some (.int .i64 M) ∧ A.cell? ⟨g10, 2, none⟩ = some (.string D) ∧ A.heap[g9]? = some (rd_ ⟨#[]⟩ 0) ∧ A.heap[g11]? = some (rd_ s2 e2) ∧ A.heap[g13]? = some (man x1 x2 x3) ∧ A.heap[g14]? = some (at_ rs e2) ∧ A.heap[(g14 + 1)]? = some (man y1 y2 y3) ∧ Below w.heap.size w A) → Below w.heap.size w A from fun A ⟨h0, h1, h2, h3, h4, h5, h6, h7, h8, h9, h10, h11⟩ => h11)
  have HSD := Aside0.mk (show W.cell? ⟨g7, 0, none⟩ = some (.int .i64 V) ∧ W.cell? ⟨g7, 1, none⟩ = some (.int .i64 M) ∧ W.cell? ⟨g7, 2, none⟩ = some (.string D) ∧ W.cell? ⟨g10, 0, none⟩ = some (.int .i64 V) ∧ W.cell? ⟨g10, 1, none⟩ = some (.int .i64 M) ∧ W.cell? ⟨g10, 2, none⟩ = some (.string D) ∧ W.heap[g9]? = some (rd_ ⟨#[]⟩ 0) ∧ W.heap[g11]? = some (rd_ s2 e2) ∧ W.heap[g13]? = some (man x1 x2 x3) ∧ W.heap[g14]? = some (at_ rs e2) ∧ W.heap[(g14 + 1)]? = some (man y1 y2 y3) ∧ Below w.heap.size w W from ⟨c0, c1, c2, n0, n1, n2, Br.out, Bq.out, Bo.out, Bb.out, Bv.out, HB.out⟩)
  clear Bc c0 c1 c2 Br r0 r1 Bn n0 n1 n2 Bq q0 q1 Bz z0 z1 Bo o0 o1 o2 Bb b0 b1 Bv v0 v1 v2 HB CK
  first | (go_region_held3 (fun w' => w'.cell? ⟨g7, 0, none⟩ = some (.int .i64 V) ∧ w'.cell? ⟨g7, 1, none⟩ = some (.int .i64 M) ∧ w'.cell? ⟨g7, 2, none⟩ = some (.string D) ∧ w'.cell? ⟨g10, 0, none⟩ = some (.int .i64 V) ∧ w'.cell? ⟨g10, 1, none⟩ = some (.int .i64 M) ∧ w'.cell? ⟨g10, 2, none⟩ = some (.string D) ∧ w'.heap[g9]? = some (rd_ ⟨#[]⟩ 0) ∧ w'.heap[g11]? = some (rd_ s2 e2) ∧ w'.heap[g13]? = some (man x1 x2 x3) ∧ w'.heap[g14]? = some (at_ rs e2) ∧ w'.heap[(g14 + 1)]? = some (man y1 y2 y3) ∧ Below w.heap.size w w') (first | with_reducible assumption | exact KS.out _ _ (by with_reducible assumption) (by with_reducible assumption) | exact KE.out _ _ (by with_reducible assumption) (by with_reducible assumption) (by with_reducible assumption) (by with_reducible assumption) | exact KS.out W _ (below_drew1 (Below.refl _ _)) HSD.out) (first | (go_at_call 12; (with_reducible refine (tinderboxlaw20_awake.calls k true _ H8.out).mono ?_); rintro e w' ⟨rfl, hb⟩) | (go_at_call 19; (with_reducible refine (manifest_Put.calls k V M D P _ H3.out).mono ?_); rintro e w' ⟨rfl, hb⟩) | (go_at_call 22; (with_reducible refine (tinderboxref20_Put.calls k V M D P _ H7.out).mono ?_); rintro e w' ⟨rfl, hb⟩) | (go_at_call 23; refine (code_Reader_End.calls g9 ⟨#[]⟩ 0 0 ⟨#[]⟩ 0 w _ (And.intro (P9.out _ (by with_reducible assumption)) GE9.out) (PB.out _ (by with_reducible assumption)) end_f).mono ?_; rintro e w' ⟨rfl, ⟨hI, _⟩, hb8, hk8⟩))) | fail
  refine to_wp (fun w' => w'.cell? ⟨g7, 0, none⟩ = some (.int .i64 V) ∧ w'.cell? ⟨g7, 1, none⟩ = some (.int .i64 M) ∧ w'.cell? ⟨g7, 2, none⟩ = some (.string D) ∧ w'.cell? ⟨g10, 0, none⟩ = some (.int .i64 V) ∧ w'.cell? ⟨g10, 1, none⟩ = some (.int .i64 M) ∧ w'.cell? ⟨g10, 2, none⟩ = some (.string D) ∧ w'.heap[g9]? = some (rd_ ⟨#[]⟩ 0) ∧ w'.heap[g11]? = some (rd_ s2 e2) ∧ w'.heap[g13]? = some (man x1 x2 x3) ∧ w'.heap[g14]? = some (at_ rs e2) ∧ w'.heap[(g14 + 1)]? = some (man y1 y2 y3) ∧ Below w.heap.size w w') (by with_reducible assumption) ?_
  rintro W ⟨h0, h1, h2, h3, h4, h5, br, bq, bo, bb, bv, hb⟩
  have HB := Aside0.mk hb
  have Bq := Aside0.mk bq
  have Bo := Aside0.mk bo
  have Bb := Aside0.mk bb
  have Bv := Aside0.mk bv
  clear h0 h1 h2 h3 h4 h5 br bq bo bb bv hb HSD KS KE PB P9
  go_upto_region 10 with (fail)
  by_cases he : e2 = 0
  · subst he
    obtain ⟨rfl, rfl, rfl⟩ : x1 = y1 ∧ x2 = y2 ∧ x3 = y3 := by rcases h9 with h | h; exact absurd rfl h; exact h
    have o0 := (blk_cell Bo.out 0).trans rfl; have o1 := (blk_cell Bo.out 1).trans rfl; have o2 := (blk_cell Bo.out 2).trans rfl
    have b0 := (blk_cell Bb.out 0).trans rfl; have b1 := (blk_cell Bb.out 1).trans rfl
    have v0 := (blk_cell Bv.out 0).trans rfl; have v1 := (blk_cell Bv.out 1).trans rfl; have v2 := (blk_cell Bv.out 2).trans rfl
    go_region_with (go_at_call 24; refine (code_Reader_Err.calls g11 s2 0 0 s2 0 w _ (show IsS64 w W.drew g11 s2 0 from And.intro Bq.out GE11.out) (by repeat (first | with_reducible exact HB.out | apply below_drew1 | apply pw_below_drewN)) rfl).mono ?_; rintro e w8 ⟨rfl, hI, hb8, hk8⟩; clear HB; have HB := Aside0.mk hb8; have b_ := KeepBut.blk hk8 Bo.out (Ne.symm (IsS64.ne_blk (w0 := w) (And.intro Bq.out GE11.out) Bo.out (by decide))) (by simp); clear Bo o0 o1 o2; have Bo := Aside0.mk b_; clear b_; have o0 := (blk_cell Bo.out 0).trans rfl; have o1 := (blk_cell Bo.out 1).trans rfl; have o2 := (blk_cell Bo.out 2).trans rfl; have b_ := KeepBut.blk hk8 Bb.out (Ne.symm (IsS64.ne_blk (w0 := w) (And.intro Bq.out GE11.out) Bb.out (by decide))) (by simp); clear Bb b0 b1; have Bb := Aside0.mk b_; clear b_; have b0 := (blk_cell Bb.out 0).trans rfl; have b1 := (blk_cell Bb.out 1).trans rfl; have b_ := KeepBut.blk hk8 Bv.out (Ne.symm (IsS64.ne_blk (w0 := w) (And.intro Bq.out GE11.out) Bv.out (by decide))) (by simp); clear Bv v0 v1 v2; have Bv := Aside0.mk b_; clear b_; have v0 := (blk_cell Bv.out 0).trans rfl; have v1 := (blk_cell Bv.out 1).trans rfl; have v2 := (blk_cell Bv.out 2).trans rfl; clear hb8 hk8 hI)
    all_goals go_wp2
    all_goals go_ret
    all_goals exact ⟨rfl, by repeat (first | exact HB.out | apply below_drew1 | apply pw_below_drewN)⟩
  · have n1 : (e2 == 0) = false := beq_eq_false_iff_ne.mpr he
    have n2 : (e2 != 0) = true := bne_iff_ne.mpr he
    clear he h9
    have o0 := (blk_cell Bo.out 0).trans rfl; have o1 := (blk_cell Bo.out 1).trans rfl; have o2 := (blk_cell Bo.out 2).trans rfl
    have b0 := (blk_cell Bb.out 0).trans rfl; have b1 := (blk_cell Bb.out 1).trans rfl
    have v0 := (blk_cell Bv.out 0).trans rfl; have v1 := (blk_cell Bv.out 1).trans rfl; have v2 := (blk_cell Bv.out 2).trans rfl
    go_region_with (go_at_call 24; refine (code_Reader_Err.calls g11 s2 e2 e2 s2 e2 w _ (show IsS64 w W.drew g11 s2 e2 from And.intro Bq.out GE11.out) (by repeat (first | with_reducible exact HB.out | apply below_drew1 | apply pw_below_drewN)) rfl).mono ?_; rintro e w8 ⟨rfl, hI, hb8, hk8⟩; clear HB; have HB := Aside0.mk hb8; have b_ := KeepBut.blk hk8 Bo.out (Ne.symm (IsS64.ne_blk (w0 := w) (And.intro Bq.out GE11.out) Bo.out (by decide))) (by simp); clear Bo o0 o1 o2; have Bo := Aside0.mk b_; clear b_; have o0 := (blk_cell Bo.out 0).trans rfl; have o1 := (blk_cell Bo.out 1).trans rfl; have o2 := (blk_cell Bo.out 2).trans rfl; have b_ := KeepBut.blk hk8 Bb.out (Ne.symm (IsS64.ne_blk (w0 := w) (And.intro Bq.out GE11.out) Bb.out (by decide))) (by simp); clear Bb b0 b1; have Bb := Aside0.mk b_; clear b_; have b0 := (blk_cell Bb.out 0).trans rfl; have b1 := (blk_cell Bb.out 1).trans rfl; have b_ := KeepBut.blk hk8 Bv.out (Ne.symm (IsS64.ne_blk (w0 := w) (And.intro Bq.out GE11.out) Bv.out (by decide))) (by simp); clear Bv v0 v1 v2; have Bv := Aside0.mk b_; clear b_; have v0 := (blk_cell Bv.out 0).trans rfl; have v1 := (blk_cell Bv.out 1).trans rfl; have v2 := (blk_cell Bv.out 2).trans rfl; clear hb8 hk8 hI)
    all_goals go_wp2
    all_goals go_ret
    all_goals exact ⟨rfl, by repeat (first | exact HB.out | apply below_drew1 | apply pw_below_drewN)⟩
end Go.Proofs.YtjmabdgebhndhaaDoor.Mf
