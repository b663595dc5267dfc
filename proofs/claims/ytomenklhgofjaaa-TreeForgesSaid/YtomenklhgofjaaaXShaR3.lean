/- What the reference's digest is reckoned by. Conditions: none. -/
import Derived.Test.YtomenklhgofjaaaXShaR2
import Derived.Test.YtomenklhgofjaaaXLate
set_option linter.unusedVariables false
set_option linter.unusedSimpArgs false
namespace Go.Proofs.Ytomenklhgofjaaa.Sh
open Go.RowKit Go.Proofs.YtomenklhgofjaaaW.PrintWords Go.Proofs.YtomenklhgofjaaaW.PrintLast Go.Proofs.YtomenklhgofjaaaW.PrintMore
def rootS (p : Int) : Int := (rt sq4 p 2 37 0).tmod 4294967296 % 4294967296
def rootC (p : Int) : Int := (rt cb4 p 3 37 0).tmod 4294967296 % 4294967296
/-- A word turned to the right, as the reference has it. -/
def qr (x n : Int) : Int := Go.bits .or .u32 (shr .u32 x n) (shl .u32 x (IntKind.u64.wrap (32 - n)))
set_option maxHeartbeats 8000000 in
set_option maxRecDepth 100000 in
theorem qright_calls (x n : Int) (hn : 0 ≤ n) (w : World) : Calls Try.prog 47 #[.int .u32 x, .int .u64 n] w fun e w' => e = .returned (.int .u32 (qr x n)) ∧ w' = w := by
  unfold qr
  have h7 : 0 ≤ IntKind.u64.wrap (32 - n) := u64_nonneg _
  obtain ⟨j6, hj6⟩ : ∃ j_ : Int, IntKind.u64.wrap (32 - n) = j_ := ⟨_, rfl⟩
  rw [hj6] at h7 ⊢
  obtain ⟨j5, hj5⟩ : ∃ j_ : Int, (shr .u32 x n) = j_ := ⟨_, rfl⟩
  obtain ⟨j8, hj8⟩ : ∃ j_ : Int, (shl .u32 x j6) = j_ := ⟨_, rfl⟩
  rw [hj5, hj8]
  have k5 : (x / 2 ^ min n.toNat 32) = j5 := hj5
  have k8 : (IntKind.u32.wrap (x * 2 ^ min j6.toNat 32)) = j8 := hj8
  have k5z : n ≤ 32 → (x / 2 ^ n.toNat) = j5 := shr_small hj5
  have k8z : j6 ≤ 32 → (IntKind.u32.wrap (x * 2 ^ j6.toNat)) = j8 := shl_small hj8
  have c4 := eq_true hn
  have c4d : decide (0 ≤ n) = true := decide_eq_true hn
  have c7 := eq_true h7
  have c7d : decide (0 ≤ j6) = true := decide_eq_true h7
  clear h7 hn
  go_enter Try.func47, Try.ntmps47
  go_wp2
  go_ret
  exact ⟨by first | rfl | (simp [*]; done), rfl⟩
theorem PR_calls (w : World) : Calls Try.prog 45 #[.int .i64 64] w fun e w' => ∃ g c, e = .returned (.slice (some ⟨g, 0, none⟩) 64 c) ∧ w.heap.size ≤ g ∧ Rk .u64 71 w' g PR ∧ Below w.heap.size w w' := by
  refine (tinderboxref02_Primes.calls 40000 64 PR w (by decide +kernel)).mono ?_
  rintro e w' ⟨v, rfl, hR, hb⟩
  obtain ⟨g, c, rfl, hg, hz⟩ := own_rz (Kd.own_of_R hR) (by rw [PR_len]; decide) (by rw [PR_len])
  rw [PR_len]
  exact ⟨g, c, rfl, hg, hz.rk, hb⟩
def HL : List Int := (PR.take 8).map rootS
def KL : List Int := PR.map rootC

theorem HL_len : HL.length = 8 := by unfold HL; rw [List.length_map, List.length_take, PR_len]; decide
theorem KL_len : KL.length = 64 := by unfold KL; rw [List.length_map, PR_len]
theorem HL_get {i : Nat} (h : i < 8) : HL.getD i 0 = rootS (PR.getD i 0) := by
  have h2 : i < PR.length := by rw [PR_len]; omega
  unfold HL
  rw [List.getD_eq_getElem?_getD, List.getD_eq_getElem?_getD, List.getElem?_map, List.getElem?_take, if_pos h, List.getElem?_eq_getElem h2]
  rfl
theorem KL_get {i : Nat} (h : i < 64) : KL.getD i 0 = rootC (PR.getD i 0) := by
  have h2 : i < PR.length := by rw [PR_len]; omega
  unfold KL
  rw [List.getD_eq_getElem?_getD, List.getD_eq_getElem?_getD, List.getElem?_map, List.getElem?_eq_getElem h2]
  rfl
theorem take_next {l : List Int} {i : Nat} (h : i < l.length) {x : Int} (hx : l.getD i 0 = x) : l.take i ++ [x] = l.take (i + 1) := by
  rw [List.take_succ_eq_append_getElem h, ← hx, List.getD_eq_getElem?_getD, List.getElem?_eq_getElem h]
  rfl
theorem len_take {l : List Int} {i n : Nat} (h : l.length = n) (hi : i ≤ n) : (l.take i).length = i := by rw [List.length_take]; omega
theorem lists : ∃ hl kl pr : List Int, Aside0 (hl = HL ∧ kl = KL ∧ pr = PR) ∧ hl.length = 8 ∧ kl.length = 64 ∧ pr.length = 64 ∧ (∀ i, i < 8 → hl.getD i 0 = rootS (pr.getD i 0)) ∧ (∀ i, i < 64 → kl.getD i 0 = rootC (pr.getD i 0)) ∧ ∀ w, Calls Try.prog 45 #[.int .i64 64] w fun e w' => ∃ g c, e = .returned (.slice (some ⟨g, 0, none⟩) 64 c) ∧ w.heap.size ≤ g ∧ Rk .u64 71 w' g pr ∧ Below w.heap.size w w' :=
  ⟨HL, KL, PR, ⟨rfl, rfl, rfl⟩, HL_len, KL_len, PR_len, fun _ h => HL_get h, fun _ h => KL_get h, PR_calls⟩
/-- The round of the first loop: the two rows so far. -/
structure AInv (w wr : World) (base gp : Nat) (hl kl pr : List Int) (v4 v5 : Value) (ih ik : Nat) : Prop where
  hw : w.heap.size ≤ base
  hb : Below w.heap.size w wr
  hz : base ≤ wr.heap.size
  p0 : Rk .u64 71 wr gp pr
  hp : gp < base
  h0 : wr.ownsRow base 63 1 v4 (hl.take (min ih 8)).length (nums .u32 (hl.take (min ih 8)))
  k0 : wr.ownsRow base 63 1 v5 (kl.take ik).length (nums .u32 (kl.take ik))
  ne : v4.ownBlock ≠ v5.ownBlock
theorem AInv.start {w w1 : World} {gp : Nat} {hl kl pr : List Int} (hb : Below w.heap.size w w1) (p0 : Rk .u64 71 w1 gp pr) : AInv w ((w1.alloc (.cells #[] 63)).alloc (.cells #[] 63)) w1.heap.size gp hl kl pr (.slice (some ⟨w1.heap.size, 0, none⟩) 0 0) (.slice (some ⟨w1.heap.size + 1, 0, none⟩) 0 0) 0 0 := by
  have h1 := own_lit w1 w1.heap.size 63 .u32 [] (Nat.le_refl _) (by decide)
  have h2 := own_lit (w1.alloc (.cells #[] 63)) w1.heap.size 63 .u32 [] (by simp) (by decide)
  refine ⟨hb.size, below_alloc (below_alloc hb _) _, by simp; omega, (p0.alloc _).alloc _, p0.lt, ?_, ?_, ?_⟩
  · exact h1.alloc _
  · have e : (w1.alloc (.cells #[] 63)).heap.size = w1.heap.size + 1 := by simp
    rw [e] at h2
    exact h2
  · simp [Value.ownBlock]
section
variable {w wr w' : World} {base gp : Nat} {hl kl pr : List Int} {v4 v5 v1 : Value} {ih ik : Nat} {x : Int}
theorem AInv.below (h : AInv w wr base gp hl kl pr v4 v5 ih ik) (hb : Below wr.heap.size wr w') : AInv w w' base gp hl kl pr v4 v5 ih ik :=
  ⟨h.hw, below_step h.hb hb, Nat.le_trans h.hz hb.size, h.p0.below hb, h.hp, pw_own_below h.h0 hb, pw_own_below h.k0 hb, h.ne⟩
theorem AInv.skip (h : AInv w wr base gp hl kl pr v4 v5 ih ik) (h8 : 8 ≤ ih) : AInv w wr base gp hl kl pr v4 v5 (ih + 1) ik :=
  ⟨h.hw, h.hb, h.hz, h.p0, h.hp, by rw [show min (ih + 1) 8 = min ih 8 by omega]; exact h.h0, h.k0, h.ne⟩
theorem AInv.putH (h : AInv w wr base gp hl kl pr v4 v5 ih ik) (hi : ih < 8) (hl8 : hl.length = 8) (hx : hl.getD ih 0 = x)
    (ho : w'.ownsRow base 63 1 v1 (hl.take (min ih 8) ++ [x]).length (nums .u32 (hl.take (min ih 8) ++ [x]))) (hg : wr.grownBy w' v4.ownBlock) (hat : v1.ownBlock = v4.ownBlock ∨ ∃ b, v1.ownBlock = some b ∧ wr.heap.size ≤ b) :
    AInv w w' base gp hl kl pr v1 v5 (ih + 1) ik := by
  have hb' : Below base wr w' := ((Below.refl base wr).grown hg h.hz (own_base h.h0))
  have e : hl.take (min ih 8) ++ [x] = hl.take (min (ih + 1) 8) := by rw [show min ih 8 = ih by omega, show min (ih + 1) 8 = ih + 1 by omega]; exact take_next (by omega) hx
  rw [e] at ho
  have hk : v5.ownBlock = none ∨ v5.ownBlock ≠ v4.ownBlock := .inr (fun e => h.ne e.symm)
  refine ⟨h.hw, h.hb.trans (hb'.mono h.hw), Nat.le_trans h.hz hg.size, ?_, h.hp, ho, own_other h.k0 hg hk, ?_⟩
  · obtain ⟨c, fz, h1, h2⟩ := h.p0
    exact ⟨c, fz, (hb'.block gp h.hp).trans h1, h2⟩
  · rcases hat with hat | ⟨b, hb2, hge⟩
    · rw [hat]; exact h.ne
    · intro e2
      rw [hb2] at e2
      have := (World.ownsRow.lt h.k0 b e2.symm).2
      omega
theorem AInv.putK (h : AInv w wr base gp hl kl pr v4 v5 ih ik) (hi : ik < 64) (hl8 : kl.length = 64) (hx : kl.getD ik 0 = x)
    (ho : w'.ownsRow base 63 1 v1 (kl.take ik ++ [x]).length (nums .u32 (kl.take ik ++ [x]))) (hg : wr.grownBy w' v5.ownBlock) (hat : v1.ownBlock = v5.ownBlock ∨ ∃ b, v1.ownBlock = some b ∧ wr.heap.size ≤ b) :
    AInv w w' base gp hl kl pr v4 v1 ih (ik + 1) := by
  have hb' : Below base wr w' := ((Below.refl base wr).grown hg h.hz (own_base h.k0))
  have e : kl.take ik ++ [x] = kl.take (ik + 1) := take_next (by omega) hx
  rw [e] at ho
  refine ⟨h.hw, h.hb.trans (hb'.mono h.hw), Nat.le_trans h.hz hg.size, ?_, h.hp, own_other h.h0 hg (.inr h.ne), ho, ?_⟩
  · obtain ⟨c, fz, h1, h2⟩ := h.p0
    exact ⟨c, fz, (hb'.block gp h.hp).trans h1, h2⟩
  · rcases hat with hat | ⟨b, hb2, hge⟩
    · rw [hat]; exact h.ne
    · intro e2
      rw [hb2] at e2
      have := (World.ownsRow.lt h.h0 b e2).2
      omega
end
def zl (xs : List Int) : Nat → List Int
  | 0 => xs
  | n + 1 => zl (xs ++ [0]) n
def ll (n : Int) (xs : List Int) : Nat → List Int
  | 0 => xs
  | i + 1 => ll n xs i ++ [n / 2 ^ (56 - 8 * i) % 256]
theorem ll_len (n : Int) (xs : List Int) (i : Nat) : (ll n xs i).length = xs.length + i := by
  induction i with
  | zero => rfl
  | succ i ih => unfold ll; rw [List.length_append, ih]; rfl
theorem ll_step {n X : Int} {xs l : List Int} {i : Nat} (hP : ll n xs i = l) (hX : X = n / 2 ^ (56 - 8 * i) % 256) : l ++ [X] = ll n xs (i + 1) := by
  show _ = ll n xs i ++ [n / 2 ^ (56 - 8 * i) % 256]
  rw [hP, hX]
theorem RowB.cast {w : World} {base : Nat} {v : Value} {n X : Int} {xs l : List Int} {i : Nat} (h : RowB w base v (l ++ [X])) (hP : ll n xs i = l) (hX : X = n / 2 ^ (56 - 8 * i) % 256) : RowB w base v (ll n xs (i + 1)) := ll_step hP hX ▸ h
/-- What holds of the two rows of words. -/
structure RM (w wr : World) (gh gk : Nat) (H K : List Int) : Prop where
  hb : Below w.heap.size w wr
  h0 : Rz .u32 63 wr gh H
  k0 : Rk .u32 63 wr gk K
  ne : gh ≠ gk
  lH : H.length = 8
  lK : K.length = 64
  wh : w.heap.size ≤ gh
section
variable {w wr w' : World} {gh gk : Nat} {H K : List Int}
theorem RM.below (m : RM w wr gh gk H K) (h : Below wr.heap.size wr w') : RM w w' gh gk H K := ⟨below_step m.hb h, m.h0.below h, m.k0.below h, m.ne, m.lH, m.lK, m.wh⟩
theorem RM.drew (m : RM w wr gh gk H K) : RM w wr.drew gh gk H K := ⟨m.hb.drew, m.h0, m.k0, m.ne, m.lH, m.lK, m.wh⟩
theorem RM.drewN (m : RM w wr gh gk H K) (n : Nat) : RM w (wr.drewN n) gh gk H K := ⟨pw_below_drewN m.hb n, m.h0, m.k0, m.ne, m.lH, m.lK, m.wh⟩
theorem RM.put (m : RM w wr gh gk H K) (i : Nat) (x : Int) (hi : i < 8) : RM w (wr.setCell ⟨gh, i, none⟩ (.int .u32 x)) gh gk (H.set i x) K :=
  ⟨below_set m.hb m.wh, m.h0.put i x (by rw [m.lH]; exact hi), m.k0.far (fun e => m.ne e.symm) _, m.ne, by rw [List.length_set]; exact m.lH, m.lK, m.wh⟩
end
theorem own_at_block {k : IntKind} {t : TypeId} {w : World} {base n n' c : Nat} {A : Option Addr} {xs : List Int} (h : w.ownsRow base t 1 (.slice A n c) n' (nums k xs)) (hn : 0 < n') (hl : xs.length = n') : n = n' ∧ ∃ g, A = some ⟨g, 0, none⟩ ∧ base ≤ g ∧ Rz k t w g xs := by
  obtain ⟨g, c', e, hg, hz⟩ := own_rz h hn hl
  injection e with e1 e2 e3
  exact ⟨e2, g, e1, hg, hz⟩
theorem MM_len {w wr : World} {gh gk : Nat} {H K : List Int} (m : RM w wr gh gk H K) : H.length = 8 := m.lH
/-- What holds in the rounds. -/
structure V4 (w wr : World) (gh gk gb gw gv : Nat) (H K B W V : List Int) : Prop where
  rm : RM w wr gh gk H K
  rb : Rk .u8 5 wr gb B
  rw : Rk .u32 63 wr gw W
  rv : Rk .u32 63 wr gv V
  ne : gh ≠ gv
  nb : gh ≠ gb
  nw : gh ≠ gw
section
variable {w wr w' : World} {gh gk gb gw gv : Nat} {H K B W V : List Int}
theorem V4.below (m : V4 w wr gh gk gb gw gv H K B W V) (h : Below wr.heap.size wr w') : V4 w w' gh gk gb gw gv H K B W V := ⟨m.rm.below h, m.rb.below h, m.rw.below h, m.rv.below h, m.ne, m.nb, m.nw⟩
theorem V4.drew (m : V4 w wr gh gk gb gw gv H K B W V) : V4 w wr.drew gh gk gb gw gv H K B W V := ⟨m.rm.drew, m.rb, m.rw, m.rv, m.ne, m.nb, m.nw⟩
theorem V4.drewN (m : V4 w wr gh gk gb gw gv H K B W V) (n : Nat) : V4 w (wr.drewN n) gh gk gb gw gv H K B W V := ⟨m.rm.drewN n, m.rb, m.rw, m.rv, m.ne, m.nb, m.nw⟩
theorem V4.next (m : V4 w wr gh gk gb gw gv H K B W V) (V' : List Int) : V4 w (wr.alloc (.cells (nums .u32 V').toArray 63)) gh gk gb gw wr.heap.size H K B W V' :=
  ⟨m.rm.below (below_alloc (Below.refl _ _) _), m.rb.alloc _, m.rw.alloc _, (Rz.new wr V').rk, fun e => by have := m.rm.h0.rk.lt; omega, m.nb, m.nw⟩
theorem V4.put (m : V4 w wr gh gk gb gw gv H K B W V) (i : Nat) (x : Int) (hi : i < 8) {H' : List Int} (e : H.set i x = H') : V4 w (wr.setCell ⟨gh, i, none⟩ (.int .u32 x)) gh gk gb gw gv H' K B W V :=
  ⟨e ▸ m.rm.put i x hi, m.rb.far (fun e => m.nb e.symm) _, m.rw.far (fun e => m.nw e.symm) _, m.rv.far (fun e => m.ne e.symm) _, m.ne, m.nb, m.nw⟩
theorem V4.facts {a b c d e f g h kj wj : Int} (m : V4 w wr gh gk gb gw gv H K B W [a, b, c, d, e, f, g, h]) (h1 : W.length = 64) (h2 : K.length = 64) {i : Nat} (hi : i < 64) (hkj : Aside0 (K.getD i 0 = kj)) (hwj : Aside0 (W.getD i 0 = wj)) :
    wr.cell? ⟨gv, 0, none⟩ = some (.int .u32 a) ∧ wr.cell? ⟨gv, 1, none⟩ = some (.int .u32 b) ∧ wr.cell? ⟨gv, 2, none⟩ = some (.int .u32 c) ∧ wr.cell? ⟨gv, 3, none⟩ = some (.int .u32 d) ∧ wr.cell? ⟨gv, 4, none⟩ = some (.int .u32 e) ∧ wr.cell? ⟨gv, 5, none⟩ = some (.int .u32 f) ∧ wr.cell? ⟨gv, 6, none⟩ = some (.int .u32 g) ∧ wr.cell? ⟨gv, 7, none⟩ = some (.int .u32 h) ∧ wr.cell? ⟨gw, i, none⟩ = some (.int .u32 wj) ∧ wr.cell? ⟨gk, i, none⟩ = some (.int .u32 kj) :=
  ⟨m.rv.cell 0 (by simp), m.rv.cell 1 (by simp), m.rv.cell 2 (by simp), m.rv.cell 3 (by simp), m.rv.cell 4 (by simp), m.rv.cell 5 (by simp), m.rv.cell 6 (by simp), m.rv.cell 7 (by simp), hwj.out ▸ m.rw.cell i (by omega), hkj.out ▸ m.rm.k0.cell i (by omega)⟩
end
/-- A block's words, as the reference has them. -/
def xj (B : List Int) (m : Nat) : Nat → Int
  | 0 => 0
  | j + 1 => (xj B m j * 256 % 4294967296 + B.getD (m + j) 0 % 4294967296) % 4294967296
def sch2 (a x c y : Int) : Int := (a + Go.bits .xor .u32 (Go.bits .xor .u32 (qr x 7) (qr x 18)) (x / 8) + c + Go.bits .xor .u32 (Go.bits .xor .u32 (qr y 17) (qr y 19)) (y / 1024)) % 4294967296
def nextw2 (B : List Int) (m : Nat) (ws : List Int) (i : Nat) : Int := if i < 16 then xj B (m + 4 * i) 4 else sch2 (ws.getD (i - 16) 0) (ws.getD (i - 15) 0) (ws.getD (i - 7) 0) (ws.getD (i - 2) 0)
def wk2 (B : List Int) (m : Nat) : Nat → List Int
  | 0 => []
  | i + 1 => wk2 B m i ++ [nextw2 B m (wk2 B m i) i]
theorem xj_step {B : List Int} {m j : Nat} {xv bv : Int} (hx : xj B m j = xv) (hb : B.getD (m + j) 0 = bv) : (xv * 256 % 4294967296 + bv % 4294967296) % 4294967296 = xj B m (j + 1) := by
  show _ = (xj B m j * 256 % 4294967296 + B.getD (m + j) 0 % 4294967296) % 4294967296
  rw [hx, hb]
theorem wk2_len (B : List Int) (m i : Nat) : (wk2 B m i).length = i := by
  induction i with
  | zero => rfl
  | succ i ih => unfold wk2; rw [List.length_append, ih]; rfl
theorem wk2_low {B : List Int} {m i : Nat} (h : i < 16) {x : Int} (hx : xj B (m + 4 * i) 4 = x) : wk2 B m i ++ [x] = wk2 B m (i + 1) := by
  show _ = wk2 B m i ++ [nextw2 B m (wk2 B m i) i]
  unfold nextw2
  rw [if_pos h, hx]
theorem wk2_high {B : List Int} {m i : Nat} (h : ¬ i < 16) : wk2 B m i ++ [sch2 ((wk2 B m i).getD (i - 16) 0) ((wk2 B m i).getD (i - 15) 0) ((wk2 B m i).getD (i - 7) 0) ((wk2 B m i).getD (i - 2) 0)] = wk2 B m (i + 1) := by
  show _ = wk2 B m i ++ [nextw2 B m (wk2 B m i) i]
  unfold nextw2
  rw [if_neg h]
theorem sch2_nested (a x c y : Int) : (((a + Go.bits .xor .u32 (Go.bits .xor .u32 (qr x 7) (qr x 18)) (x / 8)) % 4294967296 + c) % 4294967296 + Go.bits .xor .u32 (Go.bits .xor .u32 (qr y 17) (qr y 19)) (y / 1024)) % 4294967296 = sch2 a x c y := by
  unfold sch2
  generalize Go.bits .xor .u32 (Go.bits .xor .u32 (qr x 7) (qr x 18)) (x / 8) = s
  generalize Go.bits .xor .u32 (Go.bits .xor .u32 (qr y 17) (qr y 19)) (y / 1024) = t
  omega
def oneG (e f g h k w : Int) : Int := h + Go.bits .xor .u32 (Go.bits .xor .u32 (qr e 6) (qr e 11)) (qr e 25) + Go.bits .or .u32 (Go.bits .and .u32 e f) (Go.bits .and .u32 ((4294967295 - e) % 4294967296) g) + k + w
def twoG (a b c : Int) : Int := Go.bits .xor .u32 (Go.bits .xor .u32 (qr a 2) (qr a 13)) (qr a 22) + Go.bits .or .u32 (Go.bits .or .u32 (Go.bits .and .u32 a b) (Go.bits .and .u32 a c)) (Go.bits .and .u32 b c)
def rnd2 (k w : Int) : List Int → List Int
  | [a, b, c, d, e, f, g, h] => [(oneG e f g h k w + twoG a b c) % 4294967296, a, b, c, (d + oneG e f g h k w) % 4294967296, e, f, g]
  | l => l
def rnds2 (s ks ws : List Int) : Nat → List Int
  | 0 => s
  | j + 1 => rnd2 (ks.getD j 0) (ws.getD j 0) (rnds2 s ks ws j)
theorem rnds2_step {s ks ws : List Int} {j : Nat} {a b c d e f g h kj wj : Int} (h0 : rnds2 s ks ws j = [a, b, c, d, e, f, g, h]) (hk : ks.getD j 0 = kj) (hw : ws.getD j 0 = wj) : rnds2 s ks ws (j + 1) = [(oneG e f g h kj wj + twoG a b c) % 4294967296, a, b, c, (d + oneG e f g h kj wj) % 4294967296, e, f, g] := by
  show rnd2 (ks.getD j 0) (ws.getD j 0) (rnds2 s ks ws j) = _
  rw [h0, hk, hw]
  rfl
theorem rnds2_len {s ks ws : List Int} (hs : s.length = 8) (j : Nat) : (rnds2 s ks ws j).length = 8 := by
  induction j with
  | zero => exact hs
  | succ j ih =>
    obtain ⟨a, b, c, d, e, f, g, i, h⟩ := list8 ih
    rw [rnds2_step h rfl rfl]
    rfl
def mix2 (s ks B : List Int) (m : Nat) : List Int := sumF s (rnds2 s ks (wk2 B m 64) 64)
theorem mix2_len {s ks B : List Int} {m : Nat} (hs : s.length = 8) : (mix2 s ks B m).length = 8 := sumF_len hs (rnds2_len hs _)
def eat2 (ks B : List Int) : Nat → Nat → List Int → List Int
  | 0, _, s => s
  | n + 1, m, s => eat2 ks B n (m + 64) (mix2 s ks B m)
def padl (s : ByteArray) : List Int := ll ((s.size : Int) * 8) (zl (bytesOf s ++ [128]) ((119 - s.size % 64) % 64)) 8
def byte4r (x : Int) : List Int := [x.tdiv 16777216 % 4294967296 % 256, x.tdiv 65536 % 4294967296 % 256, x.tdiv 256 % 4294967296 % 256, x % 256]
def outr (L : List Int) : Nat → List Int
  | 0 => []
  | i + 1 => outr L i ++ byte4r (L.getD i 0)
theorem outr_len (L : List Int) (i : Nat) : (outr L i).length = 4 * i := by
  induction i with
  | zero => rfl
  | succ i ih => unfold outr; rw [List.length_append, ih]; rfl
def sha2G (hl kl : List Int) (s : ByteArray) : ByteArray := strOfNums (outr (eat2 kl (padl s) ((padl s).length / 64) 0 hl) 8)
end Go.Proofs.Ytomenklhgofjaaa.Sh
