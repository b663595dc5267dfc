/- A block's words: walked by hand. Conditions: none. -/
import Derived.Test.YtomenklhgofjaaaXSha0
import Derived.Laws.CopyOwn
set_option linter.unusedVariables false
set_option linter.unusedSimpArgs false
namespace Go.Proofs.Ytomenklhgofjaaa.Sh
open Go.RowKit Go.Proofs.YtomenklhgofjaaaW.PrintWords Go.Proofs.YtomenklhgofjaaaW.PrintLast Go.Proofs.YtomenklhgofjaaaW.PrintMore
/-- A word turned to the right. -/
def rl (x n : Int) : Int := Go.bits .or .u32 (shl .u32 x (Go.bits .and .u64 (IntKind.u64.wrap n) 31)) (shr .u32 x (IntKind.u64.wrap (32 - Go.bits .and .u64 (IntKind.u64.wrap n) 31)))
def rr (x n : Int) : Int := rl x (wrap64 (-n))
theorem u64_nonneg (n : Int) : 0 ≤ IntKind.u64.wrap n := by
  have : IntKind.u64.wrap n = n % 18446744073709551616 := by simp [IntKind.wrap, IntKind.bits, IntKind.signed]
  omega
set_option maxHeartbeats 8000000 in
set_option maxRecDepth 100000 in
theorem rotl_calls (x n : Int) (w : World) : Calls Try.prog 72 #[.int .u32 x, .int .i64 n] w fun e w' => e = .returned (.int .u32 (rl x n)) ∧ w' = w := by
  unfold rl
  have h4 : 0 ≤ Go.bits .and .u64 (IntKind.u64.wrap n) 31 := u64_nonneg _
  obtain ⟨j3, hj3⟩ : ∃ j_ : Int, Go.bits .and .u64 (IntKind.u64.wrap n) 31 = j_ := ⟨_, rfl⟩
  rw [hj3] at h4 ⊢
  have h7 : 0 ≤ IntKind.u64.wrap (32 - j3) := u64_nonneg _
  obtain ⟨j6, hj6⟩ : ∃ j_ : Int, IntKind.u64.wrap (32 - j3) = j_ := ⟨_, rfl⟩
  rw [hj6] at h7 ⊢
  obtain ⟨j5, hj5⟩ : ∃ j_ : Int, (shl .u32 x j3) = j_ := ⟨_, rfl⟩
  obtain ⟨j8, hj8⟩ : ∃ j_ : Int, (shr .u32 x j6) = j_ := ⟨_, rfl⟩
  rw [hj5, hj8]
  have k5 : (IntKind.u32.wrap (x * 2 ^ min j3.toNat 32)) = j5 := hj5
  have k8 : (x / 2 ^ min j6.toNat 32) = j8 := hj8
  have k5z : j3 ≤ 32 → (IntKind.u32.wrap (x * 2 ^ j3.toNat)) = j5 := shl_small hj5
  have k8z : j6 ≤ 32 → (x / 2 ^ j6.toNat) = j8 := shr_small hj8
  have c4 := eq_true h4
  have c4d : decide (0 ≤ j3) = true := decide_eq_true h4
  have c7 := eq_true h7
  have c7d : decide (0 ≤ j6) = true := decide_eq_true h7
  clear h4 h7
  go_enter Try.func72, Try.ntmps72
  go_wp2
  go_ret
  exact ⟨by first | rfl | (simp [*]; done), rfl⟩
set_option maxHeartbeats 8000000 in
set_option maxRecDepth 100000 in
theorem right_calls (x n : Int) (w : World) : Calls Try.prog 64 #[.int .u32 x, .int .i64 n] w fun e w' => e = .returned (.int .u32 (rr x n)) ∧ w' = w := by
  unfold rr
  go_enter Try.func64, Try.ntmps64
  go_wp2_with (first | (go_at_call 72; (with_reducible refine (rotl_calls _ _ _).mono ?_); rintro e w' ⟨rfl, rfl⟩))
  go_ret
  exact ⟨rfl, rfl⟩
def word (b : ByteArray) (i : Nat) : Int := Go.bits .or .u32 (Go.bits .or .u32 (Go.bits .or .u32 (bt b (4 * (i : Int)) % 4294967296 * 16777216 % 4294967296) (bt b (4 * (i : Int) + 1) % 4294967296 * 65536 % 4294967296)) (bt b (4 * (i : Int) + 2) % 4294967296 * 256 % 4294967296)) (bt b (4 * (i : Int) + 3) % 4294967296)
def sch (a x c y : Int) : Int := (a + Go.bits .xor .u32 (Go.bits .xor .u32 (rr x 7) (rr x 18)) (x / 8) + c + Go.bits .xor .u32 (Go.bits .xor .u32 (rr y 17) (rr y 19)) (y / 1024)) % 4294967296
def nextw (b : ByteArray) (ws : List Int) (i : Nat) : Int := if i < 16 then word b i else sch (ws.getD (i - 16) 0) (ws.getD (i - 15) 0) (ws.getD (i - 7) 0) (ws.getD (i - 2) 0)
def wk (b : ByteArray) : Nat → List Int
  | 0 => []
  | i + 1 => wk b i ++ [nextw b (wk b i) i]
theorem wk_len (b : ByteArray) (i : Nat) : (wk b i).length = i := by
  induction i with
  | zero => rfl
  | succ i ih => unfold wk; rw [List.length_append, ih]; rfl
theorem wk_low {b : ByteArray} {i : Nat} (h : i < 16) : wk b i ++ [word b i] = wk b (i + 1) := by
  show _ = wk b i ++ [nextw b (wk b i) i]
  unfold nextw
  rw [if_pos h]
theorem wk_high {b : ByteArray} {i : Nat} (h : ¬ i < 16) : wk b i ++ [sch ((wk b i).getD (i - 16) 0) ((wk b i).getD (i - 15) 0) ((wk b i).getD (i - 7) 0) ((wk b i).getD (i - 2) 0)] = wk b (i + 1) := by
  show _ = wk b i ++ [nextw b (wk b i) i]
  unfold nextw
  rw [if_neg h]
def fill (ws : List Int) : List Int := ws ++ List.replicate (64 - ws.length) 0
theorem fill_len (ws : List Int) (h : ws.length ≤ 64) : (fill ws).length = 64 := by unfold fill; rw [List.length_append, List.length_replicate]; omega
theorem fill_get (ws : List Int) (j : Nat) (h : j < ws.length) : (fill ws).getD j 0 = ws.getD j 0 := by
  unfold fill
  rw [List.getD_eq_getElem?_getD, List.getD_eq_getElem?_getD, List.getElem?_append_left h]
theorem fill_set (ws : List Int) (x : Int) (h : ws.length < 64) : (fill ws).set ws.length x = fill (ws ++ [x]) := by
  unfold fill
  rw [List.set_append_right _ _ (Nat.le_refl _), Nat.sub_self, show 64 - ws.length = (64 - (ws ++ [x]).length) + 1 by rw [List.length_append]; show _ = (64 - (ws.length + 1)) + 1; omega, List.replicate_succ, List.set_cons_zero, List.append_assoc, List.singleton_append]
/-- The round of the first loop: the words so far. -/
structure M1 (w wr : World) (s ws : List Int) : Prop where
  hb : Below w.heap.size w wr
  b0 : Bk wr w.heap.size 65 s
  b1 : Bk wr (w.heap.size + 1) 65 (List.replicate 8 0)
  b2 : Bk wr (w.heap.size + 1 + 1) 66 (fill ws)
theorem M1.drew {w wr : World} {s ws : List Int} (h : M1 w wr s ws) (n : Nat) : M1 w (wr.drewN n) s ws := ⟨pw_below_drewN h.hb n, h.b0, h.b1, h.b2⟩
theorem M1.drew1 {w wr : World} {s ws : List Int} (h : M1 w wr s ws) : M1 w wr.drew s ws := ⟨h.hb.drew, h.b0, h.b1, h.b2⟩
theorem M1.put {w wr : World} {s ws : List Int} (h : M1 w wr s ws) (x : Int) (hl : ws.length < 64) : M1 w (wr.setCell ⟨w.heap.size + 1 + 1, ws.length, none⟩ (.int .u32 x)) s (ws ++ [x]) :=
  ⟨below_set h.hb (by omega), h.b0.far (show _ ≠ w.heap.size + 1 + 1 by omega) _, h.b1.far (show _ ≠ w.heap.size + 1 + 1 by omega) _, by have := h.b2.set ws.length x; rw [fill_set ws x hl] at this; exact this⟩
theorem M1.start (w : World) {c0 c1 c2 : Array Value} {s : List Int} (h0 : c0 = cells32 s) (h1 : c1 = cells32 (List.replicate 8 0)) (h2 : c2 = cells32 (List.replicate 64 0)) : M1 w (((w.alloc (.cells c0 65)).alloc (.cells c1 65)).alloc (.cells c2 66)) s [] := by
  subst h0; subst h1; subst h2
  exact ⟨below_alloc (below_alloc (below_alloc (Below.refl _ _) _) _) _, blk_alloc (blk_alloc (blk_new _ _) _) _, blk_alloc (at_new (by simp) _) _, at_new (by simp) _⟩
/-- The round of the second loop: the eight words. -/
structure M2 (w wr : World) (gv kg : Nat) (s ws ks : List Int) (a b c d e f g h : Int) : Prop where
  hb : Below w.heap.size w wr
  b0 : Bk wr w.heap.size 65 s
  b1 : Bk wr (w.heap.size + 1) 65 (List.replicate 8 0)
  b2 : Bk wr (w.heap.size + 1 + 1) 66 ws
  b3 : Bk wr gv 65 [a, b, c, d, e, f, g, h]
  bk : Bk wr kg 66 ks
  hg : w.heap.size + 2 < gv
  hk : kg < w.heap.size
section
variable {w wr : World} {gv kg : Nat} {s ws ks : List Int} {a b c d e f g h : Int}
theorem M2.drew (m : M2 w wr gv kg s ws ks a b c d e f g h) (n : Nat) : M2 w (wr.drewN n) gv kg s ws ks a b c d e f g h := ⟨pw_below_drewN m.hb n, m.b0, m.b1, m.b2, m.b3, m.bk, m.hg, m.hk⟩
theorem M2.drew1 (m : M2 w wr gv kg s ws ks a b c d e f g h) : M2 w wr.drew gv kg s ws ks a b c d e f g h := ⟨m.hb.drew, m.b0, m.b1, m.b2, m.b3, m.bk, m.hg, m.hk⟩
theorem M2.facts (m : M2 w wr gv kg s ws ks a b c d e f g h) (h1 : ws.length = 64) (h2 : ks.length = 64) {i : Nat} (hi : i < 64) {kj wj : Int} (hkj : Aside0 (ks.getD i 0 = kj)) (hwj : Aside0 (ws.getD i 0 = wj)) :
    wr.cell? ⟨gv, 0, none⟩ = some (.int .u32 a) ∧ wr.cell? ⟨gv, 1, none⟩ = some (.int .u32 b) ∧ wr.cell? ⟨gv, 2, none⟩ = some (.int .u32 c) ∧ wr.cell? ⟨gv, 3, none⟩ = some (.int .u32 d) ∧ wr.cell? ⟨gv, 4, none⟩ = some (.int .u32 e) ∧ wr.cell? ⟨gv, 5, none⟩ = some (.int .u32 f) ∧ wr.cell? ⟨gv, 6, none⟩ = some (.int .u32 g) ∧ wr.cell? ⟨gv, 7, none⟩ = some (.int .u32 h) ∧ wr.cell? ⟨w.heap.size + 1 + 1, i, none⟩ = some (.int .u32 wj) ∧ wr.cell? ⟨kg, i, none⟩ = some (.int .u32 kj) :=
  ⟨m.b3.cell 0 (by simp), m.b3.cell 1 (by simp), m.b3.cell 2 (by simp), m.b3.cell 3 (by simp), m.b3.cell 4 (by simp), m.b3.cell 5 (by simp), m.b3.cell 6 (by simp), m.b3.cell 7 (by simp), hwj.out ▸ m.b2.cell i (by omega), hkj.out ▸ m.bk.cell i (by omega)⟩
end
theorem copy_src {w : World} {gv : Nat} {a b c d e f g h : Int} (H : Bk w gv 65 [a, b, c, d, e, f, g, h]) : ∀ (j : Nat) (v : Value), [Value.int .u32 a, .int .u32 b, .int .u32 c, .int .u32 d, .int .u32 e, .int .u32 f, .int .u32 g][j]? = some v → w.cell? ((⟨gv, 0, none⟩ : Addr).add j) = some v := by
  intro j v hv
  have hj : j < 7 := (List.getElem?_eq_some_iff.1 hv).1
  have ha : (⟨gv, 0, none⟩ : Addr).add j = ⟨gv, j, none⟩ := by unfold Addr.add; split <;> simp_all
  rw [ha, H.cell j (by show j < 8; omega), ← hv]
  match j, hj with
  | 0, _ => rfl
  | 1, _ => rfl
  | 2, _ => rfl
  | 3, _ => rfl
  | 4, _ => rfl
  | 5, _ => rfl
  | 6, _ => rfl
theorem copy_one {a b c d e f g : Int} : ∀ v ∈ [Value.int .u32 a, .int .u32 b, .int .u32 c, .int .u32 d, .int .u32 e, .int .u32 f, .int .u32 g], v.oneCell' = true := by
  intro v hv
  simp only [List.mem_cons, List.not_mem_nil, or_false] at hv
  rcases hv with rfl | rfl | rfl | rfl | rfl | rfl | rfl <;> rfl
theorem info63s : (Try.prog.info? 63).map (·.size) = some 1 := by kernel_rfl
theorem M2.copied {w wr : World} {gv kg : Nat} {s ws ks : List Int} {a b c d e f g h : Int} (m : M2 w wr gv kg s ws ks a b c d e f g h) (l : Array Value) (hl : l = cells32 [a, a, b, c, d, e, f, g]) : M2 w (wr.setRow gv l) gv kg s ws ks a a b c d e f g := by
  subst hl
  have hg := m.hg
  have hk := m.hk
  exact ⟨below_setRow m.hb (by omega) _, m.b0.row (by omega) _, m.b1.row (by omega) _, m.b2.row (by omega) _, m.b3.self _, m.bk.row (by omega) _, m.hg, m.hk⟩
theorem M2.put {w wr : World} {gv kg : Nat} {s ws ks : List Int} {a b c d e f g h a' b' c' d' e' f' g' h' : Int} (m : M2 w wr gv kg s ws ks a b c d e f g h) (i : Nat) (x : Int) (e1 : [a, b, c, d, e, f, g, h].set i x = [a', b', c', d', e', f', g', h']) : M2 w (wr.setCell ⟨gv, i, none⟩ (.int .u32 x)) gv kg s ws ks a' b' c' d' e' f' g' h' := by
  have hg := m.hg
  have hk := m.hk
  exact ⟨below_set m.hb (by omega), m.b0.far (show _ ≠ gv by omega) _, m.b1.far (show _ ≠ gv by omega) _, m.b2.far (show _ ≠ gv by omega) _, e1 ▸ m.b3.set i x, m.bk.far (show _ ≠ gv by omega) _, m.hg, m.hk⟩
def oneF (e f g h k w : Int) : Int := h + Go.bits .xor .u32 (Go.bits .xor .u32 (rr e 6) (rr e 11)) (rr e 25) + Go.bits .xor .u32 (Go.bits .and .u32 e f) (Go.bits .and .u32 (Go.bits .xor .u32 IntKind.u32.max e) g) + k + w
def twoF (a b c : Int) : Int := Go.bits .xor .u32 (Go.bits .xor .u32 (rr a 2) (rr a 13)) (rr a 22) + Go.bits .xor .u32 (Go.bits .xor .u32 (Go.bits .and .u32 a b) (Go.bits .and .u32 a c)) (Go.bits .and .u32 b c)
def rnd (k w : Int) : List Int → List Int
  | [a, b, c, d, e, f, g, h] => [(oneF e f g h k w + twoF a b c) % 4294967296, a, b, c, (d + oneF e f g h k w) % 4294967296, e, f, g]
  | l => l
def rnds (s ks ws : List Int) : Nat → List Int
  | 0 => s
  | j + 1 => rnd (ks.getD j 0) (ws.getD j 0) (rnds s ks ws j)
theorem rnds_step {s ks ws : List Int} {j : Nat} {a b c d e f g h kj wj : Int} (h0 : rnds s ks ws j = [a, b, c, d, e, f, g, h]) (hk : ks.getD j 0 = kj) (hw : ws.getD j 0 = wj) : rnds s ks ws (j + 1) = [(oneF e f g h kj wj + twoF a b c) % 4294967296, a, b, c, (d + oneF e f g h kj wj) % 4294967296, e, f, g] := by
  show rnd (ks.getD j 0) (ws.getD j 0) (rnds s ks ws j) = _
  rw [h0, hk, hw]
  rfl
def sumF (s v : List Int) : List Int := List.zipWith (fun x y => (x + y) % 4294967296) s v
def zs (s v : List Int) (i : Nat) : List Int := (sumF s v).take i ++ s.drop i
section
variable {s v : List Int}
theorem sumF_len (hs : s.length = 8) (hv : v.length = 8) : (sumF s v).length = 8 := by unfold sumF; rw [List.length_zipWith, hs, hv]; rfl
theorem zs_len (hs : s.length = 8) (hv : v.length = 8) {i : Nat} (hi : i ≤ 8) : (zs s v i).length = 8 := by unfold zs; rw [List.length_append, List.length_take, List.length_drop, sumF_len hs hv, hs]; omega
theorem zs_get (hs : s.length = 8) (hv : v.length = 8) {i : Nat} (hi : i < 8) : (zs s v i).getD i 0 = s.getD i 0 := by
  have h1 : ((sumF s v).take i).length = i := by rw [List.length_take, sumF_len hs hv]; omega
  unfold zs
  rw [List.getD_eq_getElem?_getD, List.getElem?_append_right (by omega), h1, Nat.sub_self, List.getElem?_drop, Nat.add_zero, List.getD_eq_getElem?_getD]
theorem zs_set (hs : s.length = 8) (hv : v.length = 8) {i : Nat} (hi : i < 8) : (zs s v i).set i ((s.getD i 0 + v.getD i 0) % 4294967296) = zs s v (i + 1) := by
  have h1 : ((sumF s v).take i).length = i := by rw [List.length_take, sumF_len hs hv]; omega
  have h2 : i < (sumF s v).length := by rw [sumF_len hs hv]; exact hi
  have h3 : (sumF s v)[i] = (s.getD i 0 + v.getD i 0) % 4294967296 := by
    have h4 : (sumF s v)[i]? = some ((s.getD i 0 + v.getD i 0) % 4294967296) := by
      unfold sumF
      rw [List.getElem?_zipWith, List.getElem?_eq_getElem (by omega : i < s.length), List.getElem?_eq_getElem (by omega : i < v.length), List.getD_eq_getElem?_getD, List.getD_eq_getElem?_getD, List.getElem?_eq_getElem (by omega : i < s.length), List.getElem?_eq_getElem (by omega : i < v.length)]
      rfl
    rw [List.getElem?_eq_getElem h2] at h4
    exact Option.some.inj h4
  unfold zs
  rw [List.set_append_right _ _ (by omega), h1, Nat.sub_self, List.drop_eq_getElem_cons (by omega : i < s.length), List.set_cons_zero, List.take_succ_eq_append_getElem h2, h3, List.append_assoc, List.singleton_append]
theorem zs_none : zs s v 0 = s := rfl
theorem zs_all (hs : s.length = 8) (hv : v.length = 8) : zs s v 8 = sumF s v := by unfold zs; rw [List.take_of_length_le (by rw [sumF_len hs hv]; omega), List.drop_eq_nil_of_le (by omega), List.append_nil]
end
/-- A block's words. -/
def mixF (s ks : List Int) (b : ByteArray) : List Int := sumF s (rnds s ks (wk b 64) 64)
theorem M2.puts {w wr : World} {gv kg : Nat} {s ws ks : List Int} {a b c d e f g h : Int} (m : M2 w wr gv kg s ws ks a b c d e f g h) (i : Nat) (x : Int) (s' : List Int) (e1 : s.set i x = s') : M2 w (wr.setCell ⟨w.heap.size, i, none⟩ (.int .u32 x)) gv kg s' ws ks a b c d e f g h := by
  have hg := m.hg
  have hk := m.hk
  exact ⟨below_set m.hb (by omega), e1 ▸ m.b0.set i x, m.b1.far (show _ ≠ w.heap.size by omega) _, m.b2.far (show _ ≠ w.heap.size by omega) _, m.b3.far (show _ ≠ w.heap.size by omega) _, m.bk.far (show _ ≠ w.heap.size by omega) _, m.hg, m.hk⟩
theorem M1.next {w wr : World} {s ws ks : List Int} {a b c d e f g h : Int} {c0 : Array Value} (m : M1 w wr s ws) (hw : fill ws = ws) {kg : Nat} (hk : Bk w kg 66 ks) (e0 : c0 = cells32 [a, b, c, d, e, f, g, h]) : M2 w (wr.alloc (.cells c0 65)) wr.heap.size kg s ws ks a b c d e f g h := by
  subst e0
  have := m.b2.lt
  exact ⟨below_alloc m.hb _, m.b0.alloc _, m.b1.alloc _, by have := m.b2.alloc (.cells (cells32 [a, b, c, d, e, f, g, h]) 65); rw [hw] at this; exact this, blk_new _ _, (hk.below m.hb).alloc _, by omega, hk.lt⟩
theorem fill_full {ws : List Int} (h : ws.length = 64) : fill ws = ws := by unfold fill; rw [h]; simp
set_option maxHeartbeats 8000000 in
set_option maxRecDepth 100000 in
theorem mix_calls8 (s0 s1 s2 s3 s4 s5 s6 s7 : Int) (b : ByteArray) (hb : b.size = 64) (ks : List Int) (hks : ks.length = 64) (kg : Nat) (w : World) (hk : Bk w kg 66 ks) :
    Calls Try.prog 44 #[.agg #[.int .u32 s0, .int .u32 s1, .int .u32 s2, .int .u32 s3, .int .u32 s4, .int .u32 s5, .int .u32 s6, .int .u32 s7], .string b, .pointer (some ⟨kg, 0, none⟩)] w fun e w' => e = .returned (.agg (cells32 (mixF [s0, s1, s2, s3, s4, s5, s6, s7] ks b))) ∧ Below w.heap.size w w' := by
  have HBS := Aside0.mk hb
  have HKS := Aside0.mk hks
  have HK := Aside0.mk hk
  clear hb hks hk
  go_enter Try.func44, Try.ntmps44
  go_wp2
  go_loopg [18] 64 (fun kq v18 w' => ∃ (i : Nat), i ≤ 64 ∧ kq + i = 64 ∧ v18 = .int .i64 i ∧ Aside0 (M1 w w' [s0, s1, s2, s3, s4, s5, s6, s7] (wk b i)))
  case atStart => exact ⟨0, by omega, by omega, rfl, ⟨M1.start w rfl rfl rfl⟩⟩
  case round =>
    obtain ⟨i, hi, hki, rfl, M⟩ := hrel
    by_cases hlt : i < 64
    · have q1 : decide ((i : Int) < 64) = true := decide_eq_true (by omega)
      have q3 := eq_true (show (i : Int) < 64 by omega)
      have hl := wk_len b i
      have f2 := M.out.b2.frozen i
      have e2 := M.out.b2.cell i (by rw [fill_len _ (by omega)]; exact hlt)
      have HL := Aside0.mk hl
      clear hl
      by_cases h16 : i < 16
      · have q2 : decide ((i : Int) < 16) = true := decide_eq_true (by omega)
        have t0 := bt_at b (4 * (i : Int))
        have t1 := bt_at b (4 * (i : Int) + 1)
        have t2 := bt_at b (4 * (i : Int) + 2)
        have t3 := bt_at b (4 * (i : Int) + 3)
        have hbs := HBS.out
        have a0 : 4 * (i : Int) < (b.size : Int) := by omega
        have a1 : 4 * (i : Int) + 1 < (b.size : Int) := by omega
        have a2 : 4 * (i : Int) + 2 < (b.size : Int) := by omega
        have a3 : 4 * (i : Int) + 3 < (b.size : Int) := by omega
        have u0 : 0 ≤ 4 * (i : Int) := by omega
        have u1 : 0 ≤ 4 * (i : Int) + 1 := by omega
        have u2 : 0 ≤ 4 * (i : Int) + 2 := by omega
        have u3 : 0 ≤ 4 * (i : Int) + 3 := by omega
        clear hbs
        have w0 : IntKind.i64.wrap (4 * (i : Int)) = 4 * (i : Int) := by rw [IntKind.wrap_i64]; omega
        have w1 : IntKind.i64.wrap (4 * (i : Int) + 1) = 4 * (i : Int) + 1 := by rw [IntKind.wrap_i64]; omega
        have w2 : IntKind.i64.wrap (4 * (i : Int) + 2) = 4 * (i : Int) + 2 := by rw [IntKind.wrap_i64]; omega
        have w3 : IntKind.i64.wrap (4 * (i : Int) + 3) = 4 * (i : Int) + 3 := by rw [IntKind.wrap_i64]; omega
        replace a0 := eq_true a0
        replace a1 := eq_true a1
        replace a2 := eq_true a2
        replace a3 := eq_true a3
        replace u0 := eq_true u0
        replace u1 := eq_true u1
        replace u2 := eq_true u2
        replace u3 := eq_true u3
        go_wp2
        go_still_tail 31, (by kernel_rfl)
        change wpList _ _ _ _ _ wr.drew
        go_wp2
        have hM : M1 w (wr.setCell ⟨w.heap.size + 1 + 1, i, none⟩ (.int .u32 (word b i))).drew [s0, s1, s2, s3, s4, s5, s6, s7] (wk b (i + 1)) := by
          have h := (M.out.put (word b i) (by rw [HL.out]; exact hlt)).drew1
          rw [HL.out] at h
          exact wk_low h16 ▸ h
        go_roundg (gk - 1)
        case measure => omega
        case rel => exact ⟨i + 1, by omega, by omega, rfl, ⟨hM⟩⟩
      · have q2 : decide ((i : Int) < 16) = false := decide_eq_false (by omega)
        have w0 : IntKind.i64.wrap ((i : Int) - 15) = (i : Int) - 15 := by rw [IntKind.wrap_i64]; omega
        have w1 : IntKind.i64.wrap ((i : Int) - 2) = (i : Int) - 2 := by rw [IntKind.wrap_i64]; omega
        have w2 : IntKind.i64.wrap ((i : Int) - 16) = (i : Int) - 16 := by rw [IntKind.wrap_i64]; omega
        have w3 : IntKind.i64.wrap ((i : Int) - 7) = (i : Int) - 7 := by rw [IntKind.wrap_i64]; omega
        have n0 : ((i : Int) - 15).toNat = i - 15 := by omega
        have n1 : ((i : Int) - 2).toNat = i - 2 := by omega
        have n2 : ((i : Int) - 16).toNat = i - 16 := by omega
        have n3 : ((i : Int) - 7).toNat = i - 7 := by omega
        have l0 := eq_true (show (i : Int) - 15 < 64 by omega)
        have l1 := eq_true (show (i : Int) - 2 < 64 by omega)
        have l2 := eq_true (show (i : Int) - 16 < 64 by omega)
        have l3 := eq_true (show (i : Int) - 7 < 64 by omega)
        have k0 := eq_true (show (15 : Int) ≤ (i : Int) by omega)
        have k1 := eq_true (show (2 : Int) ≤ (i : Int) by omega)
        have k2 := eq_true (show (16 : Int) ≤ (i : Int) by omega)
        have k3 := eq_true (show (7 : Int) ≤ (i : Int) by omega)
        have g0 : wr.cell? ⟨w.heap.size + 1 + 1, i - 15, none⟩ = some (.int .u32 ((wk b i).getD (i - 15) 0)) := by rw [← fill_get _ _ (by rw [HL.out]; omega)]; exact M.out.b2.cell _ (by rw [fill_len _ (by rw [HL.out]; omega)]; omega)
        have g1 : wr.cell? ⟨w.heap.size + 1 + 1, i - 2, none⟩ = some (.int .u32 ((wk b i).getD (i - 2) 0)) := by rw [← fill_get _ _ (by rw [HL.out]; omega)]; exact M.out.b2.cell _ (by rw [fill_len _ (by rw [HL.out]; omega)]; omega)
        have g2 : wr.cell? ⟨w.heap.size + 1 + 1, i - 16, none⟩ = some (.int .u32 ((wk b i).getD (i - 16) 0)) := by rw [← fill_get _ _ (by rw [HL.out]; omega)]; exact M.out.b2.cell _ (by rw [fill_len _ (by rw [HL.out]; omega)]; omega)
        have g3 : wr.cell? ⟨w.heap.size + 1 + 1, i - 7, none⟩ = some (.int .u32 ((wk b i).getD (i - 7) 0)) := by rw [← fill_get _ _ (by rw [HL.out]; omega)]; exact M.out.b2.cell _ (by rw [fill_len _ (by rw [HL.out]; omega)]; omega)
        have H9 := Aside0.mk (wk_high (b := b) h16)
        clear h16
        generalize (wk b i).getD (i - 15) 0 = x15 at *
        generalize (wk b i).getD (i - 2) 0 = x2 at *
        generalize (wk b i).getD (i - 16) 0 = x16 at *
        generalize (wk b i).getD (i - 7) 0 = x7 at *
        go_wp2
        go_quiet (fail)
        go_wp2
        refine wp_region_still_tail 29 (by kernel_rfl) (by kernel_rfl) ?_
        simp only [List.take_succ_cons, List.take_zero, List.drop_succ_cons, List.drop_zero]
        change wpStill _ _ (World.drew _) (fun a' => wpList _ _ _ _ a' (World.drew _)) _ _
        repeat (first | still_step | still_call (right_calls _ _ _))
        refine wpStill_nil ?_
        go_wp2
        have hM : M1 w ((wr.drewN (nq + 1)).setCell ⟨w.heap.size + 1 + 1, i, none⟩ (.int .u32 (sch x16 x15 x7 x2))) [s0, s1, s2, s3, s4, s5, s6, s7] (wk b (i + 1)) := by
          have h := (M.out.drew (nq + 1)).put (sch x16 x15 x7 x2) (by rw [HL.out]; exact hlt)
          rw [HL.out] at h
          exact H9.out ▸ h
        go_roundg (gk - 1)
        case measure => omega
        case rel => exact ⟨i + 1, by omega, by omega, rfl, ⟨hM⟩⟩
    · have q1 : decide ((i : Int) < 64) = false := decide_eq_false (by omega)
      have e0 := M.out.b0.cell 0 (by simp)
      have e1 := M.out.b0.cell 1 (by simp)
      have e2 := M.out.b0.cell 2 (by simp)
      have e3 := M.out.b0.cell 3 (by simp)
      have e4 := M.out.b0.cell 4 (by simp)
      have e5 := M.out.b0.cell 5 (by simp)
      have e6 := M.out.b0.cell 6 (by simp)
      have e7 := M.out.b0.cell 7 (by simp)
      have hws := wk_len b 64
      have M1' : M1 w wr [s0, s1, s2, s3, s4, s5, s6, s7] (wk b 64) := by have h9 := M.out; rw [show i = 64 by omega] at h9; exact h9
      clear M hlt
      obtain ⟨ws, ews⟩ : ∃ ws, ws = wk b 64 := ⟨_, rfl⟩
      rw [← ews] at M1' hws
      have EW := Aside0.mk ews
      clear ews
      have H1 := Aside0.mk (M1'.next (a := s0) (b := s1) (c := s2) (d := s3) (e := s4) (f := s5) (g := s6) (h := s7) (c0 := #[.int .u32 s0, .int .u32 s1, .int .u32 s2, .int .u32 s3, .int .u32 s4, .int .u32 s5, .int .u32 s6, .int .u32 s7]) (fill_full hws) HK.out rfl)
      clear M1'
      have HWS := Aside0.mk hws
      clear hws
      go_wp2
      clear e0 e1 e2 e3 e4 e5 e6 e7
      generalize wr.heap.size = gv at *
      generalize wr.alloc (.cells #[.int .u32 s0, .int .u32 s1, .int .u32 s2, .int .u32 s3, .int .u32 s4, .int .u32 s5, .int .u32 s6, .int .u32 s7] 65) = w2 at *
      go_loopg [93] 64 (fun kq v93 w' => ∃ (j : Nat) (a b c d e f g h : Int), j ≤ 64 ∧ kq + j = 64 ∧ v93 = .int .i64 j ∧ Aside0 (M2 w w' gv kg [s0, s1, s2, s3, s4, s5, s6, s7] ws ks a b c d e f g h) ∧ Aside0 (rnds [s0, s1, s2, s3, s4, s5, s6, s7] ks ws j = [a, b, c, d, e, f, g, h]))
      case atStart => exact ⟨0, s0, s1, s2, s3, s4, s5, s6, s7, by omega, by omega, rfl, H1, ⟨rfl⟩⟩
      case round =>
        clear H1
        obtain ⟨j, va, vb, vc, vd, ve, vf, vg, vh, hj, hkj, rfl, M, HR⟩ := hrel
        by_cases hlt : j < 64
        · have p1 : decide ((j : Int) < 64) = true := decide_eq_true (by omega)
          have p3 := eq_true (show (j : Int) < 64 by omega)
          obtain ⟨kj, ekj⟩ : ∃ k, ks.getD j 0 = k := ⟨_, rfl⟩
          obtain ⟨wj, ewj⟩ : ∃ k, ws.getD j 0 = k := ⟨_, rfl⟩
          have EKJ := Aside0.mk ekj
          have EWJ := Aside0.mk ewj
          clear ekj ewj
          obtain ⟨x0, x1, x2, x3, x4, x5, x6, x7, x8, x9⟩ := M.out.facts HWS.out HKS.out hlt EKJ EWJ
          go_wp2
          go_quiet (fail)
          have M' := Aside0.mk (M.out.drew nq)
          clear M x0 x1 x2 x3 x4 x5 x6 x7 x8 x9
          generalize wr.drewN nq = wr1 at *
          obtain ⟨x0, x1, x2, x3, x4, x5, x6, x7, x8, x9⟩ := M'.out.facts HWS.out HKS.out hlt EKJ EWJ
          go_wp2
          go_quiet ((go_at_call 64; exact Calls.quiet_of_same (right_calls _ _ _)))
          have M := Aside0.mk (M'.out.drew nq)
          clear M' x0 x1 x2 x3 x4 x5 x6 x7 x8 x9
          generalize wr1.drewN nq = wr2 at *
          obtain ⟨x0, x1, x2, x3, x4, x5, x6, x7, x8, x9⟩ := M.out.facts HWS.out HKS.out hlt EKJ EWJ
          go_wp2
          go_quiet ((go_at_call 64; exact Calls.quiet_of_same (right_calls _ _ _)))
          have M' := Aside0.mk (M.out.drew nq)
          clear M x0 x1 x2 x3 x4 x5 x6 x7 x8 x9
          generalize wr2.drewN nq = wr3 at *
          obtain ⟨x0, x1, x2, x3, x4, x5, x6, x7, x8, x9⟩ := M'.out.facts HWS.out HKS.out hlt EKJ EWJ
          go_wp2
          refine wp_region_still_tail 2 (by kernel_rfl) (by kernel_rfl) ?_
          simp only [List.take_succ_cons, List.take_zero, List.drop_succ_cons, List.drop_zero]
          change wpStill _ _ (World.drew _) (fun a' => wpList _ _ _ _ a' (World.drew _)) _ _
          repeat still_step
          refine wpStill_nil ?_
          have M := Aside0.mk (M'.out.drew1)
          clear M' x0 x1 x2 x3 x4 x5 x6 x7 x8 x9
          generalize wr3.drew = wr4 at *
          refine wpList_copy_own rfl (.tmp 156) (.tmp 157) 75 75 rfl 63 Try.underlying75 info63s gv 1 7 7 ⟨gv, 0, none⟩ 7 8 rfl rfl (cells32 [va, vb, vc, vd, ve, vf, vg, vh]) 65 M.out.b3 [Value.int .u32 va, .int .u32 vb, .int .u32 vc, .int .u32 vd, .int .u32 ve, .int .u32 vf, .int .u32 vg] rfl (copy_src M.out.b3) (by show 1 + 7 ≤ 8; omega) copy_one ?_
          have M' := Aside0.mk (M.out.copied ((cells32 [va, vb, vc, vd, ve, vf, vg, vh]).toList.take 1 ++ ([Value.int .u32 va, .int .u32 vb, .int .u32 vc, .int .u32 vd, .int .u32 ve, .int .u32 vf, .int .u32 vg] ++ (cells32 [va, vb, vc, vd, ve, vf, vg, vh]).toList.drop (1 + [Value.int .u32 va, .int .u32 vb, .int .u32 vc, .int .u32 vd, .int .u32 ve, .int .u32 vf, .int .u32 vg].length))).toArray rfl)
          clear M
          generalize wr4.setRow gv _ = wr5 at *
          have y4 := M'.out.b3.cell 4 (by simp)
          have y0 := M'.out.b3.cell 0 (by simp)
          have z4 := M'.out.b3.frozen 4
          have z0 := M'.out.b3.frozen 0
          have M := Aside0.mk ((M'.out.put 4 ((vd + oneF ve vf vg vh kj wj) % 4294967296) rfl).put 0 ((oneF ve vf vg vh kj wj + twoF va vb vc) % 4294967296) rfl)
          clear M'
          go_wp2
          go_roundg (gk - 1)
          case measure => omega
          case rel => exact ⟨j + 1, _, va, vb, vc, _, ve, vf, vg, by omega, by omega, rfl, M, ⟨rnds_step HR.out EKJ.out EWJ.out⟩⟩
        · have p1 : decide ((j : Int) < 64) = false := decide_eq_false (by omega)
          have HR' : rnds [s0, s1, s2, s3, s4, s5, s6, s7] ks ws 64 = [va, vb, vc, vd, ve, vf, vg, vh] := by have h9 := HR.out; rw [show j = 64 by omega] at h9; exact h9
          obtain ⟨sv, esv⟩ : ∃ sv, sv = [s0, s1, s2, s3, s4, s5, s6, s7] := ⟨_, rfl⟩
          obtain ⟨vv, evv⟩ : ∃ vv, vv = [va, vb, vc, vd, ve, vf, vg, vh] := ⟨_, rfl⟩
          have hsl : sv.length = 8 := by rw [esv]; rfl
          have hvl : vv.length = 8 := by rw [evv]; rfl
          have M0 := M.out
          rw [← esv] at M0 HR'
          have hB3 : ∀ W, Bk W gv 65 [va, vb, vc, vd, ve, vf, vg, vh] → Bk W gv 65 vv := fun W hW => evv ▸ hW
          rw [← evv] at HR'
          have HX := Aside0.mk (And.intro hsl (And.intro hvl (And.intro hB3 (And.intro HR' (And.intro esv M0)))))
          clear hsl hvl hB3 HR' M0 M HR esv evv
          go_wp2
          go_loopg [169] 8 (fun kq v169 w' => ∃ (n : Nat), n ≤ 8 ∧ kq + n = 8 ∧ v169 = .int .i64 n ∧ Aside0 (M2 w w' gv kg (zs sv vv n) ws ks va vb vc vd ve vf vg vh))
          case atStart => exact ⟨0, by omega, by omega, rfl, ⟨HX.out.2.2.2.2.2⟩⟩
          case round =>
            obtain ⟨n, hn, hkn, rfl, M⟩ := hrel
            by_cases hn8 : n < 8
            · have p1 : decide ((n : Int) < 8) = true := decide_eq_true (by omega)
              have p3 := eq_true (show (n : Int) < 8 by omega)
              obtain ⟨hsl, hvl, hB3, HR', esv, -⟩ := HX.out
              have x0 := M.out.b0.cell n (by rw [zs_len hsl hvl (by omega)]; exact hn8)
              rw [zs_get hsl hvl hn8] at x0
              have x1 := (hB3 _ M.out.b3).cell n (by rw [hvl]; exact hn8)
              have x2 := M.out.b0.frozen n
              obtain ⟨cs, ecs⟩ : ∃ c, sv.getD n 0 = c := ⟨_, rfl⟩
              obtain ⟨cv, ecv⟩ : ∃ c, vv.getD n 0 = c := ⟨_, rfl⟩
              have M' := Aside0.mk (M.out.drew1.puts n ((cs + cv) % 4294967296) (zs sv vv (n + 1)) (by rw [← ecs, ← ecv]; exact zs_set hsl hvl hn8))
              rw [ecs] at x0
              rw [ecv] at x1
              clear hsl hvl hB3 HR' ecs ecv esv
              go_wp2
              refine wp_region_still_tail 8 (by kernel_rfl) (by kernel_rfl) ?_
              simp only [List.take_succ_cons, List.take_zero, List.drop_succ_cons, List.drop_zero]
              change wpStill _ _ (World.drew _) (fun a' => wpList _ _ _ _ a' (World.drew _)) _ _
              repeat still_step
              refine wpStill_nil ?_
              go_wp2
              go_roundg (gk - 1)
              case measure => omega
              case rel => exact ⟨n + 1, by omega, by omega, rfl, M'⟩
            · have p1 : decide ((n : Int) < 8) = false := decide_eq_false (by omega)
              obtain ⟨hsl, hvl, hB3, HR', esv, -⟩ := HX.out
              have M' := M.out
              rw [show n = 8 by omega, zs_all hsl hvl] at M'
              have hl := sumF_len hsl hvl
              have hfin : sumF sv vv = mixF [s0, s1, s2, s3, s4, s5, s6, s7] ks b := by unfold mixF; rw [← EW.out, ← esv, HR']
              clear M hsl hvl hB3 HR' esv
              generalize sumF sv vv = L at *
              have HL := Aside0.mk hl
              have HM := Aside0.mk M'
              have HF := Aside0.mk hfin
              clear hl M' hfin
              go_wp2_with (first
                | (refine wpList_load_row rfl 65 (.tmp 3) rfl w.heap.size rfl 65 (cells32 L) (0, 0) _ HM.out.b0 Try.underlying65 rfl (by rw [cells32_size, HL.out]; exact info65) ?_)
                | (refine wpList_store_row rfl 65 (.tmp 6) (.tmp 181) rfl (w.heap.size + 1) (cells32 L) rfl rfl 65 (cells32 (List.replicate 8 0)) HM.out.b1 (by rw [cells32_size, HL.out]; exact info65) (by rw [cells32_size, cells32_size, HL.out]; rfl) (cells32_one L) ?_))
              refine bodyPost_ret (results_cell_row rfl _ _ (w.heap.size + 1) 65 (cells32 L) (0, 0) _ rfl (setRow_heap _ _ _ _ _ _ HM.out.b1) Try.underlying65 rfl (by rw [cells32_size, HL.out]; exact info65)) rfl ?_
              exact ⟨by rw [HF.out], below_setRow HM.out.hb (by omega) _⟩
theorem list8 {l : List Int} (h : l.length = 8) : ∃ a b c d e f g i, l = [a, b, c, d, e, f, g, i] := by
  match l, h with
  | [a, b, c, d, e, f, g, i], _ => exact ⟨a, b, c, d, e, f, g, i, rfl⟩
theorem mix_calls (s : List Int) (hs : s.length = 8) (b : ByteArray) (hb : b.size = 64) (ks : List Int) (hks : ks.length = 64) (kg : Nat) (w : World) (hk : Bk w kg 66 ks) :
    Calls Try.prog 44 #[.agg (cells32 s), .string b, .pointer (some ⟨kg, 0, none⟩)] w fun e w' => e = .returned (.agg (cells32 (mixF s ks b))) ∧ Below w.heap.size w w' := by
  obtain ⟨s0, s1, s2, s3, s4, s5, s6, s7, rfl⟩ := list8 hs
  exact mix_calls8 s0 s1 s2 s3 s4 s5 s6 s7 b hb ks hks kg w hk
theorem rnds_len {s ks ws : List Int} (hs : s.length = 8) (j : Nat) : (rnds s ks ws j).length = 8 := by
  induction j with
  | zero => exact hs
  | succ j ih =>
    obtain ⟨a, b, c, d, e, f, g, i, h⟩ := list8 ih
    rw [rnds_step h rfl rfl]
    rfl
theorem mixF_len {s ks : List Int} {b : ByteArray} (hs : s.length = 8) : (mixF s ks b).length = 8 := sumF_len hs (rnds_len hs _)
end Go.Proofs.Ytomenklhgofjaaa.Sh
