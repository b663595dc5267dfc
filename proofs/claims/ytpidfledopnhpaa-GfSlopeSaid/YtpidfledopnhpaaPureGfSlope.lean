/- The derivative of a product is that of both, each with the other one, together; what is cut is below that power. For every input. -/
import Derived.Test.YtpidfledopnhpaaXGfSlopex1
import Derived.Test.YtpidfledopnhpaaXGfSlopex2
import Derived.Test.YtpidfledopnhpaaXGfSlopex3
import Derived.Test.YtpidfledopnhpaaMBits
import Derived.Test.YtpidfledopnhpaaXCopy
import Derived.Test.YtpidfledopnhpaaGfPoly
namespace Go.Proofs.Ytpidfledopnhpaa.Pure
open Go.RowKit Go.Proofs.Ytpidfledopnhpaa Go.Proofs.Ytpidfledopnhpaa.XGfSlope Go.Proofs.YtpidfledopnhpaaW.PrintWords Go.Proofs.YtpidfledopnhpaaW.PrintLast Go.Proofs.YtpidfledopnhpaaW.PrintMore
set_option linter.unusedVariables false
set_option linter.unusedSimpArgs false
/-! products and powers -/
theorem gmul_l0 : ∀ (d : Nat) (k n x m : Nat), n < 256 → x < 256 → m < 2 ^ d → d ≤ 8 →
    gf_Mul.l0 (k + d + 1) (n : Int) (x : Int) (m : Int) = some ((Gm.mulN d m x n : Nat) : Int) := by
  intro d
  induction d with
  | zero =>
    intro k n x m hn hx hm hd
    obtain rfl : m = 0 := by simpa using hm
    rw [gf_Mul.l0, if_neg (by omega)]
    show some ((n : Int) % 256) = some (n : Int)
    rw [Int.emod_eq_of_lt (by omega) (by omega)]
  | succ d ih =>
    intro k n x m hn hx hm hd
    have hm2 : 2 ^ (d + 1) ≤ 256 := Nat.pow_le_pow_right (by decide) (by omega : d + 1 ≤ 8)
    have hxt := Gm.xt_lt hx
    have hxx := Gm.xor_lt8 hn hx
    have hmd : m / 2 < 2 ^ d := by rw [Nat.pow_succ] at hm; omega
    have e2 : (m : Int) / 2 = ((m / 2 : Nat) : Int) := by omega
    have ex : wrap64 ((x : Int) * 2) = ((2 * x : Nat) : Int) := by rw [Bt.wrap_ok (by omega) (by omega)]; omega
    have hz : Gm.mulN (d + 1) m x n = Gm.mulN d (m / 2) (Gm.xt x) (if m % 2 = 1 then n ^^^ x else n) := rfl
    have hxe : ∀ r, (if ((2 * x : Nat) : Int) > 255 then gf_Mul.l0 (k + d + 1) r (Go.bits .xor .i64 ((2 * x : Nat) : Int) 285) ((m / 2 : Nat) : Int) else gf_Mul.l0 (k + d + 1) r ((2 * x : Nat) : Int) ((m / 2 : Nat) : Int)) = gf_Mul.l0 (k + d + 1) r ((Gm.xt x : Nat) : Int) ((m / 2 : Nat) : Int) := by
      intro r
      by_cases h : 255 < 2 * x
      · rw [if_pos (by omega), show (285 : Int) = ((285 : Nat) : Int) from rfl, Bt.x64 (by omega) (by decide)]
        unfold Gm.xt
        rw [if_pos h]
      · rw [if_neg (by omega)]
        unfold Gm.xt
        rw [if_neg h]
    rw [show k + (d + 1) + 1 = (k + d + 1) + 1 by omega, gf_Mul.l0, ex, e2, hxe, hxe, hz]
    by_cases h0 : m = 0
    · subst h0
      rw [if_neg (by omega)]
      simp only [Nat.zero_div, Nat.zero_mod]
      rw [if_neg (by decide), Gm.mulN_zero_b, Int.emod_eq_of_lt (by omega) (by omega)]
    · rw [if_pos (by omega), Bt.and1_8 (by omega)]
      by_cases h : m % 2 = 1
      · rw [if_pos (by omega), Bt.x64 (by omega) (by omega), ih k _ _ _ hxx hxt hmd (by omega), if_pos h]
      · rw [if_neg (by omega), ih k _ _ _ hn hxt hmd (by omega), if_neg h]
theorem gmul_f {a b : Nat} (ha : a < 256) (hb : b < 256) (k : Nat) (hk : 9 ≤ k) : gf_Mul.f k (a : Int) (b : Int) = some ((Gm.gm a b : Nat) : Int) := by
  obtain ⟨j, rfl⟩ : ∃ j, k = j + 8 + 1 := ⟨k - 9, by omega⟩
  unfold gf_Mul.f
  rw [Bt.wrap_ok (by omega) (by omega)]
  exact gmul_l0 8 j 0 a b (by decide) ha hb (by decide)
theorem gpow_l0 : ∀ (d : Nat) (k x o m : Nat), x < 256 → o < 256 → m < 2 ^ d → d ≤ 60 →
    gf_Pow.l0 (k + 9 + d + 1) (x : Int) (o : Int) (m : Int) = some ((Gm.pw d x o m : Nat) : Int) := by
  intro d
  induction d with
  | zero =>
    intro k x o m hx ho hm hd
    obtain rfl : m = 0 := by simpa using hm
    rw [gf_Pow.l0, if_neg (by omega)]
    rfl
  | succ d ih =>
    intro k x o m hx ho hm hd
    have hm2 : 2 ^ (d + 1) ≤ 2 ^ 61 := Nat.pow_le_pow_right (by decide) (by omega)
    have hmd : m / 2 < 2 ^ d := by rw [Nat.pow_succ] at hm; omega
    have e2 : (m : Int) / 2 = ((m / 2 : Nat) : Int) := by omega
    have hz : Gm.pw (d + 1) x o m = if m = 0 then o else Gm.pw d (Gm.gm x x) (if m % 2 = 1 then Gm.gm o x else o) (m / 2) := rfl
    rw [show k + 9 + (d + 1) + 1 = (k + 9 + d + 1) + 1 by omega, gf_Pow.l0, e2, hz]
    by_cases h0 : m = 0
    · rw [if_neg (by omega), if_pos h0]
    · rw [if_pos (by omega), if_neg h0, Bt.and1_64 (by omega)]
      by_cases h : m % 2 = 1
      · rw [if_pos (by omega), gmul_f ho hx _ (by omega), Option.bind_some, gmul_f hx hx _ (by omega), Option.bind_some, ih k _ _ _ (Gm.gm_lt hx) (Gm.gm_lt ho) hmd (by omega), if_pos h]
      · rw [if_neg (by omega), gmul_f hx hx _ (by omega), Option.bind_some, ih k _ _ _ (Gm.gm_lt hx) ho hmd (by omega), if_neg h]
/-- A power of what is not nought: by what is left of its number by 255. -/
theorem gpow_f {a : Nat} (h0 : a ≠ 0) (ha : a < 256) (n : Int) (hn : -9223372036854775808 ≤ n) (hn' : n ≤ 9223372036854775807) (k : Nat) (hk : 100 ≤ k) :
    gf_Pow.f k (a : Int) n = some ((Gm.gp a (n % 255).toNat : Nat) : Int) := by
  obtain ⟨j, rfl⟩ : ∃ j, k = j + 9 + 8 + 1 := ⟨k - 18, by omega⟩
  unfold gf_Pow.f
  rw [if_neg (by omega)]
  obtain ⟨m, hm⟩ : ∃ m : Nat, (Int.tmod (wrap64 ((Int.tmod n 255) + 255)) 255) = (m : Int) ∧ m = (n % 255).toNat := by
    have ht : Int.tmod n 255 = if 0 ≤ n ∨ n % 255 = 0 then n % 255 else n % 255 - 255 := by
      rw [Int.tmod_eq_emod]
      by_cases h1 : 0 ≤ n ∨ (255 : Int) ∣ n
      · rw [if_pos h1, if_pos (by omega)]; omega
      · rw [if_neg h1, if_neg (by omega)]; omega
    have hb : 0 ≤ Int.tmod n 255 + 255 ∧ Int.tmod n 255 + 255 < 510 := by rw [ht]; split <;> omega
    refine ⟨(n % 255).toNat, ?_, rfl⟩
    rw [Bt.wrap_ok (by omega) (by omega), Int.tmod_eq_emod_of_nonneg hb.1, ht]
    split <;> omega
  rw [hm.1, show (1 : Int) = ((1 : Nat) : Int) from rfl, gpow_l0 8 j a 1 m ha (by decide) (by omega) (by decide), Gm.pw_eq 8 a 1 m ha (by decide) (by omega), Gm.gm_one_l (Gm.gp_lt ha _), hm.2]
theorem ginv_f {a : Nat} (h0 : a ≠ 0) (ha : a < 256) (k : Nat) (hk : 100 ≤ k) : gf_Inv.f k (a : Int) = some ((Gm.gp a 254 : Nat) : Int) := by
  unfold gf_Inv.f
  rw [if_neg (by omega), gpow_f h0 ha (-1) (by decide) (by decide) k hk]
  rfl
theorem gdeg_awake (k : Nat) (hk : 100 ≤ k) : gf_Poly_Degree.f k ([0, 1] : List Int) = some 1 := by
  obtain ⟨j, rfl⟩ : ∃ j, k = j + 1 := ⟨k - 1, by omega⟩
  unfold gf_Poly_Degree.f
  have e2 : (([0, 1] : List Int).length : Int) = 2 := rfl
  rw [gf_Poly_Degree.l0, e2, Bt.wrap_ok (by decide) (by decide), if_pos (by decide), if_pos (by decide), if_pos (by decide), if_neg (by decide)]
  rfl
theorem awake_f (k : Nat) (hk : 100 ≤ k) : tinderboxlaw27_awake.f k = some true := by
  have hp : Gm.gp 1 254 = 1 := by
    obtain ⟨m, hm⟩ : ∃ m, m = 254 := ⟨_, rfl⟩
    rw [← hm]
    clear hm hk
    induction m with
    | zero => rfl
    | succ m ih => rw [Gm.gp_succ, ih, Gm.gm_one_r]
  unfold tinderboxlaw27_awake.f
  rw [show (2 : Int) = ((2 : Nat) : Int) from rfl, show (128 : Int) = ((128 : Nat) : Int) from rfl, gmul_f (by decide) (by decide) k (by omega), Option.bind_some,
    show Gm.gm 2 128 = 29 from by decide +kernel, if_pos (show ((29 : Nat) : Int) = 29 from rfl), show (1 : Int) = ((1 : Nat) : Int) from rfl, ginv_f (by decide) (by decide) k hk, Option.bind_some,
    hp, if_pos rfl]
  have := gdeg_awake k hk
  rw [show ([0, ((1 : Nat) : Int)] : List Int) = [0, 1] from rfl, this]
  rfl
/-! lists of bytes -/
def I (l : List Nat) : List Int := l.map (fun (n : Nat) => (n : Int))
theorem I_len (l : List Nat) : (I l).length = l.length := by unfold I; rw [List.length_map]
theorem I_rd (l : List Nat) (i : Nat) : rd (I l) (i : Int) = ((Gm.co l i : Nat) : Int) := by
  unfold rd I Gm.co
  simp only [Int.toNat_natCast, List.getD_eq_getElem?_getD, List.getElem?_map]
  cases l[i]? <;> rfl
theorem I_set (l : List Nat) (i x : Nat) : (I l).set i (x : Int) = I (l.set i x) := by unfold I; rw [List.map_set]
theorem I_take (l : List Nat) (n : Nat) : (I l).take n = I (l.take n) := by unfold I; rw [List.map_take]
theorem I_drop (l : List Nat) (n : Nat) : (I l).drop n = I (l.drop n) := by unfold I; rw [List.map_drop]
theorem I_append (l m : List Nat) : I l ++ I m = I (l ++ m) := by unfold I; rw [List.map_append]
theorem I_rep (n : Nat) : List.replicate n (0 : Int) = I (List.replicate n 0) := by unfold I; rw [List.map_replicate]; rfl
theorem I_of (l : List Int) (h : ∀ x ∈ l, (Lit.int .u8 x).wf = true) : ∃ m : List Nat, l = I m ∧ Gm.By m := by
  refine ⟨l.map Int.toNat, ?_, ?_⟩
  · unfold I
    rw [List.map_map]
    apply List.ext_getElem (by rw [List.length_map])
    intro i h1 h2
    rw [List.getElem_map]
    have := Bt.wf_u8 (h _ (List.getElem_mem h1))
    show l[i] = ((l[i].toNat : Nat) : Int)
    omega
  · intro x hx
    obtain ⟨y, hy, rfl⟩ := List.mem_map.1 hx
    have := Bt.wf_u8 (h _ hy)
    omega
theorem few_f (m : List Nat) : tinderboxlaw27_few.f (I m) = some (I (m.take 40)) := by
  have e : mn ((I m).length : Int) 40 = ((min m.length 40 : Nat) : Int) := by rw [I_len]; unfold mn; split <;> omega
  have c1 : (0 : Int) ≤ ((min m.length 40 : Nat) : Int) := by omega
  have c2 : ((min m.length 40 : Nat) : Int) ≤ ((I m).length : Int) := by rw [I_len]; omega
  have c3 : ([] : List Int).length + ((I m).take (((min m.length 40 : Nat) : Int)).toNat).length < 140737488355328 := by rw [List.length_take]; simp; omega
  unfold tinderboxlaw27_few.f
  rw [e, Option.bind_some, if_pos c1, if_pos c2, if_pos c3, List.nil_append, Int.toNat_natCast, I_take]
  by_cases h : m.length ≤ 40
  · rw [List.take_of_length_le (i := 40) h, List.take_of_length_le (by omega)]
  · rw [show min m.length 40 = 40 by omega]
theorem fin_f (m : List Nat) (n : Nat) (hm : m.length ≤ 1000) (hn : n ≤ m.length) :
    ((some (([] : List Int) : List Int)).bind fun y => (if 0 ≤ (n : Int) then (if (n : Int) ≤ ((I m).length : Int) then (if y.length + ((I m).take ((n : Int) : Int).toNat).length < 140737488355328 then (some (y ++ ((I m).take ((n : Int) : Int).toNat))) else (none)) else (none)) else (none))) = some (I (m.take n)) := by
  have c1 : (0 : Int) ≤ (n : Int) := by omega
  have c2 : (n : Int) ≤ ((I m).length : Int) := by rw [I_len]; omega
  have c3 : ([] : List Int).length + ((I m).take ((n : Int) : Int).toNat).length < 140737488355328 := by rw [List.length_take]; simp; omega
  rw [Option.bind_some, if_pos c1, if_pos c2, if_pos c3, List.nil_append, Int.toNat_natCast, I_take]
theorem trim_l0 (m : List Nat) (hm : m.length ≤ 1000) : ∀ (n k : Nat), n ≤ m.length → gf_Poly_Trim.l0 (k + n + 1) (I m) (n : Int) = some (I (m.take (Gm.tl m n))) := by
  intro n
  induction n with
  | zero =>
    intro k hn
    have c1 : ¬ ((0 : Nat) : Int) > 0 := by omega
    rw [gf_Poly_Trim.l0, if_neg c1]
    exact fin_f m 0 hm hn
  | succ n ih =>
    intro k hn
    have c1 : ((n + 1 : Nat) : Int) > 0 := by omega
    have c2 : (0 : Int) ≤ (n : Int) := by omega
    have c3 : (n : Int) < ((I m).length : Int) := by rw [I_len]; omega
    have e1 : wrap64 (((n + 1 : Nat) : Int) - 1) = (n : Int) := by rw [Bt.wrap_ok (by omega) (by omega)]; omega
    rw [show k + (n + 1) + 1 = (k + n + 1) + 1 by omega, gf_Poly_Trim.l0, if_pos c1, e1, if_pos c2, if_pos c3, I_rd]
    have hz : Gm.tl m (n + 1) = if Gm.co m n = 0 then Gm.tl m n else n + 1 := rfl
    rw [hz]
    by_cases h : Gm.co m n = 0
    · rw [if_pos h, if_pos (by rw [h]; rfl), ih k (by omega)]
    · rw [if_neg h, if_neg (by omega)]
      exact fin_f m (n + 1) hm hn
theorem trim_f (m : List Nat) (hm : m.length ≤ 1000) (k : Nat) (hk : 1001 ≤ k) : gf_Poly_Trim.f k (I m) = some (I (Gm.trim m)) := by
  obtain ⟨j, rfl⟩ : ∃ j, k = j + m.length + 1 := ⟨k - (m.length + 1), by omega⟩
  unfold gf_Poly_Trim.f
  rw [I_len]
  exact trim_l0 m hm m.length j (Nat.le_refl _)
theorem deg_l0 (m : List Nat) (hm : m.length ≤ 1000) : ∀ (n k : Nat), n ≤ m.length → gf_Poly_Degree.l0 (k + n + 1) (I m) (n : Int) = some ((Gm.tl m n : Int) - 1) := by
  intro n
  induction n with
  | zero =>
    intro k hn
    have c1 : ¬ ((0 : Nat) : Int) > 0 := by omega
    rw [gf_Poly_Degree.l0, if_neg c1, Bt.wrap_ok (by omega) (by omega)]
    rfl
  | succ n ih =>
    intro k hn
    have c1 : ((n + 1 : Nat) : Int) > 0 := by omega
    have c2 : (0 : Int) ≤ (n : Int) := by omega
    have c3 : (n : Int) < ((I m).length : Int) := by rw [I_len]; omega
    have e1 : wrap64 (((n + 1 : Nat) : Int) - 1) = (n : Int) := by rw [Bt.wrap_ok (by omega) (by omega)]; omega
    rw [show k + (n + 1) + 1 = (k + n + 1) + 1 by omega, gf_Poly_Degree.l0, if_pos c1, e1, if_pos c2, if_pos c3, I_rd]
    have hz : Gm.tl m (n + 1) = if Gm.co m n = 0 then Gm.tl m n else n + 1 := rfl
    rw [hz]
    by_cases h : Gm.co m n = 0
    · rw [if_pos h, if_pos (by rw [h]; rfl), ih k (by omega)]
    · rw [if_neg h, if_neg (by omega)]
      congr 1
      omega
theorem deg_f (m : List Nat) (hm : m.length ≤ 1000) (k : Nat) (hk : 1001 ≤ k) : gf_Poly_Degree.f k (I m) = some ((Gm.tlen m : Int) - 1) := by
  obtain ⟨j, rfl⟩ : ∃ j, k = j + m.length + 1 := ⟨k - (m.length + 1), by omega⟩
  unfold gf_Poly_Degree.f
  rw [I_len]
  exact deg_l0 m hm m.length j (Nat.le_refl _)
theorem pmul_l1 (p q : List Nat) (hq : Gm.By q) {a : Nat} (ha : a < 256) (i : Nat) (hi : i ≤ 1000) : ∀ (d k j : Nat) (out : List Nat), Gm.By out → j + d = q.length → i + q.length ≤ out.length → out.length ≤ 1000 →
    gf_Poly_Mul.l1 (k + 9 + d + 1) (I q) (I out) (i : Int) (a : Int) (I p) (p.length : Int) (i : Int) (I q) (q.length : Int) (j : Int) = gf_Poly_Mul.l0 (k + 9) (I q) (I (Gm.inn a q i d j out)) (I p) (p.length : Int) ((i + 1 : Nat) : Int) := by
  intro d
  induction d with
  | zero =>
    intro k j out ho hj hl hb
    have c1 : ¬ (j : Int) < (q.length : Int) := by omega
    have e1 : wrap64 ((i : Int) + 1) = ((i + 1 : Nat) : Int) := by rw [Bt.wrap_ok (by omega) (by omega)]; omega
    rw [gf_Poly_Mul.l1, if_neg c1, e1]
    rfl
  | succ d ih =>
    intro k j out ho hj hl hb
    have c1 : (j : Int) < (q.length : Int) := by omega
    have c2 : (0 : Int) ≤ (j : Int) := by omega
    have c3 : (j : Int) < ((I q).length : Int) := by rw [I_len]; omega
    have c4 : (0 : Int) ≤ ((i + j : Nat) : Int) := by omega
    have c5 : ((i + j : Nat) : Int) < ((I out).length : Int) := by rw [I_len]; omega
    have e1 : wrap64 ((j : Int) + 1) = ((j + 1 : Nat) : Int) := by rw [Bt.wrap_ok (by omega) (by omega)]; omega
    have e2 : wrap64 ((i : Int) + (j : Int)) = ((i + j : Nat) : Int) := by rw [Bt.wrap_ok (by omega) (by omega)]; omega
    have hg := Gm.gm_lt (b := Gm.co q j) ha
    have hc := Gm.co_lt ho (i + j)
    rw [show k + 9 + (d + 1) + 1 = (k + 9 + d + 1) + 1 by omega, gf_Poly_Mul.l1, if_pos c1, if_pos c2, if_pos c3, e2, if_pos c4, if_pos c5, I_rd, gmul_f ha (Gm.co_lt hq j) _ (by omega), Option.bind_some,
      I_rd, Bt.x8 hc hg, Int.toNat_natCast, I_set, e1]
    exact ih k (j + 1) _ (Gm.by_set ho _ (Gm.xor_lt8 hc hg)) (by omega) (by rw [List.length_set]; exact hl) (by rw [List.length_set]; exact hb)
theorem pmul_l0 (p q : List Nat) (hp : Gm.By p) (hq : Gm.By q) : ∀ (d k i : Nat) (out : List Nat), Gm.By out → i + d = p.length → out.length = p.length + q.length → out.length ≤ 1000 →
    gf_Poly_Mul.l0 (k + 1100 + (q.length + 2) * d + 1) (I q) (I out) (I p) (p.length : Int) (i : Int) = some (I (Gm.trim (Gm.outr p q d i out))) := by
  intro d
  induction d with
  | zero =>
    intro k i out ho hi hl hb
    have c1 : ¬ (i : Int) < (p.length : Int) := by omega
    rw [gf_Poly_Mul.l0, if_neg c1, trim_f out hb _ (by omega)]
    rfl
  | succ d ih =>
    intro k i out ho hi hl hb
    have c1 : (i : Int) < (p.length : Int) := by omega
    have c2 : (0 : Int) ≤ (i : Int) := by omega
    have c3 : (i : Int) < ((I p).length : Int) := by rw [I_len]; omega
    have ek : k + 1100 + (q.length + 2) * (d + 1) = (k + 1091 + (q.length + 2) * d + 1) + 9 + q.length + 1 := by rw [Nat.mul_succ]; omega
    have ek2 : (k + 1091 + (q.length + 2) * d + 1) + 9 = k + 1100 + (q.length + 2) * d + 1 := by omega
    have el : ((I q).length : Int) = (q.length : Int) := by rw [I_len]
    rw [gf_Poly_Mul.l0, if_pos c1, if_pos c2, if_pos c3, I_rd, ek, el]
    refine Eq.trans (pmul_l1 p q hq (Gm.co_lt hp i) i (by omega) q.length _ 0 out ho (by omega) (by omega) hb) ?_
    rw [ek2]
    exact ih k (i + 1) _ (Gm.by_inn (Gm.co_lt hp i) q i _ _ _ ho) (by omega) (by rw [Gm.inn_len]; exact hl) (by rw [Gm.inn_len]; exact hb)
theorem pmul_f (p q : List Nat) (hp : Gm.By p) (hq : Gm.By q) (h1 : p.length ≤ 100) (h2 : q.length ≤ 100) (k : Nat) (hk : 20000 ≤ k) : gf_Poly_Mul.f k (I p) (I q) = some (I (Gm.mul p q)) := by
  have e1 : wrap64 (((I p).length : Int) + ((I q).length : Int)) = ((p.length + q.length : Nat) : Int) := by rw [I_len, I_len, Bt.wrap_ok (by omega) (by omega)]; omega
  have c1 : (0 : Int) ≤ ((p.length + q.length : Nat) : Int) := by omega
  have c2 : (((p.length + q.length : Nat) : Int)).toNat ≤ 281474976710656 := by omega
  have hm : (q.length + 2) * p.length ≤ 102 * 100 := Nat.mul_le_mul (by omega) h1
  obtain ⟨j, hj⟩ : ∃ j, k = j + 1100 + (q.length + 2) * p.length + 1 := ⟨k - (1100 + (q.length + 2) * p.length + 1), by omega⟩
  have el : ((I p).length : Int) = (p.length : Int) := by rw [I_len]
  unfold gf_Poly_Mul.f
  rw [e1, if_pos c1, if_pos c2, Int.toNat_natCast, I_rep, el, hj]
  have := pmul_l0 p q hp hq p.length j 0 (List.replicate (p.length + q.length) 0) (Gm.by_rep _) (by omega) (by rw [List.length_replicate]) (by rw [List.length_replicate]; omega)
  rw [Gm.outr_mul] at this
  exact this
theorem padd_l0 (q : List Nat) (hq : Gm.By q) : ∀ (d k i : Nat) (out : List Nat), Gm.By out → i + d = q.length → q.length ≤ out.length → out.length ≤ 1000 →
    gf_Poly_Add.l0 (k + 1100 + d + 1) (I out) (I q) (q.length : Int) (i : Int) = some (I (Gm.trim (Gm.addr q d i out))) := by
  intro d
  induction d with
  | zero =>
    intro k i out ho hi hl hb
    have c1 : ¬ (i : Int) < (q.length : Int) := by omega
    rw [gf_Poly_Add.l0, if_neg c1, trim_f out hb _ (by omega)]
    rfl
  | succ d ih =>
    intro k i out ho hi hl hb
    have c1 : (i : Int) < (q.length : Int) := by omega
    have c2 : (0 : Int) ≤ (i : Int) := by omega
    have c3 : (i : Int) < ((I q).length : Int) := by rw [I_len]; omega
    have c4 : (i : Int) < ((I out).length : Int) := by rw [I_len]; omega
    have e1 : wrap64 ((i : Int) + 1) = ((i + 1 : Nat) : Int) := by rw [Bt.wrap_ok (by omega) (by omega)]; omega
    have hc := Gm.co_lt ho i
    have hd := Gm.co_lt hq i
    rw [show k + 1100 + (d + 1) + 1 = (k + 1100 + d + 1) + 1 by omega, gf_Poly_Add.l0, if_pos c1, if_pos c2, if_pos c3, if_pos c4, I_rd, I_rd, Bt.x8 hc hd, Int.toNat_natCast, I_set, e1]
    exact ih k (i + 1) _ (Gm.by_set ho _ (Gm.xor_lt8 hc hd)) (by omega) (by rw [List.length_set]; exact hl) (by rw [List.length_set]; exact hb)
theorem padd_f (p q : List Nat) (hp : Gm.By p) (hq : Gm.By q) (h1 : p.length ≤ 500) (h2 : q.length ≤ 500) (k : Nat) (hk : 2000 ≤ k) : gf_Poly_Add.f k (I p) (I q) = some (I (Gm.add p q)) := by
  have e1 : mx ((I p).length : Int) ((I q).length : Int) = ((max p.length q.length : Nat) : Int) := by rw [I_len, I_len]; unfold mx; split <;> omega
  have c1 : (0 : Int) ≤ ((max p.length q.length : Nat) : Int) := by omega
  have c2 : (((max p.length q.length : Nat) : Int)).toNat ≤ 281474976710656 := by omega
  obtain ⟨j, hj⟩ : ∃ j, k = j + 1100 + q.length + 1 := ⟨k - (1100 + q.length + 1), by omega⟩
  have el : ((I q).length : Int) = (q.length : Int) := by rw [I_len]
  have ec : Xc.copyL (I (List.replicate (max p.length q.length) 0)) (I p) = I (p.take (max p.length q.length) ++ (List.replicate (max p.length q.length) 0).drop p.length) := by
    unfold Xc.copyL
    rw [I_len, I_len, I_take, I_drop, I_append, List.length_replicate]
  have hL : (p.take (max p.length q.length) ++ (List.replicate (max p.length q.length) 0).drop p.length).length = max p.length q.length := by
    rw [List.length_append, List.length_take, List.length_drop, List.length_replicate]; omega
  have hco : ∀ i, Gm.co (p.take (max p.length q.length) ++ (List.replicate (max p.length q.length) 0).drop p.length) i = Gm.co p i := by
    intro i
    rw [List.take_of_length_le (Nat.le_max_left _ _), Gm.co_append, List.drop_replicate, Gm.co_rep]
    split
    · rfl
    · rw [Gm.co_out (by omega)]
  unfold gf_Poly_Add.f
  rw [e1, if_pos c1, if_pos c2, Int.toNat_natCast, I_rep, el, ec, hj]
  have := padd_l0 q hq q.length j 0 _ (Gm.by_of_co (fun i => by rw [hco i]; exact Gm.co_lt hp i)) (by omega) (by rw [hL]; omega) (by rw [hL]; omega)
  rw [Gm.addr_add hL hco] at this
  exact this
/-! derivatives, cuts -/
theorem slope_l0 (p : List Nat) (hp : Gm.By p) (hl : p.length ≤ 500) : ∀ (d k i : Nat) (out : List Nat), Gm.By out → d = p.length - i → i ≤ 501 → out.length + d ≤ 1000 →
    gf_Poly_Slope.l0 (k + 1100 + d + 1) (I p) (I out) (i : Int) = some (I (Gm.trim (out ++ Gm.slp p d i))) := by
  intro d
  induction d with
  | zero =>
    intro k i out ho hd hi hb
    have c1 : ¬ (i : Int) < ((I p).length : Int) := by rw [I_len]; omega
    have e0 : out ++ Gm.slp p 0 i = out := List.append_nil out
    rw [gf_Poly_Slope.l0, if_neg c1, trim_f out (by omega) _ (by omega), e0]
    rfl
  | succ d ih =>
    intro k i out ho hd hi hb
    have c1 : (i : Int) < ((I p).length : Int) := by rw [I_len]; omega
    have c2 : (0 : Int) ≤ (i : Int) := by omega
    have c3 : (I out).length < 140737488355328 := by rw [I_len]; omega
    have e1 : wrap64 ((i : Int) + 1) = ((i + 1 : Nat) : Int) := by rw [Bt.wrap_ok (by omega) (by omega)]; omega
    have hz : out ++ Gm.slp p (d + 1) i = (out ++ [if i % 2 = 1 then Gm.co p i else 0]) ++ Gm.slp p d (i + 1) := by
      show out ++ ((if i % 2 = 1 then Gm.co p i else 0) :: Gm.slp p d (i + 1)) = _
      rw [List.append_assoc]; rfl
    have hv : (if i % 2 = 1 then Gm.co p i else 0) < 256 := by split; exact Gm.co_lt hp i; decide
    have hby : Gm.By (out ++ [if i % 2 = 1 then Gm.co p i else 0]) := Gm.by_append ho (by intro x hx; rw [List.mem_singleton.1 hx]; exact hv)
    have hlen : (out ++ [if i % 2 = 1 then Gm.co p i else 0]).length + d ≤ 1000 := by rw [List.length_append, List.length_singleton]; omega
    have ih1 := ih k (i + 1) _ hby (by omega) (by omega) hlen
    rw [show k + 1100 + (d + 1) + 1 = (k + 1100 + d + 1) + 1 by omega, gf_Poly_Slope.l0, if_pos c1, Bt.tmod2, e1, hz, ← ih1]
    by_cases h : i % 2 = 1
    · rw [if_pos (Bt.cast1 h), if_pos c2, if_pos c3, I_rd, if_pos h]
      rw [show [((Gm.co p i : Nat) : Int)] = I [Gm.co p i] from rfl, I_append]
    · rw [if_neg (Bt.cast1n h), if_pos c3, if_neg h]
      rw [show [(0 : Int)] = I [0] from rfl, I_append]
theorem slope_f (p : List Nat) (hp : Gm.By p) (hl : p.length ≤ 500) (k : Nat) (hk : 2000 ≤ k) : gf_Poly_Slope.f k (I p) = some (I (Gm.slope p)) := by
  obtain ⟨j, rfl⟩ : ∃ j, k = j + 1100 + (p.length - 1) + 1 := ⟨k - (1100 + (p.length - 1) + 1), by omega⟩
  unfold gf_Poly_Slope.f
  have h := slope_l0 p hp hl (p.length - 1) j 1 [] (by intro x hx; cases hx) rfl (by omega) (by simp; omega)
  rw [List.nil_append, Gm.slp_slope] at h
  exact h
theorem cut_f (p : List Nat) (hl : p.length ≤ 500) (n : Int) (k : Nat) (hk : 2000 ≤ k) : gf_Poly_Cut.f k (I p) n = some (I (Gm.trim (p.take n.toNat))) := by
  have e : mx 0 (mn n ((I p).length : Int)) = ((min n.toNat p.length : Nat) : Int) := by rw [I_len]; unfold mx mn; split <;> split <;> omega
  have c1 : (0 : Int) ≤ ((min n.toNat p.length : Nat) : Int) := by omega
  have c2 : ((min n.toNat p.length : Nat) : Int) ≤ ((I p).length : Int) := by rw [I_len]; omega
  have c3 : ([] : List Int).length + ((I p).take (((min n.toNat p.length : Nat) : Int)).toNat).length < 140737488355328 := by rw [List.length_take, I_len]; simp; omega
  have e2 : p.take (min n.toNat p.length) = p.take n.toNat := by
    by_cases h : p.length ≤ n.toNat
    · rw [List.take_of_length_le (i := n.toNat) h, List.take_of_length_le (by omega)]
    · rw [show min n.toNat p.length = n.toNat by omega]
  unfold gf_Poly_Cut.f
  rw [e, Option.bind_some, if_pos c1, if_pos c2, if_pos c3, List.nil_append, Int.toNat_natCast, I_take, e2, trim_f _ (by rw [List.length_take]; omega) _ (by omega)]
  rfl
theorem slope_loop (p c : List Nat) (hl : p.length ≤ 40) (n : Nat) (hn : n ≤ 31) (hc : ∀ i, i < n → Gm.co c i = Gm.co p i) : ∀ (d k i : Nat), i + d = p.length →
    tinderboxlaw27_GfSlope.l0 (k + 2 * d + 2) (I p) (n : Int) (I c) (i : Int) = some true := by
  intro d
  induction d with
  | zero =>
    intro k i hi
    have c1 : ¬ (i : Int) < ((I p).length : Int) := by rw [I_len]; omega
    rw [show k + 2 * 0 + 2 = k + 1 + 1 by omega, tinderboxlaw27_GfSlope.l0, if_neg c1, tinderboxlaw27_GfSlope.j2, if_neg (by decide)]
  | succ d ih =>
    intro k i hi
    have c1 : (i : Int) < ((I p).length : Int) := by rw [I_len]; omega
    have c0 : (0 : Int) ≤ (i : Int) := by omega
    have e1 : wrap64 ((i : Int) + 1) = ((i + 1 : Nat) : Int) := by rw [Bt.wrap_ok (by omega) (by omega)]; omega
    rw [show k + 2 * (d + 1) + 2 = (k + 2 * d + 2) + 1 + 1 by omega, tinderboxlaw27_GfSlope.l0, if_pos c1, tinderboxlaw27_GfSlope.j2, e1, ih k (i + 1) (by omega), I_rd, I_rd]
    by_cases h : i < n
    · have h' := hc i h
      rw [if_pos (decide_eq_true (by omega))]
      by_cases h2 : i < c.length
      · have c2 : (i : Int) < ((I c).length : Int) := by rw [I_len]; omega
        have c3 : ¬ (i : Int) ≥ ((I c).length : Int) := by omega
        rw [if_pos c2, if_pos c0, if_pos c1, h', if_pos rfl, if_neg c3]
      · have c2 : ¬ (i : Int) < ((I c).length : Int) := by rw [I_len]; omega
        have c3 : (i : Int) ≥ ((I c).length : Int) := by omega
        have hz : ((Gm.co p i : Nat) : Int) = 0 := by rw [← h', Gm.co_out (by omega)]; rfl
        rw [if_neg c2, if_pos c3, if_pos c0, if_pos c1, if_pos hz]
    · rw [if_neg (by rw [decide_eq_false (by omega)]; decide)]
theorem GfSlope : tinderboxlaw27_GfSlope.Pure := by
  intro l0 l1 a2 _ _ h0 _ _ h1 _
  obtain ⟨m, rfl, hm⟩ := I_of l0 h0
  obtain ⟨n, rfl, hn⟩ := I_of l1 h1
  obtain ⟨p, hpe⟩ : ∃ p, p = m.take 40 := ⟨_, rfl⟩
  obtain ⟨q, hqe⟩ : ∃ q, q = n.take 40 := ⟨_, rfl⟩
  have hp : Gm.By p := by rw [hpe]; exact Gm.by_take hm 40
  have hq : Gm.By q := by rw [hqe]; exact Gm.by_take hn 40
  have lp : p.length ≤ 40 := by rw [hpe, List.length_take]; omega
  have lq : q.length ≤ 40 := by rw [hqe, List.length_take]; omega
  have hM : ∀ a b : List Nat, (Gm.mul a b).length ≤ a.length + b.length := fun a b => by unfold Gm.mul; rw [Gm.trim_len]; have := Gm.tlen_le (Gm.mkL (a.length + b.length) (Gm.pr a b)); rwa [Gm.mkL_len] at this
  have hA : ∀ a b : List Nat, (Gm.add a b).length ≤ max a.length b.length := fun a b => by unfold Gm.add; rw [Gm.trim_len]; have := Gm.tlen_le (Gm.mkL (max a.length b.length) (fun i => Gm.co a i ^^^ Gm.co b i)); rwa [Gm.mkL_len] at this
  have hS := Gm.slope_len p
  have hT := Gm.slope_len q
  have m1 := hM p q
  have m2 := hM (Gm.slope p) q
  have m3 := hM p (Gm.slope q)
  have m4 := Gm.slope_len (Gm.mul p q)
  have a1 := hA (Gm.mul (Gm.slope p) q) (Gm.mul p (Gm.slope q))
  have a3 := hA (Gm.slope (Gm.mul p q)) (Gm.add (Gm.mul (Gm.slope p) q) (Gm.mul p (Gm.slope q)))
  have hsp := Gm.by_slope hp
  have hsq := Gm.by_slope hq
  have hmm := Gm.by_mul (q := q) hp
  have hz := Gm.tlen_add_self (Gm.leibniz p q)
  have hand : Go.bits .and .i64 a2 31 = a2 % 32 := Bt.mask64 a2 5 (by decide)
  obtain ⟨kk, hkk⟩ := Int.eq_ofNat_of_zero_le (show 0 ≤ a2 % 32 by omega)
  have hk31 : kk ≤ 31 := by omega
  have hct : ((kk : Int)).toNat = kk := Int.toNat_natCast kk
  have lc : (Gm.trim (p.take kk)).length ≤ kk := by rw [Gm.trim_len]; have := Gm.tlen_le (p.take kk); rw [List.length_take] at this; omega
  have tc : Gm.tlen (Gm.trim (p.take kk)) ≤ kk := Nat.le_trans (Gm.tlen_le _) lc
  have cc : ∀ i, i < kk → Gm.co (Gm.trim (p.take kk)) i = Gm.co p i := fun i hi => by rw [Gm.co_trim, Gm.co_take, if_pos hi]
  have eneg : Gm.trim (p.take ((-1 : Int)).toNat) = [] := by rfl
  refine ⟨30000, ?_⟩
  have k1 : 2000 ≤ 30000 := by decide
  have k2 : 20000 ≤ 30000 := by decide
  have k3 : 1001 ≤ 30000 := by decide
  have d1 := deg_f (Gm.add (Gm.slope (Gm.mul p q)) (Gm.add (Gm.mul (Gm.slope p) q) (Gm.mul p (Gm.slope q)))) (by omega) 30000 k3
  have d2 := deg_f (Gm.trim (p.take kk)) (by omega) 30000 k3
  have c1 : ¬ ((Gm.tlen (Gm.trim (p.take kk)) : Int) - 1) ≥ (kk : Int) := by omega
  have fin : tinderboxlaw27_GfSlope.j0 30000 (I p) (kk : Int) (I (Gm.trim (p.take kk))) false = some true := by
    obtain ⟨j, hj⟩ : ∃ j, 30000 = (j + 2 * p.length + 2) + 1 := ⟨30000 - (2 * p.length + 3), by omega⟩
    rw [hj, tinderboxlaw27_GfSlope.j0, if_neg (by decide)]
    exact slope_loop p _ lp kk hk31 cc p.length j 0 (by omega)
  rw [hz] at d1
  unfold tinderboxlaw27_GfSlope.f
  rw [few_f, Option.bind_some, ← hpe, few_f, Option.bind_some, ← hqe, pmul_f p q hp hq (by omega) (by omega) _ k2, Option.bind_some, slope_f _ hmm (by omega) _ k1, Option.bind_some, slope_f p hp (by omega) _ k1, Option.bind_some,
    pmul_f _ q hsp hq (by omega) (by omega) _ k2, Option.bind_some, slope_f q hq (by omega) _ k1, Option.bind_some, pmul_f p _ hp hsq (by omega) (by omega) _ k2, Option.bind_some,
    padd_f _ _ (Gm.by_mul hsp) (Gm.by_mul hp) (by omega) (by omega) _ k1, Option.bind_some, hand, hkk, cut_f p (by omega) _ _ k1, Option.bind_some, hct, awake_f _ (by decide), Option.bind_some, if_pos rfl,
    padd_f _ _ (Gm.by_slope hmm) (Gm.by_add (Gm.by_mul hsp) (Gm.by_mul hp)) (by omega) (by omega) _ k1, Option.bind_some, d1, Option.bind_some, if_pos (by rfl), d2, Option.bind_some, if_neg c1, cut_f p (by omega) _ _ k1, Option.bind_some, eneg]
  exact fin
end Go.Proofs.Ytpidfledopnhpaa.Pure
