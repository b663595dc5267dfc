/- What is left is of a lesser degree, and is the whole at each root of the divisor; by nought nothing goes. For every input. -/
import Derived.Test.YtpidfledopnhpaaXGfModx1
import Derived.Test.YtpidfledopnhpaaXGfModx2
import Derived.Test.YtpidfledopnhpaaXGfModx3
import Derived.Test.YtpidfledopnhpaaXGfModx4
import Derived.Test.YtpidfledopnhpaaMBits
import Derived.Test.YtpidfledopnhpaaXCopy
import Derived.Test.YtpidfledopnhpaaGfPoly
namespace Go.Proofs.Ytpidfledopnhpaa.Pure
open Go.RowKit Go.Proofs.Ytpidfledopnhpaa Go.Proofs.Ytpidfledopnhpaa.XGfMod Go.Proofs.YtpidfledopnhpaaW.PrintWords Go.Proofs.YtpidfledopnhpaaW.PrintLast Go.Proofs.YtpidfledopnhpaaW.PrintMore
set_option linter.unusedVariables false
set_option linter.unusedSimpArgs false
/-! products and powers -/
theorem gmul_l0 : ∀ (d : Nat) (k n x m : Nat), n < 256 → x < 256 → m < 2 ^ d → d ≤ 8 →
    gf_Mul.l0 (k + d + 1) (n : Int) (x : Int) (m : Int) = some ((Gm.mulN d m x n : Nat) : Int) := by
  intro d
  induction d with
  | zero =>
    intro k n x m hn hx hm hd
    obtain rfl : m = 0 := by simpa using hm
    rw [gf_Mul.l0, if_neg (by omega)]
    show some ((n : Int) % 256) = some (n : Int)
    rw [Int.emod_eq_of_lt (by omega) (by omega)]
  | succ d ih =>
    intro k n x m hn hx hm hd
    have hm2 : 2 ^ (d + 1) ≤ 256 := Nat.pow_le_pow_right (by decide) (by omega : d + 1 ≤ 8)
    have hxt := Gm.xt_lt hx
    have hxx := Gm.xor_lt8 hn hx
    have hmd : m / 2 < 2 ^ d := by rw [Nat.pow_succ] at hm; omega
    have e2 : (m : Int) / 2 = ((m / 2 : Nat) : Int) := by omega
    have ex : wrap64 ((x : Int) * 2) = ((2 * x : Nat) : Int) := by rw [Bt.wrap_ok (by omega) (by omega)]; omega
    have hz : Gm.mulN (d + 1) m x n = Gm.mulN d (m / 2) (Gm.xt x) (if m % 2 = 1 then n ^^^ x else n) := rfl
    have hxe : ∀ r, (if ((2 * x : Nat) : Int) > 255 then gf_Mul.l0 (k + d + 1) r (Go.bits .xor .i64 ((2 * x : Nat) : Int) 285) ((m / 2 : Nat) : Int) else gf_Mul.l0 (k + d + 1) r ((2 * x : Nat) : Int) ((m / 2 : Nat) : Int)) = gf_Mul.l0 (k + d + 1) r ((Gm.xt x : Nat) : Int) ((m / 2 : Nat) : Int) := by
      intro r
      by_cases h : 255 < 2 * x
      · rw [if_pos (by omega), show (285 : Int) = ((285 : Nat) : Int) from rfl, Bt.x64 (by omega) (by decide)]
        unfold Gm.xt
        rw [if_pos h]
      · rw [if_neg (by omega)]
        unfold Gm.xt
        rw [if_neg h]
    rw [show k + (d + 1) + 1 = (k + d + 1) + 1 by omega, gf_Mul.l0, ex, e2, hxe, hxe, hz]
    by_cases h0 : m = 0
    · subst h0
      rw [if_neg (by omega)]
      simp only [Nat.zero_div, Nat.zero_mod]
      rw [if_neg (by decide), Gm.mulN_zero_b, Int.emod_eq_of_lt (by omega) (by omega)]
    · rw [if_pos (by omega), Bt.and1_8 (by omega)]
      by_cases h : m % 2 = 1
      · rw [if_pos (by omega), Bt.x64 (by omega) (by omega), ih k _ _ _ hxx hxt hmd (by omega), if_pos h]
      · rw [if_neg (by omega), ih k _ _ _ hn hxt hmd (by omega), if_neg h]
theorem gmul_f {a b : Nat} (ha : a < 256) (hb : b < 256) (k : Nat) (hk : 9 ≤ k) : gf_Mul.f k (a : Int) (b : Int) = some ((Gm.gm a b : Nat) : Int) := by
  obtain ⟨j, rfl⟩ : ∃ j, k = j + 8 + 1 := ⟨k - 9, by omega⟩
  unfold gf_Mul.f
  rw [Bt.wrap_ok (by omega) (by omega)]
  exact gmul_l0 8 j 0 a b (by decide) ha hb (by decide)
theorem gpow_l0 : ∀ (d : Nat) (k x o m : Nat), x < 256 → o < 256 → m < 2 ^ d → d ≤ 60 →
    gf_Pow.l0 (k + 9 + d + 1) (x : Int) (o : Int) (m : Int) = some ((Gm.pw d x o m : Nat) : Int) := by
  intro d
  induction d with
  | zero =>
    intro k x o m hx ho hm hd
    obtain rfl : m = 0 := by simpa using hm
    rw [gf_Pow.l0, if_neg (by omega)]
    rfl
  | succ d ih =>
    intro k x o m hx ho hm hd
    have hm2 : 2 ^ (d + 1) ≤ 2 ^ 61 := Nat.pow_le_pow_right (by decide) (by omega)
    have hmd : m / 2 < 2 ^ d := by rw [Nat.pow_succ] at hm; omega
    have e2 : (m : Int) / 2 = ((m / 2 : Nat) : Int) := by omega
    have hz : Gm.pw (d + 1) x o m = if m = 0 then o else Gm.pw d (Gm.gm x x) (if m % 2 = 1 then Gm.gm o x else o) (m / 2) := rfl
    rw [show k + 9 + (d + 1) + 1 = (k + 9 + d + 1) + 1 by omega, gf_Pow.l0, e2, hz]
    by_cases h0 : m = 0
    · rw [if_neg (by omega), if_pos h0]
    · rw [if_pos (by omega), if_neg h0, Bt.and1_64 (by omega)]
      by_cases h : m % 2 = 1
      · rw [if_pos (by omega), gmul_f ho hx _ (by omega), Option.bind_some, gmul_f hx hx _ (by omega), Option.bind_some, ih k _ _ _ (Gm.gm_lt hx) (Gm.gm_lt ho) hmd (by omega), if_pos h]
      · rw [if_neg (by omega), gmul_f hx hx _ (by omega), Option.bind_some, ih k _ _ _ (Gm.gm_lt hx) ho hmd (by omega), if_neg h]
/-- A power of what is not nought: by what is left of its number by 255. -/
theorem gpow_f {a : Nat} (h0 : a ≠ 0) (ha : a < 256) (n : Int) (hn : -9223372036854775808 ≤ n) (hn' : n ≤ 9223372036854775807) (k : Nat) (hk : 100 ≤ k) :
    gf_Pow.f k (a : Int) n = some ((Gm.gp a (n % 255).toNat : Nat) : Int) := by
  obtain ⟨j, rfl⟩ : ∃ j, k = j + 9 + 8 + 1 := ⟨k - 18, by omega⟩
  unfold gf_Pow.f
  rw [if_neg (by omega)]
  obtain ⟨m, hm⟩ : ∃ m : Nat, (Int.tmod (wrap64 ((Int.tmod n 255) + 255)) 255) = (m : Int) ∧ m = (n % 255).toNat := by
    have ht : Int.tmod n 255 = if 0 ≤ n ∨ n % 255 = 0 then n % 255 else n % 255 - 255 := by
      rw [Int.tmod_eq_emod]
      by_cases h1 : 0 ≤ n ∨ (255 : Int) ∣ n
      · rw [if_pos h1, if_pos (by omega)]; omega
      · rw [if_neg h1, if_neg (by omega)]; omega
    have hb : 0 ≤ Int.tmod n 255 + 255 ∧ Int.tmod n 255 + 255 < 510 := by rw [ht]; split <;> omega
    refine ⟨(n % 255).toNat, ?_, rfl⟩
    rw [Bt.wrap_ok (by omega) (by omega), Int.tmod_eq_emod_of_nonneg hb.1, ht]
    split <;> omega
  rw [hm.1, show (1 : Int) = ((1 : Nat) : Int) from rfl, gpow_l0 8 j a 1 m ha (by decide) (by omega) (by decide), Gm.pw_eq 8 a 1 m ha (by decide) (by omega), Gm.gm_one_l (Gm.gp_lt ha _), hm.2]
theorem ginv_f {a : Nat} (h0 : a ≠ 0) (ha : a < 256) (k : Nat) (hk : 100 ≤ k) : gf_Inv.f k (a : Int) = some ((Gm.gp a 254 : Nat) : Int) := by
  unfold gf_Inv.f
  rw [if_neg (by omega), gpow_f h0 ha (-1) (by decide) (by decide) k hk]
  rfl
theorem gdeg_awake (k : Nat) (hk : 100 ≤ k) : gf_Poly_Degree.f k ([0, 1] : List Int) = some 1 := by
  obtain ⟨j, rfl⟩ : ∃ j, k = j + 1 := ⟨k - 1, by omega⟩
  unfold gf_Poly_Degree.f
  have e2 : (([0, 1] : List Int).length : Int) = 2 := rfl
  rw [gf_Poly_Degree.l0, e2, Bt.wrap_ok (by decide) (by decide), if_pos (by decide), if_pos (by decide), if_pos (by decide), if_neg (by decide)]
  rfl
theorem awake_f (k : Nat) (hk : 100 ≤ k) : tinderboxlaw27_awake.f k = some true := by
  have hp : Gm.gp 1 254 = 1 := by
    obtain ⟨m, hm⟩ : ∃ m, m = 254 := ⟨_, rfl⟩
    rw [← hm]
    clear hm hk
    induction m with
    | zero => rfl
    | succ m ih => rw [Gm.gp_succ, ih, Gm.gm_one_r]
  unfold tinderboxlaw27_awake.f
  rw [show (2 : Int) = ((2 : Nat) : Int) from rfl, show (128 : Int) = ((128 : Nat) : Int) from rfl, gmul_f (by decide) (by decide) k (by omega), Option.bind_some,
    show Gm.gm 2 128 = 29 from by decide +kernel, if_pos (show ((29 : Nat) : Int) = 29 from rfl), show (1 : Int) = ((1 : Nat) : Int) from rfl, ginv_f (by decide) (by decide) k hk, Option.bind_some,
    hp, if_pos rfl]
  have := gdeg_awake k hk
  rw [show ([0, ((1 : Nat) : Int)] : List Int) = [0, 1] from rfl, this]
  rfl
/-! lists of bytes -/
def I (l : List Nat) : List Int := l.map (fun (n : Nat) => (n : Int))
theorem I_len (l : List Nat) : (I l).length = l.length := by unfold I; rw [List.length_map]
theorem I_rd (l : List Nat) (i : Nat) : rd (I l) (i : Int) = ((Gm.co l i : Nat) : Int) := by
  unfold rd I Gm.co
  simp only [Int.toNat_natCast, List.getD_eq_getElem?_getD, List.getElem?_map]
  cases l[i]? <;> rfl
theorem I_set (l : List Nat) (i x : Nat) : (I l).set i (x : Int) = I (l.set i x) := by unfold I; rw [List.map_set]
theorem I_take (l : List Nat) (n : Nat) : (I l).take n = I (l.take n) := by unfold I; rw [List.map_take]
theorem I_drop (l : List Nat) (n : Nat) : (I l).drop n = I (l.drop n) := by unfold I; rw [List.map_drop]
theorem I_append (l m : List Nat) : I l ++ I m = I (l ++ m) := by unfold I; rw [List.map_append]
theorem I_rep (n : Nat) : List.replicate n (0 : Int) = I (List.replicate n 0) := by unfold I; rw [List.map_replicate]; rfl
theorem I_of (l : List Int) (h : ∀ x ∈ l, (Lit.int .u8 x).wf = true) : ∃ m : List Nat, l = I m ∧ Gm.By m := by
  refine ⟨l.map Int.toNat, ?_, ?_⟩
  · unfold I
    rw [List.map_map]
    apply List.ext_getElem (by rw [List.length_map])
    intro i h1 h2
    rw [List.getElem_map]
    have := Bt.wf_u8 (h _ (List.getElem_mem h1))
    show l[i] = ((l[i].toNat : Nat) : Int)
    omega
  · intro x hx
    obtain ⟨y, hy, rfl⟩ := List.mem_map.1 hx
    have := Bt.wf_u8 (h _ hy)
    omega
theorem few_f (m : List Nat) : tinderboxlaw27_few.f (I m) = some (I (m.take 40)) := by
  have e : mn ((I m).length : Int) 40 = ((min m.length 40 : Nat) : Int) := by rw [I_len]; unfold mn; split <;> omega
  have c1 : (0 : Int) ≤ ((min m.length 40 : Nat) : Int) := by omega
  have c2 : ((min m.length 40 : Nat) : Int) ≤ ((I m).length : Int) := by rw [I_len]; omega
  have c3 : ([] : List Int).length + ((I m).take (((min m.length 40 : Nat) : Int)).toNat).length < 140737488355328 := by rw [List.length_take]; simp; omega
  unfold tinderboxlaw27_few.f
  rw [e, Option.bind_some, if_pos c1, if_pos c2, if_pos c3, List.nil_append, Int.toNat_natCast, I_take]
  by_cases h : m.length ≤ 40
  · rw [List.take_of_length_le (i := 40) h, List.take_of_length_le (by omega)]
  · rw [show min m.length 40 = 40 by omega]
theorem fin_f (m : List Nat) (n : Nat) (hm : m.length ≤ 1000) (hn : n ≤ m.length) :
    ((some (([] : List Int) : List Int)).bind fun y => (if 0 ≤ (n : Int) then (if (n : Int) ≤ ((I m).length : Int) then (if y.length + ((I m).take ((n : Int) : Int).toNat).length < 140737488355328 then (some (y ++ ((I m).take ((n : Int) : Int).toNat))) else (none)) else (none)) else (none))) = some (I (m.take n)) := by
  have c1 : (0 : Int) ≤ (n : Int) := by omega
  have c2 : (n : Int) ≤ ((I m).length : Int) := by rw [I_len]; omega
  have c3 : ([] : List Int).length + ((I m).take ((n : Int) : Int).toNat).length < 140737488355328 := by rw [List.length_take]; simp; omega
  rw [Option.bind_some, if_pos c1, if_pos c2, if_pos c3, List.nil_append, Int.toNat_natCast, I_take]
theorem trim_l0 (m : List Nat) (hm : m.length ≤ 1000) : ∀ (n k : Nat), n ≤ m.length → gf_Poly_Trim.l0 (k + n + 1) (I m) (n : Int) = some (I (m.take (Gm.tl m n))) := by
  intro n
  induction n with
  | zero =>
    intro k hn
    have c1 : ¬ ((0 : Nat) : Int) > 0 := by omega
    rw [gf_Poly_Trim.l0, if_neg c1]
    exact fin_f m 0 hm hn
  | succ n ih =>
    intro k hn
    have c1 : ((n + 1 : Nat) : Int) > 0 := by omega
    have c2 : (0 : Int) ≤ (n : Int) := by omega
    have c3 : (n : Int) < ((I m).length : Int) := by rw [I_len]; omega
    have e1 : wrap64 (((n + 1 : Nat) : Int) - 1) = (n : Int) := by rw [Bt.wrap_ok (by omega) (by omega)]; omega
    rw [show k + (n + 1) + 1 = (k + n + 1) + 1 by omega, gf_Poly_Trim.l0, if_pos c1, e1, if_pos c2, if_pos c3, I_rd]
    have hz : Gm.tl m (n + 1) = if Gm.co m n = 0 then Gm.tl m n else n + 1 := rfl
    rw [hz]
    by_cases h : Gm.co m n = 0
    · rw [if_pos h, if_pos (by rw [h]; rfl), ih k (by omega)]
    · rw [if_neg h, if_neg (by omega)]
      exact fin_f m (n + 1) hm hn
theorem trim_f (m : List Nat) (hm : m.length ≤ 1000) (k : Nat) (hk : 1001 ≤ k) : gf_Poly_Trim.f k (I m) = some (I (Gm.trim m)) := by
  obtain ⟨j, rfl⟩ : ∃ j, k = j + m.length + 1 := ⟨k - (m.length + 1), by omega⟩
  unfold gf_Poly_Trim.f
  rw [I_len]
  exact trim_l0 m hm m.length j (Nat.le_refl _)
theorem deg_l0 (m : List Nat) (hm : m.length ≤ 1000) : ∀ (n k : Nat), n ≤ m.length → gf_Poly_Degree.l0 (k + n + 1) (I m) (n : Int) = some ((Gm.tl m n : Int) - 1) := by
  intro n
  induction n with
  | zero =>
    intro k hn
    have c1 : ¬ ((0 : Nat) : Int) > 0 := by omega
    rw [gf_Poly_Degree.l0, if_neg c1, Bt.wrap_ok (by omega) (by omega)]
    rfl
  | succ n ih =>
    intro k hn
    have c1 : ((n + 1 : Nat) : Int) > 0 := by omega
    have c2 : (0 : Int) ≤ (n : Int) := by omega
    have c3 : (n : Int) < ((I m).length : Int) := by rw [I_len]; omega
    have e1 : wrap64 (((n + 1 : Nat) : Int) - 1) = (n : Int) := by rw [Bt.wrap_ok (by omega) (by omega)]; omega
    rw [show k + (n + 1) + 1 = (k + n + 1) + 1 by omega, gf_Poly_Degree.l0, if_pos c1, e1, if_pos c2, if_pos c3, I_rd]
    have hz : Gm.tl m (n + 1) = if Gm.co m n = 0 then Gm.tl m n else n + 1 := rfl
    rw [hz]
    by_cases h : Gm.co m n = 0
    · rw [if_pos h, if_pos (by rw [h]; rfl), ih k (by omega)]
    · rw [if_neg h, if_neg (by omega)]
      congr 1
      omega
theorem deg_f (m : List Nat) (hm : m.length ≤ 1000) (k : Nat) (hk : 1001 ≤ k) : gf_Poly_Degree.f k (I m) = some ((Gm.tlen m : Int) - 1) := by
  obtain ⟨j, rfl⟩ : ∃ j, k = j + m.length + 1 := ⟨k - (m.length + 1), by omega⟩
  unfold gf_Poly_Degree.f
  rw [I_len]
  exact deg_l0 m hm m.length j (Nat.le_refl _)
theorem pmul_l1 (p q : List Nat) (hq : Gm.By q) {a : Nat} (ha : a < 256) (i : Nat) (hi : i ≤ 1000) : ∀ (d k j : Nat) (out : List Nat), Gm.By out → j + d = q.length → i + q.length ≤ out.length → out.length ≤ 1000 →
    gf_Poly_Mul.l1 (k + 9 + d + 1) (I q) (I out) (i : Int) (a : Int) (I p) (p.length : Int) (i : Int) (I q) (q.length : Int) (j : Int) = gf_Poly_Mul.l0 (k + 9) (I q) (I (Gm.inn a q i d j out)) (I p) (p.length : Int) ((i + 1 : Nat) : Int) := by
  intro d
  induction d with
  | zero =>
    intro k j out ho hj hl hb
    have c1 : ¬ (j : Int) < (q.length : Int) := by omega
    have e1 : wrap64 ((i : Int) + 1) = ((i + 1 : Nat) : Int) := by rw [Bt.wrap_ok (by omega) (by omega)]; omega
    rw [gf_Poly_Mul.l1, if_neg c1, e1]
    rfl
  | succ d ih =>
    intro k j out ho hj hl hb
    have c1 : (j : Int) < (q.length : Int) := by omega
    have c2 : (0 : Int) ≤ (j : Int) := by omega
    have c3 : (j : Int) < ((I q).length : Int) := by rw [I_len]; omega
    have c4 : (0 : Int) ≤ ((i + j : Nat) : Int) := by omega
    have c5 : ((i + j : Nat) : Int) < ((I out).length : Int) := by rw [I_len]; omega
    have e1 : wrap64 ((j : Int) + 1) = ((j + 1 : Nat) : Int) := by rw [Bt.wrap_ok (by omega) (by omega)]; omega
    have e2 : wrap64 ((i : Int) + (j : Int)) = ((i + j : Nat) : Int) := by rw [Bt.wrap_ok (by omega) (by omega)]; omega
    have hg := Gm.gm_lt (b := Gm.co q j) ha
    have hc := Gm.co_lt ho (i + j)
    rw [show k + 9 + (d + 1) + 1 = (k + 9 + d + 1) + 1 by omega, gf_Poly_Mul.l1, if_pos c1, if_pos c2, if_pos c3, e2, if_pos c4, if_pos c5, I_rd, gmul_f ha (Gm.co_lt hq j) _ (by omega), Option.bind_some,
      I_rd, Bt.x8 hc hg, Int.toNat_natCast, I_set, e1]
    exact ih k (j + 1) _ (Gm.by_set ho _ (Gm.xor_lt8 hc hg)) (by omega) (by rw [List.length_set]; exact hl) (by rw [List.length_set]; exact hb)
theorem pmul_l0 (p q : List Nat) (hp : Gm.By p) (hq : Gm.By q) : ∀ (d k i : Nat) (out : List Nat), Gm.By out → i + d = p.length → out.length = p.length + q.length → out.length ≤ 1000 →
    gf_Poly_Mul.l0 (k + 1100 + (q.length + 2) * d + 1) (I q) (I out) (I p) (p.length : Int) (i : Int) = some (I (Gm.trim (Gm.outr p q d i out))) := by
  intro d
  induction d with
  | zero =>
    intro k i out ho hi hl hb
    have c1 : ¬ (i : Int) < (p.length : Int) := by omega
    rw [gf_Poly_Mul.l0, if_neg c1, trim_f out hb _ (by omega)]
    rfl
  | succ d ih =>
    intro k i out ho hi hl hb
    have c1 : (i : Int) < (p.length : Int) := by omega
    have c2 : (0 : Int) ≤ (i : Int) := by omega
    have c3 : (i : Int) < ((I p).length : Int) := by rw [I_len]; omega
    have ek : k + 1100 + (q.length + 2) * (d + 1) = (k + 1091 + (q.length + 2) * d + 1) + 9 + q.length + 1 := by rw [Nat.mul_succ]; omega
    have ek2 : (k + 1091 + (q.length + 2) * d + 1) + 9 = k + 1100 + (q.length + 2) * d + 1 := by omega
    have el : ((I q).length : Int) = (q.length : Int) := by rw [I_len]
    rw [gf_Poly_Mul.l0, if_pos c1, if_pos c2, if_pos c3, I_rd, ek, el]
    refine Eq.trans (pmul_l1 p q hq (Gm.co_lt hp i) i (by omega) q.length _ 0 out ho (by omega) (by omega) hb) ?_
    rw [ek2]
    exact ih k (i + 1) _ (Gm.by_inn (Gm.co_lt hp i) q i _ _ _ ho) (by omega) (by rw [Gm.inn_len]; exact hl) (by rw [Gm.inn_len]; exact hb)
theorem pmul_f (p q : List Nat) (hp : Gm.By p) (hq : Gm.By q) (h1 : p.length ≤ 100) (h2 : q.length ≤ 100) (k : Nat) (hk : 20000 ≤ k) : gf_Poly_Mul.f k (I p) (I q) = some (I (Gm.mul p q)) := by
  have e1 : wrap64 (((I p).length : Int) + ((I q).length : Int)) = ((p.length + q.length : Nat) : Int) := by rw [I_len, I_len, Bt.wrap_ok (by omega) (by omega)]; omega
  have c1 : (0 : Int) ≤ ((p.length + q.length : Nat) : Int) := by omega
  have c2 : (((p.length + q.length : Nat) : Int)).toNat ≤ 281474976710656 := by omega
  have hm : (q.length + 2) * p.length ≤ 102 * 100 := Nat.mul_le_mul (by omega) h1
  obtain ⟨j, hj⟩ : ∃ j, k = j + 1100 + (q.length + 2) * p.length + 1 := ⟨k - (1100 + (q.length + 2) * p.length + 1), by omega⟩
  have el : ((I p).length : Int) = (p.length : Int) := by rw [I_len]
  unfold gf_Poly_Mul.f
  rw [e1, if_pos c1, if_pos c2, Int.toNat_natCast, I_rep, el, hj]
  have := pmul_l0 p q hp hq p.length j 0 (List.replicate (p.length + q.length) 0) (Gm.by_rep _) (by omega) (by rw [List.length_replicate]) (by rw [List.length_replicate]; omega)
  rw [Gm.outr_mul] at this
  exact this
theorem padd_l0 (q : List Nat) (hq : Gm.By q) : ∀ (d k i : Nat) (out : List Nat), Gm.By out → i + d = q.length → q.length ≤ out.length → out.length ≤ 1000 →
    gf_Poly_Add.l0 (k + 1100 + d + 1) (I out) (I q) (q.length : Int) (i : Int) = some (I (Gm.trim (Gm.addr q d i out))) := by
  intro d
  induction d with
  | zero =>
    intro k i out ho hi hl hb
    have c1 : ¬ (i : Int) < (q.length : Int) := by omega
    rw [gf_Poly_Add.l0, if_neg c1, trim_f out hb _ (by omega)]
    rfl
  | succ d ih =>
    intro k i out ho hi hl hb
    have c1 : (i : Int) < (q.length : Int) := by omega
    have c2 : (0 : Int) ≤ (i : Int) := by omega
    have c3 : (i : Int) < ((I q).length : Int) := by rw [I_len]; omega
    have c4 : (i : Int) < ((I out).length : Int) := by rw [I_len]; omega
    have e1 : wrap64 ((i : Int) + 1) = ((i + 1 : Nat) : Int) := by rw [Bt.wrap_ok (by omega) (by omega)]; omega
    have hc := Gm.co_lt ho i
    have hd := Gm.co_lt hq i
    rw [show k + 1100 + (d + 1) + 1 = (k + 1100 + d + 1) + 1 by omega, gf_Poly_Add.l0, if_pos c1, if_pos c2, if_pos c3, if_pos c4, I_rd, I_rd, Bt.x8 hc hd, Int.toNat_natCast, I_set, e1]
    exact ih k (i + 1) _ (Gm.by_set ho _ (Gm.xor_lt8 hc hd)) (by omega) (by rw [List.length_set]; exact hl) (by rw [List.length_set]; exact hb)
theorem padd_f (p q : List Nat) (hp : Gm.By p) (hq : Gm.By q) (h1 : p.length ≤ 500) (h2 : q.length ≤ 500) (k : Nat) (hk : 2000 ≤ k) : gf_Poly_Add.f k (I p) (I q) = some (I (Gm.add p q)) := by
  have e1 : mx ((I p).length : Int) ((I q).length : Int) = ((max p.length q.length : Nat) : Int) := by rw [I_len, I_len]; unfold mx; split <;> omega
  have c1 : (0 : Int) ≤ ((max p.length q.length : Nat) : Int) := by omega
  have c2 : (((max p.length q.length : Nat) : Int)).toNat ≤ 281474976710656 := by omega
  obtain ⟨j, hj⟩ : ∃ j, k = j + 1100 + q.length + 1 := ⟨k - (1100 + q.length + 1), by omega⟩
  have el : ((I q).length : Int) = (q.length : Int) := by rw [I_len]
  have ec : Xc.copyL (I (List.replicate (max p.length q.length) 0)) (I p) = I (p.take (max p.length q.length) ++ (List.replicate (max p.length q.length) 0).drop p.length) := by
    unfold Xc.copyL
    rw [I_len, I_len, I_take, I_drop, I_append, List.length_replicate]
  have hL : (p.take (max p.length q.length) ++ (List.replicate (max p.length q.length) 0).drop p.length).length = max p.length q.length := by
    rw [List.length_append, List.length_take, List.length_drop, List.length_replicate]; omega
  have hco : ∀ i, Gm.co (p.take (max p.length q.length) ++ (List.replicate (max p.length q.length) 0).drop p.length) i = Gm.co p i := by
    intro i
    rw [List.take_of_length_le (Nat.le_max_left _ _), Gm.co_append, List.drop_replicate, Gm.co_rep]
    split
    · rfl
    · rw [Gm.co_out (by omega)]
  unfold gf_Poly_Add.f
  rw [e1, if_pos c1, if_pos c2, Int.toNat_natCast, I_rep, el, ec, hj]
  have := padd_l0 q hq q.length j 0 _ (Gm.by_of_co (fun i => by rw [hco i]; exact Gm.co_lt hp i)) (by omega) (by rw [hL]; omega) (by rw [hL]; omega)
  rw [Gm.addr_add hL hco] at this
  exact this
/-! the number at a number -/
theorem at_l0 (p : List Nat) (hp : Gm.By p) (hl : p.length ≤ 1000) {x : Nat} (hx : x < 256) : ∀ (n k out : Nat), out < 256 → n ≤ p.length →
    gf_Poly_At.l0 (k + 9 + n + 1) (I p) (x : Int) (out : Int) ((n : Int) - 1) = some ((Gm.hr p x n out : Nat) : Int) := by
  intro n
  induction n with
  | zero =>
    intro k out ho hn
    have c1 : ¬ (((0 : Nat) : Int) - 1) ≥ 0 := by omega
    rw [gf_Poly_At.l0, if_neg c1]
    rfl
  | succ n ih =>
    intro k out ho hn
    have c1 : (((n + 1 : Nat) : Int) - 1) ≥ 0 := by omega
    have e0 : ((n + 1 : Nat) : Int) - 1 = (n : Int) := by omega
    have c2 : (0 : Int) ≤ (n : Int) := by omega
    have c3 : (n : Int) < ((I p).length : Int) := by rw [I_len]; omega
    have e1 : wrap64 ((n : Int) - 1) = (n : Int) - 1 := Bt.wrap_ok (by omega) (by omega)
    have hg := Gm.gm_lt (b := x) ho
    have hc := Gm.co_lt hp n
    rw [show k + 9 + (n + 1) + 1 = (k + 9 + n + 1) + 1 by omega, gf_Poly_At.l0, if_pos c1, e0, gmul_f ho hx _ (by omega), Option.bind_some, if_pos c2, if_pos c3, I_rd, Bt.x8 hg hc, e1]
    exact ih k _ (Gm.xor_lt8 hg hc) (by omega)
theorem at_f (p : List Nat) (hp : Gm.By p) (hl : p.length ≤ 1000) {x : Nat} (hx : x < 256) (k : Nat) (hk : 1100 ≤ k) : gf_Poly_At.f k (I p) (x : Int) = some ((Gm.ev p x : Nat) : Int) := by
  obtain ⟨j, rfl⟩ : ∃ j, k = j + 9 + p.length + 1 := ⟨k - (9 + p.length + 1), by omega⟩
  have e1 : wrap64 (((I p).length : Int) - 1) = (p.length : Int) - 1 := by rw [I_len]; exact Bt.wrap_ok (by omega) (by omega)
  have h := at_l0 p hp hl hx p.length j 0 (by decide) (Nat.le_refl _)
  rw [Gm.hr_eq hp hx _ _ (by decide), Gm.gm_zero_l, Nat.zero_xor] at h
  unfold gf_Poly_At.f
  rw [e1]
  exact h
theorem times_l0 (p : List Nat) (hp : Gm.By p) (hl : p.length ≤ 1000) {a : Nat} (ha : a < 256) : ∀ (d k i : Nat) (out : List Nat), Gm.By out → i + d = p.length → out.length = p.length →
    gf_Poly_Times.l0 (k + 1100 + d + 1) (a : Int) (I out) (I p) (p.length : Int) (i : Int) = some (I (Gm.trim (Gm.fill (fun i => Gm.gm a (Gm.co p i)) d i out))) := by
  intro d
  induction d with
  | zero =>
    intro k i out ho hi hb
    have c1 : ¬ (i : Int) < (p.length : Int) := by omega
    rw [gf_Poly_Times.l0, if_neg c1, trim_f out (by omega) _ (by omega)]
    rfl
  | succ d ih =>
    intro k i out ho hi hb
    have c1 : (i : Int) < (p.length : Int) := by omega
    have c2 : (0 : Int) ≤ (i : Int) := by omega
    have c3 : (i : Int) < ((I p).length : Int) := by rw [I_len]; omega
    have c4 : (i : Int) < ((I out).length : Int) := by rw [I_len]; omega
    have e1 : wrap64 ((i : Int) + 1) = ((i + 1 : Nat) : Int) := by rw [Bt.wrap_ok (by omega) (by omega)]; omega
    rw [show k + 1100 + (d + 1) + 1 = (k + 1100 + d + 1) + 1 by omega, gf_Poly_Times.l0, if_pos c1, if_pos c2, if_pos c3, I_rd, gmul_f ha (Gm.co_lt hp i) _ (by omega), Option.bind_some, if_pos c4, Int.toNat_natCast, I_set, e1]
    exact ih k (i + 1) _ (Gm.by_set ho _ (Gm.gm_lt ha)) (by omega) (by rw [List.length_set]; exact hb)
theorem times_f (p : List Nat) (hp : Gm.By p) (hl : p.length ≤ 500) {a : Nat} (ha : a < 256) (k : Nat) (hk : 2000 ≤ k) : gf_Poly_Times.f k (I p) (a : Int) = some (I (Gm.times p a)) := by
  obtain ⟨j, hj⟩ : ∃ j, k = j + 1100 + p.length + 1 := ⟨k - (1100 + p.length + 1), by omega⟩
  have c1 : (0 : Int) ≤ ((I p).length : Int) := by omega
  have c2 : (((I p).length : Int)).toNat ≤ 281474976710656 := by rw [I_len]; omega
  have e1 : (((I p).length : Int)).toNat = p.length := by rw [I_len]; omega
  have e2 : ((I p).length : Int) = (p.length : Int) := by rw [I_len]
  have h := times_l0 p hp (by omega) ha p.length j 0 (List.replicate p.length 0) (Gm.by_rep _) (by omega) (by rw [List.length_replicate])
  rw [Gm.fill_times] at h
  unfold gf_Poly_Times.f
  rw [if_pos c1, if_pos c2, e1, e2, I_rep, hj]
  exact h
theorem shift_f (p : List Nat) (hl : p.length ≤ 500) (n : Nat) (hn : n ≤ 400) (k : Nat) (hk : 2000 ≤ k) : gf_Poly_Shift.f k (I p) (n : Int) = some (I (Gm.shift p n)) := by
  have e : mx (n : Int) 0 = (n : Int) := by unfold mx; split <;> omega
  have c1 : (0 : Int) ≤ (n : Int) := by omega
  have c2 : ((n : Int)).toNat ≤ 281474976710656 := by omega
  have c3 : (I (List.replicate n 0)).length + (I p).length < 140737488355328 := by rw [I_len, I_len, List.length_replicate]; omega
  unfold gf_Poly_Shift.f
  rw [e, if_pos c1, if_pos c2, Int.toNat_natCast, I_rep, Option.bind_some, if_pos c3, I_append, trim_f _ (by rw [List.length_append, List.length_replicate]; omega) _ (by omega), Gm.rep_shift]
  rfl
theorem mul_len (a b : List Nat) : (Gm.mul a b).length = Gm.tlen (Gm.mul a b) := by
  have h : Gm.mul a b = Gm.trim (Gm.mkL (a.length + b.length) (Gm.pr a b)) := rfl
  rw [h, Gm.trim_len, Gm.tlen_trim]
theorem add_len (a b : List Nat) : (Gm.add a b).length = Gm.tlen (Gm.add a b) := by
  have h : Gm.add a b = Gm.trim (Gm.mkL (max a.length b.length) (fun i => Gm.co a i ^^^ Gm.co b i)) := rfl
  rw [h, Gm.trim_len, Gm.tlen_trim]
theorem times_len (p : List Nat) (a : Nat) : (Gm.times p a).length ≤ p.length := by
  unfold Gm.times
  rw [Gm.trim_len]
  have := Gm.tlen_le (Gm.mkL p.length (fun i => Gm.gm a (Gm.co p i)))
  rwa [Gm.mkL_len] at this
theorem shift_len (p : List Nat) (n : Nat) : (Gm.shift p n).length ≤ n + p.length := by
  unfold Gm.shift
  rw [Gm.trim_len]
  have := Gm.tlen_le (Gm.mkL (n + p.length) (fun i => if i < n then 0 else Gm.co p (i - n)))
  rwa [Gm.mkL_len] at this
/-- What is left of a list by another one that has no nought at its end. -/
def Left (q out r : List Nat) : Prop := Gm.By r ∧ r.length = Gm.tlen r ∧ r.length < q.length ∧ ∀ x, x < 256 → Gm.ev q x = 0 → Gm.ev r x = Gm.ev out x
theorem mod_l0 (q : List Nat) (hq : Gm.By q) (lq : q.length ≤ 100) (hq0 : q.length ≠ 0) (hqt : Gm.co q (q.length - 1) ≠ 0) : ∀ (N k : Nat) (out : List Nat), Gm.By out → out.length ≤ N → N ≤ 100 → out.length = Gm.tlen out →
    ∃ r, gf_Poly_Mod.l0 (k + 2000 + N + 1) (I q) (I out) ((Gm.gp (Gm.co q (q.length - 1)) 254 : Nat) : Int) = some (I r) ∧ Left q out r := by
  intro N
  have htop := Gm.gp_lt (Gm.co_lt hq (q.length - 1)) 254
  induction N with
  | zero =>
    intro k out ho hl hN ht
    have c1 : ¬ ((I out).length : Int) ≥ ((I q).length : Int) := by rw [I_len, I_len]; omega
    refine ⟨out, ?_, ho, ht, by omega, fun x _ _ => rfl⟩
    rw [gf_Poly_Mod.l0, if_neg c1]
  | succ N ih =>
    intro k out ho hl hN ht
    by_cases h : out.length < q.length
    · have c1 : ¬ ((I out).length : Int) ≥ ((I q).length : Int) := by rw [I_len, I_len]; omega
      refine ⟨out, ?_, ho, ht, h, fun x _ _ => rfl⟩
      rw [gf_Poly_Mod.l0, if_neg c1]
    · have c1 : ((I out).length : Int) ≥ ((I q).length : Int) := by rw [I_len, I_len]; omega
      have c2 : (0 : Int) ≤ ((out.length - 1 : Nat) : Int) := by omega
      have c3 : ((out.length - 1 : Nat) : Int) < ((I out).length : Int) := by rw [I_len]; omega
      have e1 : wrap64 (((I out).length : Int) - 1) = ((out.length - 1 : Nat) : Int) := by rw [I_len, Bt.wrap_ok (by omega) (by omega)]; omega
      have e2 : wrap64 (((I out).length : Int) - ((I q).length : Int)) = ((out.length - q.length : Nat) : Int) := by rw [I_len, I_len, Bt.wrap_ok (by omega) (by omega)]; omega
      obtain ⟨a, hae⟩ : ∃ a, a = Gm.gm (Gm.co out (out.length - 1)) (Gm.gp (Gm.co q (q.length - 1)) 254) := ⟨_, rfl⟩
      have hco := Gm.co_lt ho (out.length - 1)
      have ha : a < 256 := by rw [hae]; exact Gm.gm_lt hco
      have hms := Gm.mod_step hq ho hq0 hqt (by omega)
      rw [← hae] at hms
      obtain ⟨nx, hnx⟩ : ∃ nx, nx = Gm.add out (Gm.shift (Gm.times q a) (out.length - q.length)) := ⟨_, rfl⟩
      have hbn : Gm.By nx := by rw [hnx]; exact Gm.by_add ho (Gm.by_shift (Gm.by_times ha) _)
      have hln : nx.length = Gm.tlen nx := by rw [hnx]; exact add_len _ _
      rw [← hnx] at hms
      have lt1 := times_len q a
      have ls1 := shift_len (Gm.times q a) (out.length - q.length)
      have n1 : q.length ≤ 500 := by omega
      have n2 : (Gm.times q a).length ≤ 500 := by omega
      have n3 : out.length - q.length ≤ 400 := by omega
      have n4 : out.length ≤ 500 := by omega
      have n5 : (Gm.shift (Gm.times q a) (out.length - q.length)).length ≤ 500 := by omega
      have f1 : 9 ≤ k + 2000 + N + 1 := by omega
      have f2 : 2000 ≤ k + 2000 + N + 1 := by omega
      obtain ⟨r, hr, h1, h2, h3, h4⟩ := ih k nx hbn (by omega) (by omega) hln
      refine ⟨r, ?_, h1, h2, h3, fun x hx h0 => ?_⟩
      · rw [show k + 2000 + (N + 1) + 1 = (k + 2000 + N + 1) + 1 by omega, gf_Poly_Mod.l0, if_pos c1, e1, if_pos c2, if_pos c3, I_rd, gmul_f hco htop _ f1, Option.bind_some, ← hae, times_f q hq n1 ha _ f2, Option.bind_some, e2,
          shift_f _ n2 _ n3 _ f2, Option.bind_some, padd_f out _ ho (Gm.by_shift (Gm.by_times ha) _) n4 n5 _ f2, Option.bind_some, ← hnx]
        exact hr
      · rw [h4 x hx h0, hnx, Gm.mod_ev hq ho _ ha hx h0]
theorem trim_self {q : List Nat} (h : q.length = Gm.tlen q) : Gm.trim q = q := by
  unfold Gm.trim
  rw [← h, List.take_length]
theorem mod_f (p q : List Nat) (hp : Gm.By p) (lp : p.length ≤ 100) (hq : Gm.By q) (lq : q.length ≤ 100) (hqt : q.length = Gm.tlen q) (hq0 : q.length ≠ 0) (k : Nat) (hk : 3000 ≤ k) :
    ∃ r, gf_Poly_Mod.f k (I p) (I q) = some (I r) ∧ Left q p r := by
  have htop := Gm.tlen_top (l := q) (by omega)
  rw [← hqt] at htop
  have lt := Gm.tlen_le p
  obtain ⟨j, hj⟩ : ∃ j, k = j + 2000 + 100 + 1 := ⟨k - (2000 + 100 + 1), by omega⟩
  obtain ⟨r, hr, h1, h2, h3, h4⟩ := mod_l0 q hq lq hq0 htop 100 j (Gm.trim p) (Gm.by_trim hp) (by rw [Gm.trim_len]; omega) (Nat.le_refl _) (by rw [Gm.trim_len, Gm.tlen_trim])
  refine ⟨r, ?_, h1, h2, h3, fun x hx h0 => by rw [h4 x hx h0, Gm.ev_trim]⟩
  have c1 : ([] : List Int).length + (I p).length < 140737488355328 := by rw [I_len]; simp; omega
  have c2 : ¬ ((I q).length : Int) = 0 := by rw [I_len]; omega
  have c3 : (0 : Int) ≤ ((q.length - 1 : Nat) : Int) := by omega
  have c4 : ((q.length - 1 : Nat) : Int) < ((I q).length : Int) := by rw [I_len]; omega
  have e1 : wrap64 (((I q).length : Int) - 1) = ((q.length - 1 : Nat) : Int) := by rw [I_len, Bt.wrap_ok (by omega) (by omega)]; omega
  have f1 : 1001 ≤ k := by omega
  have f2 : 100 ≤ k := by omega
  have n1 : q.length ≤ 1000 := by omega
  have n2 : p.length ≤ 1000 := by omega
  unfold gf_Poly_Mod.f
  rw [trim_f q n1 _ f1, Option.bind_some, trim_self hqt, Option.bind_some, if_pos c1, List.nil_append, trim_f p n2 _ f1, Option.bind_some, if_neg c2, e1, if_pos c3, if_pos c4, I_rd, ginv_f htop (Gm.co_lt hq _) _ f2, Option.bind_some, hj]
  exact hr
theorem mod_nil (p : List Nat) (lp : p.length ≤ 100) (k : Nat) (hk : 3000 ≤ k) : gf_Poly_Mod.f k (I p) ([] : List Int) = some (I (Gm.trim p)) := by
  have c1 : ([] : List Int).length + (I p).length < 140737488355328 := by rw [I_len]; simp; omega
  have f1 : 1001 ≤ k := by omega
  have n2 : p.length ≤ 1000 := by omega
  have h := trim_f [] (by decide) k f1
  unfold gf_Poly_Mod.f
  rw [show ([] : List Int) = I [] from rfl, h, Option.bind_some]
  rw [show (some (I []) : Option (List Int)) = some ([] : List Int) from rfl, Option.bind_some, if_pos c1, List.nil_append, trim_f p n2 _ f1, Option.bind_some]
  rfl
/-- The product of so many factors. -/
def Fac (roots : List Nat) (i : Nat) (q : List Nat) : Prop := Gm.By q ∧ Gm.tlen q = i + 1 ∧ q.length = i + 1 ∧ ∀ j, j < i → Gm.ev q (Gm.co roots j) = 0
theorem fac_zero (roots : List Nat) : Fac roots 0 [1] := by
  refine ⟨by intro x hx; rw [List.mem_singleton.1 hx]; decide, rfl, rfl, fun j hj => by omega⟩
theorem by_two {r : Nat} (hr : r < 256) : Gm.By [r, 1] := by
  intro x hx
  rcases List.mem_cons.1 hx with h | h
  · rw [h]; exact hr
  · rw [List.mem_singleton.1 h]; decide
theorem ev_two {r : Nat} (hr : r < 256) : Gm.ev [r, 1] r = 0 := by
  have h : Gm.ev [r, 1] r = (0 ^^^ Gm.gm r (Gm.gp r 0)) ^^^ Gm.gm 1 (Gm.gp r 1) := rfl
  rw [h, Gm.gp_zero, Gm.gm_one_r, Gm.gp_one hr, Gm.gm_one_l hr, Nat.zero_xor, Nat.xor_self]
theorem fac_succ {roots : List Nat} (hr : Gm.By roots) {i : Nat} {q : List Nat} (h : Fac roots i q) : Fac roots (i + 1) (Gm.mul q [Gm.co roots i, 1]) := by
  obtain ⟨h1, h2, h3, h4⟩ := h
  have hc := Gm.co_lt hr i
  have ht : Gm.tlen [Gm.co roots i, 1] = 1 + 1 := rfl
  have hm := Gm.tlen_mul h1 (by_two hc) h2 ht
  refine ⟨Gm.by_mul h1, hm, by rw [mul_len, hm], fun j hj => ?_⟩
  rw [Gm.ev_mul h1 (by_two hc) (Gm.co_lt hr j)]
  by_cases e : j = i
  · rw [e, ev_two hc, Gm.gm_zero_r]
  · rw [h4 j (by omega), Gm.gm_zero_l]
theorem mod_l1 (roots p q r : List Nat) (hr : Gm.By roots) (hp : Gm.By p) (lp : p.length ≤ 40) (n : Nat) (hn : n = min roots.length 6) (hf : Fac roots n q) (hl : Left q p r) : ∀ (d k i : Nat), i + d = n →
    tinderboxlaw27_GfMod.l1 (k + 3000 + 2 * d + 2) (I roots) (I p) (I q) (I r) (i : Int) = some true := by
  obtain ⟨hq1, hq2, hq3, hq4⟩ := hf
  obtain ⟨r1, r2, r3, r4⟩ := hl
  have n0 : n ≤ 6 := by omega
  have n1 : q.length ≤ 1000 := by omega
  have n2 : r.length ≤ 1000 := by omega
  have n3 : p.length ≤ 1000 := by omega
  have n4 : p.length ≤ 100 := by omega
  have n5 : p.length ≤ 500 := by omega
  have n6 : (Gm.trim p).length ≤ 500 := by rw [Gm.trim_len]; have := Gm.tlen_le p; omega
  have hz := Gm.tlen_add_self (p := Gm.trim p) (q := p) (Gm.co_trim p)
  have la : (Gm.add (Gm.trim p) p).length ≤ 1000 := by rw [add_len, hz]; decide
  have fin : ∀ k (x : Int), 3000 ≤ k → tinderboxlaw27_GfMod.j4 (k + 1) (I roots) (I p) (I q) (I r) x false = some true := by
    intro k x hk
    have f1 : 2000 ≤ k := by omega
    have f2 : 1001 ≤ k := by omega
    have d1 := deg_f _ la k f2
    rw [hz] at d1
    rw [tinderboxlaw27_GfMod.j4, if_neg (by decide), mod_nil p n4 _ hk, Option.bind_some, padd_f _ p (Gm.by_trim hp) hp n6 n5 _ f1, Option.bind_some, d1, Option.bind_some]
    rfl
  intro d
  induction d with
  | zero =>
    intro k i hi
    have f1 : 3000 ≤ k + 3000 := by omega
    rw [show k + 3000 + 2 * 0 + 2 = (k + 3000) + 1 + 1 by omega, tinderboxlaw27_GfMod.l1]
    by_cases h : i < roots.length
    · have c1 : (i : Int) < ((I roots).length : Int) := by rw [I_len]; omega
      have c2 : decide ((i : Int) < 6) = false := decide_eq_false (by omega)
      rw [if_pos c1, c2]
      exact fin _ _ f1
    · have c1 : ¬ (i : Int) < ((I roots).length : Int) := by rw [I_len]; omega
      rw [if_neg c1]
      exact fin _ _ f1
  | succ d ih =>
    intro k i hi
    have c0 : (0 : Int) ≤ (i : Int) := by omega
    have c1 : (i : Int) < ((I roots).length : Int) := by rw [I_len]; omega
    have c2 : decide ((i : Int) < 6) = true := decide_eq_true (by omega)
    have e1 : wrap64 ((i : Int) + 1) = ((i + 1 : Nat) : Int) := by rw [Bt.wrap_ok (by omega) (by omega)]; omega
    have hc := Gm.co_lt hr i
    have h0 := hq4 i (by omega)
    have f1 : 1100 ≤ k + 3000 + 2 * d + 2 := by omega
    have z0 : ((Gm.ev q (Gm.co roots i) : Nat) : Int) = 0 := by rw [h0]; rfl
    rw [show k + 3000 + 2 * (d + 1) + 2 = (k + 3000 + 2 * d + 2) + 1 + 1 by omega, tinderboxlaw27_GfMod.l1, if_pos c1, c2, tinderboxlaw27_GfMod.j4, if_pos rfl, if_pos c0, if_pos c1, I_rd, at_f q hq1 n1 hc _ f1, Option.bind_some, if_pos z0,
      at_f r r1 n2 hc _ f1, Option.bind_some, at_f p hp n3 hc _ f1, Option.bind_some, r4 _ hc h0, if_pos rfl, e1]
    exact ih k (i + 1) (by omega)
theorem mod_j1 (roots p q : List Nat) (hr : Gm.By roots) (hp : Gm.By p) (lp : p.length ≤ 40) (n : Nat) (hn : n = min roots.length 6) (hf : Fac roots n q) (k : Nat) (hk : 5000 ≤ k) : tinderboxlaw27_GfMod.j1 k (I roots) (I p) (I q) = some true := by
  have n0 : n ≤ 6 := by omega
  obtain ⟨hq1, hq2, hq3, hq4⟩ := hf
  obtain ⟨j, rfl⟩ : ∃ j, k = (j + 3000 + 2 * n + 2) + 1 + 1 := ⟨k - (3000 + 2 * n + 4), by omega⟩
  obtain ⟨r, hm, hl⟩ := mod_f p q hp (by omega) hq1 (by omega) (by omega) (by omega) ((j + 3000 + 2 * n + 2) + 1) (by omega)
  have hl' := hl
  obtain ⟨r1, r2, r3, r4⟩ := hl
  have f1 : 100 ≤ (j + 3000 + 2 * n + 2) + 1 := by omega
  have f2 : 1001 ≤ (j + 3000 + 2 * n + 2) + 1 := by omega
  have c1 : ¬ ((Gm.tlen r : Int) - 1) ≥ ((Gm.tlen q : Int) - 1) := by omega
  have d1 := deg_f r (by omega) _ f2
  have d2 := deg_f q (by omega) _ f2
  have hj2 : tinderboxlaw27_GfMod.j2 ((j + 3000 + 2 * n + 2) + 1) (I roots) (I p) (I q) (I r) false = some true := by
    rw [tinderboxlaw27_GfMod.j2, if_neg (by decide)]
    exact mod_l1 roots p q r hr hp lp n hn ⟨hq1, hq2, hq3, hq4⟩ hl' n j 0 (by omega)
  rw [tinderboxlaw27_GfMod.j1, hm, Option.bind_some, awake_f _ f1, Option.bind_some, if_pos rfl, d1, Option.bind_some, d2, Option.bind_some, if_neg c1]
  by_cases h : n = 0
  · have z : ((I r).length : Int) = 0 := by rw [I_len]; omega
    rw [if_pos (by omega), z]
    exact hj2
  · rw [if_neg (by omega)]
    exact hj2
theorem mod_facs (roots p : List Nat) (hr : Gm.By roots) (hp : Gm.By p) (lp : p.length ≤ 40) (n : Nat) (hn : n = min roots.length 6) : ∀ (d k i : Nat) (q : List Nat), i + d = n → Fac roots i q →
    tinderboxlaw27_GfMod.l0 (k + 20000 + d + 1) (I roots) (I p) (I q) (i : Int) = some true := by
  intro d
  induction d with
  | zero =>
    intro k i q hi hf
    obtain rfl : i = n := by omega
    have hj := mod_j1 roots p q hr hp lp i hn hf (k + 20000 + 0) (by omega)
    rw [tinderboxlaw27_GfMod.l0]
    by_cases h : i < roots.length
    · have c1 : (i : Int) < ((I roots).length : Int) := by rw [I_len]; omega
      have c2 : ¬ (i : Int) < 6 := by omega
      rw [if_pos c1, if_neg c2]
      exact hj
    · have c1 : ¬ (i : Int) < ((I roots).length : Int) := by rw [I_len]; omega
      rw [if_neg c1]
      exact hj
  | succ d ih =>
    intro k i q hi hf
    have c0 : (0 : Int) ≤ (i : Int) := by omega
    have c1 : (i : Int) < ((I roots).length : Int) := by rw [I_len]; omega
    have c2 : (i : Int) < 6 := by omega
    have e1 : wrap64 ((i : Int) + 1) = ((i + 1 : Nat) : Int) := by rw [Bt.wrap_ok (by omega) (by omega)]; omega
    have hc := Gm.co_lt hr i
    have n1 : q.length ≤ 100 := by rw [hf.2.2.1]; omega
    have f1 : 20000 ≤ k + 20000 + d + 1 := by omega
    have e2 : ([((Gm.co roots i : Nat) : Int), 1] : List Int) = I [Gm.co roots i, 1] := rfl
    rw [show k + 20000 + (d + 1) + 1 = (k + 20000 + d + 1) + 1 by omega, tinderboxlaw27_GfMod.l0, if_pos c1, if_pos c2, if_pos c0, I_rd, e2, pmul_f q _ hf.1 (by_two hc) n1 (show 2 ≤ 100 by decide) _ f1, Option.bind_some, e1]
    exact ih k (i + 1) _ (by omega) (fac_succ hr hf)
theorem GfMod : tinderboxlaw27_GfMod.Pure := by
  intro l0 l1 _ _ h0 _ _ h1
  obtain ⟨m, rfl, hm⟩ := I_of l0 h0
  obtain ⟨roots, rfl, hr⟩ := I_of l1 h1
  have hp := Gm.by_take hm 40
  have lp : (m.take 40).length ≤ 40 := by rw [List.length_take]; omega
  refine ⟨0 + 20000 + (min roots.length 6) + 1, ?_⟩
  unfold tinderboxlaw27_GfMod.f
  rw [few_f, Option.bind_some]
  exact mod_facs roots (m.take 40) hr hp lp _ rfl (min roots.length 6) 0 0 [1] (by omega) (fac_zero roots)
end Go.Proofs.Ytpidfledopnhpaa.Pure
