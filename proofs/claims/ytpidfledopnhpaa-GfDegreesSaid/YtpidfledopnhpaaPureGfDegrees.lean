/- The degree of a product is the sum of both degrees, that of a sum is not above both; what is trimmed has no nought at its end and is the same. For every input. -/
import Derived.Test.YtpidfledopnhpaaXGfDegreesx1
import Derived.Test.YtpidfledopnhpaaXGfDegreesx2
import Derived.Test.YtpidfledopnhpaaXGfDegreesx3
import Derived.Test.YtpidfledopnhpaaMBits
import Derived.Test.YtpidfledopnhpaaXCopy
import Derived.Test.YtpidfledopnhpaaGfPoly
namespace Go.Proofs.Ytpidfledopnhpaa.Pure
open Go.RowKit Go.Proofs.Ytpidfledopnhpaa Go.Proofs.Ytpidfledopnhpaa.XGfDegrees Go.Proofs.YtpidfledopnhpaaW.PrintWords Go.Proofs.YtpidfledopnhpaaW.PrintLast Go.Proofs.YtpidfledopnhpaaW.PrintMore
set_option linter.unusedVariables false
set_option linter.unusedSimpArgs false
/-! products and powers -/
theorem gmul_l0 : ∀ (d : Nat) (k n x m : Nat), n < 256 → x < 256 → m < 2 ^ d → d ≤ 8 →
    gf_Mul.l0 (k + d + 1) (n : Int) (x : Int) (m : Int) = some ((Gm.mulN d m x n : Nat) : Int) := by
  intro d
  induction d with
  | zero =>
    intro k n x m hn hx hm hd
    obtain rfl : m = 0 := by simpa using hm
    rw [gf_Mul.l0, if_neg (by omega)]
    show some ((n : Int) % 256) = some (n : Int)
    rw [Int.emod_eq_of_lt (by omega) (by omega)]
  | succ d ih =>
    intro k n x m hn hx hm hd
    have hm2 : 2 ^ (d + 1) ≤ 256 := Nat.pow_le_pow_right (by decide) (by omega : d + 1 ≤ 8)
    have hxt := Gm.xt_lt hx
    have hxx := Gm.xor_lt8 hn hx
    have hmd : m / 2 < 2 ^ d := by rw [Nat.pow_succ] at hm; omega
    have e2 : (m : Int) / 2 = ((m / 2 : Nat) : Int) := by omega
    have ex : wrap64 ((x : Int) * 2) = ((2 * x : Nat) : Int) := by rw [Bt.wrap_ok (by omega) (by omega)]; omega
    have hz : Gm.mulN (d + 1) m x n = Gm.mulN d (m / 2) (Gm.xt x) (if m % 2 = 1 then n ^^^ x else n) := rfl
    have hxe : ∀ r, (if ((2 * x : Nat) : Int) > 255 then gf_Mul.l0 (k + d + 1) r (Go.bits .xor .i64 ((2 * x : Nat) : Int) 285) ((m / 2 : Nat) : Int) else gf_Mul.l0 (k + d + 1) r ((2 * x : Nat) : Int) ((m / 2 : Nat) : Int)) = gf_Mul.l0 (k + d + 1) r ((Gm.xt x : Nat) : Int) ((m / 2 : Nat) : Int) := by
      intro r
      by_cases h : 255 < 2 * x
      · rw [if_pos (by omega), show (285 : Int) = ((285 : Nat) : Int) from rfl, Bt.x64 (by omega) (by decide)]
        unfold Gm.xt
        rw [if_pos h]
      · rw [if_neg (by omega)]
        unfold Gm.xt
        rw [if_neg h]
    rw [show k + (d + 1) + 1 = (k + d + 1) + 1 by omega, gf_Mul.l0, ex, e2, hxe, hxe, hz]
    by_cases h0 : m = 0
    · subst h0
      rw [if_neg (by omega)]
      simp only [Nat.zero_div, Nat.zero_mod]
      rw [if_neg (by decide), Gm.mulN_zero_b, Int.emod_eq_of_lt (by omega) (by omega)]
    · rw [if_pos (by omega), Bt.and1_8 (by omega)]
      by_cases h : m % 2 = 1
      · rw [if_pos (by omega), Bt.x64 (by omega) (by omega), ih k _ _ _ hxx hxt hmd (by omega), if_pos h]
      · rw [if_neg (by omega), ih k _ _ _ hn hxt hmd (by omega), if_neg h]
theorem gmul_f {a b : Nat} (ha : a < 256) (hb : b < 256) (k : Nat) (hk : 9 ≤ k) : gf_Mul.f k (a : Int) (b : Int) = some ((Gm.gm a b : Nat) : Int) := by
  obtain ⟨j, rfl⟩ : ∃ j, k = j + 8 + 1 := ⟨k - 9, by omega⟩
  unfold gf_Mul.f
  rw [Bt.wrap_ok (by omega) (by omega)]
  exact gmul_l0 8 j 0 a b (by decide) ha hb (by decide)
theorem gpow_l0 : ∀ (d : Nat) (k x o m : Nat), x < 256 → o < 256 → m < 2 ^ d → d ≤ 60 →
    gf_Pow.l0 (k + 9 + d + 1) (x : Int) (o : Int) (m : Int) = some ((Gm.pw d x o m : Nat) : Int) := by
  intro d
  induction d with
  | zero =>
    intro k x o m hx ho hm hd
    obtain rfl : m = 0 := by simpa using hm
    rw [gf_Pow.l0, if_neg (by omega)]
    rfl
  | succ d ih =>
    intro k x o m hx ho hm hd
    have hm2 : 2 ^ (d + 1) ≤ 2 ^ 61 := Nat.pow_le_pow_right (by decide) (by omega)
    have hmd : m / 2 < 2 ^ d := by rw [Nat.pow_succ] at hm; omega
    have e2 : (m : Int) / 2 = ((m / 2 : Nat) : Int) := by omega
    have hz : Gm.pw (d + 1) x o m = if m = 0 then o else Gm.pw d (Gm.gm x x) (if m % 2 = 1 then Gm.gm o x else o) (m / 2) := rfl
    rw [show k + 9 + (d + 1) + 1 = (k + 9 + d + 1) + 1 by omega, gf_Pow.l0, e2, hz]
    by_cases h0 : m = 0
    · rw [if_neg (by omega), if_pos h0]
    · rw [if_pos (by omega), if_neg h0, Bt.and1_64 (by omega)]
      by_cases h : m % 2 = 1
      · rw [if_pos (by omega), gmul_f ho hx _ (by omega), Option.bind_some, gmul_f hx hx _ (by omega), Option.bind_some, ih k _ _ _ (Gm.gm_lt hx) (Gm.gm_lt ho) hmd (by omega), if_pos h]
      · rw [if_neg (by omega), gmul_f hx hx _ (by omega), Option.bind_some, ih k _ _ _ (Gm.gm_lt hx) ho hmd (by omega), if_neg h]
/-- A power of what is not nought: by what is left of its number by 255. -/
theorem gpow_f {a : Nat} (h0 : a ≠ 0) (ha : a < 256) (n : Int) (hn : -9223372036854775808 ≤ n) (hn' : n ≤ 9223372036854775807) (k : Nat) (hk : 100 ≤ k) :
    gf_Pow.f k (a : Int) n = some ((Gm.gp a (n % 255).toNat : Nat) : Int) := by
  obtain ⟨j, rfl⟩ : ∃ j, k = j + 9 + 8 + 1 := ⟨k - 18, by omega⟩
  unfold gf_Pow.f
  rw [if_neg (by omega)]
  obtain ⟨m, hm⟩ : ∃ m : Nat, (Int.tmod (wrap64 ((Int.tmod n 255) + 255)) 255) = (m : Int) ∧ m = (n % 255).toNat := by
    have ht : Int.tmod n 255 = if 0 ≤ n ∨ n % 255 = 0 then n % 255 else n % 255 - 255 := by
      rw [Int.tmod_eq_emod]
      by_cases h1 : 0 ≤ n ∨ (255 : Int) ∣ n
      · rw [if_pos h1, if_pos (by omega)]; omega
      · rw [if_neg h1, if_neg (by omega)]; omega
    have hb : 0 ≤ Int.tmod n 255 + 255 ∧ Int.tmod n 255 + 255 < 510 := by rw [ht]; split <;> omega
    refine ⟨(n % 255).toNat, ?_, rfl⟩
    rw [Bt.wrap_ok (by omega) (by omega), Int.tmod_eq_emod_of_nonneg hb.1, ht]
    split <;> omega
  rw [hm.1, show (1 : Int) = ((1 : Nat) : Int) from rfl, gpow_l0 8 j a 1 m ha (by decide) (by omega) (by decide), Gm.pw_eq 8 a 1 m ha (by decide) (by omega), Gm.gm_one_l (Gm.gp_lt ha _), hm.2]
theorem ginv_f {a : Nat} (h0 : a ≠ 0) (ha : a < 256) (k : Nat) (hk : 100 ≤ k) : gf_Inv.f k (a : Int) = some ((Gm.gp a 254 : Nat) : Int) := by
  unfold gf_Inv.f
  rw [if_neg (by omega), gpow_f h0 ha (-1) (by decide) (by decide) k hk]
  rfl
theorem gdeg_awake (k : Nat) (hk : 100 ≤ k) : gf_Poly_Degree.f k ([0, 1] : List Int) = some 1 := by
  obtain ⟨j, rfl⟩ : ∃ j, k = j + 1 := ⟨k - 1, by omega⟩
  unfold gf_Poly_Degree.f
  have e2 : (([0, 1] : List Int).length : Int) = 2 := rfl
  rw [gf_Poly_Degree.l0, e2, Bt.wrap_ok (by decide) (by decide), if_pos (by decide), if_pos (by decide), if_pos (by decide), if_neg (by decide)]
  rfl
theorem awake_f (k : Nat) (hk : 100 ≤ k) : tinderboxlaw27_awake.f k = some true := by
  have hp : Gm.gp 1 254 = 1 := by
    obtain ⟨m, hm⟩ : ∃ m, m = 254 := ⟨_, rfl⟩
    rw [← hm]
    clear hm hk
    induction m with
    | zero => rfl
    | succ m ih => rw [Gm.gp_succ, ih, Gm.gm_one_r]
  unfold tinderboxlaw27_awake.f
  rw [show (2 : Int) = ((2 : Nat) : Int) from rfl, show (128 : Int) = ((128 : Nat) : Int) from rfl, gmul_f (by decide) (by decide) k (by omega), Option.bind_some,
    show Gm.gm 2 128 = 29 from by decide +kernel, if_pos (show ((29 : Nat) : Int) = 29 from rfl), show (1 : Int) = ((1 : Nat) : Int) from rfl, ginv_f (by decide) (by decide) k hk, Option.bind_some,
    hp, if_pos rfl]
  have := gdeg_awake k hk
  rw [show ([0, ((1 : Nat) : Int)] : List Int) = [0, 1] from rfl, this]
  rfl
/-! lists of bytes -/
def I (l : List Nat) : List Int := l.map (fun (n : Nat) => (n : Int))
theorem I_len (l : List Nat) : (I l).length = l.length := by unfold I; rw [List.length_map]
theorem I_rd (l : List Nat) (i : Nat) : rd (I l) (i : Int) = ((Gm.co l i : Nat) : Int) := by
  unfold rd I Gm.co
  simp only [Int.toNat_natCast, List.getD_eq_getElem?_getD, List.getElem?_map]
  cases l[i]? <;> rfl
theorem I_set (l : List Nat) (i x : Nat) : (I l).set i (x : Int) = I (l.set i x) := by unfold I; rw [List.map_set]
theorem I_take (l : List Nat) (n : Nat) : (I l).take n = I (l.take n) := by unfold I; rw [List.map_take]
theorem I_drop (l : List Nat) (n : Nat) : (I l).drop n = I (l.drop n) := by unfold I; rw [List.map_drop]
theorem I_append (l m : List Nat) : I l ++ I m = I (l ++ m) := by unfold I; rw [List.map_append]
theorem I_rep (n : Nat) : List.replicate n (0 : Int) = I (List.replicate n 0) := by unfold I; rw [List.map_replicate]; rfl
theorem I_of (l : List Int) (h : ∀ x ∈ l, (Lit.int .u8 x).wf = true) : ∃ m : List Nat, l = I m ∧ Gm.By m := by
  refine ⟨l.map Int.toNat, ?_, ?_⟩
  · unfold I
    rw [List.map_map]
    apply List.ext_getElem (by rw [List.length_map])
    intro i h1 h2
    rw [List.getElem_map]
    have := Bt.wf_u8 (h _ (List.getElem_mem h1))
    show l[i] = ((l[i].toNat : Nat) : Int)
    omega
  · intro x hx
    obtain ⟨y, hy, rfl⟩ := List.mem_map.1 hx
    have := Bt.wf_u8 (h _ hy)
    omega
theorem few_f (m : List Nat) : tinderboxlaw27_few.f (I m) = some (I (m.take 40)) := by
  have e : mn ((I m).length : Int) 40 = ((min m.length 40 : Nat) : Int) := by rw [I_len]; unfold mn; split <;> omega
  have c1 : (0 : Int) ≤ ((min m.length 40 : Nat) : Int) := by omega
  have c2 : ((min m.length 40 : Nat) : Int) ≤ ((I m).length : Int) := by rw [I_len]; omega
  have c3 : ([] : List Int).length + ((I m).take (((min m.length 40 : Nat) : Int)).toNat).length < 140737488355328 := by rw [List.length_take]; simp; omega
  unfold tinderboxlaw27_few.f
  rw [e, Option.bind_some, if_pos c1, if_pos c2, if_pos c3, List.nil_append, Int.toNat_natCast, I_take]
  by_cases h : m.length ≤ 40
  · rw [List.take_of_length_le (i := 40) h, List.take_of_length_le (by omega)]
  · rw [show min m.length 40 = 40 by omega]
theorem fin_f (m : List Nat) (n : Nat) (hm : m.length ≤ 1000) (hn : n ≤ m.length) :
    ((some (([] : List Int) : List Int)).bind fun y => (if 0 ≤ (n : Int) then (if (n : Int) ≤ ((I m).length : Int) then (if y.length + ((I m).take ((n : Int) : Int).toNat).length < 140737488355328 then (some (y ++ ((I m).take ((n : Int) : Int).toNat))) else (none)) else (none)) else (none))) = some (I (m.take n)) := by
  have c1 : (0 : Int) ≤ (n : Int) := by omega
  have c2 : (n : Int) ≤ ((I m).length : Int) := by rw [I_len]; omega
  have c3 : ([] : List Int).length + ((I m).take ((n : Int) : Int).toNat).length < 140737488355328 := by rw [List.length_take]; simp; omega
  rw [Option.bind_some, if_pos c1, if_pos c2, if_pos c3, List.nil_append, Int.toNat_natCast, I_take]
theorem trim_l0 (m : List Nat) (hm : m.length ≤ 1000) : ∀ (n k : Nat), n ≤ m.length → gf_Poly_Trim.l0 (k + n + 1) (I m) (n : Int) = some (I (m.take (Gm.tl m n))) := by
  intro n
  induction n with
  | zero =>
    intro k hn
    have c1 : ¬ ((0 : Nat) : Int) > 0 := by omega
    rw [gf_Poly_Trim.l0, if_neg c1]
    exact fin_f m 0 hm hn
  | succ n ih =>
    intro k hn
    have c1 : ((n + 1 : Nat) : Int) > 0 := by omega
    have c2 : (0 : Int) ≤ (n : Int) := by omega
    have c3 : (n : Int) < ((I m).length : Int) := by rw [I_len]; omega
    have e1 : wrap64 (((n + 1 : Nat) : Int) - 1) = (n : Int) := by rw [Bt.wrap_ok (by omega) (by omega)]; omega
    rw [show k + (n + 1) + 1 = (k + n + 1) + 1 by omega, gf_Poly_Trim.l0, if_pos c1, e1, if_pos c2, if_pos c3, I_rd]
    have hz : Gm.tl m (n + 1) = if Gm.co m n = 0 then Gm.tl m n else n + 1 := rfl
    rw [hz]
    by_cases h : Gm.co m n = 0
    · rw [if_pos h, if_pos (by rw [h]; rfl), ih k (by omega)]
    · rw [if_neg h, if_neg (by omega)]
      exact fin_f m (n + 1) hm hn
theorem trim_f (m : List Nat) (hm : m.length ≤ 1000) (k : Nat) (hk : 1001 ≤ k) : gf_Poly_Trim.f k (I m) = some (I (Gm.trim m)) := by
  obtain ⟨j, rfl⟩ : ∃ j, k = j + m.length + 1 := ⟨k - (m.length + 1), by omega⟩
  unfold gf_Poly_Trim.f
  rw [I_len]
  exact trim_l0 m hm m.length j (Nat.le_refl _)
theorem deg_l0 (m : List Nat) (hm : m.length ≤ 1000) : ∀ (n k : Nat), n ≤ m.length → gf_Poly_Degree.l0 (k + n + 1) (I m) (n : Int) = some ((Gm.tl m n : Int) - 1) := by
  intro n
  induction n with
  | zero =>
    intro k hn
    have c1 : ¬ ((0 : Nat) : Int) > 0 := by omega
    rw [gf_Poly_Degree.l0, if_neg c1, Bt.wrap_ok (by omega) (by omega)]
    rfl
  | succ n ih =>
    intro k hn
    have c1 : ((n + 1 : Nat) : Int) > 0 := by omega
    have c2 : (0 : Int) ≤ (n : Int) := by omega
    have c3 : (n : Int) < ((I m).length : Int) := by rw [I_len]; omega
    have e1 : wrap64 (((n + 1 : Nat) : Int) - 1) = (n : Int) := by rw [Bt.wrap_ok (by omega) (by omega)]; omega
    rw [show k + (n + 1) + 1 = (k + n + 1) + 1 by omega, gf_Poly_Degree.l0, if_pos c1, e1, if_pos c2, if_pos c3, I_rd]
    have hz : Gm.tl m (n + 1) = if Gm.co m n = 0 then Gm.tl m n else n + 1 := rfl
    rw [hz]
    by_cases h : Gm.co m n = 0
    · rw [if_pos h, if_pos (by rw [h]; rfl), ih k (by omega)]
    · rw [if_neg h, if_neg (by omega)]
      congr 1
      omega
theorem deg_f (m : List Nat) (hm : m.length ≤ 1000) (k : Nat) (hk : 1001 ≤ k) : gf_Poly_Degree.f k (I m) = some ((Gm.tlen m : Int) - 1) := by
  obtain ⟨j, rfl⟩ : ∃ j, k = j + m.length + 1 := ⟨k - (m.length + 1), by omega⟩
  unfold gf_Poly_Degree.f
  rw [I_len]
  exact deg_l0 m hm m.length j (Nat.le_refl _)
theorem pmul_l1 (p q : List Nat) (hq : Gm.By q) {a : Nat} (ha : a < 256) (i : Nat) (hi : i ≤ 1000) : ∀ (d k j : Nat) (out : List Nat), Gm.By out → j + d = q.length → i + q.length ≤ out.length → out.length ≤ 1000 →
    gf_Poly_Mul.l1 (k + 9 + d + 1) (I q) (I out) (i : Int) (a : Int) (I p) (p.length : Int) (i : Int) (I q) (q.length : Int) (j : Int) = gf_Poly_Mul.l0 (k + 9) (I q) (I (Gm.inn a q i d j out)) (I p) (p.length : Int) ((i + 1 : Nat) : Int) := by
  intro d
  induction d with
  | zero =>
    intro k j out ho hj hl hb
    have c1 : ¬ (j : Int) < (q.length : Int) := by omega
    have e1 : wrap64 ((i : Int) + 1) = ((i + 1 : Nat) : Int) := by rw [Bt.wrap_ok (by omega) (by omega)]; omega
    rw [gf_Poly_Mul.l1, if_neg c1, e1]
    rfl
  | succ d ih =>
    intro k j out ho hj hl hb
    have c1 : (j : Int) < (q.length : Int) := by omega
    have c2 : (0 : Int) ≤ (j : Int) := by omega
    have c3 : (j : Int) < ((I q).length : Int) := by rw [I_len]; omega
    have c4 : (0 : Int) ≤ ((i + j : Nat) : Int) := by omega
    have c5 : ((i + j : Nat) : Int) < ((I out).length : Int) := by rw [I_len]; omega
    have e1 : wrap64 ((j : Int) + 1) = ((j + 1 : Nat) : Int) := by rw [Bt.wrap_ok (by omega) (by omega)]; omega
    have e2 : wrap64 ((i : Int) + (j : Int)) = ((i + j : Nat) : Int) := by rw [Bt.wrap_ok (by omega) (by omega)]; omega
    have hg := Gm.gm_lt (b := Gm.co q j) ha
    have hc := Gm.co_lt ho (i + j)
    rw [show k + 9 + (d + 1) + 1 = (k + 9 + d + 1) + 1 by omega, gf_Poly_Mul.l1, if_pos c1, if_pos c2, if_pos c3, e2, if_pos c4, if_pos c5, I_rd, gmul_f ha (Gm.co_lt hq j) _ (by omega), Option.bind_some,
      I_rd, Bt.x8 hc hg, Int.toNat_natCast, I_set, e1]
    exact ih k (j + 1) _ (Gm.by_set ho _ (Gm.xor_lt8 hc hg)) (by omega) (by rw [List.length_set]; exact hl) (by rw [List.length_set]; exact hb)
theorem pmul_l0 (p q : List Nat) (hp : Gm.By p) (hq : Gm.By q) : ∀ (d k i : Nat) (out : List Nat), Gm.By out → i + d = p.length → out.length = p.length + q.length → out.length ≤ 1000 →
    gf_Poly_Mul.l0 (k + 1100 + (q.length + 2) * d + 1) (I q) (I out) (I p) (p.length : Int) (i : Int) = some (I (Gm.trim (Gm.outr p q d i out))) := by
  intro d
  induction d with
  | zero =>
    intro k i out ho hi hl hb
    have c1 : ¬ (i : Int) < (p.length : Int) := by omega
    rw [gf_Poly_Mul.l0, if_neg c1, trim_f out hb _ (by omega)]
    rfl
  | succ d ih =>
    intro k i out ho hi hl hb
    have c1 : (i : Int) < (p.length : Int) := by omega
    have c2 : (0 : Int) ≤ (i : Int) := by omega
    have c3 : (i : Int) < ((I p).length : Int) := by rw [I_len]; omega
    have ek : k + 1100 + (q.length + 2) * (d + 1) = (k + 1091 + (q.length + 2) * d + 1) + 9 + q.length + 1 := by rw [Nat.mul_succ]; omega
    have ek2 : (k + 1091 + (q.length + 2) * d + 1) + 9 = k + 1100 + (q.length + 2) * d + 1 := by omega
    have el : ((I q).length : Int) = (q.length : Int) := by rw [I_len]
    rw [gf_Poly_Mul.l0, if_pos c1, if_pos c2, if_pos c3, I_rd, ek, el]
    refine Eq.trans (pmul_l1 p q hq (Gm.co_lt hp i) i (by omega) q.length _ 0 out ho (by omega) (by omega) hb) ?_
    rw [ek2]
    exact ih k (i + 1) _ (Gm.by_inn (Gm.co_lt hp i) q i _ _ _ ho) (by omega) (by rw [Gm.inn_len]; exact hl) (by rw [Gm.inn_len]; exact hb)
theorem pmul_f (p q : List Nat) (hp : Gm.By p) (hq : Gm.By q) (h1 : p.length ≤ 100) (h2 : q.length ≤ 100) (k : Nat) (hk : 20000 ≤ k) : gf_Poly_Mul.f k (I p) (I q) = some (I (Gm.mul p q)) := by
  have e1 : wrap64 (((I p).length : Int) + ((I q).length : Int)) = ((p.length + q.length : Nat) : Int) := by rw [I_len, I_len, Bt.wrap_ok (by omega) (by omega)]; omega
  have c1 : (0 : Int) ≤ ((p.length + q.length : Nat) : Int) := by omega
  have c2 : (((p.length + q.length : Nat) : Int)).toNat ≤ 281474976710656 := by omega
  have hm : (q.length + 2) * p.length ≤ 102 * 100 := Nat.mul_le_mul (by omega) h1
  obtain ⟨j, hj⟩ : ∃ j, k = j + 1100 + (q.length + 2) * p.length + 1 := ⟨k - (1100 + (q.length + 2) * p.length + 1), by omega⟩
  have el : ((I p).length : Int) = (p.length : Int) := by rw [I_len]
  unfold gf_Poly_Mul.f
  rw [e1, if_pos c1, if_pos c2, Int.toNat_natCast, I_rep, el, hj]
  have := pmul_l0 p q hp hq p.length j 0 (List.replicate (p.length + q.length) 0) (Gm.by_rep _) (by omega) (by rw [List.length_replicate]) (by rw [List.length_replicate]; omega)
  rw [Gm.outr_mul] at this
  exact this
theorem padd_l0 (q : List Nat) (hq : Gm.By q) : ∀ (d k i : Nat) (out : List Nat), Gm.By out → i + d = q.length → q.length ≤ out.length → out.length ≤ 1000 →
    gf_Poly_Add.l0 (k + 1100 + d + 1) (I out) (I q) (q.length : Int) (i : Int) = some (I (Gm.trim (Gm.addr q d i out))) := by
  intro d
  induction d with
  | zero =>
    intro k i out ho hi hl hb
    have c1 : ¬ (i : Int) < (q.length : Int) := by omega
    rw [gf_Poly_Add.l0, if_neg c1, trim_f out hb _ (by omega)]
    rfl
  | succ d ih =>
    intro k i out ho hi hl hb
    have c1 : (i : Int) < (q.length : Int) := by omega
    have c2 : (0 : Int) ≤ (i : Int) := by omega
    have c3 : (i : Int) < ((I q).length : Int) := by rw [I_len]; omega
    have c4 : (i : Int) < ((I out).length : Int) := by rw [I_len]; omega
    have e1 : wrap64 ((i : Int) + 1) = ((i + 1 : Nat) : Int) := by rw [Bt.wrap_ok (by omega) (by omega)]; omega
    have hc := Gm.co_lt ho i
    have hd := Gm.co_lt hq i
    rw [show k + 1100 + (d + 1) + 1 = (k + 1100 + d + 1) + 1 by omega, gf_Poly_Add.l0, if_pos c1, if_pos c2, if_pos c3, if_pos c4, I_rd, I_rd, Bt.x8 hc hd, Int.toNat_natCast, I_set, e1]
    exact ih k (i + 1) _ (Gm.by_set ho _ (Gm.xor_lt8 hc hd)) (by omega) (by rw [List.length_set]; exact hl) (by rw [List.length_set]; exact hb)
theorem padd_f (p q : List Nat) (hp : Gm.By p) (hq : Gm.By q) (h1 : p.length ≤ 500) (h2 : q.length ≤ 500) (k : Nat) (hk : 2000 ≤ k) : gf_Poly_Add.f k (I p) (I q) = some (I (Gm.add p q)) := by
  have e1 : mx ((I p).length : Int) ((I q).length : Int) = ((max p.length q.length : Nat) : Int) := by rw [I_len, I_len]; unfold mx; split <;> omega
  have c1 : (0 : Int) ≤ ((max p.length q.length : Nat) : Int) := by omega
  have c2 : (((max p.length q.length : Nat) : Int)).toNat ≤ 281474976710656 := by omega
  obtain ⟨j, hj⟩ : ∃ j, k = j + 1100 + q.length + 1 := ⟨k - (1100 + q.length + 1), by omega⟩
  have el : ((I q).length : Int) = (q.length : Int) := by rw [I_len]
  have ec : Xc.copyL (I (List.replicate (max p.length q.length) 0)) (I p) = I (p.take (max p.length q.length) ++ (List.replicate (max p.length q.length) 0).drop p.length) := by
    unfold Xc.copyL
    rw [I_len, I_len, I_take, I_drop, I_append, List.length_replicate]
  have hL : (p.take (max p.length q.length) ++ (List.replicate (max p.length q.length) 0).drop p.length).length = max p.length q.length := by
    rw [List.length_append, List.length_take, List.length_drop, List.length_replicate]; omega
  have hco : ∀ i, Gm.co (p.take (max p.length q.length) ++ (List.replicate (max p.length q.length) 0).drop p.length) i = Gm.co p i := by
    intro i
    rw [List.take_of_length_le (Nat.le_max_left _ _), Gm.co_append, List.drop_replicate, Gm.co_rep]
    split
    · rfl
    · rw [Gm.co_out (by omega)]
  unfold gf_Poly_Add.f
  rw [e1, if_pos c1, if_pos c2, Int.toNat_natCast, I_rep, el, ec, hj]
  have := padd_l0 q hq q.length j 0 _ (Gm.by_of_co (fun i => by rw [hco i]; exact Gm.co_lt hp i)) (by omega) (by rw [hL]; omega) (by rw [hL]; omega)
  rw [Gm.addr_add hL hco] at this
  exact this
theorem whole_f (m : List Nat) (h : m.length ≤ 1000) : tinderboxlaw27_whole.f (I (Gm.trim m)) = some true := by
  unfold tinderboxlaw27_whole.f
  have hl : (Gm.trim m).length ≤ 1000 := by rw [Gm.trim_len]; have := Gm.tlen_le m; omega
  by_cases e : (Gm.trim m).length = 0
  · rw [if_pos (by rw [I_len, e]; rfl)]
  · have c1 : ¬ ((I (Gm.trim m)).length : Int) = 0 := by rw [I_len]; omega
    have e1 : wrap64 (((I (Gm.trim m)).length : Int) - 1) = (((Gm.trim m).length - 1 : Nat) : Int) := by rw [I_len, Bt.wrap_ok (by omega) (by omega)]; omega
    have c2 : (0 : Int) ≤ (((Gm.trim m).length - 1 : Nat) : Int) := by omega
    have c3 : (((Gm.trim m).length - 1 : Nat) : Int) < ((I (Gm.trim m)).length : Int) := by rw [I_len]; omega
    have ht := Gm.trim_top e
    rw [if_neg c1, e1, if_pos c2, if_pos c3, I_rd]
    congr 1
    rw [bne_iff_ne]
    omega
theorem deg_loop (p t : List Nat) (hp : p.length ≤ 40) (ht : t = Gm.trim p) (hb : Gm.By p) : ∀ (d k i : Nat), i + d = p.length →
    tinderboxlaw27_GfDegrees.l0 (k + 2000 + d + 1) (I p) (I t) (i : Int) = some true := by
  have htl : t.length ≤ p.length := by rw [ht, Gm.trim_len]; exact Gm.tlen_le p
  have hsame : ∀ i, Gm.co t i = Gm.co p i := fun i => by rw [ht, Gm.co_trim]
  intro d
  induction d with
  | zero =>
    intro k i hi
    have c1 : ¬ (i : Int) < ((I p).length : Int) := by rw [I_len]; omega
    have hz := Gm.tlen_add_self (p := p) (q := p) (fun _ => rfl)
    have hl : (Gm.add p p).length = 0 := by unfold Gm.add at hz ⊢; rw [Gm.tlen_trim] at hz; rw [Gm.trim_len]; exact hz
    rw [tinderboxlaw27_GfDegrees.l0, if_neg c1, padd_f p p hb hb (by omega) (by omega) _ (by omega), Option.bind_some, I_len, hl]
    rfl
  | succ d ih =>
    intro k i hi
    have c1 : (i : Int) < ((I p).length : Int) := by rw [I_len]; omega
    have c0 : (0 : Int) ≤ (i : Int) := by omega
    have e1 : wrap64 ((i : Int) + 1) = ((i + 1 : Nat) : Int) := by rw [Bt.wrap_ok (by omega) (by omega)]; omega
    rw [show k + 2000 + (d + 1) + 1 = (k + 2000 + d + 1) + 1 by omega, tinderboxlaw27_GfDegrees.l0, if_pos c1, e1, ih k (i + 1) (by omega), I_rd, I_rd]
    by_cases h : i < t.length
    · have c2 : (i : Int) < ((I t).length : Int) := by rw [I_len]; omega
      have c3 : ¬ (i : Int) ≥ ((I t).length : Int) := by omega
      rw [if_pos c2, if_pos c0, if_pos (by rw [hsame]), if_neg c3]
    · have c2 : ¬ (i : Int) < ((I t).length : Int) := by rw [I_len]; omega
      have c3 : (i : Int) ≥ ((I t).length : Int) := by omega
      have hz : Gm.co p i = 0 := by rw [← hsame]; exact Gm.co_out (by omega)
      rw [if_neg c2, if_pos c3, if_pos c0, if_pos (by rw [hz]; rfl)]
theorem GfDegrees : tinderboxlaw27_GfDegrees.Pure := by
  intro l0 l1 _ _ h0 _ _ h1
  obtain ⟨m, rfl, hm⟩ := I_of l0 h0
  obtain ⟨n, rfl, hn⟩ := I_of l1 h1
  obtain ⟨p, hpe⟩ : ∃ p, p = m.take 40 := ⟨_, rfl⟩
  obtain ⟨q, hqe⟩ : ∃ q, q = n.take 40 := ⟨_, rfl⟩
  have hp : Gm.By p := by rw [hpe]; exact Gm.by_take hm 40
  have hq : Gm.By q := by rw [hqe]; exact Gm.by_take hn 40
  have lp : p.length ≤ 40 := by rw [hpe, List.length_take]; omega
  have lq : q.length ≤ 40 := by rw [hqe, List.length_take]; omega
  have lm : (Gm.mul p q).length ≤ 1000 := by unfold Gm.mul; rw [Gm.trim_len]; have := Gm.tlen_le (Gm.mkL (p.length + q.length) (Gm.pr p q)); rw [Gm.mkL_len] at this; omega
  have la : (Gm.add p q).length ≤ 1000 := by unfold Gm.add; rw [Gm.trim_len]; have := Gm.tlen_le (Gm.mkL (max p.length q.length) (fun i => Gm.co p i ^^^ Gm.co q i)); rw [Gm.mkL_len] at this; omega
  have K : ∀ k, 20000 ≤ k → 1001 ≤ k ∧ 100 ≤ k ∧ 2000 ≤ k := fun k h => ⟨by omega, by omega, by omega⟩
  have tp := Gm.tlen_le p
  have tq := Gm.tlen_le q
  have hsum : Gm.tlen (Gm.add p q) ≤ max (Gm.tlen p) (Gm.tlen q) := Gm.tlen_le_of (fun i hi => by rw [Gm.co_add, Gm.tlen_out (l := p) (by omega), Gm.tlen_out (l := q) (by omega), Nat.xor_self])
  have hj1 : ∀ k, 20000 ≤ k → tinderboxlaw27_GfDegrees.j1 (k + 1) (I p) (I (Gm.trim p)) false = some true := by
    intro k hk
    obtain ⟨j, rfl⟩ : ∃ j, k = j + 2000 + p.length + 1 := ⟨k - (2000 + p.length + 1), by omega⟩
    rw [tinderboxlaw27_GfDegrees.j1, if_neg (by decide)]
    exact deg_loop p _ lp rfl hp p.length j 0 (by omega)
  have hj0 : ∀ k, 20002 ≤ k → tinderboxlaw27_GfDegrees.j0 k (I p) ((Gm.tlen p : Int) - 1) false = some true := by
    intro k hk
    obtain ⟨j, rfl⟩ : ∃ j, k = j + 1 + 1 := ⟨k - 2, by omega⟩
    have e1 : wrap64 (((Gm.tlen p : Int) - 1) + 1) = (Gm.tlen p : Int) := by rw [Bt.wrap_ok (by omega) (by omega)]; omega
    have e2 : ((I (Gm.trim p)).length : Int) = (Gm.tlen p : Int) := by rw [I_len, Gm.trim_len]
    rw [tinderboxlaw27_GfDegrees.j0, if_neg (by decide), trim_f p (by omega) _ (by omega), Option.bind_some, whole_f p (by omega), Option.bind_some, if_pos rfl, e1, e2, bne_self_eq_false]
    exact hj1 j (by omega)
  refine ⟨30000, ?_⟩
  have kk := K 30000 (by decide)
  unfold tinderboxlaw27_GfDegrees.f
  rw [few_f, Option.bind_some, ← hpe, few_f, Option.bind_some, ← hqe, deg_f p (by omega) _ kk.1, Option.bind_some, deg_f q (by omega) _ kk.1, Option.bind_some, pmul_f p q hp hq (by omega) (by omega) _ (by decide), Option.bind_some,
    deg_f _ lm _ kk.1, Option.bind_some, awake_f _ kk.2.1, Option.bind_some, if_pos rfl, padd_f p q hp hq (by omega) (by omega) _ kk.2.2, Option.bind_some, deg_f _ la _ kk.1, Option.bind_some]
  have cm : ¬ ((Gm.tlen (Gm.add p q) : Int) - 1) > mx ((Gm.tlen p : Int) - 1) ((Gm.tlen q : Int) - 1) := by unfold mx; split <;> omega
  rw [if_neg cm]
  by_cases ha : Gm.tlen p = 0
  · have hz := Gm.tlen_mul_zero (p := p) (q := q) (.inl ha)
    have c1 : ((Gm.tlen p : Int) - 1) < 0 := by omega
    have c2 : decide (((Gm.tlen (Gm.mul p q) : Int) - 1) < 0) = true := decide_eq_true (by omega)
    have c3 : ¬ ((Gm.tlen (Gm.mul p q) : Int) - 1) ≥ 0 := by omega
    rw [if_pos c1, c2, if_neg (by decide), if_neg c3]
    exact hj0 _ (by decide)
  · have c1 : ¬ ((Gm.tlen p : Int) - 1) < 0 := by omega
    rw [if_neg c1]
    by_cases hb : Gm.tlen q = 0
    · have hz := Gm.tlen_mul_zero (p := p) (q := q) (.inr hb)
      have c2 : decide (((Gm.tlen (Gm.mul p q) : Int) - 1) < 0) = true := decide_eq_true (by omega)
      have c4 : decide (((Gm.tlen q : Int) - 1) < 0) = true := decide_eq_true (by omega)
      have c3 : ¬ ((Gm.tlen (Gm.mul p q) : Int) - 1) ≥ 0 := by omega
      rw [c2, c4, if_neg (by decide), if_neg c3]
      exact hj0 _ (by decide)
    · obtain ⟨a, ha'⟩ : ∃ a, Gm.tlen p = a + 1 := ⟨Gm.tlen p - 1, by omega⟩
      obtain ⟨b, hb'⟩ : ∃ b, Gm.tlen q = b + 1 := ⟨Gm.tlen q - 1, by omega⟩
      have hm' := Gm.tlen_mul hp hq ha' hb'
      have c2 : decide (((Gm.tlen (Gm.mul p q) : Int) - 1) < 0) = false := decide_eq_false (by omega)
      have c4 : decide (((Gm.tlen q : Int) - 1) < 0) = false := decide_eq_false (by omega)
      have c3 : ((Gm.tlen (Gm.mul p q) : Int) - 1) ≥ 0 := by omega
      have e1 : wrap64 (((Gm.tlen p : Int) - 1) + ((Gm.tlen q : Int) - 1)) = (Gm.tlen (Gm.mul p q) : Int) - 1 := by rw [Bt.wrap_ok (by omega) (by omega)]; omega
      rw [c2, c4, if_neg (by decide), if_pos c3, e1, bne_self_eq_false]
      exact hj0 _ (by decide)
end Go.Proofs.Ytpidfledopnhpaa.Pure
