/- The digest by the program is that by the reference. Conditions: none. -/
import Derived.Test.YtomenklhgofjaaaXShaR3
set_option linter.unusedVariables false
set_option linter.unusedSimpArgs false
namespace Go.Proofs.Ytomenklhgofjaaa.Sh
open Go.RowKit Go.Proofs.YtomenklhgofjaaaW.PrintWords Go.Proofs.YtomenklhgofjaaaW.PrintLast Go.Proofs.YtomenklhgofjaaaW.PrintMore
theorem wrap32 (n : Int) : IntKind.u32.wrap n = n % 4294967296 := IntKind.wrap_u32 n
theorem xor_natk (k : IntKind) (hk0 : 32 ≤ k.bits) (hk : ∀ n : Int, 0 ≤ n → n < 2 ^ 32 → k.wrap n = n) (a b : Nat) (ha : a < 2 ^ 32) (hb : b < 2 ^ 32) : Go.bits .xor k a b = ((a ^^^ b : Nat) : Int) := by
  have hp : 2 ^ 32 ≤ 2 ^ k.bits := Nat.pow_le_pow_right (by decide) hk0
  have ha' : a % 2 ^ k.bits = a := Nat.mod_eq_of_lt (Nat.lt_of_lt_of_le ha hp)
  have hb' : b % 2 ^ k.bits = b := Nat.mod_eq_of_lt (Nat.lt_of_lt_of_le hb hp)
  have h : a ^^^ b < 2 ^ 32 := Nat.xor_lt_two_pow ha hb
  simp only [Go.bits, BitVec.ofInt_natCast, BitVec.toNat_xor, BitVec.toNat_ofNat, ha', hb']
  exact hk _ (Int.natCast_nonneg _) (by omega)
theorem xor32 {a b : Nat} (ha : a < 4294967296) (hb : b < 4294967296) : Go.bits .xor .u32 a b = ((a ^^^ b : Nat) : Int) := xor_natk .u32 (by decide) (fun n h0 h1 => by rw [wrap32]; omega) a b ha hb
theorem and_natk (k : IntKind) (hk0 : 32 ≤ k.bits) (hk : ∀ n : Int, 0 ≤ n → n < 2 ^ 32 → k.wrap n = n) (a b : Nat) (ha : a < 2 ^ 32) (hb : b < 2 ^ 32) : Go.bits .and k a b = ((a &&& b : Nat) : Int) := by
  have hp : 2 ^ 32 ≤ 2 ^ k.bits := Nat.pow_le_pow_right (by decide) hk0
  have ha' : a % 2 ^ k.bits = a := Nat.mod_eq_of_lt (Nat.lt_of_lt_of_le ha hp)
  have hb' : b % 2 ^ k.bits = b := Nat.mod_eq_of_lt (Nat.lt_of_lt_of_le hb hp)
  have h : a &&& b < 2 ^ 32 := Nat.lt_of_le_of_lt Nat.and_le_left ha
  simp only [Go.bits, BitVec.ofInt_natCast, BitVec.toNat_and, BitVec.toNat_ofNat, ha', hb']
  exact hk _ (Int.natCast_nonneg _) (by omega)
theorem and32 {a b : Nat} (ha : a < 4294967296) (hb : b < 4294967296) : Go.bits .and .u32 a b = ((a &&& b : Nat) : Int) := and_natk .u32 (by decide) (fun n h0 h1 => by rw [wrap32]; omega) a b ha hb
theorem or_natk (k : IntKind) (hk0 : 32 ≤ k.bits) (hk : ∀ n : Int, 0 ≤ n → n < 2 ^ 32 → k.wrap n = n) (a b : Nat) (ha : a < 2 ^ 32) (hb : b < 2 ^ 32) : Go.bits .or k a b = ((a ||| b : Nat) : Int) := by
  have hp : 2 ^ 32 ≤ 2 ^ k.bits := Nat.pow_le_pow_right (by decide) hk0
  have ha' : a % 2 ^ k.bits = a := Nat.mod_eq_of_lt (Nat.lt_of_lt_of_le ha hp)
  have hb' : b % 2 ^ k.bits = b := Nat.mod_eq_of_lt (Nat.lt_of_lt_of_le hb hp)
  have h : a ||| b < 2 ^ 32 := Nat.or_lt_two_pow ha hb
  simp only [Go.bits, BitVec.ofInt_natCast, BitVec.toNat_or, BitVec.toNat_ofNat, ha', hb']
  exact hk _ (Int.natCast_nonneg _) (by omega)
theorem or32 {a b : Nat} (ha : a < 4294967296) (hb : b < 4294967296) : Go.bits .or .u32 a b = ((a ||| b : Nat) : Int) := or_natk .u32 (by decide) (fun n h0 h1 => by rw [wrap32]; omega) a b ha hb
theorem or_comm32 (a b : Int) : Go.bits .or .u32 a b = Go.bits .or .u32 b a := by
  simp only [Go.bits, BitVec.or_comm]
theorem rr_qr (x : Int) {n : Int} (hn : n = 7 ∨ n = 18 ∨ n = 17 ∨ n = 19 ∨ n = 6 ∨ n = 11 ∨ n = 25 ∨ n = 2 ∨ n = 13 ∨ n = 22) : rr x n = qr x n := by
  unfold rr rl qr
  have h : Go.bits .and .u64 (IntKind.u64.wrap (wrap64 (-n))) 31 = 32 - n ∧ IntKind.u64.wrap (32 - (32 - n)) = n ∧ IntKind.u64.wrap (32 - n) = 32 - n := by
    rcases hn with rfl | rfl | rfl | rfl | rfl | rfl | rfl | rfl | rfl | rfl <;> decide +kernel
  rw [h.1, h.2.1, h.2.2, or_comm32]
theorem compl32 {e : Nat} (he : e < 4294967296) : (4294967295 ^^^ e : Nat) = 4294967295 - e := by
  have h1 : 4294967295 - e = 2 ^ 32 - (e + 1) := by omega
  rw [h1]
  apply Nat.eq_of_testBit_eq
  intro i
  rw [Nat.testBit_two_pow_sub_succ (by omega), Nat.testBit_xor, show (4294967295 : Nat) = 2 ^ 32 - 1 by rfl, Nat.testBit_two_pow_sub_one]
  rcases Nat.lt_or_ge i 32 with h | h
  · simp [h]
  · have : e.testBit i = false := Nat.testBit_lt_two_pow (Nat.lt_of_lt_of_le he (Nat.pow_le_pow_right (by decide) h : 2 ^ 32 ≤ 2 ^ i))
    simp [Nat.not_lt.2 h, this]
theorem ch_nat (e f g : Nat) (he : e < 4294967296) : (e &&& f) ^^^ ((4294967295 - e) &&& g) = (e &&& f) ||| ((4294967295 - e) &&& g) := by
  have h1 : 4294967295 - e = 2 ^ 32 - (e + 1) := by omega
  rw [h1]
  apply Nat.eq_of_testBit_eq
  intro i
  simp only [Nat.testBit_xor, Nat.testBit_or, Nat.testBit_and, Nat.testBit_two_pow_sub_succ (show e < 2 ^ 32 from he)]
  cases e.testBit i <;> cases f.testBit i <;> cases g.testBit i <;> cases decide (i < 32) <;> rfl
theorem maj_nat (a b c : Nat) : ((a &&& b) ^^^ (a &&& c)) ^^^ (b &&& c) = ((a &&& b) ||| (a &&& c)) ||| (b &&& c) := by
  apply Nat.eq_of_testBit_eq
  intro i
  simp only [Nat.testBit_xor, Nat.testBit_or, Nat.testBit_and]
  cases a.testBit i <;> cases b.testBit i <;> cases c.testBit i <;> rfl
def W32 (x : Int) : Prop := 0 ≤ x ∧ x < 4294967296
theorem W32.nat {x : Int} (h : W32 x) : ∃ n : Nat, x = n ∧ n < 4294967296 := ⟨x.toNat, by have := h.1; omega, by have := h.1; have := h.2; omega⟩
theorem ch_eq {e f g : Int} (he : W32 e) (hf : W32 f) (hg : W32 g) : Go.bits .xor .u32 (Go.bits .and .u32 e f) (Go.bits .and .u32 (Go.bits .xor .u32 IntKind.u32.max e) g) = Go.bits .or .u32 (Go.bits .and .u32 e f) (Go.bits .and .u32 ((4294967295 - e) % 4294967296) g) := by
  obtain ⟨e, rfl, ne⟩ := he.nat
  obtain ⟨f, rfl, nf⟩ := hf.nat
  obtain ⟨g, rfl, ng⟩ := hg.nat
  have h0 : IntKind.u32.max = ((4294967295 : Nat) : Int) := by decide
  have h1 : (4294967295 - (e : Int)) % 4294967296 = ((4294967295 - e : Nat) : Int) := by omega
  have h2 : e &&& f < 4294967296 := Nat.lt_of_le_of_lt Nat.and_le_left ne
  have h3 : (4294967295 - e) &&& g < 4294967296 := Nat.lt_of_le_of_lt Nat.and_le_right ng
  rw [h0, xor32 (by decide) ne, compl32 ne, h1, and32 ne nf, and32 (by omega) ng, xor32 h2 h3, or32 h2 h3, ch_nat e f g ne]
theorem maj_eq {a b c : Int} (ha : W32 a) (hb : W32 b) (hc : W32 c) : Go.bits .xor .u32 (Go.bits .xor .u32 (Go.bits .and .u32 a b) (Go.bits .and .u32 a c)) (Go.bits .and .u32 b c) = Go.bits .or .u32 (Go.bits .or .u32 (Go.bits .and .u32 a b) (Go.bits .and .u32 a c)) (Go.bits .and .u32 b c) := by
  obtain ⟨a, rfl, na⟩ := ha.nat
  obtain ⟨b, rfl, nb⟩ := hb.nat
  obtain ⟨c, rfl, nc⟩ := hc.nat
  have h1 : a &&& b < 4294967296 := Nat.lt_of_le_of_lt Nat.and_le_left na
  have h2 : a &&& c < 4294967296 := Nat.lt_of_le_of_lt Nat.and_le_left na
  have h3 : b &&& c < 4294967296 := Nat.lt_of_le_of_lt Nat.and_le_left nb
  rw [and32 na nb, and32 na nc, and32 nb nc, xor32 h1 h2, xor32 (Nat.xor_lt_two_pow (n := 32) h1 h2) h3, or32 h1 h2, or32 (Nat.or_lt_two_pow (n := 32) h1 h2) h3, maj_nat]
theorem one_eq {e f g : Int} (h k w : Int) (he : W32 e) (hf : W32 f) (hg : W32 g) : oneF e f g h k w = oneG e f g h k w := by
  unfold oneF oneG
  rw [ch_eq he hf hg, rr_qr e (by omega), rr_qr e (by omega), rr_qr e (by omega)]
theorem two_eq {a b c : Int} (ha : W32 a) (hb : W32 b) (hc : W32 c) : twoF a b c = twoG a b c := by
  unfold twoF twoG
  rw [maj_eq ha hb hc, rr_qr a (by omega), rr_qr a (by omega), rr_qr a (by omega)]
theorem sch_eq (a x c y : Int) : sch a x c y = sch2 a x c y := by
  unfold sch sch2
  rw [rr_qr x (by omega), rr_qr x (by omega), rr_qr y (by omega), rr_qr y (by omega)]
theorem w32_mod (n : Int) : W32 (n % 4294967296) := ⟨by omega, by omega⟩
def All32 (l : List Int) : Prop := ∀ x ∈ l, W32 x
theorem rnd_eq {s : List Int} (hs : All32 s) (hl : s.length = 8) (k w : Int) : rnd k w s = rnd2 k w s ∧ All32 (rnd k w s) ∧ (rnd k w s).length = 8 := by
  obtain ⟨a, b, c, d, e, f, g, h, rfl⟩ := list8 hl
  have m : ∀ x ∈ [a, b, c, d, e, f, g, h], W32 x := hs
  have ha := m a (by simp); have hb := m b (by simp); have hc := m c (by simp); have hd := m d (by simp)
  have he := m e (by simp); have hf := m f (by simp); have hg := m g (by simp)
  refine ⟨?_, ?_, rfl⟩
  · show [_, _, _, _, _, _, _, _] = [_, _, _, _, _, _, _, _]
    rw [one_eq h k w he hf hg, two_eq ha hb hc]
  · intro x hx
    simp only [rnd, List.mem_cons, List.not_mem_nil, or_false] at hx
    rcases hx with rfl | rfl | rfl | rfl | rfl | rfl | rfl | rfl
    · exact w32_mod _
    · exact ha
    · exact hb
    · exact hc
    · exact w32_mod _
    · exact he
    · exact hf
    · exact hg
theorem rnds_eq {s : List Int} (hs : All32 s) (hl : s.length = 8) (ks ws : List Int) (j : Nat) : rnds s ks ws j = rnds2 s ks ws j ∧ All32 (rnds s ks ws j) ∧ (rnds s ks ws j).length = 8 := by
  induction j with
  | zero => exact ⟨rfl, hs, hl⟩
  | succ j ih =>
    obtain ⟨h1, h2, h3⟩ := ih
    obtain ⟨r1, r2, r3⟩ := rnd_eq h2 h3 (ks.getD j 0) (ws.getD j 0)
    refine ⟨?_, r2, r3⟩
    show rnd _ _ (rnds s ks ws j) = rnd2 _ _ (rnds2 s ks ws j)
    rw [r1, h1]
theorem sum32 (s v : List Int) : All32 (sumF s v) := by
  intro x hx
  unfold sumF at hx
  rw [List.mem_iff_getElem] at hx
  obtain ⟨i, hi, rfl⟩ := hx
  rw [List.getElem_zipWith]
  exact w32_mod _
theorem word_nat {a b c d : Nat} (ha : a < 256) (hb : b < 256) (hc : c < 256) (hd : d < 256) : ((a * 16777216 ||| b * 65536) ||| c * 256) ||| d = ((a * 256 + b) * 256 + c) * 256 + d := by
  have e1 : a * 16777216 ||| b * 65536 = (a * 256 + b) * 65536 := by
    have := Nat.shiftLeft_add_eq_or_of_lt (i := 24) (b := b * 65536) (by omega) a
    rw [Nat.shiftLeft_eq] at this
    rw [show a * 16777216 = a * 2 ^ 24 from rfl, ← this]
    omega
  have e2 : (a * 256 + b) * 65536 ||| c * 256 = ((a * 256 + b) * 256 + c) * 256 := by
    have := Nat.shiftLeft_add_eq_or_of_lt (i := 16) (b := c * 256) (by omega) (a * 256 + b)
    rw [Nat.shiftLeft_eq] at this
    rw [show (a * 256 + b) * 65536 = (a * 256 + b) * 2 ^ 16 from rfl, ← this]
    omega
  have e3 : ((a * 256 + b) * 256 + c) * 256 ||| d = ((a * 256 + b) * 256 + c) * 256 + d := by
    have := Nat.shiftLeft_add_eq_or_of_lt (i := 8) (b := d) (by omega) ((a * 256 + b) * 256 + c)
    rw [Nat.shiftLeft_eq] at this
    rw [show ((a * 256 + b) * 256 + c) * 256 = ((a * 256 + b) * 256 + c) * 2 ^ 8 from rfl, ← this]
  rw [e1, e2, e3]
def B8 (x : Int) : Prop := 0 ≤ x ∧ x < 256
theorem word_eq {b : ByteArray} {B : List Int} {m i : Nat} (h0 : bt b (4 * (i : Int)) = B.getD (m + 4 * i) 0) (h1 : bt b (4 * (i : Int) + 1) = B.getD (m + 4 * i + 1) 0) (h2 : bt b (4 * (i : Int) + 2) = B.getD (m + 4 * i + 2) 0) (h3 : bt b (4 * (i : Int) + 3) = B.getD (m + 4 * i + 3) 0) : word b i = xj B (m + 4 * i) 4 := by
  have r0 := bt_range b (4 * (i : Int)); have r1 := bt_range b (4 * (i : Int) + 1); have r2 := bt_range b (4 * (i : Int) + 2); have r3 := bt_range b (4 * (i : Int) + 3)
  unfold word
  rw [h0] at r0 ⊢
  rw [h1] at r1 ⊢
  rw [h2] at r2 ⊢
  rw [h3] at r3 ⊢
  simp only [xj, Nat.add_zero]
  generalize B.getD (m + 4 * i) 0 = x0 at *
  generalize B.getD (m + 4 * i + 1) 0 = x1 at *
  generalize B.getD (m + 4 * i + 2) 0 = x2 at *
  generalize B.getD (m + 4 * i + 3) 0 = x3 at *
  obtain ⟨n0, rfl⟩ := Int.eq_ofNat_of_zero_le r0.1
  obtain ⟨n1, rfl⟩ := Int.eq_ofNat_of_zero_le r1.1
  obtain ⟨n2, rfl⟩ := Int.eq_ofNat_of_zero_le r2.1
  obtain ⟨n3, rfl⟩ := Int.eq_ofNat_of_zero_le r3.1
  have e0 : ((n0 : Int) % 4294967296 * 16777216 % 4294967296) = ((n0 * 16777216 : Nat) : Int) := by omega
  have e1 : ((n1 : Int) % 4294967296 * 65536 % 4294967296) = ((n1 * 65536 : Nat) : Int) := by omega
  have e2 : ((n2 : Int) % 4294967296 * 256 % 4294967296) = ((n2 * 256 : Nat) : Int) := by omega
  have e3 : ((n3 : Int) % 4294967296) = ((n3 : Nat) : Int) := by omega
  have hw := word_nat (a := n0) (b := n1) (c := n2) (d := n3) (by omega) (by omega) (by omega) (by omega)
  have l1 : n0 * 16777216 ||| n1 * 65536 < 2 ^ 32 := Nat.or_lt_two_pow (by omega) (by omega)
  have l2 : (n0 * 16777216 ||| n1 * 65536) ||| n2 * 256 < 2 ^ 32 := Nat.or_lt_two_pow l1 (by omega)
  rw [e0, e1, e2, e3, or32 (by omega) (by omega), or32 l1 (by omega), or32 l2 (by omega), hw]
  omega
theorem bt_get (s : ByteArray) (j : Nat) : bt s (j : Int) = (bytesOf s).getD j 0 := by rw [← rd_bytesOf]; rfl
theorem bytes_app (a b : ByteArray) : bytesOf (a ++ b) = bytesOf a ++ bytesOf b := by
  unfold bytesOf
  rw [ByteArray.data_append, Array.toList_append, List.map_append]
theorem bytes_ext (s : ByteArray) (i j : Nat) : bytesOf (s.extract i j) = ((bytesOf s).take j).drop i := by
  unfold bytesOf
  rw [ByteArray.data_extract, Array.toList_extract]
  simp only [List.extract_eq_take_drop, List.map_take, List.map_drop]
  rw [List.drop_take]
theorem bytes_one {x : Int} (h : B8 x) : bytesOf (strOfNums [x]) = [x] := by
  obtain ⟨n, rfl⟩ := Int.eq_ofNat_of_zero_le h.1
  have := h.2
  simp [bytesOf, strOfNums]
  omega
theorem zl_eq (n : Nat) : ∀ xs, zl xs n = xs ++ List.replicate n 0 := by
  induction n with
  | zero => intro xs; simp [zl]
  | succ n ih => intro xs; unfold zl; rw [ih, List.replicate_succ, List.append_assoc]; rfl
theorem ll_eq (n : Int) (xs : List Int) (i : Nat) : ll n xs i = xs ++ ll n [] i := by
  induction i with
  | zero => simp [ll]
  | succ i ih =>
    show ll n xs i ++ _ = xs ++ (ll n [] i ++ _)
    rw [ih, List.append_assoc]
theorem bytes_zeros (n : Nat) : ∀ r, bytesOf (zeros r n) = zl (bytesOf r) n := by
  induction n with
  | zero => intro r; rfl
  | succ n ih =>
    intro r
    unfold zeros zl
    rw [ih, bytes_app]
    rfl
theorem bytes_lens (n : Int) (r : ByteArray) (i : Nat) : bytesOf (lens n r i) = ll n (bytesOf r) i := by
  induction i with
  | zero => rfl
  | succ i ih =>
    unfold lens ll
    rw [bytes_app, ih, bytes_one ⟨by omega, by omega⟩]
theorem wk_eq {b : ByteArray} {B : List Int} {m : Nat} (h : ∀ j : Nat, j < 64 → bt b (j : Int) = B.getD (m + j) 0) (i : Nat) : wk b i = wk2 B m i := by
  induction i with
  | zero => rfl
  | succ i ih =>
    unfold wk wk2
    rw [ih]
    congr 2
    unfold nextw nextw2
    split
    · rename_i h16
      refine word_eq ?_ ?_ ?_ ?_
      · exact h (4 * i) (by omega)
      · exact h (4 * i + 1) (by omega)
      · exact h (4 * i + 2) (by omega)
      · exact h (4 * i + 3) (by omega)
    · exact sch_eq _ _ _ _
theorem mix_eq {s ks : List Int} {b : ByteArray} {B : List Int} {m : Nat} (h : ∀ j : Nat, j < 64 → bt b (j : Int) = B.getD (m + j) 0) (hs : All32 s) (hl : s.length = 8) : mixF s ks b = mix2 s ks B m := by
  unfold mixF mix2
  rw [wk_eq h, (rnds_eq hs hl ks _ 64).1]
theorem eat_succ (kc : List Int) (n : Nat) (s : List Int) (r : ByteArray) : eat kc (n + 1) s r = eat kc n (mixF s kc (r.extract 0 64)) (r.extract 64 r.size) := rfl
theorem eat2_succ (kc B : List Int) (n m : Nat) (s : List Int) : eat2 kc B (n + 1) m s = eat2 kc B n (m + 64) (mix2 s kc B m) := rfl
theorem eat_eq (kc B : List Int) : ∀ (n m : Nat) (s : List Int) (r : ByteArray), 64 * n ≤ r.size → bytesOf r = (B.drop m).take r.size → All32 s → s.length = 8 →
    (eat kc n s r).1 = eat2 kc B n m s ∧ (eat kc n s r).2.size = r.size - 64 * n ∧ bytesOf (eat kc n s r).2 = (bytesOf r).drop (64 * n) ∧ All32 (eat kc n s r).1 ∧ (eat kc n s r).1.length = 8
  | 0, m, s, r, _, hr, hs, hl => ⟨rfl, rfl, rfl, hs, hl⟩
  | n + 1, m, s, r, hn, hr, hs, hl => by
    have hb : ∀ j : Nat, j < 64 → bt (r.extract 0 64) (j : Int) = B.getD (m + j) 0 := fun j hj => by
      rw [bt_get, bytes_ext, hr, List.drop_zero, List.getD_eq_getElem?_getD, List.getElem?_take, if_pos hj, List.getElem?_take, if_pos (by omega), List.getElem?_drop, ← List.getD_eq_getElem?_getD]
    have e1 := mix_eq (ks := kc) hb hs hl
    have hsz : (r.extract 64 r.size).size = r.size - 64 := by rw [ByteArray.size_extract]; omega
    have hx : bytesOf (r.extract 64 r.size) = (bytesOf r).drop 64 := by rw [bytes_ext, List.take_of_length_le (by rw [bytesOf_length]; exact Nat.le_refl _)]
    have hr' : bytesOf (r.extract 64 r.size) = (B.drop (m + 64)).take (r.extract 64 r.size).size := by rw [hx, hr, hsz, List.drop_take, List.drop_drop]
    obtain ⟨i1, i2, i3, i4, i5⟩ := eat_eq kc B n (m + 64) (mixF s kc (r.extract 0 64)) (r.extract 64 r.size) (by rw [hsz]; omega) hr' (sum32 _ _) (mixF_len hl)
    rw [eat_succ, eat2_succ, ← e1]
    refine ⟨i1, ?_, ?_, i4, i5⟩
    · rw [i2, hsz]
      omega
    · rw [i3, hx, List.drop_drop, show 64 + 64 * n = 64 * (n + 1) by omega]
theorem eat2_add (kc B : List Int) (k : Nat) : ∀ (n m : Nat) (s : List Int), eat2 kc B (n + k) m s = eat2 kc B k (m + 64 * n) (eat2 kc B n m s)
  | 0, m, s => by rw [Nat.zero_add]; rfl
  | n + 1, m, s => by
    rw [show n + 1 + k = (n + k) + 1 by omega]
    show eat2 kc B (n + k) (m + 64) _ = eat2 kc B k _ (eat2 kc B n (m + 64) _)
    rw [eat2_add kc B k n (m + 64), show m + 64 + 64 * n = m + 64 * (n + 1) by omega]
theorem outs_eq {L : List Int} (h : All32 L) (i : Nat) (hi : i ≤ L.length) : outb L i = outr L i := by
  induction i with
  | zero => rfl
  | succ i ih =>
    unfold outb outr
    rw [ih (by omega)]
    congr 1
    have hx : W32 (L.getD i 0) := h _ (by rw [List.getD_eq_getElem?_getD, List.getElem?_eq_getElem (by omega)]; exact List.getElem_mem _)
    generalize L.getD i 0 = x at hx ⊢
    unfold byte4 byte4r
    rw [Int.tdiv_eq_ediv_of_nonneg hx.1, Int.tdiv_eq_ediv_of_nonneg hx.1, Int.tdiv_eq_ediv_of_nonneg hx.1]
    have h1 := hx.1
    have h2 := hx.2
    rw [show x / 16777216 % 4294967296 = x / 16777216 by omega, show x / 65536 % 4294967296 = x / 65536 by omega, show x / 256 % 4294967296 = x / 256 by omega]
theorem sha_gen {hc kc : List Int} (hs : All32 hc) (hl : hc.length = 8) (t : ByteArray) : shaG hc kc t = sha2G hc kc t := by
  obtain ⟨B, hB⟩ : ∃ B, padl t = B := ⟨_, rfl⟩
  have hpad : B = bytesOf t ++ ([128] ++ (List.replicate ((119 - t.size % 64) % 64) 0 ++ ll ((t.size : Int) * 8) [] 8)) := by
    rw [← hB]
    unfold padl
    rw [ll_eq, zl_eq]
    simp only [List.append_assoc]
  have hr0 : bytesOf t = (B.drop 0).take t.size := by rw [hpad, List.drop_zero, ← bytesOf_length t, List.take_left]
  obtain ⟨i1, i2, i3, i4, i5⟩ := eat_eq kc B (t.size / 64) 0 hc t (by omega) hr0 hs hl
  obtain ⟨S1, e1⟩ : ∃ S, (eat kc (t.size / 64) hc t).1 = S := ⟨_, rfl⟩
  obtain ⟨r1, e2⟩ : ∃ S, (eat kc (t.size / 64) hc t).2 = S := ⟨_, rfl⟩
  rw [e1] at i1 i4 i5
  rw [e2] at i2 i3
  obtain ⟨T, hT⟩ : ∃ T, lens ((t.size : Int) * 8) (zeros (r1 ++ ⟨#[128]⟩) ((119 - r1.size) % 64)) 8 = T := ⟨_, rfl⟩
  have hbT : bytesOf T = B.drop (64 * (t.size / 64)) := by
    rw [← hT, bytes_lens, bytes_zeros, ll_eq, zl_eq, bytes_app, i3, hpad, i2]
    rw [List.drop_append_of_le_length (by rw [bytesOf_length]; omega), show t.size - 64 * (t.size / 64) = t.size % 64 by omega]
    simp only [List.append_assoc]
    rfl
  have hTs : T.size = B.length - 64 * (t.size / 64) := by rw [← bytesOf_length T, hbT, List.length_drop]
  have hrT : bytesOf T = (B.drop (0 + 64 * (t.size / 64))).take T.size := by
    rw [Nat.zero_add, ← hbT, List.take_of_length_le (by rw [bytesOf_length]; exact Nat.le_refl _)]
  have hBl : B.length = t.size + (1 + ((119 - t.size % 64) % 64 + 8)) := by
    rw [hpad]
    simp only [List.length_append, bytesOf_length, List.length_replicate, ll_len, List.length_cons, List.length_nil]
  obtain ⟨j1, j2, j3, j4, j5⟩ := eat_eq kc B (T.size / 64) (0 + 64 * (t.size / 64)) S1 T (by omega) hrT i4 i5
  unfold shaG sha2G
  rw [e1, e2, hT, hB, outs_eq j4 8 (by rw [j5]; exact Nat.le_refl _), j1, i1, ← eat2_add, show t.size / 64 + T.size / 64 = B.length / 64 by omega]
theorem HC32 : All32 HC := by
  intro x hx
  unfold HC at hx
  obtain ⟨p, _, rfl⟩ := List.mem_map.1 hx
  exact w32_mod _
def HCL : List Int := [1779033703, 3144134277, 1013904242, 2773480762, 1359893119, 2600822924, 528734635, 1541459225]
def KCL : List Int := [1116352408, 1899447441, 3049323471, 3921009573, 961987163, 1508970993, 2453635748, 2870763221, 3624381080, 310598401, 607225278, 1426881987, 1925078388, 2162078206, 2614888103, 3248222580, 3835390401, 4022224774, 264347078, 604807628, 770255983, 1249150122, 1555081692, 1996064986, 2554220882, 2821834349, 2952996808, 3210313671, 3336571891, 3584528711, 113926993, 338241895, 666307205, 773529912, 1294757372, 1396182291, 1695183700, 1986661051, 2177026350, 2456956037, 2730485921, 2820302411, 3259730800, 3345764771, 3516065817, 3600352804, 4094571909, 275423344, 430227734, 506948616, 659060556, 883997877, 958139571, 1322822218, 1537002063, 1747873779, 1955562222, 2024104815, 2227730452, 2361852424, 2428436474, 2756734187, 3204031479, 3329325298]
theorem HC_lit : HC = HCL := by decide +kernel
theorem KC_lit : KC = KCL := by decide +kernel
theorem HL_lit : HL = HCL := by decide +kernel
theorem KL_lit : KL = KCL := by decide +kernel
/-- The digest. -/
def SHA (t : ByteArray) : ByteArray := shaG HCL KCL t
theorem SHA_sum (t : ByteArray) : shaG HC KC t = SHA t := by rw [HC_lit, KC_lit]; rfl
theorem SHA_ref (t : ByteArray) : sha2G HL KL t = SHA t := by
  rw [HL_lit, KL_lit]
  refine (sha_gen (hc := HCL) (kc := KCL) ?_ rfl t).symm
  rw [← HC_lit]
  exact HC32
theorem SHA_size (t : ByteArray) : (SHA t).size = 32 := by
  unfold SHA shaG
  rw [strNums_size, outb_len]
theorem sum_SHA (t : ByteArray) (ht : t.size ≤ 140737488351232) (w : World) : Calls Try.prog 22 #[.string t] w fun e w' => e = .returned (.string (SHA t)) ∧ Below w.heap.size w w' := by
  have h := sum_calls t ht w
  rw [SHA_sum] at h
  exact h
end Go.Proofs.Ytomenklhgofjaaa.Sh
