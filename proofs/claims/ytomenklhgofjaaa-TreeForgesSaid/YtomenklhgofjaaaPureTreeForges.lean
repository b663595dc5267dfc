/- Another piece, another place, or another way shows a piece just where the reference says that it does. For every input. -/
import Derived.Test.YtomenklhgofjaaaXTreeForgesx1
import Derived.Test.YtomenklhgofjaaaXTreeForgesx2
import Derived.Test.YtomenklhgofjaaaXTreeForgesx3
import Derived.Test.YtomenklhgofjaaaXTreeForgesx4
import Derived.Test.YtomenklhgofjaaaXTreeForgesx5
import Derived.Test.YtomenklhgofjaaaXTreeForgesx6
import Derived.Test.YtomenklhgofjaaaXTreeForgesx7
import Derived.Test.YtomenklhgofjaaaMBits
import Derived.Test.YtomenklhgofjaaaXRows
import Derived.Test.YtomenklhgofjaaaXTf
namespace Go.Proofs.Ytomenklhgofjaaa.Pure
open Go.RowKit Go.Proofs.Ytomenklhgofjaaa Go.Proofs.Ytomenklhgofjaaa.XTreeForges Go.Proofs.YtomenklhgofjaaaW.PrintWords Go.Proofs.YtomenklhgofjaaaW.PrintLast Go.Proofs.YtomenklhgofjaaaW.PrintMore
set_option linter.unusedVariables false
set_option linter.unusedSimpArgs false
/-! two texts held against each other -/
theorem or8 {a b : Nat} (ha : a < 256) (hb : b < 256) : Go.bits .or .u8 a b = ((a ||| b : Nat) : Int) := by
  have ha' : a % 2 ^ IntKind.u8.bits = a := Nat.mod_eq_of_lt ha
  have hb' : b % 2 ^ IntKind.u8.bits = b := Nat.mod_eq_of_lt hb
  have hlt : a ||| b < 2 ^ 8 := Nat.or_lt_two_pow ha hb
  simp only [Go.bits, BitVec.ofInt_natCast, BitVec.toNat_or, BitVec.toNat_ofNat, ha', hb']
  rw [Bt.wrap_u8]
  omega
theorem xor_zero {x y : Nat} : x ^^^ y = 0 ↔ x = y := by
  constructor
  · intro h
    refine Nat.eq_of_testBit_eq fun i => ?_
    have h1 : (x ^^^ y).testBit i = false := by rw [h]; exact Nat.zero_testBit i
    rw [Nat.testBit_xor] at h1
    cases hx : x.testBit i <;> cases hy : y.testBit i <;> simp_all
  · intro h
    rw [h]
    exact Nat.xor_self y
theorem w64n (i : Nat) (h : i < 1000000) : wrap64 ((i : Int) + 1) = ((i + 1 : Nat) : Int) := by unfold wrap64; omega
theorem bt_drop (xs : ByteArray) (i : Nat) (a : UInt8) (l : List UInt8) (h : xs.data.toList.drop i = a :: l) : bt xs (i : Int) = a.toNat ∧ i < xs.size := by
  have hl : i < xs.data.toList.length := by
    rcases Nat.lt_or_ge i xs.data.toList.length with h1 | h1
    · exact h1
    · rw [List.drop_eq_nil_of_le h1] at h
      cases h
  have hz := data_length xs
  refine ⟨?_, by omega⟩
  rw [Sh.bt_get]
  have he : xs.data.toList[i] = a := by
    rw [List.drop_eq_getElem_cons hl] at h
    injection h
  unfold bytesOf
  rw [List.getD_eq_getElem?_getD, List.getElem?_eq_getElem (by rw [List.length_map]; exact hl), Option.getD_some, List.getElem_map, he]
theorem same_l (a b : ByteArray) (hab : a.size = b.size) (ha : a.size ≤ 1000) (j : Nat) : ∀ (xs ys : List UInt8) (i x : Nat), x < 256 → xs.length = ys.length → a.data.toList.drop i = xs → b.data.toList.drop i = ys → i + xs.length = a.size →
    mac_Same.l0 (xs.length + 1 + j) a b (x : Int) (a.size : Int) (i : Int) = some (decide (x = 0 ∧ xs = ys)) := by
  intro xs
  induction xs with
  | nil =>
    intro ys i x hx hl h1 h2 h3
    obtain rfl : ys = [] := List.eq_nil_of_length_eq_zero hl.symm
    rw [show ([] : List UInt8).length + 1 + j = j + 1 by simp; omega]
    rw [mac_Same.l0]
    rw [if_neg (by simp at h3; omega)]
    congr 1
    by_cases h0 : x = 0
    · subst h0; rfl
    · rw [decide_eq_false (by intro h; exact h0 h.1)]
      exact beq_eq_false_iff_ne.mpr (by omega)
  | cons c xs ih =>
    intro ys i x hx hl h1 h2 h3
    cases ys with
    | nil => simp at hl
    | cons d ys =>
      obtain ⟨b1, l1⟩ := bt_drop a i c xs h1
      obtain ⟨b2, l2⟩ := bt_drop b i d ys h2
      have hc := c.toNat_lt
      have hd := d.toNat_lt
      have hx1 : c.toNat ^^^ d.toNat < 256 := Nat.xor_lt_two_pow (n := 8) hc hd
      have hx2 : x ||| (c.toNat ^^^ d.toNat) < 256 := Nat.or_lt_two_pow (n := 8) hx hx1
      have i2 := ih ys (i + 1) (x ||| (c.toNat ^^^ d.toNat)) hx2 (by simpa using hl) (by rw [← List.drop_drop, h1]; rfl) (by rw [← List.drop_drop, h2]; rfl) (by rw [List.length_cons] at h3; omega)
      rw [show (c :: xs).length + 1 + j = (xs.length + 1 + j) + 1 by simp; omega]
      rw [mac_Same.l0]
      rw [if_pos (by omega), if_pos (by omega), if_pos (by omega), if_pos (by omega), b1, b2, Bt.x8 hc hd, or8 hx hx1, w64n i (by omega), i2]
      congr 1
      rw [decide_eq_decide, Nat.or_eq_zero_iff, xor_zero, List.cons.injEq, UInt8.toNat_inj, and_assoc]
theorem same_f (a b : ByteArray) (j : Nat) (ha : a.size ≤ 100) : mac_Same.f (200 + j) a b = some (decide (a.data.toList = b.data.toList)) := by
  unfold mac_Same.f
  have za := data_length a
  have zb := data_length b
  by_cases h : a.size = b.size
  · rw [if_pos (by omega)]
    have h1 := same_l a b h (by omega) (200 + j - (a.data.toList.length + 1)) a.data.toList b.data.toList 0 0 (by decide) (by omega) rfl rfl (by omega)
    rw [show a.data.toList.length + 1 + (200 + j - (a.data.toList.length + 1)) = 200 + j by omega] at h1
    refine h1.trans ?_
    congr 1
    rw [decide_eq_decide]
    exact ⟨fun h => h.2, fun h => ⟨rfl, h⟩⟩
  · rw [if_neg (by omega), decide_eq_false]
    intro e
    have : a.data.toList.length = b.data.toList.length := by rw [e]
    omega
/-! the tree of pieces -/
def sp (n : Nat) : Nat := if n ≤ 2 then 1 else if n ≤ 4 then 2 else if n ≤ 8 then 4 else 8
theorem sp_lt (n : Nat) (h : 2 ≤ n) : 1 ≤ sp n ∧ sp n < n := by unfold sp; (repeat' split) <;> omega
def nodeF (a b : ByteArray) : ByteArray := Sh.SHA (((⟨#[1]⟩ : ByteArray) ++ a) ++ b)
def leafF (s : ByteArray) : ByteArray := Sh.SHA ((⟨#[0]⟩ : ByteArray) ++ s)
theorem sha_f (t : ByteArray) (h : t.size ≤ 1000000) : sha_Sum.f t = some (Sh.SHA t) := if_pos (by omega)
theorem refsha_f (t : ByteArray) (h : t.size ≤ 1000000) : tinderboxref02_Sum.f t = some (Sh.SHA t) := if_pos (by omega)
theorem one_size : (⟨#[1]⟩ : ByteArray).size = 1 := rfl
theorem zero_size : (⟨#[0]⟩ : ByteArray).size = 1 := rfl
theorem node_f (a b : ByteArray) (ha : a.size ≤ 1000) (hb : b.size ≤ 1000) : tree_node.f a b = some (nodeF a b) := by
  have h1 := one_size
  unfold tree_node.f
  rw [if_pos (by omega), if_pos (by rw [ByteArray.size_append]; omega), sha_f _ (by rw [ByteArray.size_append, ByteArray.size_append]; omega), Option.bind_some]
  rfl
theorem leaf_f (s : ByteArray) (h : s.size ≤ 1000) : tree_Leaf.f s = some (leafF s) := by
  have h1 := zero_size
  unfold tree_Leaf.f
  rw [if_pos (by omega), sha_f _ (by rw [ByteArray.size_append]; omega), Option.bind_some]
  rfl
theorem nodeF_size (a b : ByteArray) : (nodeF a b).size = 32 := Sh.SHA_size _
theorem leafF_size (a : ByteArray) : (leafF a).size = 32 := Sh.SHA_size _
/-- The digest of leaves. -/
def rootW (l : List ByteArray) : ByteArray :=
  if h : l.length < 2 then (if l.length = 0 then Sh.SHA ⟨#[2]⟩ else l.getD 0 ByteArray.empty)
  else nodeF (rootW (l.take (sp l.length))) (rootW (l.drop (sp l.length)))
termination_by l.length
decreasing_by all_goals (simp only [List.length_take, List.length_drop]; have := sp_lt l.length (by omega); omega)
theorem rootW_ge (l : List ByteArray) (h : ¬ l.length < 2) : rootW l = nodeF (rootW (l.take (sp l.length))) (rootW (l.drop (sp l.length))) := by rw [rootW, dif_neg h]
/-- The digests beside the way up. -/
def wayW (l : List ByteArray) (at_ : Int) : List S42 :=
  if h : l.length < 2 then []
  else if at_ < sp l.length then wayW (l.take (sp l.length)) at_ ++ [⟨rootW (l.drop (sp l.length)), false⟩]
  else wayW (l.drop (sp l.length)) (at_ - sp l.length) ++ [⟨rootW (l.take (sp l.length)), true⟩]
termination_by l.length
decreasing_by all_goals (simp only [List.length_take, List.length_drop]; have := sp_lt l.length (by omega); omega)
def Small (l : List ByteArray) : Prop := l.length ≤ 9 ∧ ∀ s ∈ l, s.size ≤ 40
theorem Small.take {l : List ByteArray} (h : Small l) (n : Nat) : Small (l.take n) := ⟨by rw [List.length_take]; have := h.1; omega, fun s hs => h.2 s (List.mem_of_mem_take hs)⟩
theorem Small.drop {l : List ByteArray} (h : Small l) (n : Nat) : Small (l.drop n) := ⟨by rw [List.length_drop]; have := h.1; omega, fun s hs => h.2 s (List.mem_of_mem_drop hs)⟩
theorem getD_mem (l : List ByteArray) (i : Nat) (h : i < l.length) : l.getD i ByteArray.empty ∈ l := by
  rw [List.getD_eq_getElem?_getD, List.getElem?_eq_getElem h]
  exact List.getElem_mem h
theorem le_up {α : Type} {f : Nat → Option α} (hm : ∀ k, LeO (f k) (f (k + 1))) {r : α} {k : Nat} (h : f k = some r) : ∀ j, f (k + j) = some r
  | 0 => h
  | j + 1 => hm _ _ (le_up hm h j)
theorem split10 : ∀ n : Fin 10, 2 ≤ n.val → tree_split.f 6 (n.val : Int) = some ((sp n.val : Nat) : Int) := by decide +kernel
theorem split_f (n : Nat) (h2 : 2 ≤ n) (h9 : n ≤ 9) (j : Nat) : tree_split.f (6 + j) (n : Int) = some ((sp n : Nat) : Int) := le_up (tree_split.mono _) (split10 ⟨n, by omega⟩ h2) j
theorem rootW_size : ∀ (m : Nat) (l : List ByteArray), l.length ≤ m → (∀ s ∈ l, s.size ≤ 40) → (rootW l).size ≤ 40 := by
  intro m
  induction m with
  | zero =>
    intro l hl h
    rw [rootW, dif_pos (by omega), if_pos (by omega), Sh.SHA_size]
    decide
  | succ m ih =>
    intro l hl h
    rw [rootW]
    by_cases h2 : l.length < 2
    · rw [dif_pos h2]
      by_cases h0 : l.length = 0
      · rw [if_pos h0, Sh.SHA_size]; decide
      · rw [if_neg h0]
        exact h _ (getD_mem l 0 (by omega))
    · rw [dif_neg h2, nodeF_size]
      decide
theorem root_f : ∀ (m : Nat) (l : List ByteArray) (j : Nat), l.length ≤ m → Small l → tree_root.f (m + 7 + j) l = some (rootW l) := by
  intro m
  induction m with
  | zero =>
    intro l j hl hs
    rw [show 0 + 7 + j = (6 + j) + 1 by omega, rootW, dif_pos (by omega), if_pos (by omega)]
    rw [tree_root.f]
    rw [if_pos (by omega), sha_f _ (by decide), Option.bind_some]
  | succ m ih =>
    intro l j hl hs
    rw [show m + 1 + 7 + j = (m + 7 + j) + 1 by omega, rootW]
    rw [tree_root.f]
    by_cases h2 : l.length < 2
    · rw [dif_pos h2]
      by_cases h0 : l.length = 0
      · rw [if_pos (by omega), if_pos h0, sha_f _ (by decide), Option.bind_some]
      · rw [if_neg (by omega), if_neg h0, if_pos (by omega), if_pos (by omega)]
        rfl
    · have hb := sp_lt l.length (by omega)
      have s1 := rootW_size 9 _ (hs.take (sp l.length)).1 (hs.take (sp l.length)).2
      have s2 := rootW_size 9 _ (hs.drop (sp l.length)).1 (hs.drop (sp l.length)).2
      have h9 := hs.1
      rw [dif_neg h2, if_neg (by omega), if_neg (by omega), show m + 7 + j = 6 + (m + 1 + j) by omega, split_f l.length (by omega) h9, Option.bind_some, if_pos (by omega), if_pos (by omega), Int.toNat_natCast, show 6 + (m + 1 + j) = m + 7 + j by omega,
        ih _ j (by rw [List.length_take]; omega) (hs.take _), Option.bind_some, ih _ j (by rw [List.length_drop]; omega) (hs.drop _), Option.bind_some, node_f _ _ (by omega) (by omega), Option.bind_some]
theorem wayW_len : ∀ (m : Nat) (l : List ByteArray) (i : Int), l.length ≤ m → (wayW l i).length ≤ m := by
  intro m
  induction m with
  | zero => intro l i h; rw [wayW, dif_pos (by omega)]; exact Nat.le_refl _
  | succ m ih =>
    intro l i h
    rw [wayW]
    by_cases h2 : l.length < 2
    · rw [dif_pos h2]; exact Nat.zero_le _
    · have hb := sp_lt l.length (by omega)
      rw [dif_neg h2]
      by_cases hi : i < sp l.length
      · rw [if_pos hi, List.length_append]
        have := ih (l.take (sp l.length)) i (by rw [List.length_take]; omega)
        simp
        omega
      · rw [if_neg hi, List.length_append]
        have := ih (l.drop (sp l.length)) (i - sp l.length) (by rw [List.length_drop]; omega)
        simp
        omega
theorem way_f : ∀ (m : Nat) (l : List ByteArray) (i : Int) (j : Nat), l.length ≤ m → Small l → 0 ≤ i → i < 100 → tree_way.f (m + 14 + j) l i = some (wayW l i) := by
  intro m
  induction m with
  | zero =>
    intro l i j hl hs h0 h1
    rw [show 0 + 14 + j = (13 + j) + 1 by omega, wayW, dif_pos (by omega)]
    rw [tree_way.f]
    rw [if_pos (by omega)]
  | succ m ih =>
    intro l i j hl hs h0 h1
    rw [show m + 1 + 14 + j = (m + 14 + j) + 1 by omega, wayW]
    rw [tree_way.f]
    by_cases h2 : l.length < 2
    · rw [dif_pos h2, if_pos (by omega)]
    · have hb := sp_lt l.length (by omega)
      have h9 := hs.1
      have z1 := ih (l.take (sp l.length)) i j (by rw [List.length_take]; omega) (hs.take _) h0 h1
      have g1 := root_f m (l.drop (sp l.length)) (7 + j) (by rw [List.length_drop]; omega) (hs.drop _)
      have g2 := root_f m (l.take (sp l.length)) (7 + j) (by rw [List.length_take]; omega) (hs.take _)
      have q1 := wayW_len 9 (l.take (sp l.length)) i (by rw [List.length_take]; omega)
      have q2 := wayW_len 9 (l.drop (sp l.length)) (i - sp l.length) (by rw [List.length_drop]; omega)
      have sf := split_f l.length (by omega) h9 (m + 8 + j)
      rw [show m + 7 + (7 + j) = m + 14 + j by omega] at g1 g2
      rw [show 6 + (m + 8 + j) = m + 14 + j by omega] at sf
      rw [dif_neg h2, if_neg (by omega), sf, Option.bind_some]
      by_cases hi : i < ((sp l.length : Nat) : Int)
      · rw [if_pos hi, if_pos hi, if_pos (by omega), if_pos (by omega), Int.toNat_natCast, z1, Option.bind_some, g1, Option.bind_some, if_pos (by omega)]
      · have z2 := ih (l.drop (sp l.length)) (i - sp l.length) j (by rw [List.length_drop]; omega) (hs.drop _) (by omega) (by omega)
        rw [if_neg hi, if_neg hi, if_pos (by omega), if_pos (by omega), Int.toNat_natCast, show wrap64 (i - ((sp l.length : Nat) : Int)) = i - ((sp l.length : Nat) : Int) by unfold wrap64; omega, z2, Option.bind_some, g2, Option.bind_some, if_pos (by omega)]
/-- The sides of the way up. -/
def sidesW (n : Nat) (i : Int) : List Bool :=
  if h : n < 2 then [] else if i < sp n then sidesW (sp n) i ++ [false] else sidesW (n - sp n) (i - sp n) ++ [true]
termination_by n
decreasing_by all_goals (have := sp_lt n (by omega); omega)
theorem sidesW_way : ∀ (m : Nat) (l : List ByteArray) (i : Int), l.length ≤ m → sidesW l.length i = (wayW l i).map S42.f1 := by
  intro m
  induction m with
  | zero => intro l i h; rw [sidesW, wayW, dif_pos (by omega), dif_pos (by omega)]; rfl
  | succ m ih =>
    intro l i h
    rw [sidesW, wayW]
    by_cases h2 : l.length < 2
    · rw [dif_pos h2, dif_pos h2]; rfl
    · have hb := sp_lt l.length (by omega)
      have e1 : (l.take (sp l.length)).length = sp l.length := by rw [List.length_take]; omega
      have e2 : (l.drop (sp l.length)).length = l.length - sp l.length := by rw [List.length_drop]
      have i1 := ih (l.take (sp l.length)) i (by omega)
      have i2 := ih (l.drop (sp l.length)) (i - sp l.length) (by omega)
      rw [e1] at i1
      rw [e2] at i2
      rw [dif_neg h2, dif_neg h2]
      by_cases hi : i < sp l.length
      · rw [if_pos hi, if_pos hi, i1, List.map_append]; rfl
      · rw [if_neg hi, if_neg hi, i2, List.map_append]; rfl
theorem sidesW_len : ∀ (m n : Nat) (i : Int), n ≤ m → (sidesW n i).length ≤ m := by
  intro m
  induction m with
  | zero => intro n i h; rw [sidesW, dif_pos (by omega)]; exact Nat.le_refl _
  | succ m ih =>
    intro n i h
    rw [sidesW]
    by_cases h2 : n < 2
    · rw [dif_pos h2]; exact Nat.zero_le _
    · have hb := sp_lt n (by omega)
      rw [dif_neg h2]
      by_cases hi : i < sp n
      · rw [if_pos hi, List.length_append]; have := ih (sp n) i (by omega); simp; omega
      · rw [if_neg hi, List.length_append]; have := ih (n - sp n) (i - sp n) (by omega); simp; omega
theorem sides_f : ∀ (m n : Nat) (i : Int) (j : Nat), n ≤ m → n ≤ 9 → 0 ≤ i → i < 100 → tree_sides.f (m + 8 + j) (n : Int) i = some (sidesW n i) := by
  intro m
  induction m with
  | zero =>
    intro n i j hl hs h0 h1
    rw [show 0 + 8 + j = (7 + j) + 1 by omega, sidesW, dif_pos (by omega)]
    rw [tree_sides.f]
    rw [if_pos (by omega)]
  | succ m ih =>
    intro n i j hl hs h0 h1
    rw [show m + 1 + 8 + j = (m + 8 + j) + 1 by omega, sidesW]
    rw [tree_sides.f]
    by_cases h2 : n < 2
    · rw [dif_pos h2, if_pos (by omega)]
    · have hb := sp_lt n (by omega)
      have sf := split_f n (by omega) hs (m + 2 + j)
      rw [show 6 + (m + 2 + j) = m + 8 + j by omega] at sf
      have q1 := sidesW_len 9 (sp n) i (by omega)
      have q2 := sidesW_len 9 (n - sp n) (i - sp n) (by omega)
      rw [dif_neg h2, if_neg (by omega), sf, Option.bind_some]
      by_cases hi : i < ((sp n : Nat) : Int)
      · rw [if_pos hi, if_pos hi, ih (sp n) i j (by omega) (by omega) h0 h1, Option.bind_some, if_pos (by omega)]
      · have z2 := ih (n - sp n) (i - sp n) j (by omega) (by omega) (by omega) (by omega)
        rw [show ((n - sp n : Nat) : Int) = (n : Int) - ((sp n : Nat) : Int) by omega] at z2
        rw [if_neg hi, if_neg hi, show wrap64 (i - ((sp n : Nat) : Int)) = i - ((sp n : Nat) : Int) by unfold wrap64; omega, show wrap64 ((n : Int) - ((sp n : Nat) : Int)) = (n : Int) - ((sp n : Nat) : Int) by unfold wrap64; omega, z2, Option.bind_some, if_pos (by omega)]
/-- One step up. -/
def stepW (d : ByteArray) (s : S42) : ByteArray := if s.f1 = true then nodeF s.f0 d else nodeF d s.f0
def upW (d : ByteArray) (p : List S42) : ByteArray := p.foldl stepW d
theorem upW_way : ∀ (m : Nat) (l : List ByteArray) (i : Nat), l.length ≤ m → i < l.length → upW (l.getD i ByteArray.empty) (wayW l i) = rootW l := by
  intro m
  induction m with
  | zero => intro l i h1 h2; omega
  | succ m ih =>
    intro l i h h1
    rw [wayW]
    by_cases h2 : l.length < 2
    · rw [dif_pos h2, rootW, dif_pos h2, if_neg (by omega), show i = 0 by omega]
      rfl
    · have hb := sp_lt l.length (by omega)
      rw [dif_neg h2, rootW_ge l h2]
      by_cases hi : i < sp l.length
      · have e := ih (l.take (sp l.length)) i (by rw [List.length_take]; omega) (by rw [List.length_take]; omega)
        have e1 : (l.take (sp l.length)).getD i ByteArray.empty = l.getD i ByteArray.empty := by
          rw [List.getD_eq_getElem?_getD, List.getD_eq_getElem?_getD, List.getElem?_take, if_pos hi]
        rw [e1] at e
        rw [if_pos (by omega)]
        unfold upW at e ⊢
        rw [List.foldl_append, e]
        rfl
      · have e := ih (l.drop (sp l.length)) (i - sp l.length) (by rw [List.length_drop]; omega) (by rw [List.length_drop]; omega)
        have e1 : (l.drop (sp l.length)).getD (i - sp l.length) ByteArray.empty = l.getD i ByteArray.empty := by
          rw [List.getD_eq_getElem?_getD, List.getD_eq_getElem?_getD, List.getElem?_drop, show sp l.length + (i - sp l.length) = i by omega]
        rw [e1, show ((i - sp l.length : Nat) : Int) = (i : Int) - (sp l.length : Int) by omega] at e
        rw [if_neg (by omega)]
        unfold upW at e ⊢
        rw [List.foldl_append, e]
        rfl
/-! what the code makes of it -/
def SmallS (p : List S42) : Prop := ∀ s ∈ p, s.f0.size ≤ 1000
theorem rdOfB_mid (pre r : List Bool) (v : Bool) : rdOf false (pre ++ v :: r) ((pre.length : Nat) : Int) = v := by
  unfold rdOf
  rw [Int.toNat_natCast, List.getD_eq_getElem?_getD, List.getElem?_append_right (Nat.le_refl _), Nat.sub_self]
  rfl
theorem rdS_mid (pre r : List S42) (v : S42) : rd_T42 (pre ++ v :: r) ((pre.length : Nat) : Int) = v := by
  unfold rd_T42
  rw [Int.toNat_natCast, List.getD_eq_getElem?_getD, List.getElem?_append_right (Nat.le_refl _), Nat.sub_self]
  rfl
theorem rdP_mid (pre r : List ByteArray) (v : ByteArray) : rdOf ByteArray.empty (pre ++ v :: r) ((pre.length : Nat) : Int) = v := by
  unfold rdOf
  rw [Int.toNat_natCast, List.getD_eq_getElem?_getD, List.getElem?_append_right (Nat.le_refl _), Nat.sub_self]
  rfl
/-- Do the sides fit, and where does the way come to? -/
def fits (sd : List Bool) (p : List S42) : Bool := decide (p.map S42.f1 = sd)
theorem verify_l (top : ByteArray) (j : Nat) : ∀ (p : List S42) (sd : List Bool) (pre : List S42) (ps : List Bool) (d : ByteArray), p.length = sd.length → pre.length = ps.length → pre.length + p.length ≤ 100 → SmallS p → d.size ≤ 100 →
    tree_Verify.l0 (p.length + 201 + j) top (ps ++ sd) d (pre ++ p) ((pre ++ p).length : Int) (pre.length : Int) = some (decide (p.map S42.f1 = sd ∧ (upW d p).data.toList = top.data.toList)) := by
  intro p
  induction p with
  | nil =>
    intro sd pre ps d hl hp h1 hs hd
    obtain rfl : sd = [] := List.eq_nil_of_length_eq_zero hl.symm
    rw [show ([] : List S42).length + 201 + j = (200 + j) + 1 by simp; omega]
    rw [tree_Verify.l0]
    rw [if_neg (by simp), same_f d top j hd, Option.bind_some]
    congr 1
    rw [decide_eq_decide]
    exact ⟨fun h => ⟨rfl, h⟩, fun h => h.2⟩
  | cons s p ih =>
    intro sd pre ps d hl hp h1 hs hd
    cases sd with
    | nil => simp at hl
    | cons b sd =>
      rw [List.length_cons] at h1
      have hsz : s.f0.size ≤ 1000 := hs s List.mem_cons_self
      have hlen : ((pre ++ s :: p).length : Int) = (pre.length : Int) + (p.length : Int) + 1 := by rw [List.length_append, List.length_cons]; omega
      have i2 := fun d' (hd' : d'.size ≤ 100) => ih sd (pre ++ [s]) (ps ++ [b]) d' (by simpa using hl) (by simp [hp]) (by rw [List.length_append, List.length_singleton]; omega) (fun x hx => hs x (List.mem_cons_of_mem _ hx)) hd'
      simp only [List.append_assoc, List.length_append, List.length_singleton] at i2
      rw [show (s :: p).length + 201 + j = (p.length + 201 + j) + 1 by simp; omega]
      rw [tree_Verify.l0]
      rw [hlen, rdS_mid, hp, rdOfB_mid, ← hp, if_pos (by omega), if_pos (by omega), if_pos (by omega), if_pos (by rw [List.length_append, List.length_cons]; simp at hl; omega), w64n _ (by omega)]
      by_cases hb : s.f1 = b
      · have e1 : (s.f1 != b) = false := by rw [hb]; exact bne_self_eq_false b
        rw [if_neg (by rw [e1]; decide)]
        have fin : ∀ d', d'.size ≤ 100 → stepW d s = d' → tree_Verify.l0 (p.length + 201 + j) top (ps ++ b :: sd) d' (pre ++ s :: p) ((pre.length : Int) + (p.length : Int) + 1) ((pre.length + 1 : Nat) : Int) = some (decide ((s :: p).map S42.f1 = b :: sd ∧ (upW d (s :: p)).data.toList = top.data.toList)) := by
          intro d' hd' e'
          have h9 := i2 d' hd'
          rw [show ((pre.length + (1 + p.length) : Nat) : Int) = (pre.length : Int) + (p.length : Int) + 1 by simp; omega] at h9
          refine h9.trans ?_
          congr 1
          rw [decide_eq_decide, List.map_cons, List.cons.injEq, ← e']
          exact ⟨fun h => ⟨⟨hb, h.1⟩, h.2⟩, fun h => ⟨h.1.2, h.2⟩⟩
        by_cases hb1 : s.f1 = true
        · rw [if_pos hb1, node_f _ _ hsz (by omega), Option.bind_some]
          exact fin _ (by rw [nodeF_size]; decide) (by unfold stepW; rw [if_pos hb1])
        · rw [if_neg hb1, node_f _ _ (by omega) hsz, Option.bind_some]
          exact fin _ (by rw [nodeF_size]; decide) (by unfold stepW; rw [if_neg hb1])
      · have e1 : (s.f1 != b) = true := bne_iff_ne.mpr hb
        rw [if_pos e1, decide_eq_false]
        intro h
        have := h.1
        rw [List.map_cons, List.cons.injEq] at this
        exact hb this.1
/-- What a way up shows. -/
def showsW (top : ByteArray) (n : Nat) (i : Int) (piece : ByteArray) (p : List S42) : Bool := decide (p.map S42.f1 = sidesW n i ∧ (upW (leafF piece) p).data.toList = top.data.toList)
theorem verify_f (top piece : ByteArray) (n : Nat) (i : Int) (p : List S42) (j : Nat) (hn : n ≤ 9) (h0 : 0 ≤ i) (h1 : i < n) (hp : SmallS p) (hpl : p.length ≤ 50) (hz : piece.size ≤ 1000) :
    tree_Verify.f (260 + j) top (n : Int) i piece p = some (showsW top n i piece p) := by
  unfold tree_Verify.f
  rw [if_neg (by omega), if_neg (by omega), decide_eq_false (by omega), show 260 + j = (259 + j) + 1 by omega]
  rw [tree_Verify.j0]
  have sf := sides_f 9 n i (242 + j) hn hn h0 (by omega)
  rw [show 9 + 8 + (242 + j) = 259 + j by omega] at sf
  rw [if_neg (by decide), sf, Option.bind_some]
  unfold showsW
  by_cases hl : (sidesW n i).length = p.length
  · have vl := verify_l top (58 - p.length + j) p (sidesW n i) [] [] (leafF piece) hl.symm rfl (by simp; omega) hp (by rw [leafF_size]; decide)
    rw [show p.length + 201 + (58 - p.length + j) = 259 + j by omega] at vl
    rw [if_pos (by omega), leaf_f piece hz, Option.bind_some]
    exact vl
  · rw [if_neg (by omega), decide_eq_false]
    intro h
    apply hl
    rw [← h.1, List.length_map]
theorem leaves_l (j : Nat) : ∀ (suf pre : List ByteArray) (acc : List ByteArray), pre.length + suf.length ≤ 9 → acc.length = pre.length → (∀ s ∈ suf, s.size ≤ 1000) → tree_leaves.l0 (suf.length + 1 + j) acc (pre ++ suf) ((pre ++ suf).length : Int) (pre.length : Int) = some (acc ++ suf.map leafF) := by
  intro suf
  induction suf with
  | nil =>
    intro pre acc h ha hs
    rw [show ([] : List ByteArray).length + 1 + j = j + 1 by simp; omega]
    rw [tree_leaves.l0]
    rw [if_neg (by simp)]
    simp
  | cons s suf ih =>
    intro pre acc h ha hs
    rw [List.length_cons] at h
    have hlen : ((pre ++ s :: suf).length : Int) = (pre.length : Int) + (suf.length : Int) + 1 := by rw [List.length_append, List.length_cons]; omega
    have i2 := ih (pre ++ [s]) (acc ++ [leafF s]) (by rw [List.length_append, List.length_singleton]; omega) (by simp [ha]) (fun x hx => hs x (List.mem_cons_of_mem _ hx))
    simp only [List.append_assoc, List.length_append, List.length_singleton] at i2
    rw [show ((pre.length + (1 + suf.length) : Nat) : Int) = (pre.length : Int) + (suf.length : Int) + 1 by simp; omega] at i2
    rw [show (s :: suf).length + 1 + j = (suf.length + 1 + j) + 1 by simp; omega]
    rw [tree_leaves.l0]
    rw [hlen, rdP_mid, if_pos (by omega), if_pos (by omega), if_pos (by omega), leaf_f s (hs s List.mem_cons_self), Option.bind_some, if_pos (by omega), w64n _ (by omega)]
    exact i2
theorem leaves_f (l : List ByteArray) (j : Nat) (h : l.length ≤ 9) (hs : ∀ s ∈ l, s.size ≤ 1000) : tree_leaves.f (10 + j) l = some (l.map leafF) := by
  have h9 := leaves_l (9 - l.length + j) l [] [] (by simpa using h) rfl hs
  rw [show l.length + 1 + (9 - l.length + j) = 10 + j by omega] at h9
  exact h9
theorem small_leaves {l : List ByteArray} (h : l.length ≤ 9) : Small (l.map leafF) := ⟨by rw [List.length_map]; exact h, fun s hs => by obtain ⟨x, _, rfl⟩ := List.mem_map.1 hs; rw [leafF_size]; decide⟩
theorem Root_f (l : List ByteArray) (j : Nat) (h : l.length ≤ 9) (hs : ∀ s ∈ l, s.size ≤ 1000) : tree_Root.f (20 + j) l = some (rootW (l.map leafF)) := by
  unfold tree_Root.f
  rw [show 20 + j = 10 + (10 + j) by omega, leaves_f l _ h hs, Option.bind_some, show 10 + (10 + j) = 9 + 7 + (4 + j) by omega, root_f 9 _ _ (by rw [List.length_map]; exact h) (small_leaves h), Option.bind_some]
theorem Proof_f (l : List ByteArray) (i : Int) (j : Nat) (h : l.length ≤ 9) (hs : ∀ s ∈ l, s.size ≤ 1000) (h0 : 0 ≤ i) (h1 : i < l.length) : tree_Proof.f (30 + j) l i = some (wayW (l.map leafF) i, true) := by
  unfold tree_Proof.f
  rw [if_neg (by omega), decide_eq_false (by omega), show 30 + j = (29 + j) + 1 by omega]
  rw [tree_Proof.j0]
  rw [if_neg (by decide), show 29 + j = 10 + (19 + j) by omega, leaves_f l _ h hs, Option.bind_some, show 10 + (19 + j) = 9 + 14 + (6 + j) by omega, way_f 9 _ _ _ (by rw [List.length_map]; exact h) (small_leaves h) h0 (by omega), Option.bind_some]
theorem Proof_no (l : List ByteArray) (i : Int) (j : Nat) (h : i < 0 ∨ i ≥ l.length) : tree_Proof.f (1 + j) l i = some ([], false) := by
  unfold tree_Proof.f
  rw [show 1 + j = j + 1 by omega]
  by_cases h0 : i < 0
  · rw [if_pos h0]
    rw [tree_Proof.j0]
    rw [if_pos rfl]
  · rw [if_neg h0, decide_eq_true (by omega)]
    rw [tree_Proof.j0]
    rw [if_pos rfl]
theorem small_way {l : List ByteArray} : ∀ (m : Nat) (l : List ByteArray) (i : Int), l.length ≤ m → Small l → SmallS (wayW l i) := by
  intro m
  induction m with
  | zero => intro l i h hs; rw [wayW, dif_pos (by omega)]; intro s hs; cases hs
  | succ m ih =>
    intro l i h hs
    rw [wayW]
    by_cases h2 : l.length < 2
    · rw [dif_pos h2]; intro s hs; cases hs
    · have hb := sp_lt l.length (by omega)
      rw [dif_neg h2]
      have r1 := rootW_size 9 _ (hs.drop (sp l.length)).1 (hs.drop (sp l.length)).2
      have r2 := rootW_size 9 _ (hs.take (sp l.length)).1 (hs.take (sp l.length)).2
      by_cases hi : i < sp l.length
      · rw [if_pos hi]
        intro s hs'
        rcases List.mem_append.1 hs' with h' | h'
        · exact ih _ i (by rw [List.length_take]; omega) (hs.take _) s h'
        · obtain rfl := List.mem_singleton.1 h'
          exact Nat.le_trans r1 (by decide)
      · rw [if_neg hi]
        intro s hs'
        rcases List.mem_append.1 hs' with h' | h'
        · exact ih _ _ (by rw [List.length_drop]; omega) (hs.drop _) s h'
        · obtain rfl := List.mem_singleton.1 h'
          exact Nat.le_trans r2 (by decide)
set_option maxRecDepth 100000 in
theorem awake_f : tinderboxlaw37_awake.f 300 = some true := by decide +kernel
theorem few_l (x : List ByteArray) (j : Nat) : ∀ (n i : Nat) (acc : List ByteArray), i + n = 9 → acc.length = i → (∀ s ∈ acc, s.size ≤ 40) → ∃ l, tinderboxlaw37_few.l0 (n + 1 + j) x acc (i : Int) = some l ∧ Small l := by
  intro n
  induction n with
  | zero =>
    intro i acc h ha hs
    refine ⟨acc, ?_, by omega, hs⟩
    rw [show 0 + 1 + j = j + 1 by omega]
    rw [tinderboxlaw37_few.l0]
    by_cases hx : (i : Int) < x.length
    · rw [if_pos hx, if_neg (by omega)]
    · rw [if_neg hx]
  | succ n ih =>
    intro i acc h ha hs
    rw [show n + 1 + 1 + j = (n + 1 + j) + 1 by omega]
    rw [tinderboxlaw37_few.l0]
    by_cases hx : (i : Int) < x.length
    · obtain ⟨q, hq⟩ : ∃ q, mn ((rdOf ByteArray.empty x (i : Int)).size : Int) 40 = q := ⟨_, rfl⟩
      have hq1 : 0 ≤ q ∧ q ≤ ((rdOf ByteArray.empty x (i : Int)).size : Int) ∧ q ≤ 40 := by rw [← hq]; unfold mn; split <;> omega
      obtain ⟨l, hl, hsm⟩ := ih (i + 1) (acc ++ [(rdOf ByteArray.empty x (i : Int)).extract 0 q.toNat]) (by omega) (by simp [ha]) (by
        intro s hs'
        rcases List.mem_append.1 hs' with h' | h'
        · exact hs s h'
        · obtain rfl := List.mem_singleton.1 h'
          rw [ByteArray.size_extract]
          omega)
      refine ⟨l, ?_, hsm⟩
      rw [hq, if_pos hx, if_pos (by omega), if_pos (by omega), if_pos hq1.1, if_pos hq1.2.1, if_pos (by omega), w64n _ (by omega)]
      exact hl
    · refine ⟨acc, ?_, by omega, hs⟩
      rw [if_neg hx]
theorem few_f (x : List ByteArray) (j : Nat) : ∃ l, tinderboxlaw37_few.f (10 + j) x = some l ∧ Small l := few_l x j 9 0 [] rfl rfl (fun s hs => by cases hs)
theorem left10 : ∀ n : Fin 10, 2 ≤ n.val → tinderboxref37_left.f 6 (n.val : Int) = some ((sp n.val : Nat) : Int) := by decide +kernel
theorem left_f (n : Nat) (h2 : 2 ≤ n) (h9 : n ≤ 9) (j : Nat) : tinderboxref37_left.f (6 + j) (n : Int) = some ((sp n : Nat) : Int) := le_up (tinderboxref37_left.mono _) (left10 ⟨n, by omega⟩ h2) j
theorem refroot_f : ∀ (m : Nat) (l : List ByteArray) (j : Nat), l.length ≤ m → Small l → tinderboxref37_Root.f (m + 7 + j) l = some (rootW (l.map leafF)) := by
  intro m
  induction m with
  | zero =>
    intro l j hl hs
    rw [show 0 + 7 + j = (6 + j) + 1 by omega, rootW, dif_pos (by rw [List.length_map]; omega), if_pos (by rw [List.length_map]; omega)]
    rw [tinderboxref37_Root.f]
    rw [if_pos (by omega), refsha_f _ (by decide), Option.bind_some]
  | succ m ih =>
    intro l j hl hs
    rw [show m + 1 + 7 + j = (m + 7 + j) + 1 by omega, rootW, List.length_map]
    rw [tinderboxref37_Root.f]
    by_cases h2 : l.length < 2
    · rw [dif_pos h2]
      by_cases h0 : l.length = 0
      · rw [if_pos (by omega), if_pos h0, refsha_f _ (by decide), Option.bind_some]
      · have hm := hs.2 _ (getD_mem l 0 (by omega))
        have hz := zero_size
        have e : (l.map leafF).getD 0 ByteArray.empty = leafF (l.getD 0 ByteArray.empty) := by
          rw [List.getD_eq_getElem?_getD, List.getD_eq_getElem?_getD, List.getElem?_map, List.getElem?_eq_getElem (show 0 < l.length by omega)]
          rfl
        have e0 : rdOf ByteArray.empty l 0 = l.getD 0 ByteArray.empty := rfl
        rw [if_neg (by omega), if_neg h0, if_pos (by omega), if_pos (by omega), e0, if_pos (by omega), refsha_f _ (by rw [ByteArray.size_append]; omega), Option.bind_some, e]
        rfl
    · have hb := sp_lt l.length (by omega)
      have s1 := rootW_size 9 _ (small_leaves (hs.take (sp l.length)).1).1 (small_leaves (hs.take (sp l.length)).1).2
      have s2 := rootW_size 9 _ (small_leaves (hs.drop (sp l.length)).1).1 (small_leaves (hs.drop (sp l.length)).1).2
      have h9 := hs.1
      have h1 := one_size
      rw [dif_neg h2, if_neg (by omega), if_neg (by omega), show m + 7 + j = 6 + (m + 1 + j) by omega, left_f l.length (by omega) h9, Option.bind_some, if_pos (by omega), if_pos (by omega), Int.toNat_natCast, show 6 + (m + 1 + j) = m + 7 + j by omega,
        ih _ j (by rw [List.length_take]; omega) (hs.take _), Option.bind_some, if_pos (by omega), ih _ j (by rw [List.length_drop]; omega) (hs.drop _), Option.bind_some, if_pos (by rw [ByteArray.size_append]; omega), refsha_f _ (by rw [ByteArray.size_append, ByteArray.size_append]; omega), Option.bind_some, List.map_take, List.map_drop]
      rfl
theorem refway_f : ∀ (m : Nat) (l : List ByteArray) (i : Int) (j : Nat), l.length ≤ m → Small l → 0 ≤ i → i < 100 → tinderboxref37_Way.f (m + 14 + j) l i = some (wayW (l.map leafF) i) := by
  intro m
  induction m with
  | zero =>
    intro l i j hl hs h0 h1
    rw [show 0 + 14 + j = (13 + j) + 1 by omega, wayW, dif_pos (by rw [List.length_map]; omega)]
    rw [tinderboxref37_Way.f]
    rw [if_pos (by omega)]
  | succ m ih =>
    intro l i j hl hs h0 h1
    rw [show m + 1 + 14 + j = (m + 14 + j) + 1 by omega, wayW, List.length_map]
    rw [tinderboxref37_Way.f]
    by_cases h2 : l.length < 2
    · rw [dif_pos h2, if_pos (by omega)]
    · have hb := sp_lt l.length (by omega)
      have h9 := hs.1
      have z1 := ih (l.take (sp l.length)) i j (by rw [List.length_take]; omega) (hs.take _) h0 h1
      have g1 := refroot_f m (l.drop (sp l.length)) (7 + j) (by rw [List.length_drop]; omega) (hs.drop _)
      have g2 := refroot_f m (l.take (sp l.length)) (7 + j) (by rw [List.length_take]; omega) (hs.take _)
      have q1 := wayW_len 9 ((l.take (sp l.length)).map leafF) i (by rw [List.length_map, List.length_take]; omega)
      have q2 := wayW_len 9 ((l.drop (sp l.length)).map leafF) (i - sp l.length) (by rw [List.length_map, List.length_drop]; omega)
      have sf := left_f l.length (by omega) h9 (m + 8 + j)
      rw [show m + 7 + (7 + j) = m + 14 + j by omega] at g1 g2
      rw [show 6 + (m + 8 + j) = m + 14 + j by omega] at sf
      rw [dif_neg h2, if_neg (by omega), sf, Option.bind_some]
      by_cases hi : i < ((sp l.length : Nat) : Int)
      · rw [if_pos hi, if_pos hi, Option.bind_some, if_pos (by omega), if_pos (by omega), Int.toNat_natCast, z1, Option.bind_some, if_pos (by rw [List.length_nil]; omega), Option.bind_some, g1, Option.bind_some, if_pos (by rw [List.nil_append]; omega), List.nil_append, List.map_take, List.map_drop]
      · have z2 := ih (l.drop (sp l.length)) (i - sp l.length) j (by rw [List.length_drop]; omega) (hs.drop _) (by omega) (by omega)
        rw [if_neg hi, if_neg hi, Option.bind_some, if_pos (by omega), if_pos (by omega), Int.toNat_natCast, show wrap64 (i - ((sp l.length : Nat) : Int)) = i - ((sp l.length : Nat) : Int) by unfold wrap64; omega, z2, Option.bind_some, if_pos (by rw [List.length_nil]; omega), Option.bind_some, g2, Option.bind_some, if_pos (by rw [List.nil_append]; omega), List.nil_append, List.map_take, List.map_drop]
/-! the reference's Up and Shows -/
theorem w64s (i : Nat) (h : i < 1000000) : wrap64 ((i : Int) + 1) = ((i + 1 : Nat) : Int) := by unfold wrap64; omega
theorem up_l (j : Nat) : ∀ (p pre : List S42) (d : ByteArray), SmallS p → d.size ≤ 1000 → pre.length + p.length ≤ 100 →
    tinderboxref37_Up.l0 (p.length + 1 + j) (pre ++ p) d (pre.length : Int) = some (upW d p) := by
  intro p
  induction p with
  | nil =>
    intro pre d _ _ _
    rw [show ([] : List S42).length + 1 + j = j + 1 by simp; omega, tinderboxref37_Up.l0, if_neg (by simp)]
    rfl
  | cons s p ih =>
    intro pre d hs hd hl
    have h0 := hs s List.mem_cons_self
    have hr := rdS_mid pre p s
    have z1 := one_size
    have hl' : (pre ++ s :: p).length = pre.length + p.length + 1 := by rw [List.length_append, List.length_cons]; omega
    have e : pre ++ s :: p = (pre ++ [s]) ++ p := by simp
    have hpl : pre.length < 1000000 := by rw [List.length_cons] at hl; omega
    have ih' := fun d' hd' => ih (pre ++ [s]) d' (fun x hx => hs x (List.mem_cons_of_mem _ hx)) hd' (by rw [List.length_append, List.length_cons] at *; simp; omega)
    rw [← e, List.length_append] at ih'
    rw [show (s :: p).length + 1 + j = (p.length + 1 + j) + 1 by rw [List.length_cons]; omega, tinderboxref37_Up.l0, if_pos (by omega), if_pos (by omega), hr, w64s _ hpl]
    by_cases hf : s.f1 = true
    · rw [if_pos hf, if_pos (by omega), if_pos (by rw [ByteArray.size_append]; omega), refsha_f _ (by rw [ByteArray.size_append, ByteArray.size_append]; omega), Option.bind_some]
      have q := ih' (nodeF s.f0 d) (by rw [nodeF_size]; decide)
      have e2 : upW d (s :: p) = upW (nodeF s.f0 d) p := by show upW (stepW d s) p = _; unfold stepW; rw [if_pos hf]
      rw [e2]
      exact q
    · rw [if_neg hf, if_pos (by omega), if_pos (by rw [ByteArray.size_append]; omega), refsha_f _ (by rw [ByteArray.size_append, ByteArray.size_append]; omega), Option.bind_some]
      have q := ih' (nodeF d s.f0) (by rw [nodeF_size]; decide)
      have e2 : upW d (s :: p) = upW (nodeF d s.f0) p := by show upW (stepW d s) p = _; unfold stepW; rw [if_neg hf]
      rw [e2]
      exact q
theorem up_f (piece : ByteArray) (p : List S42) (j : Nat) (hp : SmallS p) (hl : p.length ≤ 100) (hz : piece.size ≤ 1000) : tinderboxref37_Up.f (p.length + 1 + j) piece p = some (upW (leafF piece) p) := by
  have z0 := zero_size
  unfold tinderboxref37_Up.f
  rw [if_pos (by omega), refsha_f _ (by rw [ByteArray.size_append]; omega), Option.bind_some]
  exact up_l j p [] (leafF piece) hp (by rw [leafF_size]; decide) (by simpa using hl)
theorem bl_beq (a b : List UInt8) : (a == b) = decide (a = b) := by
  by_cases h : a = b
  · subst h; simp
  · simp [h]
theorem shows_l1 (top piece : ByteArray) (q : List S42) (hq : SmallS q) (hql : q.length ≤ 50) (hz : piece.size ≤ 1000) (j : Nat) : ∀ (p : List S42) (sd : List Bool) (pre : List S42) (ps : List Bool), q = pre ++ p → p.length = sd.length → pre.length = ps.length →
    tinderboxref37_Shows.l1 (p.length + 101 + j) top piece q (ps ++ sd) (pre.length : Int) = some (decide (p.map S42.f1 = sd ∧ (upW (leafF piece) q).data.toList = top.data.toList)) := by
  intro p
  induction p with
  | nil =>
    intro sd pre ps hqe hl hp
    obtain rfl : sd = [] := List.eq_nil_of_length_eq_zero hl.symm
    rw [List.append_nil] at hqe
    subst hqe
    have uf := up_f piece q (99 - q.length + j) hq (by omega) hz
    rw [show q.length + 1 + (99 - q.length + j) = 100 + j by omega] at uf
    rw [show ([] : List S42).length + 101 + j = (100 + j) + 1 by simp; omega, tinderboxref37_Shows.l1, if_neg (by omega), uf, Option.bind_some, bl_beq, Lib.toList_data, Lib.toList_data]
    congr 1
    simp
  | cons s p ih =>
    intro sd pre ps hqe hl hp
    match sd, hl with
    | b :: sd, hl =>
      have e : q = (pre ++ [s]) ++ p := by rw [hqe]; simp
      have hl' : q.length = pre.length + p.length + 1 := by rw [hqe, List.length_append, List.length_cons]; omega
      have r1 : rd_T42 q (pre.length : Int) = s := by rw [hqe]; exact rdS_mid pre p s
      have r2 : rdOf false (ps ++ b :: sd) (pre.length : Int) = b := by rw [hp]; exact rdOfB_mid ps sd b
      have hsl : (ps ++ b :: sd).length = ps.length + sd.length + 1 := by rw [List.length_append, List.length_cons]; omega
      have hlen : p.length = sd.length := by simpa using hl
      have ih' := ih sd (pre ++ [s]) (ps ++ [b]) e hlen (by rw [List.length_append, List.length_append, hp]; rfl)
      rw [List.append_assoc, List.length_append] at ih'
      rw [show (s :: p).length + 101 + j = (p.length + 101 + j) + 1 by rw [List.length_cons]; omega, tinderboxref37_Shows.l1, if_pos (by omega), if_pos (by omega), if_pos (by omega), r1, r2, w64s _ (by omega)]
      by_cases hb : s.f1 = b
      · rw [if_neg (by simp [hb])]
        refine Eq.trans ih' ?_
        congr 1
        simp [hb]
      · rw [if_pos (by simp [hb]), decide_eq_false (fun h => hb (by have h9 := h.1; rw [List.map_cons] at h9; injection h9))]
theorem shows_l0 (top piece : ByteArray) (p : List S42) (hp : SmallS p) (hpl : p.length ≤ 50) (hz : piece.size ≤ 1000) (j : Nat) : ∀ (m n : Nat) (i : Int) (acc : List Bool), n ≤ m → n ≤ 9 → 0 ≤ i → i < 100 → acc.length + n ≤ 20 →
    tinderboxref37_Shows.l0 (m + 200 + j) top piece p i (n : Int) acc = some (decide (p.map S42.f1 = sidesW n i ++ acc ∧ (upW (leafF piece) p).data.toList = top.data.toList)) := by
  have base : ∀ (m n : Nat) (i : Int) (acc : List Bool), n < 2 → tinderboxref37_Shows.l0 (m + 200 + j) top piece p i (n : Int) acc = some (decide (p.map S42.f1 = sidesW n i ++ acc ∧ (upW (leafF piece) p).data.toList = top.data.toList)) := by
    intro m n i acc hn
    rw [show m + 200 + j = (m + 199 + j) + 1 by omega, tinderboxref37_Shows.l0, if_neg (by omega), sidesW, dif_pos hn, List.nil_append]
    by_cases hl : acc.length = p.length
    · have q := shows_l1 top piece p hp hpl hz (m + 98 - p.length + j) p acc [] [] rfl hl.symm rfl
      rw [show p.length + 101 + (m + 98 - p.length + j) = m + 199 + j by omega] at q
      rw [if_pos (by omega)]
      exact q
    · rw [if_neg (by omega), decide_eq_false (fun h => hl (by rw [← h.1, List.length_map]))]
  intro m
  induction m with
  | zero => intro n i acc hn h9 h0 h1 ha; exact base 0 n i acc (by omega)
  | succ m ih =>
    intro n i acc hn h9 h0 h1 ha
    by_cases h2 : n < 2
    · exact base (m + 1) n i acc h2
    · have hb := sp_lt n (by omega)
      have lf := left_f n (by omega) h9 (m + 194 + j)
      rw [show 6 + (m + 194 + j) = m + 200 + j by omega] at lf
      rw [show m + 1 + 200 + j = (m + 200 + j) + 1 by omega, tinderboxref37_Shows.l0, if_pos (by omega), lf, Option.bind_some, sidesW, dif_neg h2]
      have ha1 : ([false] ++ acc).length + sp n ≤ 20 := by show acc.length + 1 + sp n ≤ 20; omega
      have ha2 : ([true] ++ acc).length + (n - sp n) ≤ 20 := by show acc.length + 1 + (n - sp n) ≤ 20; omega
      by_cases hi : i < ((sp n : Nat) : Int)
      · rw [if_pos hi, if_pos hi, Option.bind_some, if_pos (by simp; omega)]
        refine Eq.trans (ih (sp n) i ([false] ++ acc) (by omega) (by omega) h0 h1 ha1) ?_
        rw [List.append_assoc]
      · rw [if_neg hi, if_neg hi, Option.bind_some, if_pos (by simp; omega)]
        have e1 : wrap64 (i - ((sp n : Nat) : Int)) = i - ((sp n : Nat) : Int) := by unfold wrap64; omega
        have e2 : wrap64 ((n : Int) - ((sp n : Nat) : Int)) = ((n - sp n : Nat) : Int) := by unfold wrap64; omega
        rw [e1, e2]
        refine Eq.trans (ih (n - sp n) (i - sp n) ([true] ++ acc) (by omega) (by omega) (by omega) (by omega) ha2) ?_
        rw [List.append_assoc]
theorem shows_f (top piece : ByteArray) (n : Nat) (i : Int) (p : List S42) (j : Nat) (hn : n ≤ 9) (h0 : 0 ≤ i) (h1 : i < n) (hp : SmallS p) (hpl : p.length ≤ 50) (hz : piece.size ≤ 1000) :
    tinderboxref37_Shows.f (209 + j) top (n : Int) i piece p = some (showsW top n i piece p) := by
  unfold tinderboxref37_Shows.f showsW
  have q := shows_l0 top piece p hp hpl hz j 9 n i [] hn hn h0 (by omega) (by show 0 + n ≤ 20; omega)
  rw [List.append_nil] at q
  rw [show 209 + j = 9 + 200 + j by omega]
  exact q
/-- Two places have two rows of sides. -/
theorem sides_inj : ∀ (m n : Nat) (i k : Int), n ≤ m → 0 ≤ i → i < n → 0 ≤ k → k < n → sidesW n i = sidesW n k → i = k := by
  intro m
  induction m with
  | zero => intro n i k h0 h1 h2 h3 h4 _; omega
  | succ m ih =>
    intro n i k h0 h1 h2 h3 h4 h
    by_cases hn : n < 2
    · omega
    · have hb := sp_lt n (by omega)
      rw [sidesW, dif_neg hn] at h
      conv at h => rhs; rw [sidesW, dif_neg hn]
      by_cases hi : i < sp n
      · by_cases hk : k < sp n
        · rw [if_pos hi, if_pos hk] at h
          exact ih (sp n) i k (by omega) h1 hi h3 hk (List.append_inj_left' h rfl)
        · rw [if_pos hi, if_neg hk] at h
          have := List.append_inj_right' h rfl
          simp at this
      · by_cases hk : k < sp n
        · rw [if_neg hi, if_pos hk] at h
          have := List.append_inj_right' h rfl
          simp at this
        · rw [if_neg hi, if_neg hk] at h
          have := ih (n - sp n) (i - sp n) (k - sp n) (by omega) (by omega) (by omega) (by omega) (by omega) (List.append_inj_left' h rfl)
          omega
theorem way_ne (l : List ByteArray) (i : Int) (h : 2 ≤ l.length) : 1 ≤ (wayW l i).length := by
  rw [wayW, dif_neg (by omega)]
  split
  · rw [List.length_append]; simp
  · rw [List.length_append]; simp
theorem rdS_zero (s : S42) (p : List S42) : rd_T42 (s :: p) 0 = s := rdS_mid [] p s
theorem set_zero (s t : S42) (p : List S42) : (s :: p).set 0 t = t :: p := rfl
theorem flip_size (d : ByteArray) (y : Int) : (strOfNums ((bytesOf d).set 0 y)).size = d.size := by
  have h : (strOfNums ((bytesOf d).set 0 y)).data.toList.length = d.size := by
    unfold strOfNums
    simp [bytesOf_length]
  rw [Lib.size_eq]
  exact h
/-- Every digest of a way has bytes. -/
def Full (p : List S42) : Prop := ∀ s ∈ p, s.f0.size = 32 ∨ s.f0.size ≤ 1000 ∧ 1 ≤ s.f0.size
theorem root_pos : ∀ (m : Nat) (l : List ByteArray), l.length ≤ m → (∀ s ∈ l, s.size = 32) → (rootW l).size = 32 := by
  intro m l _ h
  rw [rootW]
  by_cases h2 : l.length < 2
  · rw [dif_pos h2]
    by_cases h0 : l.length = 0
    · rw [if_pos h0, Sh.SHA_size]
    · rw [if_neg h0]
      exact h _ (getD_mem l 0 (by omega))
  · rw [dif_neg h2, nodeF_size]
theorem way_32 : ∀ (m : Nat) (l : List ByteArray) (i : Int), l.length ≤ m → (∀ s ∈ l, s.size = 32) → ∀ s ∈ wayW l i, s.f0.size = 32 := by
  intro m
  induction m with
  | zero => intro l i h _ s hs; rw [wayW, dif_pos (by omega)] at hs; cases hs
  | succ m ih =>
    intro l i h hl s hs
    rw [wayW] at hs
    by_cases h2 : l.length < 2
    · rw [dif_pos h2] at hs; cases hs
    · have hb := sp_lt l.length (by omega)
      rw [dif_neg h2] at hs
      have ht : ∀ x ∈ l.take (sp l.length), x.size = 32 := fun x hx => hl x (List.mem_of_mem_take hx)
      have hd : ∀ x ∈ l.drop (sp l.length), x.size = 32 := fun x hx => hl x (List.mem_of_mem_drop hx)
      by_cases hi : i < sp l.length
      · rw [if_pos hi] at hs
        rcases List.mem_append.1 hs with hs | hs
        · exact ih _ i (by rw [List.length_take]; omega) ht s hs
        · obtain rfl := List.mem_singleton.1 hs
          exact root_pos _ _ (Nat.le_refl _) hd
      · rw [if_neg hi] at hs
        rcases List.mem_append.1 hs with hs | hs
        · exact ih _ _ (by rw [List.length_drop]; omega) hd s hs
        · obtain rfl := List.mem_singleton.1 hs
          exact root_pos _ _ (Nat.le_refl _) ht
theorem forges_calls (l0 : List ByteArray) (_ : l0.length ≤ Go.maxLen) (A0 : Option Addr) (c0 : Nat) (a1 a2 : Int) (w : World) (hr0 : Kd.C Kd.string w A0 l0.length l0) (hc0 : l0.length ≤ c0) :
    Calls Try.prog 10 #[.slice A0 l0.length c0, .int .i64 a1, .int .i64 a2] w fun e w' => e = .returned (.bool true) ∧ Below w.heap.size w w' := by
  obtain ⟨l, hF, hS⟩ := few_f l0 590
  rw [show 10 + 590 = 600 from rfl] at hF
  have aw := le_up tinderboxlaw37_awake.mono awake_f 300
  rw [show 300 + 300 = 600 from rfl] at aw
  by_cases h2 : l.length < 2
  · exact Tf.short_calls 600 A0 c0 l0 l a1 a2 w hr0 hc0 hF aw h2
  have h9 := hS.1
  have h40 := hS.2
  have hs1000 : ∀ s ∈ l, s.size ≤ 1000 := fun s hs => Nat.le_trans (h40 s hs) (by decide)
  obtain ⟨i, hi⟩ : ∃ i, Int.tmod (Int.tmod a2 (l.length : Int) + (l.length : Int)) (l.length : Int) = i := ⟨_, rfl⟩
  obtain ⟨K, hK⟩ : ∃ K, Int.tmod (Int.tmod a1 5 + 5) 5 = K := ⟨_, rfl⟩
  have tb := Tf.tm_bounds a2 l.length (by omega)
  have tb5 : -5 < Int.tmod a1 5 ∧ Int.tmod a1 5 < 5 := Tf.tm_bounds a1 5 (by decide)
  have i0 : 0 ≤ i := by rw [← hi]; exact Int.tmod_nonneg _ (by omega)
  have i1 : i < (l.length : Int) := by rw [← hi]; exact Int.tmod_lt_of_pos _ (by omega)
  have K0 : 0 ≤ K := by rw [← hK]; exact Int.tmod_nonneg _ (by omega)
  have K1 : K < 5 := by rw [← hK]; exact Int.tmod_lt_of_pos _ (by omega)
  obtain ⟨n, hn⟩ : ∃ n, l.length = n := ⟨_, rfl⟩
  have hR := Root_f l 580 h9 hs1000
  rw [show 20 + 580 = 600 from rfl] at hR
  have hW := refway_f 9 l i 577 h9 hS i0 (by omega)
  rw [show 9 + 14 + 577 = 600 from rfl] at hW
  have hLl : (l.map leafF).length = l.length := List.length_map ..
  have w1 := way_ne (l.map leafF) i (by rw [hLl]; omega)
  have w2 := wayW_len 9 (l.map leafF) i (by rw [hLl]; exact h9)
  have w32 := way_32 9 (l.map leafF) i (by rw [hLl]; exact h9) (fun s hs => by obtain ⟨x, _, rfl⟩ := List.mem_map.1 hs; exact leafF_size x)
  have sd := sidesW_way 9 (l.map leafF) i (by rw [hLl]; exact h9)
  rw [hLl] at sd
  obtain ⟨W, hWd⟩ : ∃ W, wayW (l.map leafF) i = W := ⟨_, rfl⟩
  rw [hWd] at hW w1 w2 w32 sd
  obtain ⟨s, p, rfl⟩ : ∃ s p, W = s :: p := by
    cases W with
    | nil => simp at w1
    | cons s p => exact ⟨s, p, rfl⟩
  have s32 := w32 s List.mem_cons_self
  have hsm : SmallS (s :: p) := fun x hx => by rw [w32 x hx]; decide
  have hrd : rd_T42 (s :: p) 0 = s := rdS_zero s p
  obtain ⟨pc, hpc⟩ : ∃ pc, rdOf ByteArray.empty l i = pc := ⟨_, rfl⟩
  have hpz : pc.size ≤ 40 := by
    rw [← hpc]
    unfold rdOf
    exact h40 _ (getD_mem l i.toNat (by omega))
  have k1 : 0 ≤ Int.tmod (i + 1) (l.length : Int) ∧ Int.tmod (i + 1) (l.length : Int) < (l.length : Int) := ⟨Int.tmod_nonneg _ (by omega), Int.tmod_lt_of_pos _ (by omega)⟩
  have kk : 0 ≤ (if K = 1 then Int.tmod (i + 1) (l.length : Int) else i) ∧ (if K = 1 then Int.tmod (i + 1) (l.length : Int) else i) < (l.length : Int) := by split; exact k1; exact ⟨i0, i1⟩
  have kz : (if K = 0 then pc ++ ⟨#[120]⟩ else pc).size ≤ 1000 := by
    split
    · rw [ByteArray.size_append]; show _ + 1 ≤ 1000; omega
    · omega
  have hq : SmallS (Tf.qOf K (s :: p)) ∧ (Tf.qOf K (s :: p)).length ≤ 50 := by
    unfold Tf.qOf
    rw [hrd]
    split
    · refine ⟨fun x hx => ?_, by rw [List.length_set]; omega⟩
      rw [set_zero] at hx
      rcases List.mem_cons.1 hx with rfl | hx
      · rw [flip_size, s32]; decide
      · exact hsm x (List.mem_cons_of_mem _ hx)
    · split
      · refine ⟨fun x hx => ?_, by rw [List.length_set]; omega⟩
        rw [set_zero] at hx
        rcases List.mem_cons.1 hx with rfl | hx
        · show s.f0.size ≤ 1000; omega
        · exact hsm x (List.mem_cons_of_mem _ hx)
      · split
        · exact ⟨fun x hx => hsm x (List.mem_of_mem_drop hx), by rw [List.length_drop]; omega⟩
        · exact ⟨hsm, by omega⟩
  have hV := verify_f (rootW (l.map leafF)) (if K = 0 then pc ++ ⟨#[120]⟩ else pc) l.length (if K = 1 then Int.tmod (i + 1) (l.length : Int) else i) (Tf.qOf K (s :: p)) 340 h9 kk.1 kk.2 hq.1 hq.2 kz
  have hSh := shows_f (rootW (l.map leafF)) (if K = 0 then pc ++ ⟨#[120]⟩ else pc) l.length (if K = 1 then Int.tmod (i + 1) (l.length : Int) else i) (Tf.qOf K (s :: p)) 391 h9 kk.1 kk.2 hq.1 hq.2 kz
  rw [show 260 + 340 = 600 from rfl] at hV
  rw [show 209 + 391 = 600 from rfl] at hSh
  refine Tf.forges_calls 600 A0 c0 l0 l a1 a2 w hr0 hc0 hF aw ⟨by omega, by omega⟩ i K hi i0 i1 hK K0 K1 (rootW (l.map leafF)) hR (s :: p) hW w1 (by omega) (by rw [hrd, s32]; decide) (by rw [hpc]; omega) _ (by rw [hpc]; exact hV) (by rw [hpc]; exact hSh) ?_
  intro hKs
  unfold showsW
  refine decide_eq_false (fun h => ?_)
  have hm := h.1
  rcases hKs with rfl | rfl | rfl
  · rw [if_pos rfl] at hm
    have e : Tf.qOf 1 (s :: p) = s :: p := rfl
    rw [e, ← sd] at hm
    have hij := sides_inj 9 l.length i (Int.tmod (i + 1) (l.length : Int)) h9 i0 i1 k1.1 k1.2 hm
    by_cases hl : i + 1 < (l.length : Int)
    · rw [Int.tmod_eq_of_lt (by omega) hl] at hij; omega
    · have e1 : i + 1 = (l.length : Int) := by omega
      rw [e1, Int.tmod_self] at hij
      omega
  · rw [if_neg (by decide)] at hm
    have e : Tf.qOf 3 (s :: p) = ⟨s.f0, !s.f1⟩ :: p := by
      show (s :: p).set 0 ⟨(rd_T42 (s :: p) 0).f0, !(rd_T42 (s :: p) 0).f1⟩ = _
      rw [hrd]; rfl
    rw [e, sd, List.map_cons, List.map_cons] at hm
    injection hm with hm _
    simp at hm
  · rw [if_neg (by decide)] at hm
    have e : Tf.qOf 4 (s :: p) = p := rfl
    rw [e, sd] at hm
    have := congrArg List.length hm
    simp at this
end Go.Proofs.Ytomenklhgofjaaa.Pure
