/- A text falls into pieces of so many bytes, which are it together; just the last one may have fewer. For every input. -/
import Derived.Test.YtomenklhgofjaaaXTreePiecesx1
import Derived.Test.YtomenklhgofjaaaXTreePiecesx2
import Derived.Test.YtomenklhgofjaaaXTreePiecesx3
import Derived.Test.YtomenklhgofjaaaXTreePiecesx4
namespace Go.Proofs.Ytomenklhgofjaaa.Pure
open Go.RowKit Go.Proofs.Ytomenklhgofjaaa Go.Proofs.Ytomenklhgofjaaa.XTreePieces Go.Proofs.YtomenklhgofjaaaW.PrintWords Go.Proofs.YtomenklhgofjaaaW.PrintLast Go.Proofs.YtomenklhgofjaaaW.PrintMore
set_option linter.unusedVariables false
set_option linter.unusedSimpArgs false
inductive Good (n : Int) : List ByteArray → ByteArray → Prop
  | nil (t : ByteArray) : t.size = 0 → Good n [] t
  | cons (p : ByteArray) (L : List ByteArray) (t r : ByteArray) : 1 ≤ p.size → (p.size : Int) ≤ n → (L ≠ [] → (p.size : Int) = n) → Good n L r → t = p ++ r → Good n (p :: L) t
theorem good_size {n : Int} {L : List ByteArray} {t : ByteArray} (h : Good n L t) : L.length ≤ t.size := by
  induction h with
  | nil t h => exact Nat.zero_le _
  | cons p L t r h1 _ _ _ e ih => rw [e, ByteArray.size_append, List.length_cons]; omega
theorem ba_empty {t : ByteArray} (h : t.size = 0) : t = ⟨#[]⟩ := ByteArray.ext (Array.eq_empty_of_size_eq_zero h)
theorem cut_both (t : ByteArray) (q : Nat) (hq : q ≤ t.size) : t = t.extract 0 q ++ t.extract q t.size := by
  apply ByteArray.ext
  apply Array.toList_inj.1
  rw [ByteArray.data_append, Array.toList_append, ByteArray.data_extract, ByteArray.data_extract, Array.toList_extract, Array.toList_extract]
  have hz : t.data.toList.length = t.size := data_length t
  simp only [List.extract, List.drop_zero, Nat.sub_zero]
  rw [show List.take (t.size - q) (List.drop q t.data.toList) = List.drop q t.data.toList from List.take_of_length_le (by rw [List.length_drop]; omega), List.take_append_drop]
theorem pieces_l (n : Int) (hn : 1 ≤ n) : ∀ (m : Nat) (t : ByteArray) (acc : List ByteArray), t.size ≤ m → acc.length + m < 1000 → ∃ L, Good n L t ∧ ∀ j, tree_Pieces.l0 (L.length + 1 + j) t acc n = some (acc ++ L) := by
  intro m
  induction m with
  | zero =>
    intro t acc ht _
    refine ⟨[], .nil t (by omega), fun j => ?_⟩
    rw [show ([] : List ByteArray).length + 1 + j = j + 1 by simp; omega]
    rw [tree_Pieces.l0]
    rw [if_pos (by rw [ba_empty (show t.size = 0 by omega), ByteArray.toList_eq]), List.append_nil]
  | succ m ih =>
    intro t acc ht ha
    by_cases h0 : t.size = 0
    · refine ⟨[], .nil t h0, fun j => ?_⟩
      rw [show ([] : List ByteArray).length + 1 + j = j + 1 by simp; omega]
      rw [tree_Pieces.l0]
      rw [if_pos (by rw [ba_empty h0, ByteArray.toList_eq]), List.append_nil]
    · obtain ⟨q, hq⟩ : ∃ q, mn n (t.size : Int) = q := ⟨_, rfl⟩
      have hq1 : 1 ≤ q ∧ q ≤ (t.size : Int) ∧ q ≤ n ∧ (q = n ∨ q = (t.size : Int)) := by rw [← hq]; unfold mn; split <;> omega
      have hr : (t.extract q.toNat t.size).size = t.size - q.toNat := by rw [ByteArray.size_extract]; omega
      have hp : (t.extract 0 q.toNat).size = q.toNat := by rw [ByteArray.size_extract]; omega
      obtain ⟨L, g, hL⟩ := ih (t.extract q.toNat t.size) (acc ++ [t.extract 0 q.toNat]) (by omega) (by rw [List.length_append, List.length_singleton]; omega)
      have hls := good_size g
      refine ⟨t.extract 0 q.toNat :: L, .cons _ _ _ _ (by omega) (by omega) (fun hne => ?_) g (cut_both t q.toNat (by omega)), fun j => ?_⟩
      · rcases hq1.2.2.2 with h | h
        · omega
        · exact absurd (List.eq_nil_of_length_eq_zero (by omega)) hne
      · have i2 := hL j
        rw [show (t.extract 0 q.toNat :: L).length + 1 + j = (L.length + 1 + j) + 1 by simp; omega]
        rw [tree_Pieces.l0]
        rw [hq, if_neg (by rw [ByteArray.toList_eq]; intro e; have := data_length t; rw [e] at this; exact h0 this.symm), if_pos (by omega), if_pos (by omega), if_pos (by omega), i2, List.append_assoc]
        rfl
set_option maxRecDepth 100000 in
theorem awake_f : tinderboxlaw37_awake.f 60 = some true := by decide +kernel
theorem rdOf_mid (pre r : List ByteArray) (v : ByteArray) : rdOf ByteArray.empty (pre ++ v :: r) ((pre.length : Nat) : Int) = v := by
  unfold rdOf
  rw [Int.toNat_natCast, List.getD_eq_getElem?_getD, List.getElem?_append_right (Nat.le_refl _), Nat.sub_self]
  rfl
theorem w64n (i : Nat) (h : i < 1000000) : wrap64 ((i : Int) + 1) = ((i + 1 : Nat) : Int) := by unfold wrap64; omega
theorem law_l (n : Int) (t : ByteArray) (ht : t.size ≤ 200) : ∀ (suf pre : List ByteArray) (done rest : ByteArray), Good n suf rest → done ++ rest = t → pre.length + suf.length ≤ 200 →
    tinderboxlaw37_TreePieces.l0 (suf.length + 1 + 60) t n (pre ++ suf) done (pre.length : Int) = some true := by
  intro suf
  induction suf with
  | nil =>
    intro pre done rest g e hl
    cases g with
    | nil _ hz =>
      rw [ba_empty hz, show done ++ (⟨#[]⟩ : ByteArray) = done from ByteArray.append_empty] at e
      rw [show ([] : List ByteArray).length + 1 + 60 = 60 + 1 from rfl]
      rw [tinderboxlaw37_TreePieces.l0]
      rw [if_neg (by simp), awake_f, Option.bind_some, if_pos rfl, e]
      exact congrArg some (beq_self_eq_true _)
  | cons p suf ih =>
    intro pre done rest g e hl
    cases g with
    | cons _ _ _ r h1 h2 h3 g' e' =>
      rw [List.length_cons] at hl
      have hsz : done.size + (p.size + r.size) = t.size := by rw [← e, e', ByteArray.size_append, ByteArray.size_append]
      have i2 := ih (pre ++ [p]) (done ++ p) r g' (by rw [← e, e', ByteArray.append_assoc]) (by rw [List.length_append, List.length_singleton]; omega)
      rw [List.append_assoc, List.length_append, List.length_singleton] at i2
      have hlen : ((pre ++ p :: suf).length : Int) = (pre.length : Int) + (suf.length : Int) + 1 := by rw [List.length_append, List.length_cons]; omega
      rw [show (p :: suf).length + 1 + 60 = (suf.length + 1 + 60) + 1 by simp]
      rw [tinderboxlaw37_TreePieces.l0]
      rw [hlen, rdOf_mid, if_pos (by omega), if_pos (by omega), if_neg (by omega), if_neg (by omega), w64n _ (by omega), show wrap64 ((pre.length : Int) + (suf.length : Int) + 1 - 1) = (pre.length : Int) + (suf.length : Int) by unfold wrap64; omega]
      by_cases hs : suf = []
      · rw [if_neg (by rw [hs]; simp), if_pos (by omega)]
        exact i2
      · have : 0 < suf.length := List.length_pos_iff.2 hs
        rw [if_pos (by omega), if_pos (h3 hs), if_pos (by omega)]
        exact i2
theorem TreePieces : tinderboxlaw37_TreePieces.Pure := by
  intro a0 a1 _ _
  obtain ⟨q, hq⟩ : ∃ q, mn (a0.size : Int) 200 = q := ⟨_, rfl⟩
  have hq1 : 0 ≤ q ∧ q ≤ (a0.size : Int) ∧ q ≤ 200 := by rw [← hq]; unfold mn; split <;> omega
  obtain ⟨t, ht⟩ : ∃ t, a0.extract 0 q.toNat = t := ⟨_, rfl⟩
  have htz : t.size ≤ 200 := by rw [← ht, ByteArray.size_extract]; omega
  have hn : 1 ≤ mx a1 1 := by unfold mx; split <;> omega
  obtain ⟨L, g, hL⟩ := pieces_l (mx a1 1) hn 200 t [] htz (by decide)
  have hls := good_size g
  have hl := law_l (mx a1 1) t htz L [] ⟨#[]⟩ t g (ByteArray.empty_append) (by simp; omega)
  have hP : tree_Pieces.f (L.length + 1 + 60) t a1 = some L := hL 60
  have hj : tinderboxlaw37_TreePieces.j0 (L.length + 1 + 60 + 1) a1 t (mx a1 1) = some true := by
    rw [tinderboxlaw37_TreePieces.j0]
    rw [hP, Option.bind_some]
    exact hl
  refine ⟨L.length + 1 + 60 + 1, ?_⟩
  unfold tinderboxlaw37_TreePieces.f
  rw [hq, if_pos hq1.1, if_pos hq1.2.1, ht]
  by_cases h : a1 < 1
  · rw [if_pos h]
    rw [show mx a1 1 = 1 by unfold mx; rw [if_pos h]] at hj
    exact hj
  · rw [if_neg h]
    rw [show mx a1 1 = a1 by unfold mx; rw [if_neg (by omega)]] at hj
    exact hj
end Go.Proofs.Ytomenklhgofjaaa.Pure
