/- Texts as lists of bytes (natural numbers below 256): how the model's texts, rows of bytes and their reads look on them. -/
import Derived.Test.YtjmabdgebhndhaaDoorMBits
set_option linter.unusedVariables false
set_option linter.unusedSimpArgs false
namespace Go.Proofs.YtjmabdgebhndhaaDoor.Tx
open Go.RowKit Go.Proofs.YtjmabdgebhndhaaDoorW.PrintWords

/-- Every number is a byte. -/
def By (l : List Nat) : Prop := ∀ x ∈ l, x < 256
theorem By.nil : By [] := fun x hx => by cases hx
theorem By.cons {x : Nat} {l : List Nat} (hx : x < 256) (hl : By l) : By (x :: l) := fun y hy => by
  rcases List.mem_cons.1 hy with h | h
  · rw [h]; exact hx
  · exact hl y h
theorem By.tail {x : Nat} {l : List Nat} (h : By (x :: l)) : By l := fun y hy => h y (List.mem_cons_of_mem _ hy)
theorem By.head {x : Nat} {l : List Nat} (h : By (x :: l)) : x < 256 := h x List.mem_cons_self
theorem By.append {l m : List Nat} (hl : By l) (hm : By m) : By (l ++ m) := fun x hx => by
  rcases List.mem_append.1 hx with h | h
  · exact hl x h
  · exact hm x h
theorem By.take {l : List Nat} (h : By l) (n : Nat) : By (l.take n) := fun x hx => h x (List.mem_of_mem_take hx)
theorem By.drop {l : List Nat} (h : By l) (n : Nat) : By (l.drop n) := fun x hx => h x (List.mem_of_mem_drop hx)
theorem By.one {x : Nat} (h : x < 256) : By [x] := By.cons h By.nil
theorem By.rep (n : Nat) {x : Nat} (h : x < 256) : By (List.replicate n x) := fun y hy => by rw [(List.mem_replicate.1 hy).2]; exact h
def co (l : List Nat) (i : Nat) : Nat := l.getD i 0
theorem co_at {l : List Nat} {i : Nat} (h : i < l.length) : co l i = l[i] := by
  unfold co; rw [List.getD_eq_getElem?_getD, List.getElem?_eq_getElem h]; rfl
theorem co_out {l : List Nat} {i : Nat} (h : l.length ≤ i) : co l i = 0 := by
  unfold co; rw [List.getD_eq_getElem?_getD, List.getElem?_eq_none h]; rfl
theorem co_lt {l : List Nat} (h : By l) (i : Nat) : co l i < 256 := by
  by_cases hi : i < l.length
  · rw [co_at hi]; exact h _ (List.getElem_mem hi)
  · rw [co_out (by omega)]; decide
theorem co_append (l m : List Nat) (i : Nat) : co (l ++ m) i = if i < l.length then co l i else co m (i - l.length) := by
  unfold co
  simp only [List.getD_eq_getElem?_getD, List.getElem?_append]
  split <;> rfl
theorem co_take (l : List Nat) (n i : Nat) : co (l.take n) i = if i < n then co l i else 0 := by
  unfold co
  simp only [List.getD_eq_getElem?_getD, List.getElem?_take]
  split <;> rfl
theorem co_drop (l : List Nat) (n i : Nat) : co (l.drop n) i = co l (n + i) := by
  unfold co
  simp only [List.getD_eq_getElem?_getD, List.getElem?_drop]
theorem co_zero (x : Nat) (l : List Nat) : co (x :: l) 0 = x := rfl
theorem co_succ (x : Nat) (l : List Nat) (i : Nat) : co (x :: l) (i + 1) = co l i := rfl
theorem ext_co {l m : List Nat} (hl : l.length = m.length) (h : ∀ i, i < l.length → co l i = co m i) : l = m := by
  apply List.ext_getElem hl
  intro i h1 h2
  have := h i h1
  rwa [co_at h1, co_at h2] at this
theorem drop_co {l : List Nat} {i : Nat} (h : i < l.length) : l.drop i = co l i :: l.drop (i + 1) := by
  rw [List.drop_eq_getElem_cons h, co_at h]
theorem take_co {l : List Nat} {i : Nat} (h : i < l.length) : l.take (i + 1) = l.take i ++ [co l i] := by
  rw [List.take_succ_eq_append_getElem h, co_at h]
/-! rows of bytes, as the model has them -/
def I (l : List Nat) : List Int := l.map (fun (n : Nat) => (n : Int))
theorem I_len (l : List Nat) : (I l).length = l.length := by unfold I; rw [List.length_map]
theorem I_rd (l : List Nat) (i : Nat) : rd (I l) (i : Int) = ((co l i : Nat) : Int) := by
  unfold rd I co
  simp only [Int.toNat_natCast, List.getD_eq_getElem?_getD, List.getElem?_map]
  cases l[i]? <;> rfl
theorem I_set (l : List Nat) (i x : Nat) : (I l).set i (x : Int) = I (l.set i x) := by unfold I; rw [List.map_set]
theorem I_take (l : List Nat) (n : Nat) : (I l).take n = I (l.take n) := by unfold I; rw [List.map_take]
theorem I_drop (l : List Nat) (n : Nat) : (I l).drop n = I (l.drop n) := by unfold I; rw [List.map_drop]
theorem I_append (l m : List Nat) : I l ++ I m = I (l ++ m) := by unfold I; rw [List.map_append]
theorem I_snoc (l : List Nat) (x : Nat) : I l ++ [(x : Int)] = I (l ++ [x]) := by unfold I; rw [List.map_append]; rfl
theorem I_rep (n : Nat) : List.replicate n (0 : Int) = I (List.replicate n 0) := by unfold I; rw [List.map_replicate]; rfl
theorem I_of (l : List Int) (h : ∀ x ∈ l, (Lit.int .u8 x).wf = true) : ∃ m : List Nat, l = I m ∧ By m := by
  refine ⟨l.map Int.toNat, ?_, ?_⟩
  · unfold I
    rw [List.map_map]
    apply List.ext_getElem (by rw [List.length_map])
    intro i h1 h2
    rw [List.getElem_map]
    have := Bt.wf_u8 (h _ (List.getElem_mem h1))
    show l[i] = ((l[i].toNat : Nat) : Int)
    omega
  · intro x hx
    obtain ⟨y, hy, rfl⟩ := List.mem_map.1 hx
    have := Bt.wf_u8 (h _ hy)
    omega
/-! texts -/
def B (l : List Nat) : ByteArray := ⟨(l.map UInt8.ofNat).toArray⟩
def L (s : ByteArray) : List Nat := s.data.toList.map UInt8.toNat
theorem L_By (s : ByteArray) : By (L s) := fun x hx => by
  obtain ⟨y, _, rfl⟩ := List.mem_map.1 hx
  exact y.toNat_lt
theorem B_L (s : ByteArray) : B (L s) = s := by
  unfold B L
  apply ByteArray.ext
  rw [List.map_map]
  have : (UInt8.ofNat ∘ UInt8.toNat) = id := by funext x; simp
  rw [this, List.map_id]
theorem L_B {l : List Nat} (h : By l) : L (B l) = l := by
  unfold B L
  show ((l.map UInt8.ofNat).toArray.toList).map UInt8.toNat = l
  rw [List.toList_toArray, List.map_map]
  apply List.ext_getElem (by rw [List.length_map])
  intro i h1 h2
  rw [List.getElem_map]
  show (UInt8.ofNat l[i]).toNat = l[i]
  have := h _ (List.getElem_mem h2)
  rw [UInt8.toNat_ofNat']
  exact Nat.mod_eq_of_lt this
theorem of_text (s : ByteArray) : ∃ l, s = B l ∧ By l := ⟨L s, (B_L s).symm, L_By s⟩
theorem B_inj {l m : List Nat} (hl : By l) (hm : By m) (h : B l = B m) : l = m := by
  rw [← L_B hl, ← L_B hm, h]
theorem B_size (l : List Nat) : (B l).size = l.length := by
  show (l.map UInt8.ofNat).toArray.size = l.length
  simp
theorem B_append (l m : List Nat) : B l ++ B m = B (l ++ m) := by
  apply ByteArray.ext
  rw [ByteArray.data_append]
  unfold B
  simp
theorem B_extract (l : List Nat) (a b : Nat) : (B l).extract a b = B ((l.take b).drop a) := by
  apply ByteArray.ext
  rw [ByteArray.data_extract]
  unfold B
  simp only [List.extract_toArray, List.extract_eq_take_drop]
  rw [← List.map_drop, ← List.map_take, List.drop_take]
theorem B_nil : B [] = (⟨#[]⟩ : ByteArray) := rfl
theorem strOfNums_I {l : List Nat} : strOfNums (I l) = B l := by
  unfold strOfNums I B
  rw [List.map_map]
  rfl
theorem bt_B {l : List Nat} (h : By l) (i : Nat) : bt (B l) (i : Int) = ((co l i : Nat) : Int) := by
  by_cases hi : i < l.length
  · rw [Bt.bt_nat (B l) i (by rw [B_size]; exact hi)]
    have := L_B h
    unfold L at this
    rw [this]
    rfl
  · rw [co_out (by omega)]
    unfold bt
    rw [dif_neg (by rw [B_size]; simpa using hi)]
    rfl
/-- The bytes of a text, one behind the other. -/
theorem loop_eq (s : ByteArray) : ∀ (d i : Nat) (r : List UInt8), i + d = s.size → ByteArray.toList.loop s i r = r.reverse ++ s.data.toList.drop i := by
  intro d
  induction d with
  | zero =>
    intro i r h
    rw [ByteArray.toList.loop, if_neg (by omega), List.drop_eq_nil_of_le (by rw [Array.length_toList]; show s.size ≤ i; omega), List.append_nil]
  | succ d ih =>
    intro i r h
    have hi : i < s.data.toList.length := by rw [Array.length_toList]; show i < s.size; omega
    rw [ByteArray.toList.loop, if_pos (by omega), ih (i + 1) _ (by omega), List.reverse_cons, List.append_assoc, List.drop_eq_getElem_cons hi]
    congr 1
    show s.get! i :: _ = _
    congr 1
    have h3 : i < s.data.size := by show i < s.size; omega
    show s.data[i]! = _
    rw [getElem!_pos s.data i h3]
    simp
theorem toList_data (s : ByteArray) : s.toList = s.data.toList := by
  unfold ByteArray.toList
  rw [loop_eq s s.size 0 [] (by omega)]
  rfl
theorem toList_B (l : List Nat) : (B l).toList = l.map UInt8.ofNat := by rw [toList_data]; show ((l.map UInt8.ofNat).toArray.toList) = _; simp
theorem toList_inj {l m : List Nat} (hl : By l) (hm : By m) : ((B l).toList = (B m).toList) ↔ l = m := by
  constructor
  · intro h
    apply B_inj hl hm
    apply ByteArray.ext
    rw [toList_data, toList_data] at h
    exact Array.toList_inj.1 h
  · intro h; rw [h]
theorem toList_nil {l : List Nat} : ((B l).toList = ([] : List UInt8)) ↔ l = [] := by
  rw [toList_B]
  simp
theorem beq_B {l m : List Nat} (hl : By l) (hm : By m) : ((B l).toList == (B m).toList) = decide (l = m) := by
  by_cases h : l = m
  · rw [h]; simp
  · rw [decide_eq_false h, beq_eq_false_iff_ne]
    intro h'
    exact h ((toList_inj hl hm).1 h')
end Go.Proofs.YtjmabdgebhndhaaDoor.Tx
