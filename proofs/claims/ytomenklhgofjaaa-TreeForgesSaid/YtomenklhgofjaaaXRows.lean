/- A slice of texts among the arguments, opened as a row that is read. Conditions: it is read as it lies. -/
import Derived.Test.YtomenklhgofjaaaYW
import Derived.SliceStrings
import Derived.Carry
import Derived.Deep.Fields
import Derived.Deep.Slices
import Derived.DataElems
set_option linter.unusedVariables false
namespace Go.Proofs.Ytomenklhgofjaaa.Rw
open Go.RowKit Go.ChangeShapes Go.WideShapes Go.Proofs.YtomenklhgofjaaaW.PrintWords
section
variable {H : Type} {enc : TypeId × Value → H} {P : Program} {w : World} {base : Nat} {spare : Nat → Bool} {held : Bool}
theorem C_strings {a : Addr} {len : Nat} {ss : List ByteArray} (hm : len ≤ 9223372036854775807) (hl : len ≤ ss.length) (h : ∀ i, i < ss.length → w.cell? (a.add i) = some (.string (ss.getD i ByteArray.empty))) :
    Kd.C Kd.string w (some a) (ss.take len).length (ss.take len) := by
  refine ⟨rfl, by rw [List.length_take]; omega, fun _ => ⟨a, rfl, fun j p hj => ⟨[.string p], rfl, rfl, fun i u hu => ?_⟩⟩⟩
  have hj1 : j < (ss.take len).length := (List.getElem?_eq_some_iff.1 hj).1
  rw [List.length_take] at hj1
  rw [List.getElem?_take, if_pos (by omega)] at hj
  have hp : ss.getD j ByteArray.empty = p := by rw [List.getD_eq_getElem?_getD, hj]; rfl
  cases i with
  | succ i => cases hu
  | zero =>
    injection hu with hu
    subst hu
    have h9 := h j (by omega)
    rw [hp] at h9
    show w.cell? (a.add (j * 1 + 0)) = _
    rw [Nat.mul_one]
    exact h9
theorem open_C_strings {t e : TypeId} {fuel : Nat} {v : Value} {x : DataW H × List MemPlace} (ht : P.underlying t = some (.slice e)) (he : P.underlying e = some .string) (hc : P.cellsOf e = 1)
    (h : DataW.trod enc P w base spare held fuel t [v] = some x) :
    ∃ (A : Option Addr) (c : Nat) (l : List ByteArray), v = .slice A l.length c ∧ Kd.C Kd.string w A l.length l ∧ l.length ≤ c ∧ c ≤ maxLen ∧ ∀ s ∈ l, s.size ≤ maxLen := by
  rcases open_strings ht he hc h with ⟨hcs, _⟩ | ⟨a, len, cap, ss, hcs, _, hl, hm, hz, _, hcell, hsz⟩
  · injection hcs with hcs
    exact ⟨none, 0, [], hcs, Kd.C_nil _ _, Nat.le_refl _, Nat.zero_le _, fun s hs => by cases hs⟩
  · injection hcs with hcs
    have hlen : len ≤ ss.length := by rw [hz]; split <;> omega
    have e1 : (ss.take len).length = len := by rw [List.length_take]; omega
    refine ⟨some a, cap, ss.take len, by rw [e1]; exact hcs, C_strings (Nat.le_trans hl (Nat.le_trans hm (by decide))) hlen hcell, by rw [e1]; exact hl, hm, fun s hs => hsz s (List.mem_of_mem_take hs)⟩
open Go.Deep
/-- A struct of whole numbers, opened. -/
theorem ints_struct {fs : Array Field} {t : TypeId} {fuel : Nat} {cs : List Value} {x : DataW H × List MemPlace} (hs : P.underlying t = some (.struct fs)) (hone : oneCellFields P fs = true) (hC : P.cellsOf t = fs.size)
    (hk : ∀ (i : Nat) (f : Field), fs[i]? = some f → P.underlying f.type = some (.int .i64)) (h : DataW.trod enc P w base spare held fuel t cs = some x) :
    ∃ ns : List Int, ns.length = fs.size ∧ cs = ns.map (Value.int .i64) ∧ ∀ n ∈ ns, (Lit.int .i64 n).wf = true := by
  obtain ⟨xs, n, _, _, hl, hlen, hf⟩ := DataW.trod_struct hs h
  have each : ∀ i, i < fs.size → ∃ m : Int, cs[i]? = some (.int .i64 m) ∧ (Lit.int .i64 m).wf = true := by
    intro i hi
    have hg : fs[i]? = some fs[i] := Array.getElem?_eq_getElem hi
    obtain ⟨h1, h2⟩ := hone_of hone i _ hg
    have h3 := hf i _ hg
    rw [h1, h2, List.getElem?_eq_getElem (show i < xs.length by omega)] at h3
    obtain ⟨m, e1, _, e3⟩ := DataW.trod_int (hk i _ hg) h3
    refine ⟨m, ?_, e3⟩
    have e4 := congrArg (fun z : List Value => z[0]?) e1
    simp only [List.getElem?_take, List.getElem?_drop] at e4
    simpa using e4
  obtain ⟨g, hg⟩ := choose_lt each
  refine ⟨(List.range fs.size).map g, by simp, ?_, ?_⟩
  · apply List.ext_getElem?
    intro i
    by_cases hi : i < fs.size
    · rw [(hg i hi).1, List.map_map, List.getElem?_map, List.getElem?_range hi]
      rfl
    · rw [List.getElem?_eq_none (by omega), List.getElem?_eq_none (by simp; omega)]
  · intro m hm
    obtain ⟨i, hi, rfl⟩ := List.mem_map.1 hm
    exact (hg i (List.mem_range.1 hi)).2
/-- A struct of whole numbers by value. -/
theorem open_rec {r : Reach} {b0 : Nat} {fs : Array Field} {t : TypeId} {v : Value} {d : DataW H} {p : List MemPlace} (hs : P.underlying t = some (.struct fs)) (hone : oneCellFields P fs = true) (hC : P.cellsOf t = fs.size)
    (hk : ∀ (i : Nat) (f : Field), fs[i]? = some f → P.underlying f.type = some (.int .i64)) (hv : Value.okWide P w r b0 t v) (h : DataW.Trod enc P w base spare held t v d p) :
    ∃ ns : List Int, ns.length = fs.size ∧ v = .agg (ns.map (Value.int .i64)).toArray ∧ ∀ n ∈ ns, (Lit.int .i64 n).wf = true := by
  obtain ⟨cs, rfl, hsz⟩ := okWide_struct hs hv
  obtain ⟨fuel, hf⟩ := h
  obtain ⟨ns, h1, h2, h3⟩ := ints_struct hs hone hC hk hf
  refine ⟨ns, h1, ?_, h3⟩
  rw [← h2]
  rfl
/-- A slice of structs of whole numbers. -/
theorem open_C_lists {fs : Array Field} {t e : TypeId} {fuel : Nat} {v : Value} {x : DataW H × List MemPlace} (ht : P.underlying t = some (.slice e)) (hs : P.underlying e = some (.struct fs)) (hone : oneCellFields P fs = true) (hC : P.cellsOf e = fs.size)
    (hk : ∀ (i : Nat) (f : Field), fs[i]? = some f → P.underlying f.type = some (.int .i64)) (h : DataW.trod enc P w base spare held fuel t [v] = some x) :
    ∃ (A : Option Addr) (c : Nat) (l : List (List Int)), v = .slice A l.length c ∧ l.length ≤ c ∧ c ≤ maxLen ∧ (∀ ns ∈ l, ns.length = fs.size ∧ ∀ n ∈ ns, (Lit.int .i64 n).wf = true) ∧
      (0 < l.length → ∃ ad, A = some ad ∧ ∀ j ns, l[j]? = some ns → ∀ i u, (ns.map (Value.int .i64))[i]? = some u → w.cell? (ad.add (j * fs.size + i)) = some u) := by
  rcases open_slice ht h with ⟨hcs, _⟩ | ⟨a, len, cap, m, n, D, Pl, hcs, _, hl, hm, hmm, _, hx⟩
  · injection hcs with hcs
    exact ⟨none, 0, [], hcs, Nat.le_refl _, Nat.zero_le _, (fun ns h => by cases h), fun h => absurd h (Nat.lt_irrefl 0)⟩
  · injection hcs with hcs
    have hlm : len ≤ m := by rw [hmm]; split <;> omega
    have each : ∀ i, i < m → ∃ ns : List Int, (ns.length = fs.size ∧ ∀ n ∈ ns, (Lit.int .i64 n).wf = true) ∧ ∀ j u, (ns.map (Value.int .i64))[j]? = some u → w.cell? (a.add (i * fs.size + j)) = some u := by
      intro i hi
      obtain ⟨cs', h1, h2⟩ := hx i hi
      rw [hC] at h1
      obtain ⟨_, hlen, hcell⟩ := World.cells?_some h1
      obtain ⟨ns, e1, rfl, e3⟩ := ints_struct hs hone hC hk h2
      refine ⟨ns, ⟨e1, e3⟩, fun j u hu => ?_⟩
      have hj : j < fs.size := by
        have := (List.getElem?_eq_some_iff.1 hu).1
        rw [List.length_map, e1] at this
        exact this
      have := hcell j hj
      rw [Addr.add_add] at this
      rw [this, hu]
    obtain ⟨g, hg⟩ := choose_lt each
    have e1 : ((List.range len).map g).length = len := by simp
    refine ⟨some a, cap, (List.range len).map g, by rw [e1]; exact hcs, by rw [e1]; exact hl, hm, ?_, fun _ => ⟨a, rfl, ?_⟩⟩
    · intro ns hns
      obtain ⟨i, hi, rfl⟩ := List.mem_map.1 hns
      exact (hg i (by have := List.mem_range.1 hi; omega)).1
    · intro j ns hj
      have hjl : j < len := by
        have := (List.getElem?_eq_some_iff.1 hj).1
        rw [e1] at this
        exact this
      rw [List.getElem?_map, List.getElem?_range hjl] at hj
      injection hj with hj
      rw [← hj]
      exact (hg j (by omega)).2
theorem C_of_lists {S : Type} (k : Kd S) (mk : List Int → S) {sz : Nat} {A : Option Addr} {l : List (List Int)} (hsz : k.sz = sz) (hm : l.length ≤ 9223372036854775807) (hK : ∀ ns ∈ l, k.K w (mk ns) (ns.map (Value.int .i64))) (hl : ∀ ns ∈ l, ns.length = sz)
    (hr : 0 < l.length → ∃ ad, A = some ad ∧ ∀ j ns, l[j]? = some ns → ∀ i u, (ns.map (Value.int .i64))[i]? = some u → w.cell? (ad.add (j * sz + i)) = some u) : Kd.C k w A (l.map mk).length (l.map mk) := by
  refine ⟨rfl, by rw [List.length_map]; exact hm, fun h0 => ?_⟩
  rw [List.length_map] at h0
  obtain ⟨ad, rfl, hc⟩ := hr h0
  refine ⟨ad, rfl, fun j p hj => ?_⟩
  rw [List.getElem?_map] at hj
  obtain ⟨ns, hns, rfl⟩ := Option.map_eq_some_iff.1 hj
  have hmem := List.mem_of_getElem? hns
  refine ⟨ns.map (Value.int .i64), by rw [List.length_map, hl ns hmem, hsz], hK ns hmem, fun i u hu => ?_⟩
  rw [hsz]
  exact hc j ns hns i u hu
theorem six (ns : List Int) (h : ns.length = 6) : ∃ a b c d e f : Int, ns = [a, b, c, d, e, f] := by
  match ns, h with
  | [a, b, c, d, e, f], _ => exact ⟨a, b, c, d, e, f, rfl⟩
end
end Go.Proofs.Ytomenklhgofjaaa.Rw
