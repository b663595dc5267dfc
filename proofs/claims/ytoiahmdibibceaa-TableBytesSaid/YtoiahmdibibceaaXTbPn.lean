import Derived.Test.YtoiahmdibibceaaXTbPm
set_option linter.unusedVariables false
set_option linter.unusedSimpArgs false
namespace Go.Proofs.Ytoiahmdibibceaa.Tb
open Go.RowKit Go.Proofs.Ytoiahmdibibceaa Go.Proofs.Ytoiahmdibibceaa.XTableBytes Go.Proofs.Ytoiahmdibibceaa.Pure
theorem chk_iff_b (a : Int) (tr : Bool) (ts ls v0 v1 : Int) (g0 g1 : Bool) : chkB a tr ts ls v0 v1 g0 g1 = true ↔
    (a = 0 ∨ a = 1) ∧ (0 ≤ ts ∧ ts ≤ 7) ∧ (1 ≤ ls ∧ ls ≤ 1073741824) ∧ (tr = false → ts = 0) ∧ (0 ≤ v0 ∧ v0 ≤ 1073741824) ∧ (0 ≤ v1 ∧ v1 ≤ 1073741824) ∧
    ((a = 0 ∨ tr = true) → g0 = true ∧ ls ≤ v0) ∧ ((a = 1 ∨ tr = true) → g1 = true ∧ ls ≤ v1) := by
  unfold chkB pre sbad
  by_cases h0 : a = 0
  · subst h0; cases tr <;> cases g0 <;> cases g1 <;> simp <;> omega
  · by_cases h1 : a = 1
    · subst h1; cases tr <;> cases g0 <;> cases g1 <;> simp <;> omega
    · constructor
      · intro h
        simp only [Bool.and_eq_true, Bool.not_eq_true', Bool.or_eq_false_iff, decide_eq_false_iff_not] at h
        omega
      · intro h; omega
theorem putL_ok {a : Nat} {tr : Bool} {ts ls v0 v1 : Nat} {g0 g1 : Bool} (ha : a ≤ 1073741824) (hts : ts ≤ 1073741824) (hls : ls ≤ 1073741824) (hv0 : v0 ≤ 1073741824) (hv1 : v1 ≤ 1073741824) : Tx.By (putL a tr ts ls v0 v1 g0 g1) ∧ (putL a tr ts ls v0 v1 g0 g1).length ≤ 72 := by
  have f1 : ∀ b, fn b ≤ 1073741824 := fun b => Nat.le_trans (fn_le b) (by decide)
  have hb : ∀ n : Nat, n ≤ 1073741824 → Tx.By (Cd.num n) ∧ (Cd.num n).length ≤ 9 := fun n h => ⟨Cd.num_by (by omega), Cd.num_len (by omega)⟩
  unfold putL
  refine ⟨(hb a ha).1.append ((hb _ (f1 tr)).1.append ((hb ts hts).1.append ((hb ls hls).1.append ((hb v0 hv0).1.append ((hb _ (f1 g0)).1.append ((hb v1 hv1).1.append (hb _ (f1 g1)).1)))))), ?_⟩
  have h0 := (hb a ha).2
  have h1 := (hb _ (f1 tr)).2
  have h2 := (hb ts hts).2
  have h3 := (hb ls hls).2
  have h4 := (hb v0 hv0).2
  have h5 := (hb _ (f1 g0)).2
  have h6 := (hb v1 hv1).2
  have h7 := (hb _ (f1 g1)).2
  simp only [List.length_append]
  omega
theorem nat_of {a : Int} (h : 0 ≤ a) : ∃ n : Nat, a = (n : Int) := ⟨a.toNat, (Int.toNat_of_nonneg h).symm⟩
theorem back_P (a : Int) (tr : Bool) (ts ls v0 v1 : Int) (g0 g1 : Bool) : ∃ P : ByteArray, (chkB a tr ts ls v0 v1 g0 g1 = true → Ret 49 #[.agg (bcells a tr ts ls v0 v1 g0 g1)] (.string P)) ∧ (chkB a tr ts ls v0 v1 g0 g1 = true → Ret 50 #[.agg (bcells a tr ts ls v0 v1 g0 g1)] (.string P)) ∧ (chkB a tr ts ls v0 v1 g0 g1 = true → Ret 47 #[.string P] (.tuple #[.agg (bcells a tr ts ls v0 v1 g0 g1), .int .i64 0])) := by
  by_cases hc : chkB a tr ts ls v0 v1 g0 g1 = true
  · obtain ⟨ha, hts, hls, _, hv0, hv1, _⟩ := (chk_iff_b a tr ts ls v0 v1 g0 g1).1 hc
    obtain ⟨a, rfl⟩ := nat_of (a := a) (by omega)
    obtain ⟨ts, rfl⟩ := nat_of hts.1
    obtain ⟨ls, rfl⟩ := nat_of (a := ls) (by omega)
    obtain ⟨v0, rfl⟩ := nat_of hv0.1
    obtain ⟨v1, rfl⟩ := nat_of hv1.1
    have pb := put_b a tr ts ls v0 v1 g0 g1 (by omega) (by omega) (by omega) (by omega) (by omega)
    have ok := putL_ok (a := a) (tr := tr) (ts := ts) (ls := ls) (v0 := v0) (v1 := v1) (g0 := g0) (g1 := g1) (by omega) (by omega) (by omega) (by omega) (by omega)
    have g := get_l ok.1 (Nat.lt_of_le_of_lt ok.2 (by decide))
    rw [back_b a tr ts ls v0 v1 g0 g1 (by omega) (by omega) (by omega) (by omega) (by omega) hc] at g
    exact ⟨_, fun _ => pb.1, fun _ => pb.2, fun _ => g⟩
  · exact ⟨⟨#[]⟩, fun h => absurd h hc, fun h => absurd h hc, fun h => absurd h hc⟩
theorem tbytes_calls (a : Int) (tr : Bool) (ts ls v0 v1 : Int) (g0 g1 : Bool) (a0 : ByteArray) (hz : a0.size ≤ 140737488351232) (w : World) : Calls Try.prog 12 #[.agg (bcells a tr ts ls v0 v1 g0 g1), .string a0] w fun e w' => e = .returned (.bool true) ∧ Below w.heap.size w w' := by
  obtain ⟨l, hl, hb⟩ := Tx.of_text (a0.extract 0 (if (100 : Int) < (a0.size : Int) then 100 else (a0.size : Int)).toNat)
  have hlen : l.length < 4611686018427387904 := by
    have h := congrArg ByteArray.size hl
    rw [Tx.B_size, ByteArray.size_extract] at h
    omega
  obtain ⟨P, p1, p2, p3⟩ := back_P a tr ts ls v0 v1 g0 g1
  exact bytes_calls a tr ts ls v0 v1 g0 g1 a0 (Tx.B l) (resN l).1.a (resN l).1.tr (resN l).1.ts (resN l).1.ls (resN l).1.v0 (resN l).1.v1 (resN l).1.g0 (resN l).1.g1 (resN l).2 P hl hz (get_l hb hlen) (rget_l hb hlen) (put_g hb) p1 p2 p3 w
end Go.Proofs.Ytoiahmdibibceaa.Tb
