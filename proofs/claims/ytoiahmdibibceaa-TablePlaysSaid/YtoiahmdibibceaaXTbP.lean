import Derived.Test.YtoiahmdibibceaaXTbRA
set_option linter.unusedVariables false
set_option linter.unusedSimpArgs false
namespace Go.Proofs.Ytoiahmdibibceaa.Tb
open Go.RowKit
theorem chk_iff (a : Int) (tr : Bool) (ts ls v0 v1 : Int) (g0 g1 : Bool) : chkB a tr ts ls v0 v1 g0 g1 = true ↔
    (a = 0 ∨ a = 1) ∧ (0 ≤ ts ∧ ts ≤ 7) ∧ (1 ≤ ls ∧ ls ≤ 1073741824) ∧ (tr = false → ts = 0) ∧ (0 ≤ v0 ∧ v0 ≤ 1073741824) ∧ (0 ≤ v1 ∧ v1 ≤ 1073741824) ∧
    ((a = 0 ∨ tr = true) → g0 = true ∧ ls ≤ v0) ∧ ((a = 1 ∨ tr = true) → g1 = true ∧ ls ≤ v1) := by
  unfold chkB pre sbad
  by_cases h0 : a = 0
  · subst h0; cases tr <;> cases g0 <;> cases g1 <;> simp <;> omega
  · by_cases h1 : a = 1
    · subst h1; cases tr <;> cases g0 <;> cases g1 <;> simp <;> omega
    · constructor
      · intro h
        simp only [Bool.and_eq_true, Bool.not_eq_true', Bool.or_eq_false_iff, decide_eq_false_iff_not] at h
        omega
      · intro h; omega
theorem act_ok {x : Bt} {k n : Int} {y : Bt} {c : Int} (h : x.chk = true) (hy : x.act k n = (y, c)) : (c ≠ 0 ∧ y = Bt.zero) ∨ (c = 0 ∧ y.chk = true ∧ x.ls ≤ y.ls) := by
  obtain ⟨a, tr, ts, ls, v0, v1, g0, g1⟩ := x
  obtain ⟨ha, hts, hls, htr, hv0, hv1, hA, hB⟩ := (chk_iff a tr ts ls v0 v1 g0 g1).1 h
  have hn : ¬ Bt.chk ⟨a, tr, ts, ls, v0, v1, g0, g1⟩ = false := by simp [h]
  have nf : ∀ m, (Bt.zero, m) = (y, c) → m ≠ 0 → (c ≠ 0 ∧ y = Bt.zero) ∨ (c = 0 ∧ y.chk = true ∧ ls ≤ y.ls) := fun m e hm => by injection e with e1 e2; exact Or.inl ⟨e2 ▸ hm, e1.symm⟩
  have ok : ∀ z : Bt, (z, (0 : Int)) = (y, c) → z.chk = true → ls ≤ z.ls → (c ≠ 0 ∧ y = Bt.zero) ∨ (c = 0 ∧ y.chk = true ∧ ls ≤ y.ls) := fun z e hz hl => by injection e with e1 e2; subst e1; subst e2; exact Or.inr ⟨rfl, hz, hl⟩
  unfold Bt.act at hy
  split at hy
  · unfold Bt.inst at hy
    rw [if_neg hn] at hy
    cases tr
    · rw [if_neg (by simp)] at hy
      by_cases h3 : n < ls
      · rw [if_pos (by exact h3)] at hy; exact nf _ hy (by decide)
      rw [if_neg (by exact h3)] at hy
      by_cases h4 : n > 1073741824
      · rw [if_pos (by exact h4)] at hy; exact nf _ hy (by decide)
      rw [if_neg (by exact h4)] at hy
      rcases ha with rfl | rfl
      · have p := hA (Or.inl rfl)
        exact ok _ hy ((chk_iff 0 false ts ls v0 n g0 false).2 ⟨Or.inl rfl, hts, hls, htr, hv0, by omega, fun _ => p, fun q => by simp at q⟩) (Int.le_refl _)
      · have p := hB (Or.inl rfl)
        exact ok _ hy ((chk_iff 1 false ts ls n v1 false g1).2 ⟨Or.inr rfl, hts, hls, htr, by omega, hv1, fun q => by simp at q, fun _ => p⟩) (Int.le_refl _)
    · rw [if_pos (by rfl)] at hy; exact nf _ hy (by decide)
  split at hy
  · unfold Bt.ready at hy
    rw [if_neg hn] at hy
    cases tr
    · rw [if_neg (by simp)] at hy
      rcases ha with rfl | rfl
      · have p := hA (Or.inl rfl)
        by_cases h3 : v1 < ls
        · rw [if_pos (by exact h3)] at hy; exact nf _ hy (by decide)
        rw [if_neg (by exact h3)] at hy
        exact ok _ hy ((chk_iff 0 false ts ls v0 v1 g0 true).2 ⟨Or.inl rfl, hts, hls, htr, hv0, hv1, fun _ => p, fun _ => ⟨rfl, by omega⟩⟩) (Int.le_refl _)
      · have p := hB (Or.inl rfl)
        by_cases h3 : v0 < ls
        · rw [if_pos (by exact h3)] at hy; exact nf _ hy (by decide)
        rw [if_neg (by exact h3)] at hy
        exact ok _ hy ((chk_iff 1 false ts ls v0 v1 true g1).2 ⟨Or.inr rfl, hts, hls, htr, hv0, hv1, fun _ => ⟨rfl, by omega⟩, fun _ => p⟩) (Int.le_refl _)
    · rw [if_pos (by rfl)] at hy; exact nf _ hy (by decide)
  split at hy
  · unfold Bt.switch at hy
    by_cases h1 : n < 1
    · rw [if_pos (Or.inr (Or.inl h1))] at hy; exact nf _ hy (by decide)
    by_cases h2 : n > 7
    · rw [if_pos (Or.inr (Or.inr h2))] at hy; exact nf _ hy (by decide)
    rw [if_neg (by rintro (q | q | q); exact hn q; exact h1 q; exact h2 q)] at hy
    cases tr
    · rw [if_neg (by simp)] at hy
      rcases ha with rfl | rfl
      · have p := hA (Or.inl rfl)
        cases g1
        · rw [if_pos (by rfl)] at hy; exact nf _ hy (by decide)
        rw [if_neg (by simp [Bt.go])] at hy
        by_cases h3 : v1 < ls
        · rw [if_pos (by exact h3)] at hy; exact nf _ hy (by decide)
        rw [if_neg (by exact h3)] at hy
        exact ok _ hy ((chk_iff 1 true n ls v0 v1 g0 true).2 ⟨Or.inr rfl, by omega, hls, fun q => by simp at q, hv0, hv1, fun _ => p, fun _ => ⟨rfl, by omega⟩⟩) (Int.le_refl _)
      · have p := hB (Or.inl rfl)
        cases g0
        · rw [if_pos (by rfl)] at hy; exact nf _ hy (by decide)
        rw [if_neg (by simp [Bt.go])] at hy
        by_cases h3 : v0 < ls
        · rw [if_pos (by exact h3)] at hy; exact nf _ hy (by decide)
        rw [if_neg (by exact h3)] at hy
        exact ok _ hy ((chk_iff 0 true n ls v0 v1 true g1).2 ⟨Or.inl rfl, by omega, hls, fun q => by simp at q, hv0, hv1, fun _ => ⟨rfl, by omega⟩, fun _ => p⟩) (Int.le_refl _)
    · rw [if_pos (by rfl)] at hy; exact nf _ hy (by decide)
  split at hy
  · unfold Bt.start at hy
    rw [if_neg hn] at hy
    unfold Bt.started at hy
    cases tr
    · have hst : Bt.st ⟨a, false, ts, ls, v0, v1, g0, g1⟩ ≠ 2 ∧ Bt.st ⟨a, false, ts, ls, v0, v1, g0, g1⟩ ≠ 3 := by
        unfold Bt.st stF
        rw [if_neg (by simp), if_neg (by simp)]
        split <;> (split <;> decide)
      rw [if_neg hst.1, if_neg hst.2] at hy
      exact ok _ hy h (Int.le_refl _)
    · by_cases h0 : ts = 0
      · subst h0
        rw [if_neg (by unfold Bt.st stF; simp), if_pos (by rfl)] at hy
        rcases ha with rfl | rfl
        · have p := hB (Or.inr rfl)
          exact ok _ hy ((chk_iff 1 false 0 ls v0 v1 false g1).2 ⟨Or.inr rfl, hts, hls, fun _ => rfl, hv0, hv1, fun q => by simp at q, fun _ => p⟩) (Int.le_refl _)
        · have p := hA (Or.inr rfl)
          exact ok _ hy ((chk_iff 0 false 0 ls v0 v1 g0 false).2 ⟨Or.inl rfl, hts, hls, fun _ => rfl, hv0, hv1, fun _ => p, fun q => by simp at q⟩) (Int.le_refl _)
      · rw [if_pos (by unfold Bt.st stF; simp [h0])] at hy
        exact ok _ hy ((chk_iff a true (ts - 1) ls v0 v1 g0 g1).2 ⟨ha, by omega, hls, fun q => by simp at q, hv0, hv1, fun _ => hA (Or.inr rfl), fun _ => hB (Or.inr rfl)⟩) (Int.le_refl _)
  · unfold Bt.confirm at hy
    rw [if_neg hn] at hy
    cases tr
    · rw [if_pos (by rfl)] at hy; exact nf _ hy (by decide)
    rw [if_neg (by simp)] at hy
    have p := hA (Or.inr rfl)
    have q := hB (Or.inr rfl)
    rcases ha with rfl | rfl
    · exact ok _ hy ((chk_iff 0 false 0 (max ls v0) v0 v1 g0 g1).2 ⟨Or.inl rfl, by omega, by omega, fun _ => rfl, hv0, hv1, fun _ => ⟨p.1, by omega⟩, fun q => by simp at q⟩) (Int.le_max_left _ _)
    · exact ok _ hy ((chk_iff 1 false 0 (max ls v1) v0 v1 g0 g1).2 ⟨Or.inr rfl, by omega, by omega, fun _ => rfl, hv0, hv1, fun q => by simp at q, fun _ => ⟨q.1, by omega⟩⟩) (Int.le_max_left _ _)
theorem start_ok {x : Bt} {s : Int} {z : Bt} {f : Int} (h : x.chk = true) (hs : x.start = (s, z, f)) : f = 0 ∧ (s = 0 ∧ x.g0 = true ∧ x.ls ≤ x.v0 ∨ s = 1 ∧ x.g1 = true ∧ x.ls ≤ x.v1) := by
  obtain ⟨a, tr, ts, ls, v0, v1, g0, g1⟩ := x
  obtain ⟨ha, hts, hls, htr, hv0, hv1, hA, hB⟩ := (chk_iff a tr ts ls v0 v1 g0 g1).1 h
  unfold Bt.start at hs
  rw [if_neg (by simp [h])] at hs
  injection hs with e1 e2
  injection e2 with e2 e3
  refine ⟨e3.symm, ?_⟩
  subst e1
  have h2 : ∀ t, stF a true t g0 g1 = if t = 0 then 3 else 2 := fun t => by unfold stF; by_cases q : t = 0 <;> simp [q]
  have h3 : stF a false ts g0 g1 ≠ 2 ∧ stF a false ts g0 g1 ≠ 3 := by
    unfold stF
    rw [if_neg (by simp), if_neg (by simp)]
    split <;> (split <;> decide)
  unfold Bt.started Bt.st
  cases tr
  · rw [if_neg h3.1, if_neg h3.2]
    rcases ha with rfl | rfl
    · exact Or.inl ⟨rfl, hA (Or.inl rfl)⟩
    · exact Or.inr ⟨rfl, hB (Or.inl rfl)⟩
  · by_cases h0 : ts = 0
    · rw [if_neg (by show ¬ stF a true ts g0 g1 = 2; rw [h2, if_pos h0]; decide), if_pos (by show stF a true ts g0 g1 = 3; rw [h2, if_pos h0])]
      rcases ha with rfl | rfl
      · exact Or.inr ⟨rfl, hB (Or.inr rfl)⟩
      · exact Or.inl ⟨rfl, hA (Or.inr rfl)⟩
    · rw [if_pos (by show stF a true ts g0 g1 = 2; rw [h2, if_neg h0])]
      rcases ha with rfl | rfl
      · exact Or.inl ⟨rfl, hA (Or.inr rfl)⟩
      · exact Or.inr ⟨rfl, hB (Or.inr rfl)⟩
end Go.Proofs.Ytoiahmdibibceaa.Tb
