/- The count that a word says: walked by hand. Conditions: none but the length of a text that can be. -/
import Derived.Test.YtjmabdgebhndhaaDoorXMsp
import Derived.Laws.RangeAny
import Derived.Lib.OthersKept
set_option linter.unusedVariables false
set_option linter.unusedSimpArgs false
namespace Go.Proofs.YtjmabdgebhndhaaDoor.Mf
open Go.RowKit Go.Shelf Go.Proofs.YtjmabdgebhndhaaDoorW.PrintWords Go.Proofs.YtjmabdgebhndhaaDoorW.PrintLast Go.Proofs.YtjmabdgebhndhaaDoorW.PrintMore
/-- The count that the rest of a text says, behind so many bytes and so great a number. -/
def cnt (s : ByteArray) : Nat → Nat → Int → Int × Bool
  | 0, _, n => (n, !s.toList.isEmpty)
  | k + 1, pos, n => if h : pos < s.size then
      (if s[pos].toNat < 48 then (0, false) else if 57 < s[pos].toNat then (0, false) else if 0 < pos ∧ n = 0 then (0, false)
        else if 2147483648 ≤ n * 10 + ((s[pos].toNat : Int) - 48) then (0, false) else cnt s k (pos + 1) (n * 10 + ((s[pos].toNat : Int) - 48)))
    else (n, !s.toList.isEmpty)
set_option maxHeartbeats 6400000 in
set_option maxRecDepth 100000 in
theorem count_calls (s : ByteArray) (hs : s.size ≤ 9223372036854775807) (w : World) :
    Calls Tryd.prog 25 #[.string s] w fun e w' => e = .returned (.tuple #[.int .i64 (cnt s s.size 0 0).1, .bool (cnt s s.size 0 0).2]) ∧ Below w.heap.size w w' := by
  obtain ⟨R, hR⟩ : ∃ R, cnt s s.size 0 0 = R := ⟨_, rfl⟩
  rw [hR]
  have hk0 : (w.iter s 0).heap[w.heap.size]? = some (.stringIter s 0) := World.iter_heap w s 0
  have hb0 : Below w.heap.size w (w.iter s 0) := (Below.refl _ w).alloc (Nat.le_refl _) _
  go_enter Tryd.func25, Tryd.ntmps25
  go_wp2
  go_loopg [4, 5, 6] s.size (fun kq v4 v5 v6 w' => ∃ (pos : Nat) (n : Int), kq + pos = s.size ∧ v4 = .int .i64 n ∧ 0 ≤ n ∧ n < 2147483648 ∧ cnt s kq pos n = R ∧ Aside0 (w'.heap[w.heap.size]? = some (.stringIter s pos)) ∧ Aside0 (Below w.heap.size w w'))
  case atStart => exact ⟨0, 0, by omega, rfl, by omega, by omega, hR, Aside0.mk hk0, Aside0.mk hb0⟩
  case round =>
    clear hk0 hb0 hR
    obtain ⟨pos, n, hkp, rfl, hn0, hn1, hR, HK, HB⟩ := hrel
    cases gk with
    | zero =>
      have hp : ¬ pos < s.size := by omega
      have hnext : ∀ ty, (Instr.next (.pointer (some ⟨w.heap.size, 0, none⟩)) true ty).run Tryd.prog wr = _ := fun ty => Lib.run_next_end_at wr w.heap.size s pos ty HK.out hp
      rw [cnt] at hR
      subst hR
      clear hkp hp hn0 hn1
      go_wp2
      go_ret2
      exact ⟨rfl, by repeat (first | exact HB.out | apply pw_below_drewN)⟩
    | succ k =>
      have hp : pos < s.size := by omega
      rw [cnt, dif_pos hp] at hR
      obtain ⟨b, hb⟩ : ∃ b, (s[pos]'hp).toNat = b := ⟨_, rfl⟩
      rw [hb] at hR
      by_cases ha : b < 128
      · have hnext : ∀ ty, (Instr.next (.pointer (some ⟨w.heap.size, 0, none⟩)) true ty).run Tryd.prog wr = _ := fun ty => Lib.run_next_ascii_at wr w.heap.size s pos ty HK.out hp (by rw [hb]; exact ha)
        rw [hb] at hnext
        have HK1 := Aside0.mk (Lib.iterAt_heap wr w.heap.size s pos (pos + 1) HK.out)
        have HB1 := Aside0.mk (Lib.below_iterAt HB.out (Nat.le_refl _) s (pos + 1))
        generalize wr.iterAt w.heap.size s (pos + 1) = W1 at hnext HK1 HB1
        clear HK HB
        by_cases h1 : b < 48
        · rw [if_pos h1] at hR
          subst hR
          have c1 : decide ((b : Int) < 48) = true := decide_eq_true (by omega)
          clear hkp
          go_wp2
          go_ret2
          exact ⟨rfl, by repeat (first | exact HB1.out | apply pw_below_drewN)⟩
        · rw [if_neg h1] at hR
          have c1 : decide ((b : Int) < 48) = false := decide_eq_false (by omega)
          by_cases h2 : 57 < b
          · rw [if_pos h2] at hR
            subst hR
            have c2 : decide ((b : Int) > 57) = true := decide_eq_true (by omega)
            clear hkp
            go_wp2
            go_ret2
            exact ⟨rfl, by repeat (first | exact HB1.out | apply pw_below_drewN)⟩
          · rw [if_neg h2] at hR
            have c2 : decide ((b : Int) > 57) = false := decide_eq_false (by omega)
            by_cases h3 : 0 < pos ∧ n = 0
            · rw [if_pos h3] at hR
              subst hR
              obtain ⟨h3, h4⟩ := h3
              subst h4
              have c3 : decide ((pos : Int) > 0) = true := decide_eq_true (by omega)
              have c3b : decide (0 < pos) = true := decide_eq_true (by omega)
              have c3c : decide ((0 : Int) < (pos : Int)) = true := decide_eq_true (by omega)
              clear hkp
              go_wp2
              go_ret2
              exact ⟨rfl, by repeat (first | exact HB1.out | apply pw_below_drewN)⟩
            · rw [if_neg h3] at hR
              have z1 : IntKind.i64.wrap (n * 10) = n * 10 := by rw [IntKind.wrap_i64]; omega
              have z2 : IntKind.i32.wrap ((b : Int) - 48) = (b : Int) - 48 := by rw [IntKind.wrap_i32]; omega
              have z3 : IntKind.i64.wrap ((b : Int) - 48) = (b : Int) - 48 := by rw [IntKind.wrap_i64]; omega
              obtain ⟨m, hm⟩ : ∃ m, n * 10 + ((b : Int) - 48) = m := ⟨_, rfl⟩
              have hm0 : 0 ≤ m := by omega
              have z4 : IntKind.i64.wrap m = m := by rw [IntKind.wrap_i64]; omega
              rw [hm] at hR
              have c34 : (decide ((pos : Int) > 0) = false ∧ decide (0 < pos) = false) ∨ (decide ((pos : Int) > 0) = true ∧ decide (0 < pos) = true) ∧ (n == 0) = false := by
                by_cases hp0 : 0 < pos
                · exact Or.inr ⟨⟨decide_eq_true (by omega), decide_eq_true hp0⟩, beq_eq_false_iff_ne.mpr fun h => h3 ⟨hp0, h⟩⟩
                · exact Or.inl ⟨decide_eq_false (by omega), decide_eq_false hp0⟩
              by_cases h5 : 2147483648 ≤ m
              · rw [if_pos h5] at hR
                subst hR
                have c5 : decide (m ≥ 2147483648) = true := decide_eq_true h5
                clear hkp h3
                rcases c34 with ⟨c3, c3b⟩ | ⟨⟨c3, c3b⟩, c4⟩
                · go_wp2
                  go_ret2
                  exact ⟨rfl, by repeat (first | exact HB1.out | apply pw_below_drewN)⟩
                · go_wp2
                  go_ret2
                  exact ⟨rfl, by repeat (first | exact HB1.out | apply pw_below_drewN)⟩
              · rw [if_neg h5] at hR
                have c5 : decide (m ≥ 2147483648) = false := decide_eq_false h5
                clear h3
                rcases c34 with ⟨c3, c3b⟩ | ⟨⟨c3, c3b⟩, c4⟩
                · go_wp2
                  go_roundg k
                  case measure => omega
                  case rel => exact ⟨pos + 1, m, by omega, rfl, hm0, by omega, hR, HK1, Aside0.mk (by repeat (first | exact HB1.out | apply pw_below_drewN))⟩
                · go_wp2
                  go_roundg k
                  case measure => omega
                  case rel => exact ⟨pos + 1, m, by omega, rfl, hm0, by omega, hR, HK1, Aside0.mk (by repeat (first | exact HB1.out | apply pw_below_drewN))⟩
      · have hnext : ∀ ty, (Instr.next (.pointer (some ⟨w.heap.size, 0, none⟩)) true ty).run Tryd.prog wr = _ := fun ty => Lib.run_next_any_at wr w.heap.size s pos ty HK.out hp
        have hd := (decode_high s pos hp (by rw [hb]; omega)).1
        obtain ⟨d, hd2⟩ : ∃ d, (Utf8.decode s pos).1 = d := ⟨_, rfl⟩
        have HB1 := Aside0.mk (Lib.below_iterAt HB.out (Nat.le_refl _) s (pos + (Utf8.decode s pos).2))
        generalize wr.iterAt w.heap.size s (pos + (Utf8.decode s pos).2) = W1 at hnext HB1
        rw [hd2] at hnext hd
        rw [if_neg (by omega), if_pos (by omega)] at hR
        subst hR
        have c1 : decide ((d : Int) < 48) = false := decide_eq_false (by omega)
        have c2 : decide ((d : Int) > 57) = true := decide_eq_true (by omega)
        clear hkp HK HB
        go_wp2
        go_ret2
        exact ⟨rfl, by repeat (first | exact HB1.out | apply pw_below_drewN)⟩
end Go.Proofs.YtjmabdgebhndhaaDoor.Mf
