/- The reference's roots: walked by hand. Conditions: none. -/
import Derived.Test.YtomenklhgofjaaaXShaR0
set_option linter.unusedVariables false
set_option linter.unusedSimpArgs false
namespace Go.Proofs.Ytomenklhgofjaaa.Sh
open Go.RowKit Go.Proofs.YtomenklhgofjaaaW.PrintWords Go.Proofs.YtomenklhgofjaaaW.PrintLast Go.Proofs.YtomenklhgofjaaaW.PrintMore
def xl (x : Int) : List Int := [x.tmod 4294967296, IntKind.u64.wrap (x.tdiv 4294967296), 0, 0]
def sq4 (x : Int) : List Int := tout (xl x) (xl x) 4 [0, 0, 0, 0]
def cb4 (x : Int) : List Int := tout (sq4 x) (xl x) 4 [0, 0, 0, 0]
theorem sq4_len (x : Int) : (sq4 x).length = 4 := tout_len _ _ _ _
theorem cb4_len (x : Int) : (cb4 x).length = 4 := tout_len _ _ _ _
/-- A root's bits. -/
def rt (y : Int → List Int) (p part : Int) : Nat → Int → Int
  | 0, n => n
  | i + 1, n => if mo (y (IntKind.u64.wrap (n + bitv (i + 1)))) p part 4 then rt y p part i (IntKind.u64.wrap (n + bitv (i + 1))) else rt y p part i n
theorem bitv_quo {i : Nat} (h : i < 60) : IntKind.u64.wrap ((bitv (i + 1)).tdiv 2) = bitv i := by
  have : ∀ j : Fin 60, IntKind.u64.wrap ((bitv (j.val + 1)).tdiv 2) = bitv j.val := by decide +kernel
  exact this ⟨i, h⟩
set_option maxHeartbeats 8000000 in
set_option maxRecDepth 100000 in
theorem root2_calls (p : Int) (w : World) : Calls Try.prog 46 #[.int .u64 p, .int .i64 2] w fun e w' => e = .returned (.int .u32 ((rt sq4 p 2 37 0).tmod 4294967296 % 4294967296)) ∧ Below w.heap.size w w' := by
  obtain ⟨R, hR⟩ : ∃ R, rt sq4 p 2 37 0 = R := ⟨_, rfl⟩
  rw [hR]
  have HR := Aside0.mk hR
  clear hR
  go_enter Try.func46, Try.ntmps46
  go_wp2
  go_loopg [5, 6] 37 (fun kq v5 v6 w' => ∃ (n : Int), kq ≤ 37 ∧ v5 = .int .u64 n ∧ v6 = .int .u64 (bitv kq) ∧ Aside0 (rt sq4 p 2 kq n = R) ∧ Aside0 (Below w.heap.size w w'))
  case atStart => exact ⟨0, by omega, rfl, by first | rfl | (simp; done), HR, ⟨Below.refl _ _⟩⟩
  case round =>
    clear HR
    obtain ⟨n, hk, rfl, rfl, HA, HB⟩ := hrel
    cases gk with
    | zero =>
      have e0 : bitv 0 = 0 := rfl
      rw [e0]
      have H := HA.out
      clear HA e0
      obtain rfl : n = R := H
      go_wp2
      go_ret
      exact ⟨rfl, HB.out⟩
    | succ k =>
      have hh : IntKind.u64.wrap ((bitv (k + 1)).tdiv 2) = bitv k := bitv_quo (by omega)
      have hp := bitv_pos k
      have H := HA.out
      clear HA
      unfold rt at H
      obtain ⟨B, hB⟩ : ∃ B, bitv (k + 1) = B := ⟨_, rfl⟩
      rw [hB] at hh hp H
      rw [hB]
      clear hB
      obtain ⟨x, hx⟩ : ∃ x, IntKind.u64.wrap (n + B) = x := ⟨_, rfl⟩
      rw [hx] at H
      obtain ⟨y0, y1, y2, y3, hy⟩ := list4 (sq4_len x)
      rw [hy] at H
      have hcall : ∀ w, Calls Try.prog 65 #[.agg #[.int .u64 (x.tmod 4294967296), .int .u64 (IntKind.u64.wrap (x.tdiv 4294967296)), .int .u64 0, .int .u64 0], .agg #[.int .u64 (x.tmod 4294967296), .int .u64 (IntKind.u64.wrap (x.tdiv 4294967296)), .int .u64 0, .int .u64 0]] w fun e w' => e = .returned (.agg #[.int .u64 y0, .int .u64 y1, .int .u64 y2, .int .u64 y3]) ∧ Below w.heap.size w w' := fun w => by
        have h := times_calls4 (x.tmod 4294967296) (IntKind.u64.wrap (x.tdiv 4294967296)) 0 0 (x.tmod 4294967296) (IntKind.u64.wrap (x.tdiv 4294967296)) 0 0 w
        have e : tout [x.tmod 4294967296, IntKind.u64.wrap (x.tdiv 4294967296), 0, 0] [x.tmod 4294967296, IntKind.u64.wrap (x.tdiv 4294967296), 0, 0] 4 [0, 0, 0, 0] = [y0, y1, y2, y3] := hy
        rw [e] at h
        exact h
      have hmost := most_calls4 y0 y1 y2 y3 p 2
      obtain ⟨b, hb⟩ : ∃ b, mo [y0, y1, y2, y3] p 2 4 = b := ⟨_, rfl⟩
      rw [hb] at H hmost
      have HH := Aside0.mk hh
      have HA := Aside0.mk H
      clear hh hb H hy
      have p1 : decide (0 < B) = true := decide_eq_true hp
      cases b with
      | true =>
        go_wp2_with (first
          | (go_at_call 65; (with_reducible refine (hcall _).mono ?_); rintro e w1 ⟨rfl, hb1⟩; have HB1 := Aside0.mk (below_step (below_alloc HB.out _) hb1); clear hb1 HB)
          | (go_at_call 66; (with_reducible refine (hmost _).mono ?_); rintro e w2 ⟨rfl, hb2⟩; have HB2 := Aside0.mk (below_step (below_alloc HB1.out _) hb2); clear hb2 HB1))
        go_roundg k
        case measure => omega
        case rel => exact ⟨x, by omega, rfl, congrArg (Value.int .u64) HH.out, ⟨by simpa using HA.out⟩, HB2⟩
      | false =>
        go_wp2_with (first
          | (go_at_call 65; (with_reducible refine (hcall _).mono ?_); rintro e w1 ⟨rfl, hb1⟩; have HB1 := Aside0.mk (below_step (below_alloc HB.out _) hb1); clear hb1 HB)
          | (go_at_call 66; (with_reducible refine (hmost _).mono ?_); rintro e w2 ⟨rfl, hb2⟩; have HB2 := Aside0.mk (below_step (below_alloc HB1.out _) hb2); clear hb2 HB1))
        go_roundg k
        case measure => omega
        case rel => exact ⟨n, by omega, rfl, congrArg (Value.int .u64) HH.out, ⟨by simpa using HA.out⟩, HB2⟩
set_option maxHeartbeats 8000000 in
set_option maxRecDepth 100000 in
theorem root3_calls (p : Int) (w : World) : Calls Try.prog 46 #[.int .u64 p, .int .i64 3] w fun e w' => e = .returned (.int .u32 ((rt cb4 p 3 37 0).tmod 4294967296 % 4294967296)) ∧ Below w.heap.size w w' := by
  obtain ⟨R, hR⟩ : ∃ R, rt cb4 p 3 37 0 = R := ⟨_, rfl⟩
  rw [hR]
  have HR := Aside0.mk hR
  clear hR
  go_enter Try.func46, Try.ntmps46
  go_wp2
  go_loopg [5, 6] 37 (fun kq v5 v6 w' => ∃ (n : Int), kq ≤ 37 ∧ v5 = .int .u64 n ∧ v6 = .int .u64 (bitv kq) ∧ Aside0 (rt cb4 p 3 kq n = R) ∧ Aside0 (Below w.heap.size w w'))
  case atStart => exact ⟨0, by omega, rfl, by first | rfl | (simp; done), HR, ⟨Below.refl _ _⟩⟩
  case round =>
    clear HR
    obtain ⟨n, hk, rfl, rfl, HA, HB⟩ := hrel
    cases gk with
    | zero =>
      have e0 : bitv 0 = 0 := rfl
      rw [e0]
      have H := HA.out
      clear HA e0
      obtain rfl : n = R := H
      go_wp2
      go_ret
      exact ⟨rfl, HB.out⟩
    | succ k =>
      have hh : IntKind.u64.wrap ((bitv (k + 1)).tdiv 2) = bitv k := bitv_quo (by omega)
      have hp := bitv_pos k
      have H := HA.out
      clear HA
      unfold rt at H
      obtain ⟨B, hB⟩ : ∃ B, bitv (k + 1) = B := ⟨_, rfl⟩
      rw [hB] at hh hp H
      rw [hB]
      clear hB
      obtain ⟨x, hx⟩ : ∃ x, IntKind.u64.wrap (n + B) = x := ⟨_, rfl⟩
      rw [hx] at H
      obtain ⟨y0, y1, y2, y3, hy⟩ := list4 (sq4_len x)
      obtain ⟨z0, z1, z2, z3, hz⟩ := list4 (cb4_len x)
      rw [hz] at H
      have hzz : tout [y0, y1, y2, y3] [x.tmod 4294967296, IntKind.u64.wrap (x.tdiv 4294967296), 0, 0] 4 [0, 0, 0, 0] = [z0, z1, z2, z3] := by rw [← hy]; exact hz
      have hcall : ∀ w, Calls Try.prog 65 #[.agg #[.int .u64 (x.tmod 4294967296), .int .u64 (IntKind.u64.wrap (x.tdiv 4294967296)), .int .u64 0, .int .u64 0], .agg #[.int .u64 (x.tmod 4294967296), .int .u64 (IntKind.u64.wrap (x.tdiv 4294967296)), .int .u64 0, .int .u64 0]] w fun e w' => e = .returned (.agg #[.int .u64 y0, .int .u64 y1, .int .u64 y2, .int .u64 y3]) ∧ Below w.heap.size w w' := fun w => by
        have h := times_calls4 (x.tmod 4294967296) (IntKind.u64.wrap (x.tdiv 4294967296)) 0 0 (x.tmod 4294967296) (IntKind.u64.wrap (x.tdiv 4294967296)) 0 0 w
        have e : tout [x.tmod 4294967296, IntKind.u64.wrap (x.tdiv 4294967296), 0, 0] [x.tmod 4294967296, IntKind.u64.wrap (x.tdiv 4294967296), 0, 0] 4 [0, 0, 0, 0] = [y0, y1, y2, y3] := hy
        rw [e] at h
        exact h
      have hcall3 : ∀ w, Calls Try.prog 65 #[.agg #[.int .u64 y0, .int .u64 y1, .int .u64 y2, .int .u64 y3], .agg #[.int .u64 (x.tmod 4294967296), .int .u64 (IntKind.u64.wrap (x.tdiv 4294967296)), .int .u64 0, .int .u64 0]] w fun e w' => e = .returned (.agg #[.int .u64 z0, .int .u64 z1, .int .u64 z2, .int .u64 z3]) ∧ Below w.heap.size w w' := fun w => by
        have h := times_calls4 y0 y1 y2 y3 (x.tmod 4294967296) (IntKind.u64.wrap (x.tdiv 4294967296)) 0 0 w
        rw [hzz] at h
        exact h
      have hmost := most_calls4 z0 z1 z2 z3 p 3
      obtain ⟨b, hb⟩ : ∃ b, mo [z0, z1, z2, z3] p 3 4 = b := ⟨_, rfl⟩
      rw [hb] at H hmost
      have HH := Aside0.mk hh
      have HA := Aside0.mk H
      clear hh hb H hy hz hzz
      have p1 : decide (0 < B) = true := decide_eq_true hp
      cases b with
      | true =>
        go_wp2_with (first
          | (go_at_call 65; (with_reducible refine (hcall _).mono ?_); rintro e w1 ⟨rfl, hb1⟩; have HB1 := Aside0.mk (below_step (below_alloc HB.out _) hb1); have X0 := Aside0.mk (Bq.below (xs := [x.tmod 4294967296, IntKind.u64.wrap (x.tdiv 4294967296), 0, 0]) (blk_new wr _) hb1); have hsz := Bq.lt X0.out; have y0_ := X0.out.cell 0 (by simp); have y1_ := X0.out.cell 1 (by simp); have y2_ := X0.out.cell 2 (by simp); have y3_ := X0.out.cell 3 (by simp); clear hb1)
          | (go_at_call 65; (with_reducible refine (hcall3 _).mono ?_); rintro e w3 ⟨rfl, hb3⟩; have HB3 := Aside0.mk (below_step (below_alloc HB1.out _) hb3); have X1 := Aside0.mk (Bq.below (xs := [y0, y1, y2, y3]) (blk_new w1 _) hb3); have u0_ := X1.out.cell 0 (by simp); have u1_ := X1.out.cell 1 (by simp); have u2_ := X1.out.cell 2 (by simp); have u3_ := X1.out.cell 3 (by simp); have f0_ := X1.out.frozen 0; have f1_ := X1.out.frozen 1; have f2_ := X1.out.frozen 2; have f3_ := X1.out.frozen 3; have hge_ := Aside0.mk (Nat.le_of_lt (Nat.lt_of_le_of_lt (below_size HB.out) hsz)); clear hb3 HB1)
          | (go_at_call 66; (with_reducible refine (hmost _).mono ?_); rintro e w2 ⟨rfl, hb2⟩; have HB2 := Aside0.mk (below_step (below_set (below_set (below_set (below_set HB3.out hge_.out) hge_.out) hge_.out) hge_.out) hb2); clear hb2))
        go_roundg k
        case measure => omega
        case rel => exact ⟨x, by omega, rfl, congrArg (Value.int .u64) HH.out, ⟨by simpa using HA.out⟩, HB2⟩
      | false =>
        go_wp2_with (first
          | (go_at_call 65; (with_reducible refine (hcall _).mono ?_); rintro e w1 ⟨rfl, hb1⟩; have HB1 := Aside0.mk (below_step (below_alloc HB.out _) hb1); have X0 := Aside0.mk (Bq.below (xs := [x.tmod 4294967296, IntKind.u64.wrap (x.tdiv 4294967296), 0, 0]) (blk_new wr _) hb1); have hsz := Bq.lt X0.out; have y0_ := X0.out.cell 0 (by simp); have y1_ := X0.out.cell 1 (by simp); have y2_ := X0.out.cell 2 (by simp); have y3_ := X0.out.cell 3 (by simp); clear hb1)
          | (go_at_call 65; (with_reducible refine (hcall3 _).mono ?_); rintro e w3 ⟨rfl, hb3⟩; have HB3 := Aside0.mk (below_step (below_alloc HB1.out _) hb3); have X1 := Aside0.mk (Bq.below (xs := [y0, y1, y2, y3]) (blk_new w1 _) hb3); have u0_ := X1.out.cell 0 (by simp); have u1_ := X1.out.cell 1 (by simp); have u2_ := X1.out.cell 2 (by simp); have u3_ := X1.out.cell 3 (by simp); have f0_ := X1.out.frozen 0; have f1_ := X1.out.frozen 1; have f2_ := X1.out.frozen 2; have f3_ := X1.out.frozen 3; have hge_ := Aside0.mk (Nat.le_of_lt (Nat.lt_of_le_of_lt (below_size HB.out) hsz)); clear hb3 HB1)
          | (go_at_call 66; (with_reducible refine (hmost _).mono ?_); rintro e w2 ⟨rfl, hb2⟩; have HB2 := Aside0.mk (below_step (below_set (below_set (below_set (below_set HB3.out hge_.out) hge_.out) hge_.out) hge_.out) hb2); clear hb2))
        go_roundg k
        case measure => omega
        case rel => exact ⟨n, by omega, rfl, congrArg (Value.int .u64) HH.out, ⟨by simpa using HA.out⟩, HB2⟩
end Go.Proofs.Ytomenklhgofjaaa.Sh
