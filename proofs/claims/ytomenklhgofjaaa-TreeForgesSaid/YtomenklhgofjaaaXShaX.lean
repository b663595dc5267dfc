/- Bytes in digits: walked by hand. Conditions: none. -/
import Derived.Test.YtomenklhgofjaaaXShaB
import Derived.Shelf.Strings.Search1
import Derived.Shelf.Small.Strs
set_option linter.unusedVariables false
set_option linter.unusedSimpArgs false
namespace Go.Proofs.Ytomenklhgofjaaa.Sh
open Go.RowKit Go.Shelf Go.Proofs.YtomenklhgofjaaaW.PrintWords Go.Proofs.YtomenklhgofjaaaW.PrintLast Go.Proofs.YtomenklhgofjaaaW.PrintMore
def hexDigits : ByteArray := ⟨#[48, 49, 50, 51, 52, 53, 54, 55, 56, 57, 97, 98, 99, 100, 101, 102]⟩
/-- A half of a byte, written. -/
def hexd (n : Nat) : UInt8 := hexDigits.data.toList.getD n 0
/-- A row of bytes, written. -/
def hexs : List UInt8 → List UInt8
  | [] => []
  | x :: l => hexd (x.toNat / 16) :: hexd (x.toNat % 16) :: hexs l
theorem hexs_append (a b : List UInt8) : hexs (a ++ b) = hexs a ++ hexs b := by
  induction a with
  | nil => rfl
  | cons x a ih => simp [hexs, ih]
theorem hexs_len (a : List UInt8) : (hexs a).length = 2 * a.length := by
  induction a with
  | nil => rfl
  | cons x a ih => simp [hexs, ih]; omega
theorem take_hexs (s : ByteArray) (i : Nat) (hi : i < s.size) : hexs (s.data.toList.take (i + 1)) = hexs (s.data.toList.take i) ++ [hexd (s[i].toNat / 16)] ++ [hexd (s[i].toNat % 16)] := by
  have h : i < s.data.toList.length := by simpa using hi
  rw [List.take_succ_eq_append_getElem h, hexs_append]
  simp [hexs]
  constructor <;> rfl
theorem cell_hexd (n : Nat) : Lib.byteCells [hexd n] = [.int .u8 ((hexd n).toNat : Int)] := rfl
theorem hexd_at (n : Nat) (h : n < (⟨#[48, 49, 50, 51, 52, 53, 54, 55, 56, 57, 97, 98, 99, 100, 101, 102]⟩ : ByteArray).size) : (⟨#[48, 49, 50, 51, 52, 53, 54, 55, 56, 57, 97, 98, 99, 100, 101, 102]⟩ : ByteArray)[n]'h = hexd n := by
  have h' : n < hexDigits.data.toList.length := h
  show hexDigits.data[n]'h = hexDigits.data.toList.getD n 0
  rw [List.getD_eq_getElem?_getD, List.getElem?_eq_getElem h']
  rfl
set_option maxHeartbeats 4000000 in
set_option maxRecDepth 100000 in
theorem hex_calls (t : ByteArray) (w : World) (ht : t.size ≤ 35184372088832) :
    Calls Try.prog 25 #[.string t] w fun e w' => e = .returned (.string ⟨(hexs t.data.toList).toArray⟩) ∧ Below w.heap.size w w' := by
  go_enter Try.func25, Try.ntmps25
  go_wp2
  go_loopg [7, 4] t.size (fun kq v7 v4 w' => ∃ (i : Nat), kq + i = t.size ∧ v7 = .int .i64 i ∧ Aside0 (Lib.IsBuilder 81 5 w.heap.size w.heap.size (Lib.byteCells (hexs (t.data.toList.take i))) w' ∧ Below w.heap.size w w' ∧ w.heap.size ≤ w'.heap.size))
  case atStart => exact ⟨0, by omega, rfl, ⟨Lib.fresh_isBuilder 81 5 w, (Below.refl _ w).alloc (Nat.le_refl _) _, by simp⟩⟩
  case round =>
    obtain ⟨i, hki, rfl, M⟩ := hrel
    obtain ⟨m, hm⟩ : ∃ m, t.size = m := ⟨_, rfl⟩
    cases gk with
    | zero =>
      have p1 : decide (i < t.size) = false := decide_eq_false (by omega)
      have p2 := eq_false (show ¬ i < t.size by omega)
      have I := M.out.1
      have hall : t.data.toList.take i = t.data.toList := List.take_of_length_le (by simp; omega)
      rw [hall] at I
      have HI := Aside0.mk hki
      clear hki hm
      go_wp2_with (go_at_call 50; refine (bstring w.heap.size w.heap.size _ _ I M.out.2.2).mono ?_)
      rintro e W1 ⟨rfl, b1⟩
      go_wp2
      go_ret
      exact ⟨rfl, M.out.2.1.trans b1⟩
    | succ g =>
      have hi : i < t.size := by omega
      have p2 := eq_true (show i < t.size by omega)
      have p3 := eq_true (show 0 ≤ (i : Int) by omega)
      have xb : t[i].toNat < 256 := t[i].toNat_lt
      have q1 := eq_true (show 0 ≤ (t[i].toNat : Int) / 16 by omega)
      have q2 := eq_true (show (t[i].toNat : Int) / 16 < 16 by omega)
      have q3 := u8_and15 (x := (t[i].toNat : Int)) (by omega) (by omega)
      have q4 := eq_true (show 0 ≤ (t[i].toNat : Int) % 16 by omega)
      have q5 := eq_true (show (t[i].toNat : Int) % 16 < 16 by omega)
      have q6 : ((t[i].toNat : Int) % 16).toNat = t[i].toNat % 16 := by omega
      clear xb
      have l1 := Aside0.mk (show (Lib.byteCells (hexs (t.data.toList.take i))).length + 2 ≤ 140737488355328 by rw [Lib.byteCells_length, hexs_len, List.length_take]; omega)
      have TK := Aside0.mk (take_hexs t i hi)
      have HI := Aside0.mk hki
      have HM := Aside0.mk hm
      clear hki hm
      go_wp2_with (go_at_call 49; refine (bwrite w.heap.size w.heap.size _ _ _ M.out.1 (by have := l1.out; omega) M.out.2.2).mono ?_)
      rintro e W1 ⟨rfl, I1, b1⟩
      have l2 := Aside0.mk (show ∀ v : Value, (Lib.byteCells (hexs (t.data.toList.take i)) ++ [v]).length + 1 ≤ 140737488355328 from fun v => by have := l1.out; simp only [List.length_append, List.length_cons, List.length_nil]; omega)
      have sz1 := Aside0.mk (Nat.le_trans M.out.2.2 b1.size)
      go_wp2_with (go_at_call 49; refine (bwrite w.heap.size w.heap.size _ _ _ (Or.inr I1) (l2.out _) sz1.out).mono ?_)
      rintro e W2 ⟨rfl, I2, b2⟩
      go_wp2
      go_roundg g
      case measure => omega
      case rel => 
        refine ⟨i + 1, by have := HI.out; omega, rfl, ⟨?_, (M.out.2.1.trans b1).trans b2, Nat.le_trans sz1.out b2.size⟩⟩
        rw [TK.out, Lib.byteCells_append, Lib.byteCells_append, cell_hexd, cell_hexd]
        rw [← hexd_at _ (show _ < 16 by have := t[i].toNat_lt; omega), ← hexd_at _ (show t[i].toNat % 16 < 16 by omega)]
        exact Or.inr I2

def lays137_ren : Go.Shelf.Ren := ⟨fun | 137 => 48 | 217 => 67 | 266 => 73 | n => n, fun | 9 => 9 | 5 => 5 | 3 => 3 | n => n, fun | n => n⟩
theorem lays137 : Go.Proofs.Lays.n137 Try.prog lays137_ren := {
  mixed := by kernel_rfl
  f137 := Try.func48.trans (congrArg some (by kernel_rfl))
  f217 := Try.func67.trans (congrArg some (by kernel_rfl))
  f266 := Try.func73.trans (congrArg some (by kernel_rfl))
  t3 := Try.underlying3
  a3 := Try.isAgg3
  z3 := Try.sizeOf3
  v3 := Try.zeroValue3
  t5 := Try.underlying5
  a5 := Try.isAgg5
  z5 := Try.sizeOf5
  v5 := Try.zeroValue5
  t9 := Try.underlying9
  a9 := Try.isAgg9
  z9 := Try.sizeOf9
  v9 := Try.zeroValue9 }
theorem index_byte (s : ByteArray) (c : Int) (w : World) :
    Calls Try.prog 48 #[.string s, .int .u8 c] w fun e w' => e = .returned (.int .i64 (Lib.indexByte s.data.toList c.toNat.toUInt8)) ∧ w' = w := Any.strings_IndexByte lays137 s c w
end Go.Proofs.Ytomenklhgofjaaa.Sh
