/- The manifest that law 20 cuts out of what comes: walked by hand. Conditions: the length of a text that can be. -/
import Derived.Test.YtjmabdgebhndhaaDoorXShaR2
import Derived.Test.YtjmabdgebhndhaaDoorXLate
set_option linter.unusedVariables false
set_option linter.unusedSimpArgs false
namespace Go.Proofs.YtjmabdgebhndhaaDoor.Mf
open Go.RowKit Go.Proofs.YtjmabdgebhndhaaDoor.Sh Go.Proofs.YtjmabdgebhndhaaDoorW.PrintWords Go.Proofs.YtjmabdgebhndhaaDoorW.PrintLast Go.Proofs.YtjmabdgebhndhaaDoorW.PrintMore
/-- So many bytes more, each the length ahead of it. -/
def padN : Nat → List Int → List Int
  | 0, l => l
  | k + 1, l => padN k (l ++ [(l.length : Int)])
theorem padN_len : ∀ k l, (padN k l).length = l.length + k
  | 0, l => rfl
  | k + 1, l => by rw [padN, padN_len k, List.length_append]; show l.length + 1 + k = _; omega
/-- The 32 bytes of a digest. -/
def dig (s : ByteArray) : ByteArray := strOfNums ((padN (32 - s.size) (bytesOf s)).take 32)
theorem info23b : (Tryd.prog.info? 23).map (·.size) = some 3 := by kernel_rfl
theorem info5c : (Tryd.prog.info? 5).map (fun i => (i.zero, i.size, i.bytes)) = some (some (.int .u8 0), 1, 1) := by kernel_rfl
theorem blk_all3 {w : World} {g : Nat} {t : TypeId} {cs : Array Value} (h : w.heap[g]? = some (.cells cs t (0, 0))) (hs : cs.size = 3) (x0 x1 x2 : Value) :
    (((w.setCell ⟨g, 0, none⟩ x0).setCell ⟨g, 1, none⟩ x1).setCell ⟨g, 2, none⟩ x2).heap[g]? = some (.cells #[x0, x1, x2] t (0, 0)) := by
  rw [blk_set (blk_set (blk_set h 0 x0) 1 x1) 2 x2]
  match cs, hs with
  | ⟨[_, _, _]⟩, _ => rfl
set_option maxHeartbeats 6400000 in
set_option maxRecDepth 100000 in
theorem cut_calls (a0 a1 : Int) (s : ByteArray) (hs : s.size ≤ 140737488351232) (x y : Int) (hx : Go.bits .and .i64 a0 1073741823 = x) (hy : Go.bits .and .i64 a1 1048575 = y) (hx0 : 0 ≤ x) (hx1 : x ≤ 1073741823) (w : World) :
    Calls Tryd.prog 8 #[.int .i64 a0, .int .i64 a1, .string s] w fun e w' => e = .returned (.agg #[.int .i64 (1 + x), .int .i64 y, .string (dig s)]) ∧ Below w.heap.size w w' := by
  have z1 : IntKind.i64.wrap (1 + x) = 1 + x := by rw [IntKind.wrap_i64]; omega
  have hconv := fun W => print_bytes (P := Tryd.prog) 9 47 5 Tryd.underlying9 Tryd.underlying47 Tryd.underlying5 s W
  have HS := Aside0.mk hs
  clear hx0 hx1 hs
  go_enter Tryd.func8, Tryd.ntmps8
  go_upto_region 1 with (fail)
  obtain ⟨wb, hwb⟩ : ∃ wb, wb = w.alloc (.cells #[.int .i64 0, .int .i64 0, .string ⟨#[]⟩] 23) := ⟨_, rfl⟩
  have BC := Aside0.mk (show wb.heap[w.heap.size]? = some (.cells #[.int .i64 0, .int .i64 0, .string ⟨#[]⟩] 23 (0, 0)) from by rw [hwb]; exact blk_new w _)
  have HB := Aside0.mk (show Below w.heap.size w wb from by rw [hwb]; exact below_alloc (Below.refl _ _) _)
  have HZ := Aside0.mk (show w.heap.size < wb.heap.size from by rw [hwb]; simp)
  rw [← hwb]
  clear hwb
  have hst := Aside0.mk (RowB.start wb s HS.out rfl)
  have hbl := Aside0.mk (bytes_below (Below.refl wb.heap.size wb) (Nat.le_refl _) 5 s)
  have hcv := hconv wb
  clear hconv
  obtain ⟨cb, hcb⟩ : ∃ c, grownCap wb s.size 0 5 = c := ⟨_, rfl⟩
  obtain ⟨wc, hwc⟩ : ∃ c, Lib.bytesWorld wb 5 s = c := ⟨_, rfl⟩
  rw [hcb, hwc] at hcv hst
  rw [hwc] at hbl
  clear hcb hwc
  have BS := Aside0.mk (bytesOf_length s)
  obtain ⟨R, hR⟩ : ∃ R, padN (32 - s.size) (bytesOf s) = R := ⟨_, rfl⟩
  have hRl : 32 ≤ R.length := by rw [← hR, padN_len, bytesOf_length]; omega
  have hd : dig s = strOfNums (R.take 32) := by unfold dig; rw [hR]
  have HD := Aside0.mk hd
  have HR := Aside0.mk hR
  have HL := Aside0.mk hRl
  clear hR hRl hd
  go_wp2
  go_loopg [7] (32 - s.size) (fun kq v7 w' => ∃ (l : List Int), Aside0 (padN kq l = R) ∧ Aside0 (kq = 32 - l.length ∧ l.length ≤ s.size + 32) ∧ Aside0 (RowB w' wb.heap.size v7 l) ∧ Aside0 (Below wb.heap.size wb w'))
  case atStart => exact ⟨bytesOf s, HR, Aside0.mk (by rw [bytesOf_length]; omega), hst, hbl⟩
  case round =>
    clear hst hbl hcv
    obtain ⟨l, HZ1, HQ, HRB, HBB⟩ := hrel
    obtain ⟨gb, cb', rfl, -, hge, hrk⟩ := HRB.out.rk
    replace hrk := Aside0.mk hrk
    obtain ⟨n7, hn7⟩ : ∃ n, l.length = n := ⟨_, rfl⟩
    rw [hn7] at HRB HQ hge ⊢
    have N7 := Aside0.mk hn7
    cases gk with
    | zero =>
      have hq := HQ.out
      have c1 : decide ((n7 : Int) < 32) = false := decide_eq_false (by omega)
      have c2 : decide (n7 < 32) = false := decide_eq_false (by omega)
      have y1 := eq_true (show (32 : Int) ≤ (cb' : Int) by omega)
      have y2 := eq_true (show 32 ≤ cb' by omega)
      have hll : l.length = n7 := hn7
      have hlim : (l.take 32).length = 32 := by rw [List.length_take]; omega
      have hcs : (convert 47 9 (.slice (some ⟨gb, 0, none⟩) 32 cb')).run Tryd.prog wr = .ok (.string (strOfNums (l.take 32))) wr := string_of_reads Tryd.underlying47 Tryd.underlying5 Tryd.underlying9 (hrk.out.reads (by have := HS.out; omega) |>.take_ 32 (by omega))
      have bz := blk_below BC.out HBB.out
      have f0 := blk_frozen bz 0
      have f1 := blk_frozen bz 1
      have f2 := blk_frozen bz 2
      have g0 : wr.cell? ⟨w.heap.size, 0, none⟩ = some (.int .i64 0) := (blk_cell bz 0).trans rfl
      have g1 : wr.cell? ⟨w.heap.size, 1, none⟩ = some (.int .i64 0) := (blk_cell bz 1).trans rfl
      have g2 : wr.cell? ⟨w.heap.size, 2, none⟩ = some (.string ⟨#[]⟩) := (blk_cell bz 2).trans rfl
      have BZ := Aside0.mk bz
      have e0 : padN 0 l = R := HZ1.out
      have HE := Aside0.mk (show strOfNums (l.take 32) = dig s by rw [HD.out, ← e0]; rfl)
      clear hn7 hq hll hlim bz e0 hge
      go_wp2
      refine bodyPost_ret (results_cell_row rfl _ _ w.heap.size 23 #[.int .i64 (1 + x), .int .i64 y, .string (strOfNums (l.take 32))] (0, 0) _ rfl (blk_all3 BZ.out rfl _ _ _) Tryd.underlying23 rfl info23b) rfl ?_
      exact ⟨by rw [HE.out], below_set (below_set (below_set (below_step HB.out HBB.out) (Nat.le_refl _)) (Nat.le_refl _)) (Nat.le_refl _)⟩
    | succ k =>
      have hq := HQ.out
      have c1 : decide ((n7 : Int) < 32) = true := decide_eq_true (by omega)
      have c2 : decide (n7 < 32) = true := decide_eq_true (by omega)
      have z8 : IntKind.u8.wrap (n7 : Int) = (n7 : Int) := by rw [IntKind.wrap_u8]; omega
      clear hn7 hq hge hrk
      go_wp2_with (first
        | ((with_reducible refine gate_builtin (b := .append) (xs := #[.tmp 13, .tmp 17]) rfl ?_); at_builtin; refine RowB.append (w0 := wb) wb.heap.size rfl (.tmp 13) (.tmp 17) 47 rfl Tryd.underlying47 info5c (.slice (some ⟨gb, 0, none⟩) n7 cb') l n7 rfl rfl HRB.out HBB.out HBB.out.size (by have := N7.out; have := HQ.out; have := HS.out; omega) ?_; intro v1_ w_ hr hb; have HR1 := Aside0.mk hr; have HB1 := Aside0.mk hb; clear hr hb))
      go_roundg k
      case measure => omega
      case rel => exact ⟨l ++ [(n7 : Int)], by have q := N7.out; have e := HZ1.out; rw [padN, q] at e; exact Aside0.mk e, Aside0.mk (by have q := N7.out; have h9 := HQ.out; rw [List.length_append]; show k = 32 - (_ + 1) ∧ _ + 1 ≤ _; omega), HR1, HB1⟩
end Go.Proofs.YtjmabdgebhndhaaDoor.Mf
