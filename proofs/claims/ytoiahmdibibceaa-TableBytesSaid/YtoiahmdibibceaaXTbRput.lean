import Derived.Test.YtoiahmdibibceaaXTableBytesx1
import Derived.Test.YtoiahmdibibceaaXTableBytesx2
import Derived.Test.YtoiahmdibibceaaXTableBytesx3
import Derived.Test.YtoiahmdibibceaaXTbA
import Derived.Test.YtoiahmdibibceaaXTbPut
set_option linter.unusedVariables false
set_option linter.unusedSimpArgs false
namespace Go.Proofs.Ytoiahmdibibceaa.Tb
open Go.RowKit Go.Proofs.YtoiahmdibibceaaW.PrintWords Go.Proofs.YtoiahmdibibceaaW.PrintLast Go.Proofs.YtoiahmdibibceaaW.PrintMore
open Go.Proofs.Ytoiahmdibibceaa.XTableBytes
set_option maxRecDepth 100000 in
set_option maxHeartbeats 16000000 in
def accS (s0 s1 s2 s3 s4 s5 s6 s7 : ByteArray) : Nat → ByteArray | 0 => ⟨#[]⟩ | 1 => ⟨#[]⟩ ++ s0 | 2 => ⟨#[]⟩ ++ s0 ++ s1 | 3 => ⟨#[]⟩ ++ s0 ++ s1 ++ s2 | 4 => ⟨#[]⟩ ++ s0 ++ s1 ++ s2 ++ s3 | 5 => ⟨#[]⟩ ++ s0 ++ s1 ++ s2 ++ s3 ++ s4 | 6 => ⟨#[]⟩ ++ s0 ++ s1 ++ s2 ++ s3 ++ s4 ++ s5 | 7 => ⟨#[]⟩ ++ s0 ++ s1 ++ s2 ++ s3 ++ s4 ++ s5 ++ s6 | _ => ⟨#[]⟩ ++ s0 ++ s1 ++ s2 ++ s3 ++ s4 ++ s5 ++ s6 ++ s7
set_option maxRecDepth 100000 in
set_option maxHeartbeats 16000000 in
theorem rput_calls (k : Nat) (a : Int) (tr : Bool) (ts ls v0 v1 : Int) (g0 g1 : Bool) (s0 s1 s2 s3 s4 s5 s6 s7 : ByteArray) (ha : 0 ≤ a ∧ a ≤ 1073741824) (hts : 0 ≤ ts ∧ ts ≤ 1073741824) (hls : 0 ≤ ls ∧ ls ≤ 1073741824) (hv0 : 0 ≤ v0 ∧ v0 ≤ 1073741824) (hv1 : 0 ≤ v1 ∧ v1 ≤ 1073741824) (h0 : tinderboxref04_Num.f k a = some s0) (h1 : tinderboxref04_Num.f k (fl tr) = some s1) (h2 : tinderboxref04_Num.f k ts = some s2) (h3 : tinderboxref04_Num.f k ls = some s3) (h4 : tinderboxref04_Num.f k v0 = some s4) (h5 : tinderboxref04_Num.f k (fl g0) = some s5) (h6 : tinderboxref04_Num.f k v1 = some s6) (h7 : tinderboxref04_Num.f k (fl g1) = some s7) (z : s0.size ≤ 16 ∧ s1.size ≤ 16 ∧ s2.size ≤ 16 ∧ s3.size ≤ 16 ∧ s4.size ≤ 16 ∧ s5.size ≤ 16 ∧ s6.size ≤ 16 ∧ s7.size ≤ 16) (w : World) : Calls Try.prog 50 #[.agg (bcells a tr ts ls v0 v1 g0 g1)] w fun e w' => e = .returned (.string (accS s0 s1 s2 s3 s4 s5 s6 s7 8)) ∧ Below w.heap.size w w' := by
  have ua : IntKind.u64.wrap a = a := by rw [IntKind.wrap_u64]; omega
  have uts : IntKind.u64.wrap ts = ts := by rw [IntKind.wrap_u64]; omega
  have uls : IntKind.u64.wrap ls = ls := by rw [IntKind.wrap_u64]; omega
  have uv0 : IntKind.u64.wrap v0 = v0 := by rw [IntKind.wrap_u64]; omega
  have uv1 : IntKind.u64.wrap v1 = v1 := by rw [IntKind.wrap_u64]; omega
  obtain ⟨z0, z1, z2, z3, z4, z5, z6, z7⟩ := z
  have y0 := eq_false (show ¬ 9223372036854775807 < ((⟨#[]⟩ : ByteArray)).size + s0.size by (try simp only [ByteArray.size_append]); (try simp only [show (⟨#[]⟩ : ByteArray).size = 0 from rfl]); omega)
  have y0b := y0
  (try simp only [ByteArray.size_append] at y0b)
  have y0c := eq_false (show ¬ 9223372036854775807 < s0.size by omega)
  have y1 := eq_false (show ¬ 9223372036854775807 < ((⟨#[]⟩ : ByteArray) ++ s0).size + s1.size by (try simp only [ByteArray.size_append]); (try simp only [show (⟨#[]⟩ : ByteArray).size = 0 from rfl]); omega)
  have y1b := y1
  (try simp only [ByteArray.size_append] at y1b)
  have y1c := eq_false (show ¬ 9223372036854775807 < s0.size + s1.size by omega)
  have y2 := eq_false (show ¬ 9223372036854775807 < ((⟨#[]⟩ : ByteArray) ++ s0 ++ s1).size + s2.size by (try simp only [ByteArray.size_append]); (try simp only [show (⟨#[]⟩ : ByteArray).size = 0 from rfl]); omega)
  have y2b := y2
  (try simp only [ByteArray.size_append] at y2b)
  have y2c := eq_false (show ¬ 9223372036854775807 < s0.size + s1.size + s2.size by omega)
  have y3 := eq_false (show ¬ 9223372036854775807 < ((⟨#[]⟩ : ByteArray) ++ s0 ++ s1 ++ s2).size + s3.size by (try simp only [ByteArray.size_append]); (try simp only [show (⟨#[]⟩ : ByteArray).size = 0 from rfl]); omega)
  have y3b := y3
  (try simp only [ByteArray.size_append] at y3b)
  have y3c := eq_false (show ¬ 9223372036854775807 < s0.size + s1.size + s2.size + s3.size by omega)
  have y4 := eq_false (show ¬ 9223372036854775807 < ((⟨#[]⟩ : ByteArray) ++ s0 ++ s1 ++ s2 ++ s3).size + s4.size by (try simp only [ByteArray.size_append]); (try simp only [show (⟨#[]⟩ : ByteArray).size = 0 from rfl]); omega)
  have y4b := y4
  (try simp only [ByteArray.size_append] at y4b)
  have y4c := eq_false (show ¬ 9223372036854775807 < s0.size + s1.size + s2.size + s3.size + s4.size by omega)
  have y5 := eq_false (show ¬ 9223372036854775807 < ((⟨#[]⟩ : ByteArray) ++ s0 ++ s1 ++ s2 ++ s3 ++ s4).size + s5.size by (try simp only [ByteArray.size_append]); (try simp only [show (⟨#[]⟩ : ByteArray).size = 0 from rfl]); omega)
  have y5b := y5
  (try simp only [ByteArray.size_append] at y5b)
  have y5c := eq_false (show ¬ 9223372036854775807 < s0.size + s1.size + s2.size + s3.size + s4.size + s5.size by omega)
  have y6 := eq_false (show ¬ 9223372036854775807 < ((⟨#[]⟩ : ByteArray) ++ s0 ++ s1 ++ s2 ++ s3 ++ s4 ++ s5).size + s6.size by (try simp only [ByteArray.size_append]); (try simp only [show (⟨#[]⟩ : ByteArray).size = 0 from rfl]); omega)
  have y6b := y6
  (try simp only [ByteArray.size_append] at y6b)
  have y6c := eq_false (show ¬ 9223372036854775807 < s0.size + s1.size + s2.size + s3.size + s4.size + s5.size + s6.size by omega)
  have y7 := eq_false (show ¬ 9223372036854775807 < ((⟨#[]⟩ : ByteArray) ++ s0 ++ s1 ++ s2 ++ s3 ++ s4 ++ s5 ++ s6).size + s7.size by (try simp only [ByteArray.size_append]); (try simp only [show (⟨#[]⟩ : ByteArray).size = 0 from rfl]); omega)
  have y7b := y7
  (try simp only [ByteArray.size_append] at y7b)
  have y7c := eq_false (show ¬ 9223372036854775807 < s0.size + s1.size + s2.size + s3.size + s4.size + s5.size + s6.size + s7.size by omega)
  clear ha hts hls hv0 hv1 z0 z1 z2 z3 z4 z5 z6 z7
  have H0 := Aside0.mk h0
  have H1 := Aside0.mk h1
  have H2 := Aside0.mk h2
  have H3 := Aside0.mk h3
  have H4 := Aside0.mk h4
  have H5 := Aside0.mk h5
  have H6 := Aside0.mk h6
  have H7 := Aside0.mk h7
  clear h0 h1 h2 h3 h4 h5 h6 h7
  go_enter Try.func50, Try.ntmps50
  go_upto_region 1 with (fail)
  obtain ⟨W, hW⟩ : ∃ W : World, W = w.alloc (.cells (bcells a tr ts ls v0 v1 g0 g1) 40) := ⟨_, rfl⟩
  have bk : W.heap[w.heap.size]? = some (.cells (bcells a tr ts ls v0 v1 g0 g1) 40 (0, 0)) := by rw [hW]; exact blk_new _ _
  have hb : Below w.heap.size w W := by rw [hW]; exact below_alloc (Below.refl _ _) _
  rw [← hW]
  clear hW
  have HB := Aside0.mk hb
  have BK := Aside0.mk bk
  have c0 := (blk_cell bk 0).trans rfl
  have c1 := (blk_cell bk 1).trans rfl
  have c2 := (blk_cell bk 2).trans rfl
  have c3 := (blk_cell bk 3).trans rfl
  have c4 := (blk_cell bk 4).trans rfl
  have c5 := (blk_cell bk 5).trans rfl
  have c6 := (blk_cell bk 6).trans rfl
  have c7 := (blk_cell bk 7).trans rfl
  clear bk hb
  have KS := Aside0.mk (show ∀ (A B : World), Below A.heap.size A B → (A.cell? ⟨w.heap.size, 0, none⟩ = some (.int .i64 a) ∧ A.cell? ⟨w.heap.size, 1, none⟩ = some (.bool tr) ∧ A.cell? ⟨w.heap.size, 2, none⟩ = some (.int .i64 ts) ∧ A.cell? ⟨w.heap.size, 3, none⟩ = some (.int .i64 ls) ∧ A.cell? ⟨w.heap.size, 4, none⟩ = some (.int .i64 v0) ∧ A.cell? ⟨w.heap.size, 5, none⟩ = some (.int .i64 v1) ∧ A.cell? ⟨w.heap.size, 6, none⟩ = some (.bool g0) ∧ A.cell? ⟨w.heap.size, 7, none⟩ = some (.bool g1) ∧ Below w.heap.size w A) → (B.cell? ⟨w.heap.size, 0, none⟩ = some (.int .i64 a) ∧ B.cell? ⟨w.heap.size, 1, none⟩ = some (.bool tr) ∧ B.cell? ⟨w.heap.size, 2, none⟩ = some (.int .i64 ts) ∧ B.cell? ⟨w.heap.size, 3, none⟩ = some (.int .i64 ls) ∧ B.cell? ⟨w.heap.size, 4, none⟩ = some (.int .i64 v0) ∧ B.cell? ⟨w.heap.size, 5, none⟩ = some (.int .i64 v1) ∧ B.cell? ⟨w.heap.size, 6, none⟩ = some (.bool g0) ∧ B.cell? ⟨w.heap.size, 7, none⟩ = some (.bool g1) ∧ Below w.heap.size w B) from fun A B hb ⟨h0, h1, h2, h3, h4, h5, h6, h7, h8⟩ => ⟨cell_keep hb h0, cell_keep hb h1, cell_keep hb h2, cell_keep hb h3, cell_keep hb h4, cell_keep hb h5, cell_keep hb h6, cell_keep hb h7, below_step h8 hb⟩)
  have HSD := Aside0.mk (show (W.cell? ⟨w.heap.size, 0, none⟩ = some (.int .i64 a) ∧ W.cell? ⟨w.heap.size, 1, none⟩ = some (.bool tr) ∧ W.cell? ⟨w.heap.size, 2, none⟩ = some (.int .i64 ts) ∧ W.cell? ⟨w.heap.size, 3, none⟩ = some (.int .i64 ls) ∧ W.cell? ⟨w.heap.size, 4, none⟩ = some (.int .i64 v0) ∧ W.cell? ⟨w.heap.size, 5, none⟩ = some (.int .i64 v1) ∧ W.cell? ⟨w.heap.size, 6, none⟩ = some (.bool g0) ∧ W.cell? ⟨w.heap.size, 7, none⟩ = some (.bool g1) ∧ Below w.heap.size w W) from ⟨c0, c1, c2, c3, c4, c5, c6, c7, HB.out⟩)
  go_upto_region 2 with (fail)
  first | (go_region_held3 (fun w' => w'.cell? ⟨w.heap.size, 0, none⟩ = some (.int .i64 a) ∧ w'.cell? ⟨w.heap.size, 1, none⟩ = some (.bool tr) ∧ w'.cell? ⟨w.heap.size, 2, none⟩ = some (.int .i64 ts) ∧ w'.cell? ⟨w.heap.size, 3, none⟩ = some (.int .i64 ls) ∧ w'.cell? ⟨w.heap.size, 4, none⟩ = some (.int .i64 v0) ∧ w'.cell? ⟨w.heap.size, 5, none⟩ = some (.int .i64 v1) ∧ w'.cell? ⟨w.heap.size, 6, none⟩ = some (.bool g0) ∧ w'.cell? ⟨w.heap.size, 7, none⟩ = some (.bool g1) ∧ Below w.heap.size w w') (first | with_reducible assumption | exact KS.out _ _ (by with_reducible assumption) (by with_reducible assumption) | exact KS.out W _ (below_drew1 (Below.refl _ _)) HSD.out | exact KS.out _ _ (below_alloc (Below.refl _ _) _) (by with_reducible assumption)) (first | (go_at_call 71; (with_reducible refine (bit_c _ _).mono ?_); rintro e w' ⟨rfl, hd⟩; have hb := drawn_below hd; clear hd))) | fail
  have KB : ∀ (A : World), (A.cell? ⟨w.heap.size, 0, none⟩ = some (.int .i64 a) ∧ A.cell? ⟨w.heap.size, 1, none⟩ = some (.bool tr) ∧ A.cell? ⟨w.heap.size, 2, none⟩ = some (.int .i64 ts) ∧ A.cell? ⟨w.heap.size, 3, none⟩ = some (.int .i64 ls) ∧ A.cell? ⟨w.heap.size, 4, none⟩ = some (.int .i64 v0) ∧ A.cell? ⟨w.heap.size, 5, none⟩ = some (.int .i64 v1) ∧ A.cell? ⟨w.heap.size, 6, none⟩ = some (.bool g0) ∧ A.cell? ⟨w.heap.size, 7, none⟩ = some (.bool g1) ∧ Below w.heap.size w A) → Below w.heap.size w A := fun A h => h.2.2.2.2.2.2.2.2
  refine to_wp (fun W => W.heap[w'.heap.size]? = some (.cells #[.int .u64 a, .int .u64 (fl tr), .int .u64 ts, .int .u64 ls, .int .u64 v0, .int .u64 (fl g0), .int .u64 v1, .int .u64 (fl g1)] 22 (0, 0)) ∧ Below w.heap.size w W) ⟨blk_new _ _, KB _ (by with_reducible assumption)⟩ ?_
  obtain ⟨g9, hg9⟩ : ∃ q, q = w'.heap.size := ⟨_, rfl⟩
  simp only [← hg9]
  clear KB KS HSD HB BK hg9 c0 c1 c2 c3 c4 c5 c6 c7
  rintro W ⟨bk, hb⟩
  have HB := Aside0.mk hb
  have BK := Aside0.mk bk
  clear bk hb
  go_upto_region 3 with (fail)
  go_wp2
  go_loopg [3, 5] 8 (fun kq v3 v5 w' => ∃ i : Nat, i ≤ 8 ∧ kq + i = 8 ∧ v5 = .int .i64 i ∧ v3 = .string (accS s0 s1 s2 s3 s4 s5 s6 s7 i) ∧ Aside0 (w'.heap[g9]? = some (.cells #[.int .u64 a, .int .u64 (fl tr), .int .u64 ts, .int .u64 ls, .int .u64 v0, .int .u64 (fl g0), .int .u64 v1, .int .u64 (fl g1)] 22 (0, 0))) ∧ Aside0 (Below w.heap.size w w'))
  case atStart => exact ⟨0, by omega, by omega, rfl, rfl, BK, HB⟩
  case round =>
    clear HB BK
    obtain ⟨i, hi, hki, rfl, rfl, BK, HB⟩ := hrel
    have c0 := (blk_cell BK.out 0).trans rfl
    have c1 := (blk_cell BK.out 1).trans rfl
    have c2 := (blk_cell BK.out 2).trans rfl
    have c3 := (blk_cell BK.out 3).trans rfl
    have c4 := (blk_cell BK.out 4).trans rfl
    have c5 := (blk_cell BK.out 5).trans rfl
    have c6 := (blk_cell BK.out 6).trans rfl
    have c7 := (blk_cell BK.out 7).trans rfl
    have hcase : i = 0 ∨ i = 1 ∨ i = 2 ∨ i = 3 ∨ i = 4 ∨ i = 5 ∨ i = 6 ∨ i = 7 ∨ i = 8 := by omega
    rcases hcase with rfl | rfl | rfl | rfl | rfl | rfl | rfl | rfl | rfl
    · unfold accS
      go_wp2_with (first | (go_at_call 57; (with_reducible refine (tinderboxref04_Num.calls k _ _ _ H0.out).mono ?_); rintro e w8 ⟨rfl, hb8⟩; have HB8 := Aside0.mk (below_step HB.out hb8); have BK8 := Aside0.mk (blk_keep BK.out hb8); clear hb8))
      go_roundg (gk - 1)
      case measure => omega
      case rel => exact ⟨1, by omega, by omega, rfl, rfl, ⟨by first | exact BK8.out | exact blk_drewN BK8.out _ | exact blk_drew1 BK8.out⟩, ⟨by (repeat (first | with_reducible exact HB8.out | with_reducible apply pw_below_drewN | with_reducible apply below_drew1))⟩⟩
    · unfold accS
      go_wp2_with (first | (go_at_call 57; (with_reducible refine (tinderboxref04_Num.calls k _ _ _ H1.out).mono ?_); rintro e w8 ⟨rfl, hb8⟩; have HB8 := Aside0.mk (below_step HB.out hb8); have BK8 := Aside0.mk (blk_keep BK.out hb8); clear hb8))
      go_roundg (gk - 1)
      case measure => omega
      case rel => exact ⟨2, by omega, by omega, rfl, rfl, ⟨by first | exact BK8.out | exact blk_drewN BK8.out _ | exact blk_drew1 BK8.out⟩, ⟨by (repeat (first | with_reducible exact HB8.out | with_reducible apply pw_below_drewN | with_reducible apply below_drew1))⟩⟩
    · unfold accS
      go_wp2_with (first | (go_at_call 57; (with_reducible refine (tinderboxref04_Num.calls k _ _ _ H2.out).mono ?_); rintro e w8 ⟨rfl, hb8⟩; have HB8 := Aside0.mk (below_step HB.out hb8); have BK8 := Aside0.mk (blk_keep BK.out hb8); clear hb8))
      go_roundg (gk - 1)
      case measure => omega
      case rel => exact ⟨3, by omega, by omega, rfl, rfl, ⟨by first | exact BK8.out | exact blk_drewN BK8.out _ | exact blk_drew1 BK8.out⟩, ⟨by (repeat (first | with_reducible exact HB8.out | with_reducible apply pw_below_drewN | with_reducible apply below_drew1))⟩⟩
    · unfold accS
      go_wp2_with (first | (go_at_call 57; (with_reducible refine (tinderboxref04_Num.calls k _ _ _ H3.out).mono ?_); rintro e w8 ⟨rfl, hb8⟩; have HB8 := Aside0.mk (below_step HB.out hb8); have BK8 := Aside0.mk (blk_keep BK.out hb8); clear hb8))
      go_roundg (gk - 1)
      case measure => omega
      case rel => exact ⟨4, by omega, by omega, rfl, rfl, ⟨by first | exact BK8.out | exact blk_drewN BK8.out _ | exact blk_drew1 BK8.out⟩, ⟨by (repeat (first | with_reducible exact HB8.out | with_reducible apply pw_below_drewN | with_reducible apply below_drew1))⟩⟩
    · unfold accS
      go_wp2_with (first | (go_at_call 57; (with_reducible refine (tinderboxref04_Num.calls k _ _ _ H4.out).mono ?_); rintro e w8 ⟨rfl, hb8⟩; have HB8 := Aside0.mk (below_step HB.out hb8); have BK8 := Aside0.mk (blk_keep BK.out hb8); clear hb8))
      go_roundg (gk - 1)
      case measure => omega
      case rel => exact ⟨5, by omega, by omega, rfl, rfl, ⟨by first | exact BK8.out | exact blk_drewN BK8.out _ | exact blk_drew1 BK8.out⟩, ⟨by (repeat (first | with_reducible exact HB8.out | with_reducible apply pw_below_drewN | with_reducible apply below_drew1))⟩⟩
    · unfold accS
      go_wp2_with (first | (go_at_call 57; (with_reducible refine (tinderboxref04_Num.calls k _ _ _ H5.out).mono ?_); rintro e w8 ⟨rfl, hb8⟩; have HB8 := Aside0.mk (below_step HB.out hb8); have BK8 := Aside0.mk (blk_keep BK.out hb8); clear hb8))
      go_roundg (gk - 1)
      case measure => omega
      case rel => exact ⟨6, by omega, by omega, rfl, rfl, ⟨by first | exact BK8.out | exact blk_drewN BK8.out _ | exact blk_drew1 BK8.out⟩, ⟨by (repeat (first | with_reducible exact HB8.out | with_reducible apply pw_below_drewN | with_reducible apply below_drew1))⟩⟩
    · unfold accS
      go_wp2_with (first | (go_at_call 57; (with_reducible refine (tinderboxref04_Num.calls k _ _ _ H6.out).mono ?_); rintro e w8 ⟨rfl, hb8⟩; have HB8 := Aside0.mk (below_step HB.out hb8); have BK8 := Aside0.mk (blk_keep BK.out hb8); clear hb8))
      go_roundg (gk - 1)
      case measure => omega
      case rel => exact ⟨7, by omega, by omega, rfl, rfl, ⟨by first | exact BK8.out | exact blk_drewN BK8.out _ | exact blk_drew1 BK8.out⟩, ⟨by (repeat (first | with_reducible exact HB8.out | with_reducible apply pw_below_drewN | with_reducible apply below_drew1))⟩⟩
    · unfold accS
      go_wp2_with (first | (go_at_call 57; (with_reducible refine (tinderboxref04_Num.calls k _ _ _ H7.out).mono ?_); rintro e w8 ⟨rfl, hb8⟩; have HB8 := Aside0.mk (below_step HB.out hb8); have BK8 := Aside0.mk (blk_keep BK.out hb8); clear hb8))
      go_roundg (gk - 1)
      case measure => omega
      case rel => exact ⟨8, by omega, by omega, rfl, rfl, ⟨by first | exact BK8.out | exact blk_drewN BK8.out _ | exact blk_drew1 BK8.out⟩, ⟨by (repeat (first | with_reducible exact HB8.out | with_reducible apply pw_below_drewN | with_reducible apply below_drew1))⟩⟩
    · unfold accS
      go_wp2
      go_ret
      exact ⟨rfl, (by repeat (first | with_reducible exact HB.out | with_reducible apply pw_below_drewN | with_reducible apply below_drew1))⟩
end Go.Proofs.Ytoiahmdibibceaa.Tb
