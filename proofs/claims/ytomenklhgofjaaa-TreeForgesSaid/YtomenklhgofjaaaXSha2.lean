/- The digest: walked by hand. Conditions: the text takes fewer than 2^47 bytes. -/
import Derived.Test.YtomenklhgofjaaaXSha1
import Derived.Lib.Strings
set_option linter.unusedVariables false
set_option linter.unusedSimpArgs false
namespace Go.Proofs.Ytomenklhgofjaaa.Sh
open Go.RowKit Go.Proofs.YtomenklhgofjaaaW.PrintWords Go.Proofs.YtomenklhgofjaaaW.PrintLast Go.Proofs.YtomenklhgofjaaaW.PrintMore
/-- So many blocks. -/
def eat (kc : List Int) : Nat → List Int → ByteArray → List Int × ByteArray
  | 0, s, r => (s, r)
  | n + 1, s, r => eat kc n (mixF s kc (r.extract 0 64)) (r.extract 64 r.size)
def zeros (r : ByteArray) : Nat → ByteArray
  | 0 => r
  | n + 1 => zeros (r ++ (⟨#[0]⟩ : ByteArray)) n
def lens (n : Int) (r : ByteArray) : Nat → ByteArray
  | 0 => r
  | i + 1 => lens n r i ++ strOfNums [n / 2 ^ (56 - 8 * i) % 256]
theorem strNums_size (l : List Int) : (strOfNums l).size = l.length := by
  simp [strOfNums, ByteArray.size]
theorem lens_size (n : Int) (r : ByteArray) (i : Nat) : (lens n r i).size = r.size + i := by
  induction i with
  | zero => rfl
  | succ i ih => unfold lens; rw [ByteArray.size_append, ih, strNums_size]; rfl
theorem lens_step {n X : Int} {q P : ByteArray} {i : Nat} (hP : lens n q i = P) (hX : X = n / 2 ^ (56 - 8 * i) % 256) : Value.string (P ++ strOfNums [X]) = Value.string (lens n q (i + 1)) := by
  show _ = Value.string (lens n q i ++ strOfNums [n / 2 ^ (56 - 8 * i) % 256])
  rw [hP, hX]
theorem conv1 (W : World) (x : Int) : (convert 26 9 (.slice (some ⟨W.heap.size, 0, none⟩) 1 1)).run Try.prog (W.alloc (.cells #[.int .u8 x] 5)) = .ok (.string (strOfNums [x])) (W.alloc (.cells #[.int .u8 x] 5)) :=
  own_string (base := 0) (xs := [x]) Try.underlying26 Try.underlying5 Try.underlying9 (own_lit W 0 5 .u8 [x] (Nat.zero_le _) (by simp))
theorem empty_of {r : ByteArray} (h : r.size = 64 * 0) : r = ⟨#[]⟩ := by
  cases r with | mk d => exact congrArg ByteArray.mk (Array.eq_empty_of_size_eq_zero h)
theorem ne_empty {r : ByteArray} (h : 0 < r.size) : r.toList.isEmpty = false := by
  rw [Lib.toList_data]
  cases r with | mk d =>
    show d.toList.isEmpty = false
    rw [List.isEmpty_eq_false_iff]
    intro e
    have h' : 0 < d.size := h
    rw [← Array.length_toList, e] at h'
    exact absurd h' (by decide)
theorem ne_empty' {r : ByteArray} (h : 0 < r.size) : (r.toList = []) = False := eq_false (by
  intro h'
  have := ne_empty h
  rw [h'] at this
  cases this)
theorem run_index_arr (L : List Int) (i : Nat) (h8 : L.length = 8) (hi : i < 8) (w : World) : (Instr.index 65 (.agg (cells32 L)) (.int .i64 (i : Int))).run Try.prog w = .ok (.int .u32 (L.getD i 0)) w := by
  obtain ⟨a, b, c, d, e, f, g, h, rfl⟩ := list8 h8
  match i, hi with
  | 0, _ => show _ = _; kernel_rfl
  | 1, _ => show _ = _; kernel_rfl
  | 2, _ => show _ = _; kernel_rfl
  | 3, _ => show _ = _; kernel_rfl
  | 4, _ => show _ = _; kernel_rfl
  | 5, _ => show _ = _; kernel_rfl
  | 6, _ => show _ = _; kernel_rfl
  | 7, _ => show _ = _; kernel_rfl
def byte4 (x : Int) : List Int := [x / 16777216 % 256, x / 65536 % 256, x / 256 % 256, x % 256]
def outb (L : List Int) : Nat → List Int
  | 0 => []
  | i + 1 => outb L i ++ byte4 (L.getD i 0)
theorem outb_len (L : List Int) (i : Nat) : (outb L i).length = 4 * i := by
  induction i with
  | zero => rfl
  | succ i ih => unfold outb; rw [List.length_append, ih]; rfl
theorem reads_new (W : World) (xs : List Int) (h : xs.length ≤ 100) : ReadsInt (W.alloc (.cells (nums .u8 xs).toArray 5)) .u8 (some ⟨W.heap.size, 0, none⟩) xs.length xs := by
  obtain ⟨A, c, e, r⟩ := own_reads (own_lit W 0 5 .u8 xs (Nat.zero_le _) (by omega))
  cases e
  exact r
/-- The digest, of whatever words it begins with. -/
def shaG (hc kc : List Int) (t : ByteArray) : ByteArray :=
  strOfNums (outb (eat kc ((lens ((t.size : Int) * 8) (zeros ((eat kc (t.size / 64) hc t).2 ++ ⟨#[128]⟩) ((119 - (eat kc (t.size / 64) hc t).2.size) % 64)) 8).size / 64) (eat kc (t.size / 64) hc t).1 (lens ((t.size : Int) * 8) (zeros ((eat kc (t.size / 64) hc t).2 ++ ⟨#[128]⟩) ((119 - (eat kc (t.size / 64) hc t).2.size) % 64)) 8)).1 8)
/-- What holds of the two arrays. -/
structure MS (hc kc : List Int) (w wr : World) (g : Nat) (s : List Int) : Prop where
  hb : Below w.heap.size w wr
  b0 : Bk wr g 65 s
  b1 : Bk wr (g + 1) 66 kc
  hg : w.heap.size ≤ g
  l0 : s.length = 8
  l1 : kc.length = 64
section
variable {hc kc : List Int} {w wr : World} {g : Nat} {s : List Int}
theorem MS.drew (m : MS hc kc w wr g s) (n : Nat) : MS hc kc w (wr.drewN n) g s := ⟨pw_below_drewN m.hb n, m.b0, m.b1, m.hg, m.l0, m.l1⟩
theorem MS.drew1 (m : MS hc kc w wr g s) : MS hc kc w wr.drew g s := ⟨m.hb.drew, m.b0, m.b1, m.hg, m.l0, m.l1⟩
theorem MS.below {wr' : World} (m : MS hc kc w wr g s) (h : Below wr.heap.size wr wr') : MS hc kc w wr' g s := ⟨below_step m.hb h, m.b0.below h, m.b1.below h, m.hg, m.l0, m.l1⟩
theorem MS.put (m : MS hc kc w wr g s) (s' : List Int) (h : s'.length = 8) : MS hc kc w (wr.setRow g (cells32 s')) g s' := ⟨below_setRow m.hb m.hg _, m.b0.self s', m.b1.row (by omega) _, m.hg, h, m.l1⟩
theorem MS.start {w1 : World} {c0 c1 : Array Value} (h : Below w.heap.size w w1) (h0 : hc.length = 8) (h1 : kc.length = 64) : MS hc kc w ((((w1.alloc (.cells c0 65)).alloc (.cells c1 66)).setRow w1.heap.size (cells32 hc)).setRow (w1.heap.size + 1) (cells32 kc)) w1.heap.size hc := by
  have e0 : ((w1.alloc (.cells c0 65)).alloc (.cells c1 66)).heap[w1.heap.size]? = some (.cells c0 65 (0, 0)) := blk_alloc (blk_new _ _) _
  have e1 : ((w1.alloc (.cells c0 65)).alloc (.cells c1 66)).heap[w1.heap.size + 1]? = some (.cells c1 66 (0, 0)) := at_new (by simp) _
  refine ⟨below_setRow (below_setRow (below_alloc (below_alloc h _) _) h.size _) (by have := h.size; omega) _, ?_, ?_, h.size, h0, h1⟩
  · exact Bk.row (setRow_heap _ _ _ _ _ _ e0) (by omega) _
  · exact setRow_heap _ _ _ _ _ _ ((setRow_other _ _ _ _ (by omega)).trans e1)
end
theorem still_load {P : Program} {ops : Array Oper} {o : Oper} {a : Act} {w : World} {K : Act → Prop} {E : Prop} (hg0 : o.guard = none) {ty : TypeId} {x : Operand} (ho : o.op = .load ty x) {g : Nat} (hx : a.eval x = .pointer (some ⟨g, 0, none⟩)) {t : TypeId} {xs : List Int} {d : TypeDesc} (hg : Bk w g t xs) (hu : P.underlying ty = some d) (hd : (match d with | .struct _ | .array _ _ => true | _ => false) = true) (hi : (P.info? ty).map (·.size) = some xs.length)
    (h : K (a.put o.dst (.agg (cells32 xs)))) : if Region.wanted o (yielded ops a.tmps) = true then Oper.still P o a w K else E := by
  rw [if_pos (by simp [Region.wanted, hg0])]
  unfold Oper.still execOp
  simp only [ho, hx, Instr.loadAt, Instr.sureAddr, Sem.run_bind, Sem.run_pure, Result.andThen_ok, run_loadVar_row w g t ty (cells32 xs) (0, 0) d hg hu hd (by rw [cells32_size]; exact hi)]
  exact ⟨rfl, h⟩
theorem eat_zero {kc s : List Int} {r : ByteArray} {R : List Int × ByteArray} (h : eat kc 0 s r = R) : s = R.1 ∧ r = R.2 := by subst h; exact ⟨rfl, rfl⟩
theorem HC_KC : ∃ hc kc, Aside0 (hc = HC ∧ kc = KC) ∧ hc.length = 8 ∧ kc.length = 64 ∧ ∀ w, Calls Try.prog 43 #[] w fun e w' => e = .returned (.tuple #[.agg (cells32 hc), .agg (cells32 kc)]) ∧ Below w.heap.size w w' := ⟨HC, KC, ⟨rfl, rfl⟩, HC_len, KC_len, constants_calls⟩
set_option maxHeartbeats 8000000 in
set_option maxRecDepth 100000 in
theorem sum_calls (t : ByteArray) (ht : t.size ≤ 140737488351232) (w : World) : Calls Try.prog 22 #[.string t] w fun e w' => e = .returned (.string (shaG HC KC t)) ∧ Below w.heap.size w w' := by
  obtain ⟨hc, kc, EH, hl8, hl64, hcalls⟩ := HC_KC
  have L8 := Aside0.mk hl8
  have L64 := Aside0.mk hl64
  clear hl8 hl64
  go_enter Try.func22, Try.ntmps22
  go_wp2_with (first
    | (go_at_call 43; (with_reducible refine (hcalls _).mono ?_); rintro e w1 ⟨rfl, hb⟩; have HB := Aside0.mk hb; clear hb hcalls)
    | (refine wpList_store_row rfl 65 (.tmp 3) (.tmp 13) rfl w1.heap.size (cells32 hc) rfl rfl 65 #[.int .u32 0, .int .u32 0, .int .u32 0, .int .u32 0, .int .u32 0, .int .u32 0, .int .u32 0, .int .u32 0] (blk_alloc (blk_new _ _) _) (by rw [cells32_size, L8.out]; exact info65) (by rw [cells32_size, L8.out]; rfl) (cells32_one hc) ?_)
    | (refine wpList_store_row rfl 66 (.tmp 4) (.tmp 14) rfl (w1.heap.size + 1) (cells32 kc) rfl rfl 66 _ ((setRow_other _ _ _ _ (by omega)).trans (at_new (by simp) _)) (by rw [cells32_size, L64.out]; exact info66) (by rw [cells32_size, L64.out]; rfl) (cells32_one kc) ?_))
  obtain ⟨R1, hR1⟩ : ∃ R, eat kc (t.size / 64) hc t = R := ⟨_, rfl⟩
  have HR1 := Aside0.mk hR1
  clear hR1
  go_loopg [5] (t.size / 64) (fun kq v5 w' => ∃ (s : List Int) (r : ByteArray), v5 = .string r ∧ Aside0 (kq = r.size / 64 ∧ r.size ≤ t.size) ∧ Aside0 (eat kc kq s r = R1) ∧ Aside0 (MS hc kc w w' w1.heap.size s))
  case atStart => exact ⟨hc, t, rfl, ⟨rfl, Nat.le_refl _⟩, HR1, ⟨MS.start HB.out L8.out L64.out⟩⟩
  case round =>
    obtain ⟨s, r, rfl, HK, HE, M⟩ := hrel
    cases gk with
    | zero =>
      have hlt : r.size < 64 := by have := HK.out; omega
      have c1 : decide (64 ≤ r.size) = false := decide_eq_false (by omega)
      have c2 : decide (64 ≤ (r.size : Int)) = false := decide_eq_false (by omega)
      obtain ⟨e1, e2⟩ := eat_zero HE.out
      have E1 := Aside0.mk e1
      have E2 := Aside0.mk e2
      clear e1 e2
      go_wp2
      obtain ⟨wo, hwo⟩ : ∃ wo : World, wo = wr := ⟨_, rfl⟩
      subst hwo
      obtain ⟨R2, hR2⟩ : ∃ R, zeros (r ++ ⟨#[128]⟩) ((119 - r.size) % 64) = R := ⟨_, rfl⟩
      have HR2 := Aside0.mk hR2
      clear hR2
      have Hr := Aside0.mk hlt
      clear hlt
      go_loopg [5] ((119 - r.size) % 64) (fun kq v5 w' => ∃ (q : ByteArray), v5 = .string q ∧ Aside0 (zeros q kq = R2) ∧ Aside0 ((q.size + kq) % 64 = 56 ∧ kq < 64 ∧ q.size + kq ≤ 200) ∧ w' = wo)
      case atStart => exact ⟨_, rfl, HR2, ⟨by have := Hr.out; rw [ByteArray.size_append]; show (_ + 1 + _) % 64 = 56 ∧ _ ∧ _ + 1 + _ ≤ 200; omega⟩, rfl⟩
      case round =>
        obtain ⟨q, rfl, HZ, HQ, rfl⟩ := hrel
        cases gk with
        | zero =>
          have hq := HQ.out
          have d1 : ((q.size : Int) % 64 == 56) = true := beq_iff_eq.mpr (by omega)
          have d2 : ((q.size : Int) % 64 != 56) = false := bne_eq_false_iff_eq.mpr (by omega)
          have d3 : (Int.tmod (q.size : Int) 64 != 56) = false := by rw [Int.tmod_eq_emod_of_nonneg (by omega)]; exact d2
          clear hq
          go_wp2
          have EQ := Aside0.mk (show q = R2 from HZ.out)
          have HS := Aside0.mk (show q.size ≤ 200 by have := HQ.out; omega)
          have HM := Aside0.mk (show q.size % 64 = 56 by have := HQ.out; omega)
          clear HZ HQ d1 d2 d3 HK HE
          obtain ⟨wo, hwo⟩ : ∃ wo : World, wo = wr := ⟨_, rfl⟩
          subst hwo
          go_loopg [37, 5] 8 (fun kq v37 v5 w' => ∃ (i : Nat), i ≤ 8 ∧ kq + i = 8 ∧ v37 = .int .i64 i ∧ v5 = .string (lens ((t.size : Int) * 8) q i) ∧ Aside0 (Below wo.heap.size wo w'))
          case atStart => exact ⟨0, by omega, by omega, rfl, rfl, ⟨Below.refl _ _⟩⟩
          case round =>
            obtain ⟨i, hi, hki, rfl, rfl, HW⟩ := hrel
            by_cases hi8 : i < 8
            · have hc : i = 0 ∨ i = 1 ∨ i = 2 ∨ i = 3 ∨ i = 4 ∨ i = 5 ∨ i = 6 ∨ i = 7 := by omega
              have hz := lens_size ((t.size : Int) * 8) q i
              have hq := HS.out
              have hsz : (lens ((t.size : Int) * 8) q i).size ≤ 208 := by omega
              clear hz hq
              have hcv := fun x => conv1 wr x
              have hsn := fun x : Int => strNums_size [x]
              simp only [List.length_cons, List.length_nil] at hsn
              obtain ⟨P, hP⟩ : ∃ P, lens ((t.size : Int) * 8) q i = P := ⟨_, rfl⟩
              rw [hP] at hsz ⊢
              have HP := Aside0.mk hP
              clear hP
              rcases hc with rfl | rfl | rfl | rfl | rfl | rfl | rfl | rfl
              · go_wp2
                go_roundg (gk - 1)
                case measure => omega
                case rel => exact ⟨1, by omega, by omega, rfl, lens_step HP.out (by first | (rw [show (2 : Int) ^ (56 - 8 * 0) = 72057594037927936 from rfl]; done) | (rw [show (2 : Int) ^ (56 - 8 * 0) = 72057594037927936 from rfl]; omega)), ⟨below_alloc HW.out _⟩⟩
              · go_wp2
                go_roundg (gk - 1)
                case measure => omega
                case rel => exact ⟨2, by omega, by omega, rfl, lens_step HP.out (by first | (rw [show (2 : Int) ^ (56 - 8 * 1) = 281474976710656 from rfl]; done) | (rw [show (2 : Int) ^ (56 - 8 * 1) = 281474976710656 from rfl]; omega)), ⟨below_alloc HW.out _⟩⟩
              · go_wp2
                go_roundg (gk - 1)
                case measure => omega
                case rel => exact ⟨3, by omega, by omega, rfl, lens_step HP.out (by first | (rw [show (2 : Int) ^ (56 - 8 * 2) = 1099511627776 from rfl]; done) | (rw [show (2 : Int) ^ (56 - 8 * 2) = 1099511627776 from rfl]; omega)), ⟨below_alloc HW.out _⟩⟩
              · go_wp2
                go_roundg (gk - 1)
                case measure => omega
                case rel => exact ⟨4, by omega, by omega, rfl, lens_step HP.out (by first | (rw [show (2 : Int) ^ (56 - 8 * 3) = 4294967296 from rfl]; done) | (rw [show (2 : Int) ^ (56 - 8 * 3) = 4294967296 from rfl]; omega)), ⟨below_alloc HW.out _⟩⟩
              · go_wp2
                go_roundg (gk - 1)
                case measure => omega
                case rel => exact ⟨5, by omega, by omega, rfl, lens_step HP.out (by first | (rw [show (2 : Int) ^ (56 - 8 * 4) = 16777216 from rfl]; done) | (rw [show (2 : Int) ^ (56 - 8 * 4) = 16777216 from rfl]; omega)), ⟨below_alloc HW.out _⟩⟩
              · go_wp2
                go_roundg (gk - 1)
                case measure => omega
                case rel => exact ⟨6, by omega, by omega, rfl, lens_step HP.out (by first | (rw [show (2 : Int) ^ (56 - 8 * 5) = 65536 from rfl]; done) | (rw [show (2 : Int) ^ (56 - 8 * 5) = 65536 from rfl]; omega)), ⟨below_alloc HW.out _⟩⟩
              · go_wp2
                go_roundg (gk - 1)
                case measure => omega
                case rel => exact ⟨7, by omega, by omega, rfl, lens_step HP.out (by first | (rw [show (2 : Int) ^ (56 - 8 * 6) = 256 from rfl]; done) | (rw [show (2 : Int) ^ (56 - 8 * 6) = 256 from rfl]; omega)), ⟨below_alloc HW.out _⟩⟩
              · go_wp2
                go_roundg (gk - 1)
                case measure => omega
                case rel => exact ⟨8, by omega, by omega, rfl, lens_step HP.out (by first | (rw [show (2 : Int) ^ (56 - 8 * 7) = 1 from rfl]; done) | (rw [show (2 : Int) ^ (56 - 8 * 7) = 1 from rfl]; omega)), ⟨below_alloc HW.out _⟩⟩
            · have p1 : decide ((i : Int) < 8) = false := decide_eq_false (by omega)
              obtain ⟨P, hP⟩ : ∃ P, lens ((t.size : Int) * 8) q 8 = P := ⟨_, rfl⟩
              have hP' : lens ((t.size : Int) * 8) q i = P := by rw [show i = 8 by omega]; exact hP
              have hz := lens_size ((t.size : Int) * 8) q 8
              rw [hP] at hz
              rw [hP']
              have HP := Aside0.mk hP
              have HPS := Aside0.mk (show P.size % 64 = 0 ∧ P.size ≤ 208 by have := HS.out; have := HM.out; omega)
              have M' := Aside0.mk (M.out.below HW.out)
              clear hP hP' hz M HW
              obtain ⟨R4, hR4⟩ : ∃ R, eat kc (P.size / 64) s P = R := ⟨_, rfl⟩
              have HR4 := Aside0.mk hR4
              clear hR4
              go_wp2
              go_loopg [5] (P.size / 64) (fun kq v5 w' => ∃ (s : List Int) (r : ByteArray), v5 = .string r ∧ Aside0 (r.size = 64 * kq ∧ kq < 10) ∧ Aside0 (eat kc kq s r = R4) ∧ Aside0 (MS hc kc w w' w1.heap.size s))
              case atStart => exact ⟨s, P, rfl, ⟨by have := HPS.out; omega⟩, HR4, M'⟩
              case round =>
                clear M'
                obtain ⟨s4, r4, rfl, HK4, HE4, M⟩ := hrel
                cases gk with
                | zero =>
                  obtain ⟨e1, e2⟩ := eat_zero HE4.out
                  have E4 := Aside0.mk e1
                  clear e1 e2 HE4
                  obtain rfl : r4 = ⟨#[]⟩ := empty_of HK4.out.1
                  obtain ⟨L, hL⟩ : ∃ L, L = s4 := ⟨_, rfl⟩
                  rw [← hL] at M
                  have EL := Aside0.mk hL
                  clear hL
                  go_wp2_with (first | (refine wpList_load_row rfl 65 (.tmp 3) rfl w1.heap.size rfl 65 (cells32 L) (0, 0) _ M.out.b0 Try.underlying65 rfl (by rw [cells32_size, M.out.l0]; exact info65) ?_))
                  have HBW := Aside0.mk M.out.hb
                  have HL := Aside0.mk M.out.l0
                  clear M
                  go_loopg [60, 8] 8 (fun kq v60 v8 w' => ∃ (i : Nat), i ≤ 8 ∧ kq + i = 8 ∧ v60 = .int .i64 i ∧ Aside0 (w'.ownsRow w.heap.size 5 1 v8 (outb L i).length (nums .u8 (outb L i))) ∧ Aside0 (Below w.heap.size w w'))
                  case atStart => exact ⟨0, by omega, by omega, rfl, ⟨own_nil _ _ _ _⟩, HBW⟩
                  case round =>
                    clear HBW
                    obtain ⟨i, hi, hki, rfl, HO, HB⟩ := hrel
                    obtain ⟨A, c, hA⟩ := own_slice HO.out
                    subst hA
                    by_cases hi8 : i < 8
                    · have p1 : decide ((i : Int) < 8) = true := decide_eq_true (by omega)
                      have hix := run_index_arr L i HL.out hi8
                      obtain ⟨x, hx⟩ : ∃ x, L.getD i 0 = x := ⟨_, rfl⟩
                      rw [hx] at hix
                      have HX := Aside0.mk hx
                      clear hx
                      have hm4 := Aside0.mk (show (outb L i).length ≤ 32 by rw [outb_len]; omega)
                      go_wp2_with (first | ((with_reducible refine gate_builtin (b := .append) (xs := #[.tmp 63, .tmp 75]) rfl ?_); at_builtin; refine print_append_row (w0 := w) w.heap.size rfl (.tmp 63) (.tmp 75) 26 5 .u8 1 rfl Try.underlying26 info5 (by decide) (.slice A (outb L i).length c) (outb L i) (byte4 x) (some ⟨wr.heap.size, 0, none⟩) 4 4 rfl rfl (HO.out.alloc _) (reads_new wr (byte4 x) (by show 4 ≤ 100; omega)) (below_alloc HB.out _) (by have := HB.out.size; simp; omega) (by have := hm4.out; omega) ?_; intro v1 w3 ho hb hg hat; have HO1 := Aside0.mk ho; have HB1 := Aside0.mk hb; clear ho hb hg hat))
                      go_roundg (gk - 1)
                      case measure => omega
                      case rel => exact ⟨i + 1, by omega, by omega, rfl, ⟨by show World.ownsRow _ _ _ _ _ (outb L i ++ byte4 (L.getD i 0)).length (nums .u8 (outb L i ++ byte4 (L.getD i 0))); rw [HX.out]; exact HO1.out⟩, HB1⟩
                    · have p1 : decide ((i : Int) < 8) = false := decide_eq_false (by omega)
                      have hst := own_string (P := Try.prog) Try.underlying26 Try.underlying5 Try.underlying9 HO.out
                      go_wp2
                      go_ret
                      have hfin : strOfNums (outb L i) = shaG HC KC t := by
                        rw [show i = 8 by omega, ← EH.out.1, ← EH.out.2]
                        unfold shaG
                        rw [HR1.out, ← E1.out, ← E2.out, HR2.out, ← EQ.out, HP.out, HR4.out, ← E4.out, EL.out]
                      exact ⟨congrArg Ending.returned (congrArg Value.string hfin), HB.out⟩
                | succ n =>
                  have hge : 64 ≤ r4.size := by have := HK4.out; omega
                  have c0 := ne_empty (show 0 < r4.size by omega)
                  have c00 := ne_empty' (show 0 < r4.size by omega)
                  have c3 := eq_true hge
                  have c4 := eq_true (show (64 : Int) ≤ (r4.size : Int) by omega)
                  go_wp2
                  refine wp_region_still_tail 3 (by kernel_rfl) (by kernel_rfl) ?_
                  simp only [List.take_succ_cons, List.take_zero, List.drop_succ_cons, List.drop_zero]
                  change wpStill _ _ (World.drew _) (fun a' => wpList _ _ _ _ a' (World.drew _)) _ _
                  have M' := Aside0.mk M.out.drew1
                  clear M
                  generalize wr.drew = wr1 at *
                  refine wpStill_step (fun K hK => ?_)
                  refine still_load rfl rfl rfl M'.out.b0 Try.underlying65 rfl (by rw [M'.out.l0]; exact info65) ?_
                  refine hK _ ?_
                  clear hK K
                  repeat still_step
                  refine wpStill_nil ?_
                  go_wp2_with (first
                    | (go_at_call 44; (with_reducible refine (mix_calls _ M'.out.l0 _ (by simp [ByteArray.size_extract]; omega) kc M'.out.l1 _ _ M'.out.b1).mono ?_); rintro e w2 ⟨rfl, hb⟩; have M := Aside0.mk (M'.out.below hb); clear M' hb)
                    | (refine wpList_store_row rfl 65 (.tmp 3) (.tmp 58) rfl w1.heap.size (cells32 (mixF s4 kc (r4.extract 0 64))) rfl rfl 65 (cells32 s4) M.out.b0 (by rw [cells32_size, mixF_len M.out.l0]; exact info65) (by rw [cells32_size, cells32_size, mixF_len M.out.l0, M.out.l0]) (cells32_one _) ?_))
                  have M' := Aside0.mk (M.out.put (mixF s4 kc (r4.extract 0 64)) (mixF_len M.out.l0))
                  go_roundg n
                  case measure => omega
                  case rel => exact ⟨_, r4.extract 64 r4.size, rfl, ⟨by have := HK4.out; rw [ByteArray.size_extract]; omega⟩, HE4, M'⟩
        | succ n =>
          have hq := HQ.out
          have d1 : ((q.size : Int) % 64 == 56) = false := beq_eq_false_iff_ne.mpr (by omega)
          have d2 : ((q.size : Int) % 64 != 56) = true := bne_iff_ne.mpr (by omega)
          have d3 : (Int.tmod (q.size : Int) 64 != 56) = true := by rw [Int.tmod_eq_emod_of_nonneg (by omega)]; exact d2
          have d4 : q.size ≤ 200 := by omega
          clear hq
          go_wp2
          go_roundg n
          case measure => omega
          case rel => exact ⟨q ++ (⟨#[0]⟩ : ByteArray), rfl, HZ, ⟨by have := HQ.out; rw [ByteArray.size_append]; show (_ + 1 + _) % 64 = 56 ∧ _ ∧ _ + 1 + _ ≤ 200; omega⟩, rfl⟩
    | succ n =>
      have hge : 64 ≤ r.size := by have := HK.out; omega
      have c1 : decide (64 ≤ r.size) = true := decide_eq_true hge
      have c2 : decide (64 ≤ (r.size : Int)) = true := decide_eq_true (by omega)
      have c3 := eq_true hge
      have c4 := eq_true (show (64 : Int) ≤ (r.size : Int) by omega)
      go_wp2
      refine wp_region_still_tail 3 (by kernel_rfl) (by kernel_rfl) ?_
      simp only [List.take_succ_cons, List.take_zero, List.drop_succ_cons, List.drop_zero]
      change wpStill _ _ (World.drew _) (fun a' => wpList _ _ _ _ a' (World.drew _)) _ _
      have M' := Aside0.mk M.out.drew1
      clear M
      generalize wr.drew = wr1 at *
      refine wpStill_step (fun K hK => ?_)
      refine still_load rfl rfl rfl M'.out.b0 Try.underlying65 rfl (by rw [M'.out.l0]; exact info65) ?_
      refine hK _ ?_
      clear hK K
      repeat still_step
      refine wpStill_nil ?_
      go_wp2_with (first
        | (go_at_call 44; (with_reducible refine (mix_calls _ M'.out.l0 _ (by simp [ByteArray.size_extract]; omega) kc M'.out.l1 _ _ M'.out.b1).mono ?_); rintro e w2 ⟨rfl, hb⟩; have M := Aside0.mk (M'.out.below hb); clear M' hb)
        | (refine wpList_store_row rfl 65 (.tmp 3) (.tmp 24) rfl w1.heap.size (cells32 (mixF s kc (r.extract 0 64))) rfl rfl 65 (cells32 s) M.out.b0 (by rw [cells32_size, mixF_len M.out.l0]; exact info65) (by rw [cells32_size, cells32_size, mixF_len M.out.l0, M.out.l0]) (cells32_one _) ?_))
      have M' := Aside0.mk (M.out.put (mixF s kc (r.extract 0 64)) (mixF_len M.out.l0))
      go_roundg n
      case measure => omega
      case rel => exact ⟨_, r.extract 64 r.size, rfl, ⟨by have := HK.out; rw [ByteArray.size_extract]; omega⟩, HE, M'⟩
end Go.Proofs.Ytomenklhgofjaaa.Sh
