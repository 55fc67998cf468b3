import Derived.Test.YtnaaaldeadjohaaMe
import Derived.Test.YtnaaaldeadjohaaPCatalogLiesx1
set_option linter.unusedVariables false
set_option linter.unusedSimpArgs false
namespace Go.Proofs.Ytnaaaldeadjohaa.Cat
open Go.RowKit Go.Shelf Go.Proofs Go.Proofs.YtnaaaldeadjohaaW.PrintWords Go.Proofs.Ytnaaaldeadjohaa.PCatalogLies
attribute [local go_sem high] eqA97
/-! ### The document's own: Right, Number, One, Hash, Segment -/
theorem size_nil {x : ByteArray} (h : x.toList = []) : x.size = 0 := by
  rw [ByteArray.toList_eq] at h
  have := data_length x
  rw [h] at this
  exact this.symm
set_option maxHeartbeats 4000000 in
set_option maxRecDepth 100000 in
theorem right2_calls (v : S97) (w : World) : Calls Try.prog 73 #[vV v] w fun e w' => e = .returned (.bool (rightB v)) ∧ Below w.heap.size w w' := by
  obtain ⟨x0, x1, x2, x3⟩ := v
  have HB := Lib.hid (fun c1 c2 => show Below w.heap.size w ((w.alloc c1).alloc c2) from ((Below.refl w.heap.size w).alloc (Nat.le_refl _) _).alloc (by simp) _)
  go_enter Try.func73, Try.ntmps73
  by_cases h1 : x0 = 1
  · subst h1
    go_wp2
    all_goals go_ret
    all_goals (refine ⟨?_, HB.out _ _⟩)
    all_goals simp_all [rightB, eqV]
    all_goals (have := size_nil (x := x3) (by simp_all); omega)
  by_cases h2 : x0 = 2
  · subst h2
    go_wp2
    all_goals go_ret
    all_goals (refine ⟨?_, HB.out _ _⟩)
    all_goals simp_all [rightB, eqV]
    all_goals (have := size_nil (x := x3) (by simp_all); omega)
  by_cases h3 : x0 = 3
  · subst h3
    go_wp2
    all_goals go_ret
    all_goals (refine ⟨?_, HB.out _ _⟩)
    all_goals simp_all [rightB, eqV]
    all_goals omega
  by_cases h0 : x0 = 0
  · subst h0
    go_wp2
    all_goals go_ret
    all_goals (refine ⟨?_, HB.out _ _⟩)
    all_goals simp_all [rightB, eqV]
    all_goals (have := size_nil (x := x3) (by simp_all); omega)
  have b0 : (x0 == 0) = false := beq_eq_false_iff_ne.2 h0
  have b1 : (x0 == 1) = false := beq_eq_false_iff_ne.2 h1
  have b2 : (x0 == 2) = false := beq_eq_false_iff_ne.2 h2
  have b3 : (x0 == 3) = false := beq_eq_false_iff_ne.2 h3
  have HF := Lib.hid (show rightB ⟨x0, x1, x2, x3⟩ = false by simp [rightB, h0, h1, h2, h3])
  rcases Int.lt_or_le x0 0 with hn | hn
  · have d0 : decide (0 ≤ x0) = false := decide_eq_false (by omega)
    clear h0 h1 h2 h3
    go_wp2
    go_ret
    exact ⟨by rw [HF.out]; rfl, HB.out _ _⟩
  · have d3 : decide (x0 ≤ 3) = false := decide_eq_false (by omega)
    clear h0 h1 h2 h3
    go_wp2
    go_ret
    exact ⟨by rw [HF.out]; rfl, HB.out _ _⟩
set_option maxHeartbeats 4000000 in
set_option maxRecDepth 100000 in
theorem number2_calls (n : Int) (hn : 0 ≤ n) (hn2 : n < 18446744073709551616) (w0 w : World) (hb : Below w0.heap.size w0 w) : Calls Try.prog 79 #[.int .u64 n] w fun e w' => ∃ v1, e = .returned v1 ∧ w'.ownsRow w0.heap.size 5 1 v1 (eightL n).length (nums .u8 (eightL n)) ∧ Below w0.heap.size w0 w' := by
  have HB := Lib.hid hb
  clear hb
  go_enter Try.func79, Try.ntmps79
  go_wp2
  go_loopw [3, 4] (fun vr v wr => ∃ i : Nat, v = .int .i64 (56 - 8 * (i : Int)) ∧ i ≤ 8 ∧ Hid (wr.ownsRow w0.heap.size 5 1 vr ((eightL n).take i).length (nums .u8 ((eightL n).take i))) ∧ Hid (Below w0.heap.size w0 wr)) (fun _ v _ => (intOf v + 8).toNat)
  case atStart => exact ⟨0, rfl, Nat.zero_le _, Lib.hid (own_nil _ _ _ _), HB⟩
  case round =>
    obtain ⟨i, rfl, hi, HO, HBr⟩ := hrel
    obtain ⟨wo, rfl⟩ : ∃ wo : World, wo = wr := ⟨_, rfl⟩
    have hl : (eightL n).length = 8 := by simp [eightL]
    by_cases hlt : i < 8
    · have HT := Lib.hid (show (eightL n).take (i + 1) = (eightL n).take i ++ [byteAt n i] by
        rw [List.take_succ_eq_append_getElem (by omega)]; simp [eightL])
      have htl : ((eightL n).take i).length ≤ 8 := by rw [List.length_take]; omega
      have d0 : decide ((8 : Int) * (i : Int) ≤ 56) = true := decide_eq_true (by omega)
      generalize hL : (eightL n).take i = L at *
      clear hL
      go_wp2_with (at_builtin; refine print_append_num (w0 := w0) w0.heap.size rfl (.tmp 9) (.tmp 14) 115 5 .u8 1 rfl Try.underlying115 info5 (by decide) _ L (byteAt n i) rfl rfl HO.out HBr.out HBr.out.size (by omega) ?_; intro v1 w1 hown hB hg hat; have HO1 := Lib.hid hown; have HB1 := Lib.hid hB; clear hown hB hg hat)
      go_roundw
      case rel => exact ⟨i + 1, by go_num, hlt, Lib.hid (by rw [HT.out]; exact HO1.out), HB1⟩
      case measure => simp [intOf]; omega
    · obtain rfl : i = 8 := by omega
      rw [List.take_of_length_le (by omega)] at HO
      go_wp2
      go_ret
      exact ⟨_, rfl, HO.out, HBr.out⟩
theorem own1 (w0 w : World) (hb : Below w0.heap.size w0 w) (g : Nat) (hg : w.heap.size = g) (y : Int) : (w.alloc (.cells #[.int .u8 y] 5)).ownsRow w0.heap.size 5 1 (.slice (some ⟨g, 0, none⟩) 1 1) ([] ++ [y]).length (nums .u8 ([] ++ [y])) := by
  subst hg; exact own_lit w w0.heap.size 5 .u8 [y] hb.size (by simp)
set_option maxHeartbeats 8000000 in
set_option maxRecDepth 100000 in
theorem one2_calls (v : S97) (hr : rightB v = true) (w : World) :
    Calls Try.prog 74 #[vV v] w fun e w' => ∃ v1, e = .returned v1 ∧ w'.ownsRow w.heap.size 5 1 v1 (oneL v).length (nums .u8 (oneL v)) ∧ Below w.heap.size w w' := by
  have hk := rightB_kind hr
  obtain ⟨x0, x1, x2, x3⟩ := v
  simp only at hk
  have HA := Lib.hid ((Below.refl w.heap.size w).alloc (Nat.le_refl _) (.cells #[.int .i64 x0, .bool x1, .int .i64 x2, .string x3] 97))
  have hblk : (w.alloc (.cells #[.int .i64 x0, .bool x1, .int .i64 x2, .string x3] 97)).heap[w.heap.size]? = some (.cells #[.int .i64 x0, .bool x1, .int .i64 x2, .string x3] 97 (0, 0)) := heap_alloc_new w _
  have hz1 : w.heap.size < (w.alloc (.cells #[.int .i64 x0, .bool x1, .int .i64 x2, .string x3] 97)).heap.size := by simp
  have q0 := (blk_cell hblk 0).trans rfl
  have q1 := (blk_cell hblk 1).trans rfl
  have q2 := (blk_cell hblk 2).trans rfl
  have q3 := (blk_cell hblk 3).trans rfl
  have HOL := Lib.hid (fun y => own1 w _ HA.out (w.heap.size + 1) (World.size_alloc _ _) y)
  have HBL := Lib.hid (fun y => HA.out.alloc HA.out.size (.cells #[.int .u8 y] 5))
  have HBK := Lib.hid (fun y => blk_alloc hblk (.cells #[.int .u8 y] 5))
  have HSZ := Lib.hid (fun (y : Value) => show ((w.alloc (.cells #[.int .i64 x0, .bool x1, .int .i64 x2, .string x3] 97)).alloc (.cells #[y] 5)).heap.size = w.heap.size + 1 + 1 by simp)
  clear hr hblk
  go_enter Try.func74, Try.ntmps74
  rcases hk with rfl | rfl | rfl | ⟨rfl, h64⟩
  · go_wp2
    go_ret
    exact ⟨_, rfl, HOL.out 0, HBL.out 0⟩
  · cases x1
    · go_wp2_with (at_builtin; refine print_append_num (w0 := w) w.heap.size rfl (.tmp 21) (.tmp 22) 115 5 .u8 1 rfl Try.underlying115 info5 (by decide) _ ([] ++ [1]) 0 rfl (by rw [HSZ.out]; rfl) (HOL.out 1) (HBL.out 1) (HBL.out 1).size (by decide) ?_; intro v1 w1 hown hB hg hat; have HO1 := Lib.hid hown; have HB1 := Lib.hid hB; clear hown hB hg hat)
      go_ret
      exact ⟨_, rfl, HO1.out, HB1.out⟩
    · go_wp2_with (at_builtin; refine print_append_num (w0 := w) w.heap.size rfl (.tmp 15) (.tmp 16) 115 5 .u8 1 rfl Try.underlying115 info5 (by decide) _ ([] ++ [1]) 1 rfl (by rw [HSZ.out]; rfl) (HOL.out 1) (HBL.out 1) (HBL.out 1).size (by decide) ?_; intro v1 w1 hown hB hg hat; have HO1 := Lib.hid hown; have HB1 := Lib.hid hB; clear hown hB hg hat)
      go_ret
      exact ⟨_, rfl, HO1.out, HB1.out⟩
  · go_wp2_with (first
      | (go_at_call 79; refine (number2_calls (x2 % 18446744073709551616) (Int.emod_nonneg _ (by decide)) (Int.emod_lt_of_pos _ (by decide)) _ _ (Below.refl _ _)).mono ?_; rintro e w2 ⟨v2, rfl, hown, hB⟩; obtain ⟨A2, c2, rfl, hrd⟩ := own_reads hown; have HR2 := Lib.hid hrd; have HB2 := Lib.hid ((HBL.out 2).trans (hB.mono (HBL.out 2).size)); have HO2 := Lib.hid (pw_own_below (HOL.out 2) hB); clear hown hB hrd)
      | (at_builtin; refine print_append_row (w0 := w) w.heap.size rfl (.tmp 27) (.tmp 31) 115 5 .u8 1 rfl Try.underlying115 info5 (by decide) _ ([] ++ [2]) _ A2 _ c2 rfl rfl HO2.out HR2.out HB2.out HB2.out.size ?hl ?_; (case hl => simp [eightL]); intro v3 w3 hown hB hg hat; have HO3 := Lib.hid hown; have HB3 := Lib.hid hB; clear hown hB hg hat))
    go_ret
    exact ⟨_, rfl, HO3.out, HB3.out⟩
  · have H64 := Lib.hid h64
    clear h64
    go_wp2_with (first
      | (at_builtin; refine print_append_num (w0 := w) w.heap.size rfl (.tmp 36) (.tmp 41) 115 5 .u8 1 rfl Try.underlying115 info5 (by decide) _ ([] ++ [3]) _ rfl (by rw [HSZ.out]; rfl) (HOL.out 3) (HBL.out 3) (HBL.out 3).size (by decide) ?_; intro v2 w2 hown hB hg hat; have HO2 := Lib.hid hown; have HB2 := Lib.hid hB; have hblk2 := blk_grown (HBK.out 3) hg (own_ne (HOL.out 3) (HBK.out 3) (by decide)); have s3 := (blk_cell hblk2 3).trans rfl; clear hown hB hg hat hblk2)
      | (at_builtin; refine print_append_str (w0 := w) w.heap.size rfl (.tmp 43) (.tmp 45) 115 9 5 rfl Try.underlying115 Try.underlying9 info5 v2 _ x3 rfl rfl HO2.out HB2.out HB2.out.size ?hl ?_; (case hl => (simp only [List.length_append, List.length_cons, List.length_nil]; have := H64.out; omega)); intro v3 w3 hown hB hg; have HO3 := Lib.hid hown; have HB3 := Lib.hid hB; clear hown hB hg))
    go_ret
    exact ⟨_, rfl, (show oneL ⟨3, x1, x2, x3⟩ = [] ++ [3] ++ [(x3.size : Int) % 256] ++ bytesOf x3 from rfl) ▸ HO3.out, HB3.out⟩
set_option maxHeartbeats 8000000 in
set_option maxRecDepth 100000 in
theorem hash2_calls (v : S97) (w : World) : Calls Try.prog 70 #[vV v] w fun e w' => e = .returned (.int .u64 (hashV v)) ∧ Below w.heap.size w w' := by
  obtain ⟨x0, x1, x2, x3⟩ := v
  have HA := Lib.hid ((Below.refl w.heap.size w).alloc (Nat.le_refl _) (.cells #[.int .i64 x0, .bool x1, .int .i64 x2, .string x3] 97))
  have HX := Lib.hid (valBox w x0 x1 x2 x3)
  have hz : (w.alloc (.cells #[.int .i64 x0, .bool x1, .int .i64 x2, .string x3] 97)).heap.size = w.heap.size + 1 := by simp
  obtain ⟨q0, q1, q2, q3⟩ := HX.out _ (Below.refl _ _)
  go_enter Try.func70, Try.ntmps70
  go_wp2_with (fail)
  generalize w.alloc (.cells #[.int .i64 x0, .bool x1, .int .i64 x2, .string x3] 97) = W0 at *
  refine (right2_calls ⟨x0, x1, x2, x3⟩ _).mono ?_
  rintro e w1 ⟨rfl, hb⟩
  obtain ⟨r0, r1, r2, r3⟩ := HX.out _ (hb.mono (by omega))
  have HB1 := Lib.hid (HA.out.trans (hb.mono HA.out.size))
  clear hb q0 q1 q2 q3
  cases hr : rightB ⟨x0, x1, x2, x3⟩
  · have HF := Lib.hid (show hashV ⟨x0, x1, x2, x3⟩ = 0 by unfold hashV; rw [hr]; rfl)
    clear hr
    go_wp2
    go_ret
    exact ⟨by rw [HF.out]; rfl, HB1.out⟩
  · go_wp2_with (fail)
    refine (one2_calls ⟨x0, x1, x2, x3⟩ hr w1).mono ?_
    rintro e w2 ⟨v1, rfl, hown, hB⟩
    obtain ⟨AA, cc, rfl, hle, hC⟩ := byte_gives hown
    have HC := Lib.hid hC
    have hm := hC.2.1
    have HB2 := Lib.hid (HB1.out.trans (hB.mono HB1.out.size))
    have HF := Lib.hid (show hashV ⟨x0, x1, x2, x3⟩ = hashN (oneL ⟨x0, x1, x2, x3⟩) (oneL ⟨x0, x1, x2, x3⟩).length by unfold hashV; rw [hr]; rfl)
    clear hown hB hC r0 r1 r2 r3 hr
    go_wp2
    generalize oneL ⟨x0, x1, x2, x3⟩ = L at *
    go_loopw [4, 6] (fun vh v wr => ∃ i : Nat, v = .int .i64 i ∧ vh = .int .u64 (hashN L i) ∧ i ≤ L.length ∧ Hid (Below w2.heap.size w2 wr)) (fun _ v _ => L.length - (intOf v).toNat)
    case atStart => exact ⟨0, rfl, rfl, Nat.zero_le _, Lib.hid (Below.refl _ _)⟩
    case round =>
      obtain ⟨i, rfl, rfl, hi, HW⟩ := hrel
      by_cases hlt : i < L.length
      · obtain ⟨ad, e1, x0'⟩ := Kd.at_int (Kd.C_below HC.out HW.out) (i : Int) (by omega) (by omega)
        cases e1
        simp only [Int.toNat_natCast] at x0'
        generalize hy : rd L (i : Int) = y at *
        go_wp2
        go_roundw
        case rel => exact ⟨i + 1, by go_num, by rw [hashN, hy]; rfl, hlt, HW⟩
        case measure => simp [intOf]; omega
      · obtain rfl : i = L.length := by omega
        go_wp2
        go_ret
        exact ⟨by rw [HF.out]; rfl, HB2.out.trans (HW.out.mono HB2.out.size)⟩
set_option maxHeartbeats 4000000 in
theorem segment2_calls (v : S97) (s : Int) (h1 : 1 ≤ s) (h8 : s ≤ 8) (w : World) : Calls Try.prog 66 #[vV v, .int .i64 s] w fun e w' => e = .returned (.int .i64 (segN v s)) ∧ Below w.heap.size w w' := by
  obtain ⟨x0, x1, x2, x3⟩ := v
  have HA := Lib.hid ((Below.refl w.heap.size w).alloc (Nat.le_refl _) (.cells #[.int .i64 x0, .bool x1, .int .i64 x2, .string x3] 97))
  have HX := Lib.hid (valBox w x0 x1 x2 x3)
  obtain ⟨q0, q1, q2, q3⟩ := HX.out _ (by rw [← World.size_alloc w (.cells #[.int .i64 x0, .bool x1, .int .i64 x2, .string x3] 97)]; exact Below.refl _ _)
  have d1 : decide (s < 1) = false := decide_eq_false (by omega)
  go_enter Try.func66, Try.ntmps66
  go_wp2_with (fail)
  refine (hash2_calls ⟨x0, x1, x2, x3⟩ _).mono ?_
  rintro e w1 ⟨rfl, hb⟩
  have HB1 := Lib.hid (HA.out.trans (hb.mono HA.out.size))
  have hr := hashV_range ⟨x0, x1, x2, x3⟩
  have HF := Lib.hid (show segN ⟨x0, x1, x2, x3⟩ s = hashV ⟨x0, x1, x2, x3⟩ % s from rfl)
  generalize hashV ⟨x0, x1, x2, x3⟩ = h at *
  clear hb q0 q1 q2 q3
  go_wp2
  go_ret
  refine ⟨?_, HB1.out⟩
  rw [HF.out]
  have h2 := Int.emod_nonneg h (show s ≠ 0 by omega)
  have h3 := Int.emod_lt_of_pos h (show 0 < s by omega)
  have : wrap64 (h % s) = h % s := by unfold wrap64; omega
  simp [this]
end Go.Proofs.Ytnaaaldeadjohaa.Cat

set_option linter.unusedVariables false
set_option linter.unusedSimpArgs false
namespace Go.Proofs.Ytnaaaldeadjohaa.Cat
open Go.RowKit Go.Shelf Go.Proofs Go.Proofs.YtnaaaldeadjohaaW.PrintWords Go.Proofs.Ytnaaaldeadjohaa.PCatalogLies
/-! ### The document's own: at, Where, Row -/
set_option maxHeartbeats 4000000 in
set_option maxRecDepth 100000 in
theorem at_calls (AR : Option Addr) (cr : Nat) (row : List S97) (b : Int) (w : World) (hrow : k97.C w AR row.length row) (hcr : row.length ≤ cr) :
    Calls Try.prog 67 #[.slice AR row.length cr, .int .i64 b] w fun e w' => e = .returned (vV (valAt row b)) ∧ Below w.heap.size w w' := by
  have hA := (Below.refl w.heap.size w).alloc (Nat.le_refl _) (.cells #[.int .i64 0, .bool false, .int .i64 0, .string ⟨#[]⟩] 97)
  have HA := Lib.hid hA
  have HR := Lib.hid (Kd.C_below hrow hA)
  have hm := hrow.2.1
  clear hA hrow
  go_enter Try.func67, Try.ntmps67
  by_cases hb : 0 ≤ b ∧ b < row.length
  · obtain ⟨hb0, hb1⟩ := hb
    obtain ⟨ad2, e2', x0, x1, x2, x3⟩ := at_T97 HR.out b hb0 hb1
    cases e2'
    have HV := Lib.hid (show valAt row b = rd_T97 row b from if_pos ⟨hb0, hb1⟩)
    generalize rd_T97 row b = v at *
    have d1 : decide (b < 0) = false := decide_eq_false (by omega)
    have d2 : decide ((row.length : Int) ≤ b) = false := decide_eq_false (by omega)
    go_wp2
    refine bodyPost_ret (results_cell_row rfl _ _ w.heap.size 97 _ (0, 0) _ rfl (blk_new _ _) Try.underlying97 rfl (by kernel_rfl)) rfl ⟨by rw [HV.out], ?_⟩
    exact (Below.refl w.heap.size w).alloc (Nat.le_refl _) _
  · have HV := Lib.hid (show valAt row b = ⟨0, false, 0, ⟨#[]⟩⟩ from if_neg hb)
    by_cases hneg : 0 ≤ b
    · have d1 : decide (b < 0) = false := decide_eq_false (by omega)
      have d2 : decide ((row.length : Int) ≤ b) = true := decide_eq_true (by omega)
      clear hb
      go_wp2
      refine bodyPost_ret (results_cell_row rfl _ _ w.heap.size 97 _ (0, 0) _ rfl (blk_new _ _) Try.underlying97 rfl (by kernel_rfl)) rfl ⟨by rw [HV.out], ?_⟩
      exact (Below.refl w.heap.size w).alloc (Nat.le_refl _) _
    · have d1 : decide (b < 0) = true := decide_eq_true (by omega)
      clear hb
      go_wp2
      refine bodyPost_ret (results_cell_row rfl _ _ w.heap.size 97 _ (0, 0) _ rfl (blk_new _ _) Try.underlying97 rfl (by kernel_rfl)) rfl ⟨by rw [HV.out], ?_⟩
      exact (Below.refl w.heap.size w).alloc (Nat.le_refl _) _
set_option maxHeartbeats 8000000 in
set_option maxRecDepth 100000 in
theorem where2_calls (n s k : Int) (T : List S79) (P : List S66) (A3 : Option Addr) (c3 : Nat) (A4 : Option Addr) (c4 : Nat) (p : Int) (AR : Option Addr) (cr : Nat) (row : List S97) (w : World) (h : CatR w T P A3 c3 A4 c4) (h1 : 1 ≤ s) (h8 : s ≤ 8) (p0 : 0 ≤ p) (p1 : p < P.length) (hrow : k97.C w AR row.length row) (hcr : row.length ≤ cr) :
    Calls Try.prog 46 #[catV n s k T P A3 c3 A4 c4, .int .i64 p, .slice AR row.length cr] w fun e w' => e = .returned (segV (whereS s P row p)) ∧ Below w.heap.size w w' := by
  have hA := ((Below.refl w.heap.size w).alloc (Nat.le_refl _) (.cells #[.int .i64 n, .int .i64 s, .int .i64 k, .slice A3 T.length c3, .slice A4 P.length c4] 25)).alloc (by simp) (.cells #[.int .i64 0, .int .i64 0] 31)
  have HA := Lib.hid hA
  have HC := Lib.hid (h.below hA)
  have HRow := Lib.hid (Kd.C_below hrow hA)
  have hq := CatBox.below (CatBox.new w n s k T P A3 c3 A4 c4) ((Below.refl _ (w.alloc (.cells #[.int .i64 n, .int .i64 s, .int .i64 k, .slice A3 T.length c3, .slice A4 P.length c4] 25))).alloc (Nat.le_refl _) (.cells #[.int .i64 0, .int .i64 0] 31))
  have HQ := Lib.hid hq
  obtain ⟨q0, q1, q2, q3, q4⟩ := hq
  have b6 : ((w.alloc (.cells #[.int .i64 n, .int .i64 s, .int .i64 k, .slice A3 T.length c3, .slice A4 P.length c4] 25)).alloc (.cells #[.int .i64 0, .int .i64 0] 31)).heap[w.heap.size + 1]? = some (.cells #[.int .i64 0, .int .i64 0] 31 (0, 0)) := by
    have := heap_alloc_new (w.alloc (.cells #[.int .i64 n, .int .i64 s, .int .i64 k, .slice A3 T.length c3, .slice A4 P.length c4] 25)) (.cells #[.int .i64 0, .int .i64 0] 31)
    rwa [World.size_alloc] at this
  have B6 := Lib.hid b6
  have HW := Lib.hid h
  clear hA h hrow b6
  have d1 : decide (p < 0) = false := decide_eq_false (by omega)
  have d2 : decide ((P.length : Int) ≤ p) = false := decide_eq_false (by omega)
  go_enter Try.func46, Try.ntmps46
  go_wp2_with (fail)
  generalize (w.alloc (.cells #[.int .i64 n, .int .i64 s, .int .i64 k, .slice A3 T.length c3, .slice A4 P.length c4] 25)).alloc (.cells #[.int .i64 0, .int .i64 0] 31) = W0 at *
  obtain ⟨ad, B2, e2, B3, e3, e1, _, _, _, _, f4w, _⟩ := at_T66 HW.out.rP p p0 p1
  cases e1
  have f4 := pw_cell_below HA.out f4w
  have HF := Lib.hid (show whereS s P row p = ⟨p, segN (valAt row (rd_T66 P p).f4) s⟩ from rfl)
  generalize (rd_T66 P p).f4 = b at *
  have HV := Lib.hid (show segV (whereS s P row p) = .agg #[.int .i64 p, .int .i64 (segN (valAt row b) s)] by rw [HF.out])
  have HAT := Lib.hid (fun W (hb : Below W0.heap.size W0 W) => at_calls AR cr row b W (Kd.C_below HRow.out hb) hcr)
  generalize valAt row b = v at *
  have HBD := Lib.hid (show Below W0.heap.size W0 W0 from Below.refl _ W0)
  have HBN := Lib.hid (show Below W0.heap.size W0 W0.drew from (Below.refl _ W0).drew)
  have HS := Lib.hid (fun (w' : World) (hb : Below W0.heap.size W0 w') => (show w'.cell? ⟨w.heap.size, 1, none⟩ = some (.int .i64 s) ∧ w'.cell? ⟨w.heap.size, 4, none⟩ = some (.slice (some ad) P.length c4) ∧ w'.cell? ⟨(ad.add (p.toNat * 6)).block, (ad.add (p.toNat * 6)).off + 4, none⟩ = some (.int .i64 b) ∧ w'.cell? ⟨w.heap.size + 1, 0, none⟩ = some (.int .i64 0) ∧ w'.cell? ⟨w.heap.size + 1, 1, none⟩ = some (.int .i64 0) ∧ w'.frozen? ⟨w.heap.size + 1, 0, none⟩ = false ∧ w'.frozen? ⟨w.heap.size + 1, 1, none⟩ = false from ⟨pw_cell_below hb q1, pw_cell_below hb q4, pw_cell_below hb f4, (blk_cell (blk_below B6.out hb) 0).trans rfl, (blk_cell (blk_below B6.out hb) 1).trans rfl, blk_frozen (blk_below B6.out hb) 0, blk_frozen (blk_below B6.out hb) 1⟩))
  have HS2 := Lib.hid (fun (w' : World) (x y : Value) (hb : Below W0.heap.size W0 w') => (show ((w'.setCell ⟨w.heap.size + 1, 0, none⟩ x).setCell ⟨w.heap.size + 1, 1, none⟩ y).cell? ⟨w.heap.size, 1, none⟩ = some (.int .i64 s) ∧ ((w'.setCell ⟨w.heap.size + 1, 0, none⟩ x).setCell ⟨w.heap.size + 1, 1, none⟩ y).cell? ⟨w.heap.size, 4, none⟩ = some (.slice (some ad) P.length c4) ∧ ((w'.setCell ⟨w.heap.size + 1, 0, none⟩ x).setCell ⟨w.heap.size + 1, 1, none⟩ y).cell? ⟨(ad.add (p.toNat * 6)).block, (ad.add (p.toNat * 6)).off + 4, none⟩ = some (.int .i64 b) from
    ⟨by rw [World.cell?_setCell_other _ _ _ _ (by simp), World.cell?_setCell_other _ _ _ _ (by simp)]; exact pw_cell_below hb q1, by rw [World.cell?_setCell_other _ _ _ _ (by simp), World.cell?_setCell_other _ _ _ _ (by simp)]; exact pw_cell_below hb q4,
     pw_cell_below (((HA.out.trans (hb.mono HA.out.size)).setCell (p := ⟨w.heap.size + 1, 0, none⟩) (by show w.heap.size ≤ w.heap.size + 1; omega) x).setCell (p := ⟨w.heap.size + 1, 1, none⟩) (by show w.heap.size ≤ w.heap.size + 1; omega) y) f4w⟩))
  clear q0 q1 q2 q3 q4 f4 f4w
  go_region_held3 (fun w' => w'.cell? ⟨w.heap.size, 1, none⟩ = some (.int .i64 s) ∧ w'.cell? ⟨w.heap.size, 4, none⟩ = some (.slice (some ad) P.length c4) ∧ w'.cell? ⟨(ad.add (p.toNat * 6)).block, (ad.add (p.toNat * 6)).off + 4, none⟩ = some (.int .i64 b))
    (first | exact HS2.out _ _ _ HBN.out | (obtain ⟨a1, a2, a3, _⟩ := HS.out _ HBN.out; exact ⟨a1, a2, a3⟩) | (obtain ⟨a1, a2, a3, _⟩ := HS.out _ HBD.out; exact ⟨a1, a2, a3⟩))
    (first | (go_at_call 67; refine (HAT.out _ HBN.out).mono ?_; rintro e w4 ⟨rfl, hb⟩; have HBN2 := Lib.hid (HBN.out.trans (hb.mono HBN.out.size)); clear HBN; have HBN := HBN2; clear HBN2 hb)
           | (go_at_call 66; refine (segment2_calls v s h1 h8 _).mono ?_; rintro e w5 ⟨rfl, hb⟩; have HBN2 := Lib.hid (HBN.out.trans (hb.mono HBN.out.size)); clear HBN; have HBN := HBN2; clear HBN2 hb; obtain ⟨_, _, _, u0, u1, v0, v1⟩ := HS.out _ HBN.out))
  go_wp2
  refine bodyPost_ret (results_cell_row rfl _ _ (w.heap.size + 1) 31 _ (0, 0) _ rfl (blk_set (blk_set (blk_below B6.out HBN.out) 0 _) 1 _) Try.underlying31 rfl (by kernel_rfl)) rfl ⟨by rw [HV.out]; rfl, ?_⟩
  exact ((HA.out.trans (HBN.out.mono HA.out.size)).setCell (p := ⟨w.heap.size + 1, 0, none⟩) (by show w.heap.size ≤ w.heap.size + 1; omega) _).setCell (p := ⟨w.heap.size + 1, 1, none⟩) (by show w.heap.size ≤ w.heap.size + 1; omega) _
end Go.Proofs.Ytnaaaldeadjohaa.Cat

set_option linter.unusedVariables false
set_option linter.unusedSimpArgs false
namespace Go.Proofs.Ytnaaaldeadjohaa.Cat
open Go.RowKit Go.Shelf Go.Proofs Go.Proofs.YtnaaaldeadjohaaW.PrintWords Go.Proofs.Ytnaaaldeadjohaa.PCatalogLies
/-! ### The document's own Row -/
set_option maxHeartbeats 8000000 in
set_option maxRecDepth 100000 in
theorem row2_calls (p : S66) (B2 : Option Addr) (d2 : Nat) (B3 : Option Addr) (d3 : Nat) (AR : Option Addr) (cr : Nat) (row : List S97) (w : World) (hp : ProjR w p B2 d2 B3 d3) (h8 : p.f2.length ≤ 8) (hrow : k97.C w AR row.length row) (hcr : row.length ≤ cr) :
    Calls Try.prog 47 #[projV p B2 d2 B3 d3, .slice AR row.length cr] w fun e w' => ∃ v1, e = .returned v1 ∧ w'.ownsRow w.heap.size 97 4 v1 p.f2.length (valCells (rowL p.f2 row)) ∧ Below w.heap.size w w' := by
  have hA := (Below.refl w.heap.size w).alloc (Nat.le_refl _) (.cells #[.string p.f0, .int .i64 p.f1, .slice B2 p.f2.length d2, .slice B3 p.f3.length d3, .int .i64 p.f4, .int .i64 p.f5] 66)
  have HA := Lib.hid hA
  have H2 := Lib.hid hp.r2
  have HR := Lib.hid hrow
  have hR := hrow.2.1
  have HB6 := Lib.hid (heap_alloc_new w (.cells #[.string p.f0, .int .i64 p.f1, .slice B2 p.f2.length d2, .slice B3 p.f3.length d3, .int .i64 p.f4, .int .i64 p.f5] 66))
  clear hA hp hrow
  go_enter Try.func47, Try.ntmps47
  go_wp2
  generalize w.alloc (.cells #[.string p.f0, .int .i64 p.f1, .slice B2 p.f2.length d2, .slice B3 p.f3.length d3, .int .i64 p.f4, .int .i64 p.f5] 66) = W0 at *
  go_loopw [5, 6] (fun vo v wr => ∃ i : Nat, v = .int .i64 i ∧ i ≤ p.f2.length ∧ Hid (wr.ownsRow w.heap.size 97 4 vo i (valCells (rowL (p.f2.take i) row))) ∧ Hid (Below w.heap.size w wr) ∧ Hid (wr.heap[w.heap.size]? = some (.cells #[.string p.f0, .int .i64 p.f1, .slice B2 p.f2.length d2, .slice B3 p.f3.length d3, .int .i64 p.f4, .int .i64 p.f5] 66 (0, 0)))) (fun _ v _ => p.f2.length - (intOf v).toNat)
  case atStart => exact ⟨0, rfl, Nat.zero_le _, Lib.hid (own_nil _ _ _ _), HA, HB6⟩
  case round =>
    obtain ⟨i, rfl, hi, HO, HW, HBX⟩ := hrel
    obtain ⟨wo, rfl⟩ : ∃ wo : World, wo = wr := ⟨_, rfl⟩
    have q2 := (blk_cell HBX.out 2).trans rfl
    by_cases hlt : i < p.f2.length
    · obtain ⟨ad, e1, x0⟩ := int_at (Kd.C_below H2.out HW.out) i hlt
      cases e1
      have HX := Lib.hid (show p.f2[i] = p.f2[i] from rfl)
      generalize hx : p.f2[i] = b at *
      clear HX
      have HX := Lib.hid hx
      clear hx
      go_wp2_with (fail)
      refine (at_calls AR cr row b _ (Kd.C_below HR.out HW.out) hcr).mono ?_
      rintro e w1 ⟨rfl, hb⟩
      have HB1 := Lib.hid (HW.out.trans (hb.mono HW.out.size))
      have HO1 := Lib.hid (pw_own_below HO.out hb)
      have HBX1 := Lib.hid (blk_below HBX.out hb)
      clear hb q2
      have HS := Lib.hid (show valCells (rowL (p.f2.take (i + 1)) row) = valCells (rowL (p.f2.take i) row) ++ [.int .i64 (valAt row b).f0, .bool (valAt row b).f1, .int .i64 (valAt row b).f2, .string (valAt row b).f3] by rw [rowL_succ hlt, HX.out, valCells_snoc])
      generalize valAt row b = v at *
      go_wp2_with (at_builtin; refine print_append_cells (w0 := w) w.heap.size rfl (.tmp 14) (.tmp 22) 54 97 (.agg #[.int .i64 0, .bool false, .int .i64 0, .string ⟨#[]⟩]) 4 40 rfl Try.underlying54 info97 rfl (by decide) (by decide) u5 i (valCells (rowL (p.f2.take i) row)) [.int .i64 v.f0, .bool v.f1, .int .i64 v.f2, .string v.f3] rfl rfl rfl (by simp [Value.oneCell']) HO1.out HB1.out HB1.out.size ?hl ?_; (case hl => omega); intro v9 w9 hown hB hg hat; have HO9 := Lib.hid hown; have HB9 := Lib.hid hB; have HBX9 := Lib.hid (blk_grown HBX1.out hg (own_ne HO1.out HBX1.out (by decide))); clear hown hB hg hat)
      go_roundw
      case rel => exact ⟨i + 1, by go_num, hlt, Lib.hid (by rw [HS.out]; exact HO9.out), HB9, HBX9⟩
      case measure => simp [intOf]; omega
    · obtain rfl : i = p.f2.length := by omega
      have HOF := Lib.hid (show wo.ownsRow w.heap.size 97 4 u5 p.f2.length (valCells (rowL p.f2 row)) by have := HO.out; rwa [List.take_length] at this)
      go_wp2
      go_ret
      exact ⟨_, rfl, HOF.out, HW.out⟩
end Go.Proofs.Ytnaaaldeadjohaa.Cat

set_option linter.unusedVariables false
set_option linter.unusedSimpArgs false
namespace Go.Proofs.Ytnaaaldeadjohaa.Cat
open Go.RowKit Go.Shelf Go.Proofs Go.Proofs.YtnaaaldeadjohaaW.PrintWords Go.Proofs.Ytnaaaldeadjohaa.PCatalogLies
/-! ### The document's own: are two parts the same? (They are, where the same is in them.) -/
theorem eqA53 (d : Nat) (w : World) (x0 y0 : Int) (x1 y1 : Int) :
    (Op.equalIn (d + 2) 53 (.agg #[.int .u64 x0, .int .u32 x1]) (.agg #[.int .u64 y0, .int .u32 y1])).run Try.prog w = .ok (x0 == y0 && (x1 == y1)) w := by
  refine eqA_of Try.underlying53 (by kernel_rfl) ?_
  refine eqf_cons (by rfl) (by go_simp; rfl) (by go_simp; rfl) (by go_simp) ?_
  exact eqf_last (by rfl) (by go_simp; rfl) (by go_simp; rfl) (by go_simp)
theorem eqA72 (d : Nat) (w : World) (x0 y0 : Int) (x1 y1 : Int) (x2 y2 : Int) (x3 y3 : Int) :
    (Op.equalIn (d + 3) 72 (.agg #[.int .i64 x0, .int .i64 x1, .int .u64 x2, .int .u32 x3]) (.agg #[.int .i64 y0, .int .i64 y1, .int .u64 y2, .int .u32 y3])).run Try.prog w = .ok ((x0 == y0 && (x1 == y1)) && (x2 == y2 && (x3 == y3))) w := by
  refine eqA_of Try.underlying72 (by kernel_rfl) ?_
  refine eqf_cons (by rfl) (by go_simp; try rfl) (by go_simp; try rfl) (eqA31 (d + 0) w _ _ _ _) ?_
  exact eqf_last (by rfl) (by go_simp; try rfl) (by go_simp; try rfl) (eqA53 (d + 0) w _ _ _ _)
attribute [local go_sem high] eqA31 eqA53 eqA72 eqA97
set_option maxHeartbeats 8000000 in
set_option maxRecDepth 100000 in
theorem sameRow_calls (A : Option Addr) (c : Nat) (B : Option Addr) (d : Nat) (xs : List S97) (w : World) (ha : k97.C w A xs.length xs) (hb : k97.C w B xs.length xs) :
    Calls Try.prog 65 #[.slice A xs.length c, .slice B xs.length d] w fun e w' => e = .returned (.bool true) ∧ Below w.heap.size w w' := by
  have HA := Lib.hid ha
  have HB := Lib.hid hb
  have hm := ha.2.1
  clear ha hb
  go_enter Try.func65, Try.ntmps65
  go_wp2
  go_loopw [5] (fun v wr => ∃ i : Nat, v = .int .i64 i ∧ i ≤ xs.length ∧ Hid (Below w.heap.size w wr)) (fun v _ => xs.length - (intOf v).toNat)
  case atStart => exact ⟨0, rfl, Nat.zero_le _, Lib.hid (Below.refl _ _)⟩
  case round =>
    obtain ⟨i, rfl, hi, HW⟩ := hrel
    by_cases hlt : i < xs.length
    · obtain ⟨ad, e1, x0, x1, x2, x3⟩ := at_T97 (Kd.C_below HA.out HW.out) i (by omega) (by omega)
      obtain ⟨ad2, e2, y0, y1, y2, y3⟩ := at_T97 (Kd.C_below HB.out HW.out) i (by omega) (by omega)
      simp only [Int.toNat_natCast] at x0 x1 x2 x3 y0 y1 y2 y3
      cases e1
      cases e2
      generalize rd_T97 xs i = v at *
      go_wp2
      go_quiet (fail)
      go_wp2
      go_roundw
      case rel => exact ⟨i + 1, by go_num, hlt, Lib.hid (pw_below_drewN HW.out nq)⟩
      case measure => simp [intOf]; omega
    · obtain rfl : i = xs.length := by omega
      go_wp2
      go_ret
      exact ⟨rfl, HW.out⟩
@[reducible] def verV (x : S68) (A : Option Addr) (c : Nat) : Value := .agg #[.int .u64 x.f0.f0, .int .u32 x.f0.f1, .slice A x.f1.length c, .int .u64 x.f2]
set_option maxHeartbeats 8000000 in
set_option maxRecDepth 100000 in
theorem sameVersion_calls (x : S68) (A : Option Addr) (c : Nat) (B : Option Addr) (d : Nat) (w : World) (ha : k97.C w A x.f1.length x.f1) (hb : k97.C w B x.f1.length x.f1) :
    Calls Try.prog 45 #[verV x A c, verV x B d] w fun e w' => e = .returned (.bool true) ∧ Below w.heap.size w w' := by
  have hA := ((Below.refl w.heap.size w).alloc (Nat.le_refl _) (.cells #[.int .u64 x.f0.f0, .int .u32 x.f0.f1, .slice A x.f1.length c, .int .u64 x.f2] 68)).alloc (by simp) (.cells #[.int .u64 x.f0.f0, .int .u32 x.f0.f1, .slice B x.f1.length d, .int .u64 x.f2] 68)
  have HA := Lib.hid hA
  have HR := Lib.hid (sameRow_calls A c B d x.f1 _ (Kd.C_below ha hA) (Kd.C_below hb hA))
  have b1 := blk_alloc (heap_alloc_new w (.cells #[.int .u64 x.f0.f0, .int .u32 x.f0.f1, .slice A x.f1.length c, .int .u64 x.f2] 68)) (.cells #[.int .u64 x.f0.f0, .int .u32 x.f0.f1, .slice B x.f1.length d, .int .u64 x.f2] 68)
  have b2 := heap_alloc_new (w.alloc (.cells #[.int .u64 x.f0.f0, .int .u32 x.f0.f1, .slice A x.f1.length c, .int .u64 x.f2] 68)) (.cells #[.int .u64 x.f0.f0, .int .u32 x.f0.f1, .slice B x.f1.length d, .int .u64 x.f2] 68)
  rw [World.size_alloc] at b2
  have B1 := Lib.hid b1
  have B2 := Lib.hid b2
  clear hA ha hb b1 b2
  go_enter Try.func45, Try.ntmps45
  go_wp2_with (fail)
  refine HR.out.mono ?_
  rintro e w1 ⟨rfl, hb⟩
  have HB1 := Lib.hid (HA.out.trans (hb.mono HA.out.size))
  have b1 := blk_below B1.out hb
  have b2 := blk_below B2.out hb
  have p0 := (blk_cell b1 0).trans rfl
  have p1 := (blk_cell b1 1).trans rfl
  have p2 := (blk_cell b1 2).trans rfl
  have p3 := (blk_cell b1 3).trans rfl
  have q0 := (blk_cell b2 0).trans rfl
  have q1 := (blk_cell b2 1).trans rfl
  have q2 := (blk_cell b2 2).trans rfl
  have q3 := (blk_cell b2 3).trans rfl
  clear hb b1 b2 HR
  go_wp2
  go_ret
  exact ⟨rfl, HB1.out⟩
end Go.Proofs.Ytnaaaldeadjohaa.Cat

set_option linter.unusedVariables false
set_option linter.unusedSimpArgs false
namespace Go.Proofs.Ytnaaaldeadjohaa.Cat
open Go.RowKit Go.Shelf Go.Proofs Go.Proofs.YtnaaaldeadjohaaW.PrintWords Go.Proofs.Ytnaaaldeadjohaa.PCatalogLies
attribute [local go_sem high] eqA31 eqA53 eqA72 eqA97
@[reducible] def partV (n m : Nat) (A : Option Addr) (c : Nat) (B : Option Addr) (d : Nat) : Value := .agg #[.slice A n c, .slice B m d]
set_option maxHeartbeats 16000000 in
set_option maxRecDepth 100000 in
theorem samePart_calls (I : List S70) (E : List S72) (A : Option Addr) (c : Nat) (B : Option Addr) (d : Nat) (A' : Option Addr) (c' : Nat) (B' : Option Addr) (d' : Nat) (w : World)
    (hI : k70.C w A I.length I) (hE : k72.C w B E.length E) (hI' : k70.C w A' I.length I) (hE' : k72.C w B' E.length E) :
    Calls Try.prog 24 #[partV I.length E.length A c B d, partV I.length E.length A' c' B' d'] w fun e w' => e = .returned (.bool true) ∧ Below w.heap.size w w' := by
  have hA := ((Below.refl w.heap.size w).alloc (Nat.le_refl _) (.cells #[.slice A I.length c, .slice B E.length d] 62)).alloc (by simp) (.cells #[.slice A' I.length c', .slice B' E.length d'] 62)
  have HA := Lib.hid hA
  have HI := Lib.hid (Kd.C_below hI hA)
  have HE := Lib.hid (Kd.C_below hE hA)
  have HI' := Lib.hid (Kd.C_below hI' hA)
  have HE' := Lib.hid (Kd.C_below hE' hA)
  have hm := hI.2.1
  have hm2 := hE.2.1
  have b1 := blk_alloc (heap_alloc_new w (.cells #[.slice A I.length c, .slice B E.length d] 62)) (.cells #[.slice A' I.length c', .slice B' E.length d'] 62)
  have b2 := heap_alloc_new (w.alloc (.cells #[.slice A I.length c, .slice B E.length d] 62)) (.cells #[.slice A' I.length c', .slice B' E.length d'] 62)
  rw [World.size_alloc] at b2
  have B1 := Lib.hid b1
  have B2 := Lib.hid b2
  clear hA hI hE hI' hE' b1 b2
  go_enter Try.func24, Try.ntmps24
  go_wp2
  generalize (w.alloc (.cells #[.slice A I.length c, .slice B E.length d] 62)).alloc (.cells #[.slice A' I.length c', .slice B' E.length d'] 62) = W0 at *
  go_loopw [5] (fun v wr => ∃ i : Nat, v = .int .i64 i ∧ i ≤ I.length ∧ Hid (Below W0.heap.size W0 wr)) (fun v _ => I.length - (intOf v).toNat)
  case atStart => exact ⟨0, rfl, Nat.zero_le _, Lib.hid (Below.refl _ _)⟩
  case round =>
    obtain ⟨i, rfl, hi, HW⟩ := hrel
    obtain ⟨wo, rfl⟩ : ∃ wo : World, wo = wr := ⟨_, rfl⟩
    have b1 := blk_below B1.out HW.out
    have b2 := blk_below B2.out HW.out
    have p0 := (blk_cell b1 0).trans rfl
    have p1 := (blk_cell b1 1).trans rfl
    have q0 := (blk_cell b2 0).trans rfl
    have q1 := (blk_cell b2 1).trans rfl
    clear b1 b2
    by_cases hlt : i < I.length
    · obtain ⟨ad, A4, c4, e1, x0, x1, x2, x3, x4, x5, xl, hx⟩ := at_T70 (Kd.C_below HI.out HW.out) i (by omega) (by omega)
      obtain ⟨ad2, A5, c5, e2, y0, y1, y2, y3, y4, y5, yl, hy⟩ := at_T70 (Kd.C_below HI'.out HW.out) i (by omega) (by omega)
      simp only [Int.toNat_natCast] at x0 x1 x2 x3 x4 x5 y0 y1 y2 y3 y4 y5
      cases e1
      cases e2
      generalize rd_T70 I i = v at *
      have HX := Lib.hid hx
      have HY := Lib.hid hy
      clear hx hy
      have HBD := Lib.hid (show Below wo.heap.size wo wo from Below.refl _ wo)
      have HBN := Lib.hid (show Below wo.heap.size wo wo.drew from (Below.refl _ wo).drew)
      have HS := Lib.hid (fun (w' : World) (hb : Below wo.heap.size wo w') => (show w'.cell? ⟨w.heap.size, 0, none⟩ = some (.slice (some ad) I.length c) ∧ w'.cell? ⟨w.heap.size + 1, 0, none⟩ = some (.slice (some ad2) I.length c') ∧ w'.cell? (ad.add (i * 6)) = some (.int .i64 v.f0.f0) ∧ w'.cell? ⟨(ad.add (i * 6)).block, (ad.add (i * 6)).off + 1, none⟩ = some (.int .i64 v.f0.f1) ∧ w'.cell? ⟨(ad.add (i * 6)).block, (ad.add (i * 6)).off + 2, none⟩ = some (.int .u64 v.f1.f0.f0) ∧ w'.cell? ⟨(ad.add (i * 6)).block, (ad.add (i * 6)).off + 3, none⟩ = some (.int .u32 v.f1.f0.f1) ∧ w'.cell? ⟨(ad.add (i * 6)).block, (ad.add (i * 6)).off + 4, none⟩ = some (.slice A4 v.f1.f1.length c4) ∧ w'.cell? ⟨(ad.add (i * 6)).block, (ad.add (i * 6)).off + 5, none⟩ = some (.int .u64 v.f1.f2) ∧ w'.cell? (ad2.add (i * 6)) = some (.int .i64 v.f0.f0) ∧ w'.cell? ⟨(ad2.add (i * 6)).block, (ad2.add (i * 6)).off + 1, none⟩ = some (.int .i64 v.f0.f1) ∧ w'.cell? ⟨(ad2.add (i * 6)).block, (ad2.add (i * 6)).off + 2, none⟩ = some (.int .u64 v.f1.f0.f0) ∧ w'.cell? ⟨(ad2.add (i * 6)).block, (ad2.add (i * 6)).off + 3, none⟩ = some (.int .u32 v.f1.f0.f1) ∧ w'.cell? ⟨(ad2.add (i * 6)).block, (ad2.add (i * 6)).off + 4, none⟩ = some (.slice A5 v.f1.f1.length c5) ∧ w'.cell? ⟨(ad2.add (i * 6)).block, (ad2.add (i * 6)).off + 5, none⟩ = some (.int .u64 v.f1.f2) from ⟨pw_cell_below hb p0, pw_cell_below hb q0, pw_cell_below hb x0, pw_cell_below hb x1, pw_cell_below hb x2, pw_cell_below hb x3, pw_cell_below hb x4, pw_cell_below hb x5, pw_cell_below hb y0, pw_cell_below hb y1, pw_cell_below hb y2, pw_cell_below hb y3, pw_cell_below hb y4, pw_cell_below hb y5⟩))
      go_wp2_with (fail)
      clear p0 p1 q0 q1 x0 x1 x2 x3 x4 x5 y0 y1 y2 y3 y4 y5
      go_region_held3 (fun w' => w'.cell? ⟨w.heap.size, 0, none⟩ = some (.slice (some ad) I.length c) ∧ w'.cell? ⟨w.heap.size + 1, 0, none⟩ = some (.slice (some ad2) I.length c') ∧ w'.cell? (ad.add (i * 6)) = some (.int .i64 v.f0.f0) ∧ w'.cell? ⟨(ad.add (i * 6)).block, (ad.add (i * 6)).off + 1, none⟩ = some (.int .i64 v.f0.f1) ∧ w'.cell? ⟨(ad.add (i * 6)).block, (ad.add (i * 6)).off + 2, none⟩ = some (.int .u64 v.f1.f0.f0) ∧ w'.cell? ⟨(ad.add (i * 6)).block, (ad.add (i * 6)).off + 3, none⟩ = some (.int .u32 v.f1.f0.f1) ∧ w'.cell? ⟨(ad.add (i * 6)).block, (ad.add (i * 6)).off + 4, none⟩ = some (.slice A4 v.f1.f1.length c4) ∧ w'.cell? ⟨(ad.add (i * 6)).block, (ad.add (i * 6)).off + 5, none⟩ = some (.int .u64 v.f1.f2) ∧ w'.cell? (ad2.add (i * 6)) = some (.int .i64 v.f0.f0) ∧ w'.cell? ⟨(ad2.add (i * 6)).block, (ad2.add (i * 6)).off + 1, none⟩ = some (.int .i64 v.f0.f1) ∧ w'.cell? ⟨(ad2.add (i * 6)).block, (ad2.add (i * 6)).off + 2, none⟩ = some (.int .u64 v.f1.f0.f0) ∧ w'.cell? ⟨(ad2.add (i * 6)).block, (ad2.add (i * 6)).off + 3, none⟩ = some (.int .u32 v.f1.f0.f1) ∧ w'.cell? ⟨(ad2.add (i * 6)).block, (ad2.add (i * 6)).off + 4, none⟩ = some (.slice A5 v.f1.f1.length c5) ∧ w'.cell? ⟨(ad2.add (i * 6)).block, (ad2.add (i * 6)).off + 5, none⟩ = some (.int .u64 v.f1.f2))
        (first | exact HS.out _ HBN.out | exact HS.out _ HBD.out)
        (first | (go_at_call 45; refine (sameVersion_calls v.f1 A4 c4 A5 c5 _ (Kd.C_below HX.out HBN.out) (Kd.C_below HY.out HBN.out)).mono ?_; rintro e w4 ⟨rfl, hb⟩; have HBN2 := Lib.hid (HBN.out.trans (hb.mono HBN.out.size)); clear HBN; have HBN := HBN2; clear HBN2 hb))
      obtain ⟨p0, q0, x0, x1, x2, x3, x4, x5, y0, y1, y2, y3, y4, y5⟩ := HS.out _ HBN.out
      have HW4 := Lib.hid (HW.out.trans (HBN.out.mono HW.out.size))
      go_wp2
      go_quiet (fail)
      go_wp2
      go_roundw
      case rel => exact ⟨i + 1, by go_num, hlt, Lib.hid (pw_below_drewN HW4.out nq)⟩
      case measure => simp [intOf]; omega
    · obtain rfl : i = I.length := by omega
      go_wp2
      clear p0 p1 q0 q1
      go_loopw [7] (fun v wr => ∃ i : Nat, v = .int .i64 i ∧ i ≤ E.length ∧ Hid (Below W0.heap.size W0 wr)) (fun v _ => E.length - (intOf v).toNat)
      case atStart => exact ⟨0, rfl, Nat.zero_le _, HW⟩
      case round =>
        obtain ⟨i, rfl, hi, HV⟩ := hrel
        have b1 := blk_below B1.out HV.out
        have b2 := blk_below B2.out HV.out
        have p0 := (blk_cell b1 0).trans rfl
        have p1 := (blk_cell b1 1).trans rfl
        have q0 := (blk_cell b2 0).trans rfl
        have q1 := (blk_cell b2 1).trans rfl
        clear b1 b2
        by_cases hlt : i < E.length
        · obtain ⟨ad, e1, x0, x1, x2, x3⟩ := at_T72 (Kd.C_below HE.out HV.out) i (by omega) (by omega)
          obtain ⟨ad2, e2, y0, y1, y2, y3⟩ := at_T72 (Kd.C_below HE'.out HV.out) i (by omega) (by omega)
          simp only [Int.toNat_natCast] at x0 x1 x2 x3 y0 y1 y2 y3
          cases e1
          cases e2
          generalize rd_T72 E i = v at *
          go_wp2
          go_quiet (fail)
          go_wp2
          go_roundw
          case rel => exact ⟨i + 1, by go_num, hlt, Lib.hid (pw_below_drewN HV.out nq)⟩
          case measure => simp [intOf]; omega
        · obtain rfl : i = E.length := by omega
          go_wp2
          go_ret
          exact ⟨rfl, HA.out.trans (HV.out.mono HA.out.size)⟩
end Go.Proofs.Ytnaaaldeadjohaa.Cat
