import Derived.Test.YtnaaaldeadjohaaTf
set_option linter.unusedVariables false
set_option linter.unusedSimpArgs false
namespace Go.Proofs.Ytnaaaldeadjohaa.Cat
open Go.RowKit Go.Proofs.YtnaaaldeadjohaaW.PrintWords Go.Proofs.Ytnaaaldeadjohaa.PCatalogLies
theorem named2_calls (s : ByteArray) (w : World) : Calls Try.prog 59 #[.string s] w fun e w' => e = .returned (.bool (namedB s)) ∧ Drawn0 w w' := hayloftref02_named.calls s _ w (named2_f s)
set_option maxHeartbeats 4000000 in
set_option maxRecDepth 100000 in
theorem Table2_calls (nm : ByteArray) (A : Option Addr) (cs : List S76) (c : Nat) (w : World) (hr : Kd.C k76 w A cs.length cs) (hc : cs.length ≤ c) :
    Calls Try.prog 34 #[.agg #[.string nm, .slice A cs.length c]] w fun e w' => e = .returned (.int .i64 (tabErr nm cs)) ∧ Below w.heap.size w w' := by
  have HR := Lib.hid hr
  have hm : cs.length ≤ 9223372036854775807 := hr.2.1
  clear hr
  go_enter Try.func34, Try.ntmps34
  go_wp2_with (fail)
  refine (named2_calls nm _).mono ?_
  rintro e w1 ⟨rfl, hd⟩
  have HB := Lib.hid (((Below.refl w.heap.size w).alloc (Nat.le_refl _) (.cells #[.string nm, .slice A cs.length c] 79)).trans ((Drawn0.below hd).mono (by simp)))
  have hb0 := box_cell (Drawn0.below hd) 1
  simp at hb0
  clear hd
  by_cases h0 : (namedB nm && decide (1 ≤ cs.length) && decide (cs.length ≤ 8)) = true
  · simp only [Bool.and_eq_true, decide_eq_true_eq] at h0
    obtain ⟨⟨h1, h2⟩, h3⟩ := h0
    have HN := Lib.hid h1
    rw [h1]
    clear h1
    have d1 : ((cs.length : Int) == 0) = false := beq_eq_false_iff_ne.2 (by omega)
    have d2 : decide ((8 : Int) < (cs.length : Int)) = false := decide_eq_false (by omega)
    go_wp2
    go_loopw [4] (fun i wr => ∃ k : Nat, i = .int .i64 k ∧ k ≤ cs.length ∧ Hid (∀ j, j < k → colOk cs j = true) ∧ Drawn0 w1 wr) (fun i _ => cs.length - (intOf i).toNat)
    case atStart => exact ⟨0, rfl, Nat.zero_le _, Lib.hid (fun j hj => by omega), Drawn0.refl _⟩
    case round =>
      obtain ⟨k, rfl, hk, HI, HW⟩ := hrel
      obtain ⟨wo, rfl⟩ : ∃ wo : World, wo = wr := ⟨_, rfl⟩
      have hbx := pw_cell_below (Drawn0.below HW) hb0
      by_cases hlt : k < cs.length
      · have hbw : Below w.heap.size w wo := HB.out.trans ((Drawn0.below HW).mono HB.out.size)
        obtain ⟨ad, e1, hc0, hc1, hc2⟩ := col_at (Kd.C_below HR.out hbw) k hlt
        cases e1
        generalize hx : rd_T76 cs k = x at *
        have HX := Lib.hid hx
        clear hx hbw
        go_wp2_with (fail)
        refine (named2_calls x.f0 _).mono ?_
        rintro e w2 ⟨rfl, hd⟩
        have hb2 := pw_cell_below (Drawn0.below hd) hbx
        have hx0 := pw_cell_below (Drawn0.below hd) hc0
        have hx1 := pw_cell_below (Drawn0.below hd) hc1
        have HW2 := drawn_trans HW hd
        have HBV := Lib.hid (HB.out.trans ((Drawn0.below HW2).mono HB.out.size))
        clear hd hc0 hc1 hc2 hbx HW
        by_cases hcol : (namedB x.f0 && decide (1 ≤ x.f1) && decide (x.f1 ≤ 3)) = true
        · simp only [Bool.and_eq_true, decide_eq_true_eq] at hcol
          obtain ⟨⟨h4, h5⟩, h6⟩ := hcol
          have H4 := Lib.hid h4
          rw [h4]
          clear h4
          have d3 : decide (x.f1 < 1) = false := decide_eq_false (by omega)
          have d4 : decide (3 < x.f1) = false := decide_eq_false (by omega)
          go_wp2
          go_loopw [5] (fun i wr' => ∃ j : Nat, i = .int .i64 j ∧ j ≤ k ∧ Hid (∀ i, i < j → (!((rd_T76 cs i).f0.toList == (rd_T76 cs k).f0.toList)) = true) ∧ Drawn0 w2 wr') (fun i _ => k - (intOf i).toNat)
          case atStart => exact ⟨0, rfl, Nat.zero_le _, Lib.hid (fun j hj => by omega), Drawn0.refl _⟩
          case round =>
            obtain ⟨j, rfl, hj, HJ, HV⟩ := hrel
            have hb3 := pw_cell_below (Drawn0.below HV) hb2
            by_cases hjk : j < k
            · obtain ⟨ad', e1, hc0, hc1, hc2⟩ := col_at (Kd.C_below (Kd.C_below HR.out HBV.out) (Drawn0.below HV)) j (by omega)
              cases e1
              have hx0' := pw_cell_below (Drawn0.below HV) hx0
              have HY := Lib.hid (fun h => colOk_names (cs := cs) hjk h)
              have HZ := Lib.hid (fun h => all_succ (p := fun i => (!((rd_T76 cs i).f0.toList == (rd_T76 cs k).f0.toList))) HJ.out (k := j) h)
              generalize hy : rd_T76 cs j = y at *
              clear hy
              have hj0 : (0 : Int) ≤ (j : Int) := by omega
              have hk0 : (0 : Int) ≤ (k : Int) := by omega
              have hj1 : (j : Int) < (cs.length : Int) := by omega
              have hk1 : (k : Int) < (cs.length : Int) := by omega
              go_wp2_with (fail)
              go_quiet (fail)
              have HV1 := HV.step nq
              clear HV
              cases hne : (y.f0.toList == x.f0.toList)
              · have HN1 := Lib.hid (HZ.out (by rw [HX.out, hne]; rfl))
                go_wp2
                go_roundw
                case rel => exact ⟨j + 1, by go_num, hjk, HN1, HV1⟩
                case measure => simp [intOf]; omega
              · have HF := Lib.hid (tabErr_no (tabOk_no2 (nm := nm) hlt (HY.out (by rw [HX.out, hne]))))
                go_wp2
                go_ret
                exact ⟨by rw [HF.out]; rfl, HBV.out.trans ((Drawn0.below HV1).mono HBV.out.size)⟩
            · obtain rfl : j = k := by omega
              have HF := Lib.hid (all_succ HI.out (colOk_yes (cs := cs) (by rw [HX.out]; exact H4.out) (by rw [HX.out]; exact h5) (by rw [HX.out]; exact h6) HJ.out))
              go_wp2
              go_roundw
              case rel => exact ⟨j + 1, by go_num, hlt, HF, drawn_trans HW2 HV⟩
              case measure => simp [intOf]; omega
        · have hcol' : colOk cs k = false := by unfold colOk; rw [HX.out, Bool.eq_false_iff.2 hcol]; rfl
          have HF := Lib.hid (tabErr_no (tabOk_no2 (nm := nm) hlt hcol'))
          clear hcol'
          cases hn : namedB x.f0
          · go_wp2
            go_ret
            exact ⟨by rw [HF.out]; rfl, HBV.out⟩
          · rw [hn] at hcol
            clear hn
            by_cases h5 : x.f1 < 1
            · clear hcol
              go_wp2
              go_ret
              exact ⟨by rw [HF.out]; rfl, HBV.out⟩
            · have h6 : 3 < x.f1 := by
                simp at hcol
                omega
              clear hcol
              go_wp2
              go_ret
              exact ⟨by rw [HF.out]; rfl, HBV.out⟩
      · obtain rfl : k = cs.length := by omega
        have HF := Lib.hid (tabErr_yes (tabOk_yes HN.out h2 h3 HI.out))
        go_wp2
        go_ret
        exact ⟨by rw [HF.out]; rfl, HB.out.trans ((Drawn0.below HW).mono HB.out.size)⟩
  · have HF := Lib.hid (tabErr_no (tabOk_no1 (Bool.eq_false_iff.2 h0)))
    cases hn : namedB nm
    · go_wp2
      go_ret
      exact ⟨by rw [HF.out]; rfl, HB.out⟩
    · rw [hn] at h0
      clear hn
      by_cases h5 : cs.length < 1
      · clear h0
        have d1 : ((cs.length : Int) == 0) = true := beq_iff_eq.2 (by omega)
        go_wp2
        go_ret
        exact ⟨by rw [HF.out]; rfl, HB.out⟩
      · have h6 : 8 < cs.length := by
          simp at h0
          omega
        clear h0
        have d1 : ((cs.length : Int) == 0) = false := beq_eq_false_iff_ne.2 (by omega)
        have d2 : decide ((8 : Int) < (cs.length : Int)) = true := decide_eq_true (by omega)
        go_wp2
        go_ret
        exact ⟨by rw [HF.out]; rfl, HB.out⟩
end Go.Proofs.Ytnaaaldeadjohaa.Cat
