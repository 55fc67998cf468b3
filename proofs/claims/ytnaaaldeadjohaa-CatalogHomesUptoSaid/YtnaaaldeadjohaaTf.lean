import Derived.Test.YtnaaaldeadjohaaTe
set_option linter.unusedVariables false
set_option linter.unusedSimpArgs false
namespace Go.Proofs.Ytnaaaldeadjohaa.Cat
open Go.RowKit Go.Proofs.YtnaaaldeadjohaaW.PrintWords Go.Proofs.Ytnaaaldeadjohaa.PCatalogLies

theorem col_at {w : World} {A : Option Addr} {n : Nat} {xs : List S76} (h : Kd.C k76 w A n xs) (k : Nat) (hk : k < n) : ∃ ad, A = some ad ∧ w.cell? (ad.add (k * 3)) = some (.string (rd_T76 xs k).f0) ∧ w.cell? ⟨(ad.add (k * 3)).block, (ad.add (k * 3)).off + 1, none⟩ = some (.int .i64 (rd_T76 xs k).f1) ∧ w.cell? ⟨(ad.add (k * 3)).block, (ad.add (k * 3)).off + 2, none⟩ = some (.bool (rd_T76 xs k).f2) := by
  have h1 := at_T76 h k (by omega) (by omega)
  simpa using h1
theorem rdT76_take {xs : List S76} {j k : Nat} (h : j < k) : rd_T76 (xs.take k) j = rd_T76 xs j := by
  simp [rd_T76, List.getD_eq_getElem?_getD, List.getElem?_take, h]
theorem box_cell {W w2 : World} {vs : Array Value} {t : TypeId} (hb : Below (W.alloc (.cells vs t)).heap.size (W.alloc (.cells vs t)) w2) (j : Nat) : w2.cell? ⟨W.heap.size, j, none⟩ = vs[j]? := by
  rw [hb.cell (p := ⟨W.heap.size, j, none⟩) (by simp)]
  exact cell_of_row (W.alloc (.cells vs t)) W.heap.size j vs t (0, 0) (heap_alloc_new W _)
theorem below_box {w W w2 : World} {vs : Array Value} {t : TypeId} (h : Below w.heap.size w W) (hb : Below (W.alloc (.cells vs t)).heap.size (W.alloc (.cells vs t)) w2) : Below w.heap.size w w2 :=
  (h.alloc h.size (.cells vs t)).trans (hb.mono (by have := h.size; simp; omega))
theorem named_calls (s : ByteArray) (w : World) : Calls Try.prog 50 #[.string s] w fun e w' => e = .returned (.bool (namedB s)) ∧ Drawn0 w w' := value_named.calls s _ w (named_f s)
theorem colOk_names {cs : List S76} {k j : Nat} (hj : j < k) (h : ((rd_T76 cs j).f0.toList == (rd_T76 cs k).f0.toList) = true) : colOk cs k = false := by
  unfold colOk
  rw [anyB_yes hj (by simpa using h)]
  simp
theorem colOk_yes {cs : List S76} {k : Nat} (h1 : namedB (rd_T76 cs k).f0 = true) (h2 : 1 ≤ (rd_T76 cs k).f1) (h3 : (rd_T76 cs k).f1 ≤ 3) (h : ∀ j, j < k → (!((rd_T76 cs j).f0.toList == (rd_T76 cs k).f0.toList)) = true) : colOk cs k = true := by
  unfold colOk
  rw [h1, decide_eq_true h2, decide_eq_true h3, anyB_no (fun j hj => by have := h j hj; simpa using this)]
  rfl
theorem tabOk_no1 {nm : ByteArray} {cs : List S76} (h : (namedB nm && decide (1 ≤ cs.length) && decide (cs.length ≤ 8)) = false) : tabOk nm cs = false := by unfold tabOk; rw [h]; rfl
theorem tabOk_no2 {nm : ByteArray} {cs : List S76} {i : Nat} (hi : i < cs.length) (h : colOk cs i = false) : tabOk nm cs = false := by unfold tabOk; rw [allB_no hi h, Bool.and_false]
theorem tabOk_yes {nm : ByteArray} {cs : List S76} (h1 : namedB nm = true) (h2 : 1 ≤ cs.length) (h3 : cs.length ≤ 8) (h : ∀ i, i < cs.length → colOk cs i = true) : tabOk nm cs = true := by
  unfold tabOk; rw [h1, decide_eq_true h2, decide_eq_true h3, allB_iff.2 h]; rfl
def tabErr (nm : ByteArray) (cs : List S76) : Int := if tabOk nm cs = true then 0 else 20
theorem tabErr_no {nm : ByteArray} {cs : List S76} (h : tabOk nm cs = false) : tabErr nm cs = 20 := by unfold tabErr; rw [h]; rfl
theorem tabErr_yes {nm : ByteArray} {cs : List S76} (h : tabOk nm cs = true) : tabErr nm cs = 0 := by unfold tabErr; rw [h]; rfl
set_option maxHeartbeats 4000000 in
set_option maxRecDepth 100000 in
theorem Table_calls (nm : ByteArray) (A : Option Addr) (cs : List S76) (c : Nat) (w : World) (hr : Kd.C k76 w A cs.length cs) (hc : cs.length ≤ c) :
    Calls Try.prog 27 #[.agg #[.string nm, .slice A cs.length c]] w fun e w' => e = .returned (.int .i64 (tabErr nm cs)) ∧ Below w.heap.size w w' := by
  have HR := Lib.hid hr
  have hm : cs.length ≤ 9223372036854775807 := hr.2.1
  clear hr
  go_enter Try.func27, Try.ntmps27
  go_wp2_with (fail)
  refine (named_calls nm _).mono ?_
  rintro e w1 ⟨rfl, hd⟩
  have HB := Lib.hid (((Below.refl w.heap.size w).alloc (Nat.le_refl _) (.cells #[.string nm, .slice A cs.length c] 79)).trans ((Drawn0.below hd).mono (by simp)))
  have hb1 := (Drawn0.below hd).cell (p := ⟨w.heap.size, 1, none⟩) (by simp)
  have hb0 : w1.cell? ⟨w.heap.size, 1, none⟩ = some (.slice A cs.length c) := by rw [hb1]; simp [go_sem]
  clear hb1 hd
  by_cases h0 : (namedB nm && decide (1 ≤ cs.length) && decide (cs.length ≤ 8)) = true
  · simp only [Bool.and_eq_true, decide_eq_true_eq] at h0
    obtain ⟨⟨h1, h2⟩, h3⟩ := h0
    have HN := Lib.hid h1
    rw [h1]
    clear h1
    have d1 : decide ((cs.length : Int) < 1) = false := decide_eq_false (by omega)
    have d2 : decide ((8 : Int) < (cs.length : Int)) = false := decide_eq_false (by omega)
    go_wp2
    go_loopw [26] (fun i wr => ∃ k : Nat, i = .int .i64 k ∧ k ≤ cs.length ∧ Hid (∀ j, j < k → colOk cs j = true) ∧ Hid (Below w1.heap.size w1 wr)) (fun i _ => cs.length - (intOf i).toNat)
    case atStart => exact ⟨0, rfl, Nat.zero_le _, Lib.hid (fun j hj => by omega), Lib.hid (Below.refl _ _)⟩
    case round =>
      obtain ⟨k, rfl, hk, HI, HW⟩ := hrel
      obtain ⟨wo, rfl⟩ : ∃ wo : World, wo = wr := ⟨_, rfl⟩
      by_cases hlt : k < cs.length
      · have hbw : Below w.heap.size w wo := HB.out.trans (HW.out.mono HB.out.size)
        obtain ⟨ad, e1, hc0, hc1, hc2⟩ := col_at (Kd.C_below HR.out hbw) k hlt
        cases e1
        have hbx := pw_cell_below HW.out hb0
        generalize hx : rd_T76 cs k = x at *
        have HX := Lib.hid hx
        clear hx hbw
        have hcap : k ≤ c := by omega
        go_wp2_with (fail)
        refine (named_calls x.f0 _).mono ?_
        rintro e w2 ⟨rfl, hd⟩
        have hd' := Drawn0.below hd
        have hx0 := box_cell hd' 0
        have hx1 := box_cell hd' 1
        have HB2 := Lib.hid (below_box HW.out hd')
        have hb2 := pw_cell_below HB2.out hb0
        simp at hx0 hx1
        clear hd hd' hc0 hc1 hc2 hbx
        by_cases hcol : (namedB x.f0 && decide (1 ≤ x.f1) && decide (x.f1 ≤ 3)) = true
        · simp only [Bool.and_eq_true, decide_eq_true_eq] at hcol
          obtain ⟨⟨h4, h5⟩, h6⟩ := hcol
          have H4 := Lib.hid h4
          rw [h4]
          clear h4
          have d3 : decide (x.f1 < 1) = false := decide_eq_false (by omega)
          have d4 : decide (3 < x.f1) = false := decide_eq_false (by omega)
          go_wp2
          go_loopw [50] (fun i wr' => ∃ j : Nat, i = .int .i64 j ∧ j ≤ k ∧ Hid (∀ i, i < j → (!((rd_T76 cs i).f0.toList == (rd_T76 cs k).f0.toList)) = true) ∧ Hid (Below w2.heap.size w2 wr')) (fun i _ => k - (intOf i).toNat)
          case atStart => exact ⟨0, rfl, Nat.zero_le _, Lib.hid (fun j hj => by omega), Lib.hid (Below.refl _ _)⟩
          case round =>
            obtain ⟨j, rfl, hj, HJ, HV⟩ := hrel
            have HBV := Lib.hid (HB.out.trans (HB2.out.mono HB.out.size |>.trans (HV.out.mono (Nat.le_trans HB.out.size HB2.out.size))))
            by_cases hjk : j < k
            · obtain ⟨ad', e1, hc0, hc1, hc2⟩ := col_at (Kd.C_below (C_take HR.out k hk) HBV.out) j hjk
              cases e1
              rw [rdT76_take hjk] at hc0 hc1 hc2
              have HY := Lib.hid (fun h => colOk_names (cs := cs) hjk h)
              have HZ := Lib.hid (fun h => all_succ (p := fun i => (!((rd_T76 cs i).f0.toList == (rd_T76 cs k).f0.toList))) HJ.out (k := j) h)
              generalize hy : rd_T76 cs j = y at *
              clear hy
              have hA := (Below.refl wr.heap.size wr).alloc (Nat.le_refl _) (.cells #[.string y.f0, .int .i64 y.f1, .bool y.f2] 76)
              have hxA := pw_cell_below hA (pw_cell_below HV.out hx0)
              have HA := Lib.hid hA
              clear hA
              cases hne : (y.f0.toList == x.f0.toList)
              · have HN1 := Lib.hid (HZ.out (by rw [HX.out, hne]; rfl))
                go_wp2
                go_roundw
                case rel => exact ⟨j + 1, by go_num, hjk, HN1, Lib.hid (HV.out.trans (HA.out.mono HV.out.size))⟩
                case measure => simp [intOf]; omega
              · have HF := Lib.hid (tabErr_no (tabOk_no2 (nm := nm) hlt (HY.out (by rw [HX.out, hne]))))
                go_wp2
                go_ret
                exact ⟨by rw [HF.out]; rfl, HBV.out.trans (HA.out.mono HBV.out.size)⟩
            · obtain rfl : j = k := by omega
              have HF := Lib.hid (all_succ HI.out (colOk_yes (cs := cs) (by rw [HX.out]; exact H4.out) (by rw [HX.out]; exact h5) (by rw [HX.out]; exact h6) HJ.out))
              go_wp2
              go_roundw
              case rel => exact ⟨j + 1, by go_num, hlt, HF, Lib.hid (HB2.out.trans (HV.out.mono HB2.out.size))⟩
              case measure => simp [intOf]; omega
        · have hcol' : colOk cs k = false := by unfold colOk; rw [HX.out, Bool.eq_false_iff.2 hcol]; rfl
          have HF := Lib.hid (tabErr_no (tabOk_no2 (nm := nm) hlt hcol'))
          clear hcol'
          have hret : ∀ {Q : World → Prop}, Q w2 → Q w2 := fun h => h
          cases hn : namedB x.f0
          · go_wp2
            go_ret
            exact ⟨by rw [HF.out]; rfl, HB.out.trans (HB2.out.mono HB.out.size)⟩
          · rw [hn] at hcol
            clear hn
            by_cases h5 : x.f1 < 1
            · clear hcol
              go_wp2
              go_ret
              exact ⟨by rw [HF.out]; rfl, HB.out.trans (HB2.out.mono HB.out.size)⟩
            · have h6 : 3 < x.f1 := by
                simp at hcol
                omega
              clear hcol
              go_wp2
              go_ret
              exact ⟨by rw [HF.out]; rfl, HB.out.trans (HB2.out.mono HB.out.size)⟩
      · obtain rfl : k = cs.length := by omega
        have HF := Lib.hid (tabErr_yes (tabOk_yes HN.out h2 h3 HI.out))
        go_wp2
        go_ret
        exact ⟨by rw [HF.out]; rfl, HB.out.trans (HW.out.mono HB.out.size)⟩
  · have HF := Lib.hid (tabErr_no (tabOk_no1 (Bool.eq_false_iff.2 h0)))
    cases hn : namedB nm
    · go_wp2
      go_ret
      exact ⟨by rw [HF.out]; rfl, HB.out⟩
    · rw [hn] at h0
      clear hn
      by_cases h5 : cs.length < 1
      · clear h0
        have d1 : decide ((cs.length : Int) < 1) = true := decide_eq_true (by omega)
        go_wp2
        go_ret
        exact ⟨by rw [HF.out]; rfl, HB.out⟩
      · have h6 : 8 < cs.length := by
          simp at h0
          omega
        clear h0
        have d2 : decide ((8 : Int) < (cs.length : Int)) = true := decide_eq_true (by omega)
        go_wp2
        go_ret
        exact ⟨by rw [HF.out]; rfl, HB.out⟩
end Go.Proofs.Ytnaaaldeadjohaa.Cat
