import Derived.Test.YtnaaaldeadjohaaTw
set_option linter.unusedVariables false
set_option linter.unusedSimpArgs false
namespace Go.Proofs.Ytnaaaldeadjohaa.Cat
open Go.RowKit Go.Shelf Go.Proofs Go.Proofs.YtnaaaldeadjohaaW.PrintWords Go.Proofs.Ytnaaaldeadjohaa.PCatalogLies
/-! ### The law CatalogSafe -/
theorem In_calls (A : Option Addr) (n c : Nat) (l : List Int) (x : Int) (w : World) (hn : l.length = n) (hr : Kd.C (Kd.int .i64) w A n l) (hc : n ≤ c) :
    Calls Try.prog 22 #[.slice A n c, .int .i64 x] w fun e w' => e = .returned (.bool (hasB l x)) ∧ Drawn0 w w' := in_calls A n c l x w hn hr hc
/-- A row of bools, of which the first i tell which nodes live. -/
def LiveRow (w : World) (L nn i : Nat) (gone : List Int) : Prop := ∀ j, j < nn → (∃ b, w.cell? ⟨L, j, none⟩ = some (.bool b)) ∧ w.frozen? ⟨L, j, none⟩ = false ∧ (j < i → w.cell? ⟨L, j, none⟩ = some (.bool (!(hasB gone (j : Int)))))
theorem LiveRow.made (w : World) (nn : Nat) (gone : List Int) : LiveRow (w.alloc (.cells (madeCells #[.bool false] nn) 4)) w.heap.size nn 0 gone := fun j hj =>
  ⟨⟨false, by rw [World.cell?_alloc_new]; simp [madeCells, Nat.mod_one, hj]⟩, World.frozen?_alloc_new _ _ _ _, fun h => by omega⟩
theorem LiveRow.drawn {w : World} {L nn i : Nat} {gone : List Int} (h : LiveRow w L nn i gone) {w1 : World} (hd : Drawn0 w w1) : LiveRow w1 L nn i gone := by
  obtain ⟨m, rfl⟩ := hd
  exact h
theorem LiveRow.set {w : World} {L nn i : Nat} {gone : List Int} (h : LiveRow w L nn i gone) (hi : i < nn) : LiveRow (w.setCell ⟨L, i, none⟩ (.bool (!(hasB gone (i : Int))))) L nn (i + 1) gone := fun j hj => by
  obtain ⟨⟨b, hb⟩, hf, hr⟩ := h j hj
  by_cases e : i = j
  · subst e
    have := World.cell?_setCell_same w _ (v := .bool (!(hasB gone (i : Int)))) hb
    exact ⟨⟨_, this⟩, by rw [World.frozen?_setCell]; exact hf, fun _ => this⟩
  · have hne : (⟨L, i, none⟩ : Addr) ≠ ⟨L, j, none⟩ := fun h => e (by injection h)
    refine ⟨⟨b, by rw [World.cell?_setCell_other _ _ _ _ hne]; exact hb⟩, by rw [World.frozen?_setCell]; exact hf, fun h => ?_⟩
    rw [World.cell?_setCell_other _ _ _ _ hne]
    exact hr (by omega)
theorem LiveRow.all {w : World} {L nn : Nat} {gone : List Int} (h : LiveRow w L nn nn gone) (hn : nn ≤ 8) : Kd.bool.C w (some ⟨L, 0, none⟩) (liveL gone nn).length (liveL gone nn) := by
  refine ⟨rfl, by simp [liveL]; omega, fun _ => ⟨_, rfl, fun j p hj => ?_⟩⟩
  have hjn : j < nn := by simpa [liveL] using (List.getElem?_eq_some_iff.1 hj).1
  obtain rfl : (!(hasB gone (j : Int))) = p := by
    simp [liveL, hjn] at hj
    rw [hj]; simp
  refine ⟨[.bool (!(hasB gone (j : Int)))], rfl, rfl, fun i u hu => ?_⟩
  rcases i with _ | i
  · simp at hu
    subst hu
    rw [add_plain]
    rw [show Kd.bool.sz = 1 from rfl]
    simpa using (h j hjn).2.2 hjn
  · simp at hu
set_option maxHeartbeats 8000000 in
set_option maxRecDepth 100000 in
theorem CatalogSafe_calls (n s k : Int) (T : List S79) (P : List S66) (A3 : Option Addr) (c3 : Nat) (A4 : Option Addr) (c4 : Nat) (B : Option Addr) (d : Nat) (gone : List Int) (w : World) (h : CatR w T P A3 c3 A4 c4) (hl : (Kd.int .i64).C w B gone.length gone) (hd : gone.length ≤ d) :
    Calls Try.prog 5 #[catV n s k T P A3 c3 A4 c4, .slice B gone.length d] w fun e w' => e = .returned (.bool true) ∧ Below w.heap.size w w' := by
  have hA := (Below.refl w.heap.size w).alloc (Nat.le_refl _) (.cells #[.int .i64 n, .int .i64 s, .int .i64 k, .slice A3 T.length c3, .slice A4 P.length c4] 25)
  have HA := Lib.hid hA
  have HCW := Lib.hid (h.below hA)
  have HLW := Lib.hid (Kd.C_below hl hA)
  have hq := CatBox.new w n s k T P A3 c3 A4 c4
  have HQ := Lib.hid hq
  obtain ⟨q0, q1, q2, q3, q4⟩ := hq
  clear hA h hl
  go_enter Try.func5, Try.ntmps5
  go_wp2_with (fail)
  generalize w.alloc (.cells #[.int .i64 n, .int .i64 s, .int .i64 k, .slice A3 T.length c3, .slice A4 P.length c4] 25) = W0 at *
  refine (check2_calls n s k T P _ c3 _ c4 _ HCW.out).mono ?_
  rintro e w1 ⟨rfl, hb⟩
  have HB1 := Lib.hid hb
  replace q0 := pw_cell_below hb q0
  replace q1 := pw_cell_below hb q1
  replace q2 := pw_cell_below hb q2
  replace q3 := pw_cell_below hb q3
  replace q4 := pw_cell_below hb q4
  clear hb
  by_cases hz : ¬ chk n s k T P = 0
  · have dz : (chk n s k T P == 0) = false := beq_eq_false_iff_ne.2 hz
    go_wp2_with (fail)
    refine (alive_calls _).mono ?_
    rintro e w2 ⟨rfl, hb⟩
    have HB2 := Lib.hid (HA.out.trans ((HB1.out.trans (hb.mono HB1.out.size)).mono HA.out.size))
    clear hb
    go_wp2
    go_ret
    exact ⟨rfl, HB2.out⟩
  replace hz := Decidable.not_not.1 hz
  have HT := Lib.hid (taken_of hz)
  have HG := Lib.hid HT.out.good
  rw [hz]
  clear hz
  go_wp2_with (fail)
  refine (segments_calls n s k T P _ c3 _ c4 w1 HG.out (HCW.out.below HB1.out)).mono ?_
  rintro e w2 ⟨AL, cL, rfl, hleL, hCL, hb⟩
  have HB2 := Lib.hid (HB1.out.trans (hb.mono HB1.out.size))
  have HCL := Lib.hid hCL
  have hml := hCL.2.1
  clear hb hCL q0 q1 q2 q3 q4
  have HQ2 := Lib.hid (HQ.out.below HB2.out)
  go_wp2
  go_loopw [27] (fun v wr => ∃ i : Nat, v = .int .i64 i ∧ i ≤ (segsL s P).length ∧ Hid (Below w2.heap.size w2 wr)) (fun v _ => (segsL s P).length - (intOf v).toNat)
  case atStart => exact ⟨0, rfl, Nat.zero_le _, Lib.hid (Below.refl _ _)⟩
  case round =>
    obtain ⟨i, rfl, hi, HW⟩ := hrel
    obtain ⟨wo, rfl⟩ : ∃ wo : World, wo = wr := ⟨_, rfl⟩
    by_cases hlt : i < (segsL s P).length
    · obtain ⟨ad, e1, hc0, hc1⟩ := at_T31 (Kd.C_below HCL.out HW.out) i (by omega) (by omega)
      simp only [Int.toNat_natCast] at hc0 hc1
      cases e1
      have HSY := Lib.hid (show inRange s P (rd_T31 (segsL s P) i).f0 (rd_T31 (segsL s P) i).f1 = true from segs_range (by rw [rdT31_nat _ i hlt]; exact List.getElem_mem hlt))
      generalize rd_T31 (segsL s P) i = y at *
      have hA1 := (Below.refl wo.heap.size wo).alloc (Nat.le_refl _) (.cells #[.int .i64 y.f0, .int .i64 y.f1] 31)
      have HA1 := Lib.hid (HW.out.trans (hA1.mono HW.out.size))
      have HB3 := Lib.hid (HB2.out.trans (HA1.out.mono HB2.out.size))
      have hq3 := HQ2.out.below HA1.out
      obtain ⟨q0, q1, q2, q3, q4⟩ := hq3
      clear hA1
      go_wp2_with (fail)
      generalize wo.alloc (.cells #[.int .i64 y.f0, .int .i64 y.f1] 31) = W1 at *
      clear hc0 hc1
      refine (nodes_calls HG.out (HCW.out.below HB3.out) y.f0 y.f1).mono ?_
      rintro e w3 ⟨AN, cN, rfl, hleN, hCN, hb⟩
      have HB4 := Lib.hid (HA1.out.trans (hb.mono HA1.out.size))
      have HCN := Lib.hid hCN
      have hmN := hCN.2.1
      replace q0 := pw_cell_below hb q0
      replace q2 := pw_cell_below hb q2
      have HL := Lib.hid (nodes_len (n := n) (k := k) HSY.out)
      have HND := Lib.hid (nodes_nodup HG.out y.f0 y.f1)
      have HNN := Lib.hid (fun x => nodesL_nonneg n s k P HG.out y.f0 y.f1 x)
      clear hb hCN q1 q3 q4
      generalize nodesL n s k P y.f0 y.f1 = N at *
      go_wp2
      go_loopw [36] (fun v wr => ∃ j : Nat, v = .int .i64 j ∧ j ≤ N.length ∧ Hid (Below w3.heap.size w3 wr)) (fun v _ => N.length - (intOf v).toNat)
      case atStart => exact ⟨0, rfl, Nat.zero_le _, Lib.hid (Below.refl _ _)⟩
      case round =>
        obtain ⟨j, rfl, hj, HV⟩ := hrel
        obtain ⟨wp, rfl⟩ : ∃ wp : World, wp = wr := ⟨_, rfl⟩
        have r0 := pw_cell_below HV.out q0
        have r2 := pw_cell_below HV.out q2
        by_cases hlj : j < N.length
        · obtain ⟨ad2, e2, x0⟩ := int_at (Kd.C_below HCN.out HV.out) j hlj
          cases e2
          have HM := Lib.hid (take_miss HND.out hlj)
          have hx := HNN.out N[j] (List.getElem_mem hlj)
          generalize N[j] = x at *
          have d1 : decide (x < 0) = false := decide_eq_false (by omega)
          have d2 : decide (n ≤ x) = false := decide_eq_false (by omega)
          have hcap : j ≤ cN := by omega
          have HTk := Lib.hid (C_take (Kd.C_below HCN.out HV.out) j hj)
          have HIn := Lib.hid (fun m => In_calls (some ad2) j cN (N.take j) x (wp.drewN m) (by rw [List.length_take]; omega) (Kd.C_below HTk.out (pw_below_drewN (Below.refl _ wp) m)) hcap)
          rw [HM.out] at HIn
          clear hx
          go_wp2
          go_quiet ((go_at_call 22; exact quiet_drawn (HIn.out _)))
          go_wp2
          go_roundw
          case rel => exact ⟨j + 1, by go_num, hlj, Lib.hid (pw_below_drewN HV.out nq)⟩
          case measure => simp [intOf]; omega
        · obtain rfl : j = N.length := by omega
          have HB5 := Lib.hid (HB4.out.trans (HV.out.mono HB4.out.size))
          have hkk := HG.out.hk
          have hnn := HG.out.hn
          have dd : ((N.length : Int) == wrap64 (k + 1)) = true := beq_iff_eq.2 (by rw [HL.out]; unfold wrap64; omega)
          clear hkk hnn
          go_wp2
          go_roundw
          case rel => exact ⟨i + 1, by go_num, hlt, HB5⟩
          case measure => simp [intOf]; omega
    · obtain rfl : i = (segsL s P).length := by omega
      obtain ⟨nn, rfl⟩ := Int.eq_ofNat_of_zero_le (show 0 ≤ n by have := HG.out.hn; omega)
      have HB3 := Lib.hid (HB2.out.trans (HW.out.mono HB2.out.size))
      have HQ3 := Lib.hid (HQ2.out.below HW.out)
      obtain ⟨q0, q1, q2, q3, q4⟩ := HQ3.out
      have hn8 : nn ≤ 8 := by have := HG.out.hn; omega
      have HMK := print_make_of 32 4 (.bool false) 1 Try.underlying32 (by kernel_rfl) rfl (by decide) nn (by omega) wo
      have HR0 := Lib.hid (LiveRow.made wo nn gone)
      have HB4 := Lib.hid ((Below.refl wo.heap.size wo).alloc (Nat.le_refl _) (.cells (madeCells #[.bool false] nn) 4))
      have HL0 := Lib.hid (Kd.C_below HLW.out HB3.out)
      clear q1 q2 q3 q4
      go_wp2
      generalize wo.alloc (.cells (madeCells #[.bool false] nn) 4) = W5 at *
      clear HMK
      go_loopw [12, 76] (fun va v wr => ∃ i : Nat, v = .int .i64 i ∧ va = .int .i64 (awayN gone i) ∧ i ≤ nn ∧ Hid (LiveRow wr wo.heap.size nn i gone) ∧ Hid (Below wo.heap.size wo wr)) (fun _ v _ => nn - (intOf v).toNat)
      case atStart => exact ⟨0, rfl, rfl, Nat.zero_le _, HR0, HB4⟩
      case round =>
        obtain ⟨i, rfl, rfl, hi, HR, HV⟩ := hrel
        obtain ⟨wp, rfl⟩ : ∃ wp : World, wp = wr := ⟨_, rfl⟩
        have haw := awayN_le gone i
        by_cases hlt : i < nn
        · go_wp2_with (fail)
          refine (In_calls B _ d gone i _ rfl (Kd.C_below HL0.out HV.out) hd).mono ?_
          rintro e w6 ⟨rfl, hdr⟩
          have HR6 := Lib.hid (HR.out.drawn hdr)
          have HV6 := Lib.hid (HV.out.trans ((Drawn0.below hdr).mono HV.out.size))
          obtain ⟨⟨b, hb⟩, hf, _⟩ := HR6.out i hlt
          have HR7 := Lib.hid (HR6.out.set hlt)
          have HV7 := Lib.hid (HV6.out.setCell (p := ⟨wo.heap.size, i, none⟩) (Nat.le_refl _) (.bool (!(hasB gone (i : Int)))))
          have hb7 := ((HR7.out i hlt).2.2 (by omega))
          have HYes := Lib.hid (fun h => awayN_yes (gone := gone) (i := i) h)
          have HNo := Lib.hid (fun h => awayN_no (gone := gone) (i := i) h)
          clear hdr
          cases hh : hasB gone (i : Int)
          · have hA := HNo.out hh
            rw [hh] at HR7 HV7 hb7
            have HA := Lib.hid hA
            clear hA hh
            go_wp2
            go_roundw
            case rel => exact ⟨i + 1, by go_num, by rw [HA.out], hlt, HR7, HV7⟩
            case measure => simp [intOf]; omega
          · have hA := HYes.out hh
            rw [hh] at HR7 HV7 hb7
            have HA := Lib.hid hA
            clear hA hh
            go_wp2
            go_roundw
            case rel => exact ⟨i + 1, by go_num, by rw [HA.out]; go_num, hlt, HR7, HV7⟩
            case measure => simp [intOf]; omega
        · obtain rfl : i = nn := by omega
          have HQ5 := Lib.hid (HQ3.out.below HV.out)
          have HB5 := Lib.hid (HB3.out.trans (HV.out.mono HB3.out.size))
          have HSF := Lib.hid (fun h => safe HG.out gone h)
          have hll : (liveL gone i).length = i := by simp [liveL]
          go_wp2_with (fail)
          refine (alive_calls _).mono ?_
          rintro e w6 ⟨rfl, hb⟩
          have HB6 := Lib.hid (HB5.out.trans (hb.mono HB5.out.size))
          have HLV := Lib.hid (Kd.C_below (HR.out.all hn8) hb)
          rw [hll] at HLV
          obtain ⟨r0, r1, r2, r3, r4⟩ := HQ5.out.below hb
          clear hb q0
          by_cases ha : k < (awayN gone i : Int)
          · go_wp2
            go_ret
            exact ⟨rfl, HA.out.trans (HB6.out.mono HA.out.size)⟩
          · have dk : decide (k < (awayN gone i : Int)) = false := decide_eq_false ha
            have HS := Lib.hid (HSF.out (by omega))
            clear ha
            have HCv := cov_calls i s k T P A3 c3 A4 c4 (some ⟨wo.heap.size, 0, none⟩) i (liveL gone i) w6 HG.out (HCW.out.below HB6.out) (by rw [hll]; exact HLV.out) (by rw [hll]; exact Nat.le_refl _)
            rw [hll, HS.out] at HCv
            have HCvv := Lib.hid HCv
            clear HCv
            go_wp2_with (fail)
            refine HCvv.out.mono ?_
            rintro e w7 ⟨rfl, hb⟩
            have HB7 := Lib.hid (HB6.out.trans (hb.mono HB6.out.size))
            clear hb r0 r1 r2 r3 r4
            go_wp2
            go_ret
            exact ⟨rfl, HA.out.trans (HB7.out.mono HA.out.size)⟩
set_option maxRecDepth 100000 in
/-- Some numbers that came in. -/
theorem opens40 {H : Type} {enc : TypeId × Value → H} {w : World} {base : Nat} {sp : Nat → Bool} {held : Bool} {r : Reach} {b0 : Nat} {v : Value} {dd : DataW H} {p : List MemPlace} (hv : Value.okWide Try.prog w r b0 40 v) (h : DataW.Trod enc Try.prog w base sp held 40 v dd p) :
    ∃ A c l, v = .slice A (l : List Int).length c ∧ l.length ≤ c ∧ (Kd.int .i64).C w A l.length l := by
  obtain ⟨a, len, cap, rfl⟩ := WideShapes.okWide_slice Try.underlying40 hv
  obtain ⟨fuel, hf0⟩ := h
  obtain ⟨A, c, l, e, hle, hC⟩ := opens_slice (d := Kd.int .i64) Try.underlying40 (by kernel_rfl) (fun _ _ _ h => opens_int h) hf0
  simp [Value.cells] at e
  obtain ⟨rfl, rfl, rfl⟩ := e
  exact ⟨_, _, l, rfl, hle, hC⟩
end Go.Proofs.Ytnaaaldeadjohaa.Cat
