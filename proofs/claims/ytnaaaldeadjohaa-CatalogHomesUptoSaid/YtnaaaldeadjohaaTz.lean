import Derived.Test.YtnaaaldeadjohaaTy
set_option linter.unusedVariables false
set_option linter.unusedSimpArgs false
namespace Go.Proofs.Ytnaaaldeadjohaa.Cat
open Go.RowKit Go.Shelf Go.Proofs Go.Proofs.YtnaaaldeadjohaaW.PrintWords Go.Proofs.Ytnaaaldeadjohaa.PCatalogLies
/-! ### The walk of CatalogHomes -/
set_option maxHeartbeats 8000000 in
set_option maxRecDepth 100000 in
theorem CatalogHomes_calls (n s k : Int) (T : List S79) (P : List S66) (A3 : Option Addr) (c3 : Nat) (A4 : Option Addr) (c4 : Nat) (w : World) (h : CatR w T P A3 c3 A4 c4) :
    Calls Try.prog 6 #[catV n s k T P A3 c3 A4 c4] w fun e w' => e = .returned (.bool true) ∧ Below w.heap.size w w' := by
  have hA := (Below.refl w.heap.size w).alloc (Nat.le_refl _) (.cells #[.int .i64 n, .int .i64 s, .int .i64 k, .slice A3 T.length c3, .slice A4 P.length c4] 25)
  have HA := Lib.hid hA
  have HCW := Lib.hid (h.below hA)
  have hq := CatBox.new w n s k T P A3 c3 A4 c4
  have HQ := Lib.hid hq
  obtain ⟨q0, q1, q2, q3, q4⟩ := hq
  clear hA h
  go_enter Try.func6, Try.ntmps6
  go_wp2_with (fail)
  generalize w.alloc (.cells #[.int .i64 n, .int .i64 s, .int .i64 k, .slice A3 T.length c3, .slice A4 P.length c4] 25) = W0 at *
  refine (check2_calls n s k T P _ c3 _ c4 _ HCW.out).mono ?_
  rintro e w1 ⟨rfl, hb⟩
  have HB1 := Lib.hid hb
  replace q0 := pw_cell_below hb q0
  replace q1 := pw_cell_below hb q1
  replace q2 := pw_cell_below hb q2
  replace q3 := pw_cell_below hb q3
  replace q4 := pw_cell_below hb q4
  clear hb
  by_cases hz : ¬ chk n s k T P = 0
  · have dz : (chk n s k T P == 0) = false := beq_eq_false_iff_ne.2 hz
    go_wp2_with (fail)
    refine (alive_calls _).mono ?_
    rintro e w2 ⟨rfl, hb⟩
    have HB2 := Lib.hid (HA.out.trans ((HB1.out.trans (hb.mono HB1.out.size)).mono HA.out.size))
    clear hb
    go_wp2
    go_ret
    exact ⟨rfl, HB2.out⟩
  replace hz := Decidable.not_not.1 hz
  have HT := Lib.hid (taken_of hz)
  have HG := Lib.hid HT.out.good
  rw [hz]
  clear hz
  go_wp2_with (fail)
  refine (segments_calls n s k T P _ c3 _ c4 w1 HG.out (HCW.out.below HB1.out)).mono ?_
  rintro e w2 ⟨AL, cL, rfl, hleL, hCL, hb⟩
  have HB2 := Lib.hid (HB1.out.trans (hb.mono HB1.out.size))
  have HCL := Lib.hid hCL
  have hml := hCL.2.1
  clear hb hCL q0 q1 q2 q3 q4
  have HQ2 := Lib.hid (HQ.out.below HB2.out)
  have hnn := HG.out.hn
  obtain ⟨nn, rfl⟩ := Int.eq_ofNat_of_zero_le (show 0 ≤ n by omega)
  have hn8 : nn ≤ 8 := by omega
  clear hnn
  obtain ⟨q0, q1, q2, q3, q4⟩ := HQ2.out
  have hall := copies_all HG.out
  have HALL := Lib.hid hall
  have hbound : copiesN nn s k P nn ≤ 512 := by
    have gs := HG.out.hs
    have gk := HG.out.hk
    have gP := HG.out.hP
    rw [hall]
    exact Nat.le_trans (Nat.mul_le_mul (Nat.mul_le_mul gP (show s.toNat ≤ 8 by omega)) (show (k + 1).toNat ≤ 8 by omega)) (by decide)
  have hseg : (segsL s P).length ≤ 64 := by
    have gs := HG.out.hs
    have gP := HG.out.hP
    rw [segsL_length]
    exact Nat.le_trans (Nat.mul_le_mul gP (show s.toNat ≤ 8 by omega)) (by decide)
  have HBD := Lib.hid hbound
  have HSG := Lib.hid hseg
  clear hall hbound hseg
  go_wp2
  clear q0 q1 q2 q3 q4
  go_loopw [3, 24] (fun vc v wr => ∃ i : Nat, v = .int .i64 i ∧ vc = .int .i64 (copiesN nn s k P i) ∧ i ≤ nn ∧ Hid (Below w2.heap.size w2 wr)) (fun _ v _ => nn - (intOf v).toNat)
  case atStart => exact ⟨0, rfl, rfl, Nat.zero_le _, Lib.hid (Below.refl _ _)⟩
  case round =>
    obtain ⟨i, rfl, rfl, hi, HW⟩ := hrel
    obtain ⟨wo, rfl⟩ : ∃ wo : World, wo = wr := ⟨_, rfl⟩
    have HQ3 := Lib.hid (HQ2.out.below HW.out)
    have HB3 := Lib.hid (HB2.out.trans (HW.out.mono HB2.out.size))
    by_cases hlt : i < nn
    · obtain ⟨q0, q1, q2, q3, q4⟩ := HQ3.out
      go_wp2_with (fail)
      refine (of_calls nn s k T P _ c3 _ c4 i _ HG.out (HCW.out.below HB3.out)).mono ?_
      rintro e w4 ⟨AM, cM, rfl, hleM, hCM, hb⟩
      have HB4 := Lib.hid (HB3.out.trans (hb.mono HB3.out.size))
      have HW4 := Lib.hid (HW.out.trans (hb.mono HW.out.size))
      have HCM := Lib.hid hCM
      have hmM := hCM.2.1
      have hc1 : copiesN nn s k P (i + 1) = copiesN nn s k P i + (ofL nn s k P i).length := rfl
      have hcb : copiesN nn s k P (i + 1) ≤ 512 := Nat.le_trans (copiesN_mono _ _ _ _ (by omega)) HBD.out
      have HE := Lib.hid (fun (h : (ofL nn s k P i).length = 0) => show False from by
        have h1 := HT.out.of_ i (by simpa using hlt)
        unfold ofAt at h1
        rw [List.eq_nil_of_length_eq_zero h] at h1
        cases h1)
      have HH := Lib.hid (fun (j : Nat) (hj : j < (segsL s P).length) => hit_at (n := nn) (k := k) (x := (i : Int)) hj)
      have HY := Lib.hid (fun (j : Nat) (hj : j < (segsL s P).length) => cntN_yes (n := nn) (k := k) (x := (i : Int)) hj)
      have HN := Lib.hid (fun (j : Nat) (hj : j < (segsL s P).length) => cntN_no (n := nn) (k := k) (x := (i : Int)) hj)
      have HA2 := Lib.hid (cntN_all (n := nn) (s := s) (k := k) (P := P) (x := (i : Int)))
      clear hb hCM q0 q1 q2 q3 q4
      generalize hML : ofL nn s k P i = ML at *
      clear hML
      have HQ4 := Lib.hid (HQ2.out.below HW4.out)
      go_wp2
      go_loopw [8, 36] (fun vc v wr => ∃ j : Nat, v = .int .i64 j ∧ vc = .int .i64 (cntN nn s k P i j) ∧ j ≤ (segsL s P).length ∧ Hid (Below w4.heap.size w4 wr)) (fun _ v _ => (segsL s P).length - (intOf v).toNat)
      case atStart => exact ⟨0, rfl, rfl, Nat.zero_le _, Lib.hid (Below.refl _ _)⟩
      case round =>
        obtain ⟨j, rfl, rfl, hj, HV⟩ := hrel
        obtain ⟨wp, rfl⟩ : ∃ wp : World, wp = wr := ⟨_, rfl⟩
        have hs64 := HSG.out
        have hcl := cntN_le (n := nn) (s := s) (k := k) (P := P) (x := (i : Int)) (i := j)
        by_cases hlj : j < (segsL s P).length
        · obtain ⟨ad, e1, hc0, hc1'⟩ := at_T31 (Kd.C_below HCL.out (HW4.out.trans (HV.out.mono HW4.out.size))) j (by omega) (by omega)
          simp only [Int.toNat_natCast] at hc0 hc1'
          cases e1
          have HZ := Lib.hid (rdT31_nat (segsL s P) j hlj)
          generalize hy : rd_T31 (segsL s P) j = y at *
          clear hy
          have hA1 := (Below.refl wp.heap.size wp).alloc (Nat.le_refl _) (.cells #[.int .i64 y.f0, .int .i64 y.f1] 31)
          have HA1 := Lib.hid (HV.out.trans (hA1.mono HV.out.size))
          have HB5 := Lib.hid (HB4.out.trans (HA1.out.mono HB4.out.size))
          obtain ⟨q0, q1, q2, q3, q4⟩ := HQ4.out.below HA1.out
          have y0 : (wp.alloc (.cells #[.int .i64 y.f0, .int .i64 y.f1] 31)).cell? ⟨wp.heap.size, 0, none⟩ = some (.int .i64 y.f0) := by simp [go_sem]
          have y1 : (wp.alloc (.cells #[.int .i64 y.f0, .int .i64 y.f1] 31)).cell? ⟨wp.heap.size, 1, none⟩ = some (.int .i64 y.f1) := by simp [go_sem]
          clear hA1
          go_wp2_with (fail)
          generalize wp.alloc (.cells #[.int .i64 y.f0, .int .i64 y.f1] 31) = W1 at *
          clear hc0 hc1'
          refine (nodes_calls HG.out (HCW.out.below HB5.out) y.f0 y.f1).mono ?_
          rintro e w6 ⟨AN, cN, rfl, hleN, hCN, hb⟩
          have HB6 := Lib.hid (HA1.out.trans (hb.mono HA1.out.size))
          have HCN := Lib.hid hCN
          have hmN := hCN.2.1
          replace y0 := pw_cell_below hb y0
          replace y1 := pw_cell_below hb y1
          clear hb hCN q0 q1 q2 q3 q4
          have hhit : hitB nn s k P (i : Int) (segsL s P)[j] = hasB (nodesL nn s k P y.f0 y.f1) (i : Int) := by rw [← HZ.out]; rfl
          have HHit := Lib.hid hhit
          clear hhit
          generalize nodesL nn s k P y.f0 y.f1 = N at *
          go_wp2_with (fail)
          refine (In_calls AN N.length cN N i w6 rfl HCN.out hleN).mono ?_
          rintro e w7 ⟨rfl, hdr⟩
          have HB7 := Lib.hid (HB6.out.trans ((Drawn0.below hdr).mono HB6.out.size))
          replace y0 := pw_cell_below (Drawn0.below hdr) y0
          replace y1 := pw_cell_below (Drawn0.below hdr) y1
          clear hdr
          cases hh : hasB N (i : Int)
          · have HC1 := Lib.hid (HN.out j hlj (by rw [HHit.out, hh]))
            clear hh
            go_wp2
            go_roundw
            case rel => exact ⟨j + 1, by go_num, by rw [HC1.out], hlj, HB7⟩
            case measure => simp [intOf]; omega
          · have HC1 := Lib.hid (HY.out j hlj (by rw [HHit.out, hh]))
            obtain ⟨hcm, he⟩ := HH.out j hlj (by rw [HHit.out, hh])
            clear hh
            obtain ⟨ad2, e2, m0, m1⟩ := at_T31 (Kd.C_below HCM.out HB7.out) (cntN nn s k P i j) (by omega) (by omega)
            simp only [Int.toNat_natCast] at m0 m1
            cases e2
            rw [rdT31_nat _ _ hcm, he, ← HZ.out] at m0 m1
            generalize cntN nn s k P i j = c at *
            clear he
            have dm : decide ((ML.length : Int) ≤ (c : Int)) = false := decide_eq_false (by omega)
            go_wp2
            go_quiet (fail)
            go_wp2
            go_roundw
            case rel => exact ⟨j + 1, by go_num, by rw [HC1.out]; go_num, hlj, Lib.hid (pw_below_drewN HB7.out nq)⟩
            case measure => simp [intOf]; omega
        · obtain rfl : j = (segsL s P).length := by omega
          have HB5 := Lib.hid (HW4.out.trans (HV.out.mono HW4.out.size))
          rw [HA2.out]
          have dn : ((ML.length : Int) == 0) = false := beq_eq_false_iff_ne.2 (fun h => HE.out (by omega))
          go_wp2
          go_roundw
          case rel => exact ⟨i + 1, by go_num, by rw [hc1]; go_num, hlt, HB5⟩
          case measure => simp [intOf]; omega
    · obtain rfl : i = nn := by omega
      obtain ⟨q0, q1, q2, q3, q4⟩ := HQ3.out
      go_wp2_with (fail)
      refine (alive_calls _).mono ?_
      rintro e w4 ⟨rfl, hb⟩
      have HB4 := Lib.hid (HB3.out.trans (hb.mono HB3.out.size))
      replace q1 := pw_cell_below hb q1
      replace q2 := pw_cell_below hb q2
      replace q4 := pw_cell_below hb q4
      have HF := Lib.hid (show ((copiesN i s k P i : Nat) : Int) = wrap64 (wrap64 ((P.length : Int) * s) * wrap64 (k + 1)) by
        have gs := HG.out.hs
        have gk := HG.out.hk
        have gP := HG.out.hP
        obtain ⟨ss, rfl⟩ := Int.eq_ofNat_of_zero_le (show 0 ≤ s by omega)
        obtain ⟨kk, rfl⟩ := Int.eq_ofNat_of_zero_le (show 0 ≤ k by omega)
        have h1 : P.length * ss ≤ 64 := Nat.le_trans (Nat.mul_le_mul gP (show ss ≤ 8 by omega)) (by decide)
        have h2 : (P.length * ss) * (kk + 1) ≤ 512 := Nat.le_trans (Nat.mul_le_mul h1 (show kk + 1 ≤ 8 by omega)) (by decide)
        have e1 : wrap64 ((P.length : Int) * (ss : Int)) = ((P.length * ss : Nat) : Int) := by rw [← Int.natCast_mul]; unfold wrap64; omega
        have e2 : wrap64 ((kk : Int) + 1) = ((kk + 1 : Nat) : Int) := by unfold wrap64; omega
        rw [e1, e2, ← Int.natCast_mul, HALL.out]
        have e3 : wrap64 (((P.length * ss * (kk + 1) : Nat)) : Int) = ((P.length * ss * (kk + 1) : Nat) : Int) := by unfold wrap64; omega
        rw [e3]
        congr 1)
      have dF : (((copiesN i s k P i : Nat) : Int) == wrap64 (wrap64 ((P.length : Int) * s) * wrap64 (k + 1))) = true := beq_iff_eq.2 HF.out
      clear hb q0 q3
      go_wp2
      go_ret
      exact ⟨rfl, HA.out.trans (HB4.out.mono HA.out.size)⟩
end Go.Proofs.Ytnaaaldeadjohaa.Cat
