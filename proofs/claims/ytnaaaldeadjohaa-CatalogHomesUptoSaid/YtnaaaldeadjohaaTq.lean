import Derived.Test.YtnaaaldeadjohaaTp
set_option linter.unusedVariables false
set_option linter.unusedSimpArgs false
namespace Go.Proofs.Ytnaaaldeadjohaa.Cat
open Go.RowKit Go.Shelf Go.Proofs Go.Proofs.YtnaaaldeadjohaaW.PrintWords Go.Proofs.Ytnaaaldeadjohaa.PCatalogLies
/-! ### The reference's Check -/
theorem bool_succ {p : Nat → Bool} {k : Nat} (h : ∀ j, j < k → p j = false) (hk : p k = false) : ∀ j, j < k + 1 → p j = false := fun j hj => by
  rcases Nat.lt_or_ge j k with h1 | h1
  · exact h j h1
  · obtain rfl : j = k := by omega
    exact hk
set_option maxHeartbeats 8000000 in
set_option maxRecDepth 100000 in
theorem check2_calls (n s k : Int) (T : List S79) (P : List S66) (A3 : Option Addr) (c3 : Nat) (A4 : Option Addr) (c4 : Nat) (w : World) (h : CatR w T P A3 c3 A4 c4) :
    Calls Try.prog 11 #[catV n s k T P A3 c3 A4 c4] w fun e w' => e = .returned (.int .i64 (chk n s k T P)) ∧ Below w.heap.size w w' := by
  have HC := Lib.hid h
  have hT : T.length ≤ 9223372036854775807 := h.rT.2.1
  have hP : P.length ≤ 9223372036854775807 := h.rP.2.1
  have hcT := h.cT
  have hcP := h.cP
  clear h
  have hA := (Below.refl w.heap.size w).alloc (Nat.le_refl _) (.cells #[.int .i64 n, .int .i64 s, .int .i64 k, .slice A3 T.length c3, .slice A4 P.length c4] 25)
  have HA := Lib.hid hA
  have q0 : (w.alloc (.cells #[.int .i64 n, .int .i64 s, .int .i64 k, .slice A3 T.length c3, .slice A4 P.length c4] 25)).cell? ⟨w.heap.size, 0, none⟩ = some (.int .i64 n) := by simp [go_sem]
  have q1 : (w.alloc (.cells #[.int .i64 n, .int .i64 s, .int .i64 k, .slice A3 T.length c3, .slice A4 P.length c4] 25)).cell? ⟨w.heap.size, 1, none⟩ = some (.int .i64 s) := by simp [go_sem]
  have q2 : (w.alloc (.cells #[.int .i64 n, .int .i64 s, .int .i64 k, .slice A3 T.length c3, .slice A4 P.length c4] 25)).cell? ⟨w.heap.size, 2, none⟩ = some (.int .i64 k) := by simp [go_sem]
  have q3 : (w.alloc (.cells #[.int .i64 n, .int .i64 s, .int .i64 k, .slice A3 T.length c3, .slice A4 P.length c4] 25)).cell? ⟨w.heap.size, 3, none⟩ = some (.slice A3 T.length c3) := by simp [go_sem]
  have q4 : (w.alloc (.cells #[.int .i64 n, .int .i64 s, .int .i64 k, .slice A3 T.length c3, .slice A4 P.length c4] 25)).cell? ⟨w.heap.size, 4, none⟩ = some (.slice A4 P.length c4) := by simp [go_sem]
  clear hA
  go_enter Try.func11, Try.ntmps11
  by_cases a1 : n < 1
  · have HF := Lib.hid (chk_head (T := T) (P := P) (headOk_n1 (s := s) (k := k) a1))
    go_wp2
    go_ret
    exact ⟨by rw [HF.out]; rfl, HA.out⟩
  have b1 : decide (n < 1) = false := decide_eq_false a1
  by_cases a2 : 8 < n
  · have HF := Lib.hid (chk_head (T := T) (P := P) (headOk_n8 (s := s) (k := k) a2))
    go_wp2
    go_ret
    exact ⟨by rw [HF.out]; rfl, HA.out⟩
  have b2 : decide (8 < n) = false := decide_eq_false a2
  by_cases a3 : k < 0
  · have HF := Lib.hid (chk_head (T := T) (P := P) (headOk_k0 (n := n) (s := s) a3))
    go_wp2
    go_ret
    exact ⟨by rw [HF.out]; rfl, HA.out⟩
  have b3 : decide (k < 0) = false := decide_eq_false a3
  by_cases a4 : n ≤ k
  · have HF := Lib.hid (chk_head (T := T) (P := P) (headOk_kn (s := s) a4))
    go_wp2
    go_ret
    exact ⟨by rw [HF.out]; rfl, HA.out⟩
  have b4 : decide (n ≤ k) = false := decide_eq_false a4
  by_cases a5 : s < 1
  · have HF := Lib.hid (chk_head (T := T) (P := P) (headOk_s1 (n := n) (k := k) a5))
    go_wp2
    go_ret
    exact ⟨by rw [HF.out]; rfl, HA.out⟩
  have b5 : decide (s < 1) = false := decide_eq_false a5
  by_cases a6 : 8 < s
  · have HF := Lib.hid (chk_head (T := T) (P := P) (headOk_s8 (n := n) (k := k) a6))
    go_wp2
    go_ret
    exact ⟨by rw [HF.out]; rfl, HA.out⟩
  have b6 : decide (8 < s) = false := decide_eq_false a6
  have HD := Lib.hid (headOk_yes (n := n) (s := s) (k := k) (by omega) (by omega) (by omega) (by omega) (by omega) (by omega))
  by_cases a7 : T.length < 1
  · have HF := Lib.hid (chk_len (P := P) HD.out (.inl a7))
    have d : ((T.length : Int) == 0) = true := beq_iff_eq.2 (by omega)
    clear a7
    go_wp2
    go_ret
    exact ⟨by rw [HF.out]; rfl, HA.out⟩
  have b7 : ((T.length : Int) == 0) = false := beq_eq_false_iff_ne.2 (by omega)
  by_cases a8 : 4 < T.length
  · have HF := Lib.hid (chk_len (P := P) HD.out (.inr a8))
    have d : decide ((4 : Int) < (T.length : Int)) = true := decide_eq_true (by omega)
    clear a8 a7
    go_wp2
    go_ret
    exact ⟨by rw [HF.out]; rfl, HA.out⟩
  have b8 : decide ((4 : Int) < (T.length : Int)) = false := decide_eq_false (by omega)
  have t1 : 1 ≤ T.length := by omega
  have t4 : T.length ≤ 4 := by omega
  clear a7 a8
  go_wp2
  generalize w.alloc (.cells #[.int .i64 n, .int .i64 s, .int .i64 k, .slice A3 T.length c3, .slice A4 P.length c4] 25) = W0 at *
  go_loopw [3] (fun v wr => ∃ i : Nat, v = .int .i64 i ∧ i ≤ T.length ∧ Hid (∀ j, j < i → tabAt T j = true) ∧ Hid (Below W0.heap.size W0 wr)) (fun v _ => T.length - (intOf v).toNat)
  case atStart => exact ⟨0, rfl, Nat.zero_le _, Lib.hid (fun j hj => by omega), Lib.hid (Below.refl _ _)⟩
  case round =>
    obtain ⟨i, rfl, hi, HI, HW⟩ := hrel
    obtain ⟨wo, rfl⟩ : ∃ wo : World, wo = wr := ⟨_, rfl⟩
    have q3' := pw_cell_below HW.out q3
    by_cases hlt : i < T.length
    · have hbw : Below w.heap.size w wo := HA.out.trans (HW.out.mono HA.out.size)
      obtain ⟨ad, B2, d2, e1, hc0, hc1, hl2, hC2⟩ := at_T79 (Kd.C_below HC.out.rT hbw) i (by omega) (by omega)
      simp only [Int.toNat_natCast] at hc0 hc1
      cases e1
      have HC2 := Lib.hid hC2
      clear hC2 hbw
      go_wp2_with (fail)
      refine (Table2_calls (rd_T79 T i).f0 B2 (rd_T79 T i).f1 d2 _ HC2.out hl2).mono ?_
      rintro e w2 ⟨rfl, hd⟩
      have q3x := pw_cell_below hd q3'
      have HB2 := Lib.hid (HW.out.trans (hd.mono HW.out.size))
      clear hd q3' hc0 hc1
      cases y1 : tabOk (rd_T79 T i).f0 (rd_T79 T i).f1
      · have HF := Lib.hid (chk_tab (P := P) HD.out t1 t4 hlt (tabAt_no1 y1))
        rw [tabErr_no y1]
        clear y1
        go_wp2
        go_ret
        exact ⟨by rw [HF.out]; rfl, HA.out.trans (HB2.out.mono HA.out.size)⟩
      rw [tabErr_yes y1]
      have Y1 := Lib.hid y1
      clear y1
      go_wp2
      go_loopw [4] (fun v wr => ∃ j : Nat, v = .int .i64 j ∧ j ≤ i ∧ Hid (∀ m, m < j → decide ((rd_T79 T m).f0.toList = (rd_T79 T i).f0.toList) = false) ∧ Hid (Below w2.heap.size w2 wr)) (fun v _ => i - (intOf v).toNat)
      case atStart => exact ⟨0, rfl, Nat.zero_le _, Lib.hid (fun j hj => by omega), Lib.hid (Below.refl _ _)⟩
      case round =>
        obtain ⟨j, rfl, hj, HJ, HV⟩ := hrel
        obtain ⟨wp, rfl⟩ : ∃ wp : World, wp = wr := ⟨_, rfl⟩
        have HB3 := Lib.hid (HB2.out.trans (HV.out.mono HB2.out.size))
        have q3y := pw_cell_below HV.out q3x
        by_cases hlj : j < i
        · have hbw : Below w.heap.size w wp := HA.out.trans (HB3.out.mono HA.out.size)
          obtain ⟨ad1, _, _, e1, hc0, _, _, _⟩ := at_T79 (Kd.C_below HC.out.rT hbw) i (by omega) (by omega)
          cases e1
          obtain ⟨ad1, _, _, e1, hd0, _, _, _⟩ := at_T79 (Kd.C_below HC.out.rT hbw) j (by omega) (by omega)
          cases e1
          simp only [Int.toNat_natCast] at hc0 hd0
          have hjt : j < T.length := by omega
          have HN := Lib.hid (fun h => bool_succ (p := fun m => decide ((rd_T79 T m).f0.toList = (rd_T79 T i).f0.toList)) HJ.out (k := j) h)
          have HY := Lib.hid (fun h => anyB_yes (p := fun m => decide ((rd_T79 T m).f0.toList = (rd_T79 T i).f0.toList)) hlj h)
          clear hbw
          generalize hx : (rd_T79 T i).f0 = x at *
          generalize hy : (rd_T79 T j).f0 = y at *
          have HX := Lib.hid hx
          have HYY := Lib.hid hy
          clear hx hy
          cases hne : (y.toList == x.toList)
          · have HN1 := Lib.hid (HN.out (decide_eq_false (beq_eq_false_iff_ne.1 hne)))
            go_wp2
            go_quiet (fail)
            go_wp2
            go_roundw
            case rel => exact ⟨j + 1, by go_num, hlj, HN1, Lib.hid (pw_below_drewN HV.out nq)⟩
            case measure => simp [intOf]; omega
          · have HF := Lib.hid (chk_tab (P := P) HD.out t1 t4 hlt (tabAt_no2 (show dupT T i = true by
              unfold dupT; rw [HX.out]; exact HY.out (decide_eq_true (beq_iff_eq.1 hne)))))
            go_wp2
            go_quiet (fail)
            go_wp2
            go_ret
            exact ⟨by rw [HF.out]; rfl, HA.out.trans (pw_below_drewN (HB3.out.mono HA.out.size) nq)⟩
        · obtain rfl : j = i := by omega
          have HN := Lib.hid (all_succ (p := tabAt T) HI.out (tabAt_yes Y1.out (show dupT T j = false from anyB_no HJ.out)))
          go_wp2
          go_roundw
          case rel => exact ⟨j + 1, by go_num, hlt, HN, HB3⟩
          case measure => simp [intOf]; omega
    · obtain rfl : i = T.length := by omega
      have HTS := Lib.hid (tabsOk_yes HI.out)
      have HB0 := Lib.hid (HA.out.trans (HW.out.mono HA.out.size))
      replace q0 := pw_cell_below HW.out q0
      replace q1 := pw_cell_below HW.out q1
      replace q2 := pw_cell_below HW.out q2
      replace q3 := q3'
      replace q4 := pw_cell_below HW.out q4
      clear HI HW HA
      by_cases a9 : 8 < P.length
      · have HF := Lib.hid (chk_projs HD.out t1 t4 HTS.out a9)
        have d : decide ((8 : Int) < (P.length : Int)) = true := decide_eq_true (by omega)
        clear a9
        go_wp2
        go_ret
        exact ⟨by rw [HF.out]; rfl, HB0.out⟩
      have b9 : decide ((8 : Int) < (P.length : Int)) = false := decide_eq_false (by omega)
      have p8 : P.length ≤ 8 := by omega
      clear a9
      go_wp2
      go_loopw [5] (fun v wr => ∃ i : Nat, v = .int .i64 i ∧ i ≤ P.length ∧ Hid (∀ j, j < i → projAt n T P j = true) ∧ Hid (Below wo.heap.size wo wr)) (fun v _ => P.length - (intOf v).toNat)
      case atStart => exact ⟨0, rfl, Nat.zero_le _, Lib.hid (fun j hj => by omega), Lib.hid (Below.refl _ _)⟩
      case round =>
        obtain ⟨i, rfl, hi, HI, HW⟩ := hrel
        obtain ⟨wp, rfl⟩ : ∃ wp : World, wp = wr := ⟨_, rfl⟩
        have r0 := pw_cell_below HW.out q0
        have r1 := pw_cell_below HW.out q1
        have r2 := pw_cell_below HW.out q2
        have r3 := pw_cell_below HW.out q3
        have r4 := pw_cell_below HW.out q4
        by_cases hlt : i < P.length
        · have hbw : Below w.heap.size w wp := HB0.out.trans (HW.out.mono HB0.out.size)
          obtain ⟨ad, B2, d2, B3, d3, e1, hc0, hc1, hc2, hc3, hc4, hc5, hl2, hC2, hl3, hC3⟩ := at_T66 (Kd.C_below HC.out.rP hbw) i (by omega) (by omega)
          simp only [Int.toNat_natCast] at hc0 hc1 hc2 hc3 hc4 hc5
          cases e1
          have HPR := Lib.hid (show ProjR wp (rd_T66 P i) B2 d2 B3 d3 from ⟨hC2, hl2, hC3, hl3⟩)
          have HCW := Lib.hid (HC.out.below hbw)
          clear hC2 hC3 hbw
          have HBN := Lib.hid (Below.refl wp.heap.size wp)
          have HBD := Lib.hid (show Below wp.heap.size wp wp.drew from (Below.refl _ wp).drew)
          have HS := Lib.hid (show ∀ w', Below wp.heap.size wp w' → (w'.cell? ⟨w.heap.size, 0, none⟩ = some (.int .i64 n) ∧ w'.cell? ⟨w.heap.size, 1, none⟩ = some (.int .i64 s) ∧ w'.cell? ⟨w.heap.size, 2, none⟩ = some (.int .i64 k) ∧ w'.cell? ⟨w.heap.size, 3, none⟩ = some (.slice A3 T.length c3) ∧ w'.cell? ⟨w.heap.size, 4, none⟩ = some (.slice (some ad) P.length c4) ∧
            w'.cell? (ad.add (i * 6)) = some (.string (rd_T66 P i).f0) ∧ w'.cell? ⟨(ad.add (i * 6)).block, (ad.add (i * 6)).off + 1, none⟩ = some (.int .i64 (rd_T66 P i).f1) ∧ w'.cell? ⟨(ad.add (i * 6)).block, (ad.add (i * 6)).off + 2, none⟩ = some (.slice B2 (rd_T66 P i).f2.length d2) ∧ w'.cell? ⟨(ad.add (i * 6)).block, (ad.add (i * 6)).off + 3, none⟩ = some (.slice B3 (rd_T66 P i).f3.length d3) ∧ w'.cell? ⟨(ad.add (i * 6)).block, (ad.add (i * 6)).off + 4, none⟩ = some (.int .i64 (rd_T66 P i).f4) ∧ w'.cell? ⟨(ad.add (i * 6)).block, (ad.add (i * 6)).off + 5, none⟩ = some (.int .i64 (rd_T66 P i).f5)) from
            fun w' hb => ⟨pw_cell_below hb r0, pw_cell_below hb r1, pw_cell_below hb r2, pw_cell_below hb r3, pw_cell_below hb r4, pw_cell_below hb hc0, pw_cell_below hb hc1, pw_cell_below hb hc2, pw_cell_below hb hc3, pw_cell_below hb hc4, pw_cell_below hb hc5⟩)
          go_wp2
          go_region_held3 (fun w' => w'.cell? ⟨w.heap.size, 0, none⟩ = some (.int .i64 n) ∧ w'.cell? ⟨w.heap.size, 1, none⟩ = some (.int .i64 s) ∧ w'.cell? ⟨w.heap.size, 2, none⟩ = some (.int .i64 k) ∧ w'.cell? ⟨w.heap.size, 3, none⟩ = some (.slice A3 T.length c3) ∧ w'.cell? ⟨w.heap.size, 4, none⟩ = some (.slice (some ad) P.length c4) ∧
            w'.cell? (ad.add (i * 6)) = some (.string (rd_T66 P i).f0) ∧ w'.cell? ⟨(ad.add (i * 6)).block, (ad.add (i * 6)).off + 1, none⟩ = some (.int .i64 (rd_T66 P i).f1) ∧ w'.cell? ⟨(ad.add (i * 6)).block, (ad.add (i * 6)).off + 2, none⟩ = some (.slice B2 (rd_T66 P i).f2.length d2) ∧ w'.cell? ⟨(ad.add (i * 6)).block, (ad.add (i * 6)).off + 3, none⟩ = some (.slice B3 (rd_T66 P i).f3.length d3) ∧ w'.cell? ⟨(ad.add (i * 6)).block, (ad.add (i * 6)).off + 4, none⟩ = some (.int .i64 (rd_T66 P i).f4) ∧ w'.cell? ⟨(ad.add (i * 6)).block, (ad.add (i * 6)).off + 5, none⟩ = some (.int .i64 (rd_T66 P i).f5))
            (first | exact HS.out _ HBN.out | exact HS.out _ HBD.out)
            ((go_at_call 35; refine (projection2_calls n s k T P _ c3 _ c4 (rd_T66 P i) B2 d2 B3 d3 _ (HCW.out.below HBD.out) (HPR.out.below HBD.out)).mono ?_; rintro e w2 ⟨rfl, hb⟩; have HBN5 := Lib.hid (HBD.out.trans (hb.mono HBD.out.size)); clear HBN; have HBN := HBN5; clear HBN5 hb))
          have HB2 := Lib.hid (HW.out.trans (HBN.out.mono HW.out.size))
          clear r0 r1 r2 r3 r4 hc0 hc1 hc2 hc3 hc4 hc5 HS
          have r3 := pw_cell_below HB2.out q3
          have r4 := pw_cell_below HB2.out q4
          cases y1 : projOk n T (rd_T66 P i)
          · have HF := Lib.hid (chk_proj HD.out t1 t4 HTS.out p8 hlt (projAt_no1 y1))
            clear y1
            go_wp2
            go_ret
            exact ⟨by rw [HF.out]; rfl, HB0.out.trans (HB2.out.mono HB0.out.size)⟩
          have Y1 := Lib.hid y1
          clear y1
          go_wp2
          go_loopw [7] (fun v wr => ∃ j : Nat, v = .int .i64 j ∧ j ≤ i ∧ Hid (∀ m, m < j → decide ((rd_T66 P m).f0.toList = (rd_T66 P i).f0.toList) = false) ∧ Hid (Below w2.heap.size w2 wr)) (fun v _ => i - (intOf v).toNat)
          case atStart => exact ⟨0, rfl, Nat.zero_le _, Lib.hid (fun j hj => by omega), Lib.hid (Below.refl _ _)⟩
          case round =>
            obtain ⟨j, rfl, hj, HJ, HV⟩ := hrel
            obtain ⟨wq, rfl⟩ : ∃ wq : World, wq = wr := ⟨_, rfl⟩
            have HB3 := Lib.hid (HB2.out.trans (HV.out.mono HB2.out.size))
            have q4y := pw_cell_below HV.out r4
            by_cases hlj : j < i
            · have hbw : Below w.heap.size w wq := HB0.out.trans (HB3.out.mono HB0.out.size)
              obtain ⟨ad1, _, _, _, _, e1, hc0, _⟩ := at_T66 (Kd.C_below HC.out.rP hbw) i (by omega) (by omega)
              cases e1
              obtain ⟨ad1, _, _, _, _, e1, hd0, _⟩ := at_T66 (Kd.C_below HC.out.rP hbw) j (by omega) (by omega)
              cases e1
              simp only [Int.toNat_natCast] at hc0 hd0
              have hjt : j < P.length := by omega
              have HN := Lib.hid (fun h => bool_succ (p := fun m => decide ((rd_T66 P m).f0.toList = (rd_T66 P i).f0.toList)) HJ.out (k := j) h)
              have HY := Lib.hid (fun h => anyB_yes (p := fun m => decide ((rd_T66 P m).f0.toList = (rd_T66 P i).f0.toList)) hlj h)
              clear hbw
              generalize hx : (rd_T66 P i).f0 = x at *
              generalize hy : (rd_T66 P j).f0 = y at *
              have HX := Lib.hid hx
              have HYY := Lib.hid hy
              clear hx hy
              cases hne : (y.toList == x.toList)
              · have HN1 := Lib.hid (HN.out (decide_eq_false (beq_eq_false_iff_ne.1 hne)))
                go_wp2
                go_quiet (fail)
                go_wp2
                go_roundw
                case rel => exact ⟨j + 1, by go_num, hlj, HN1, Lib.hid (pw_below_drewN HV.out nq)⟩
                case measure => simp [intOf]; omega
              · have HF := Lib.hid (chk_proj HD.out t1 t4 HTS.out p8 hlt (projAt_no2 (show dupP P i = true by
                  unfold dupP; rw [HX.out]; exact HY.out (decide_eq_true (beq_iff_eq.1 hne)))))
                go_wp2
                go_quiet (fail)
                go_wp2
                go_ret
                exact ⟨by rw [HF.out]; rfl, HB0.out.trans (pw_below_drewN (HB3.out.mono HB0.out.size) nq)⟩
            · obtain rfl : j = i := by omega
              have HN := Lib.hid (all_succ (p := projAt n T P) HI.out (projAt_yes Y1.out (show dupP P j = false from anyB_no HJ.out)))
              go_wp2
              go_roundw
              case rel => exact ⟨j + 1, by go_num, hlt, HN, HB3⟩
              case measure => simp [intOf]; omega
        · obtain rfl : i = P.length := by omega
          have HPS := Lib.hid (projsOk_yes HI.out)
          have HB1 := Lib.hid (HB0.out.trans (HW.out.mono HB0.out.size))
          clear q0 q1 q2 q3 q4
          have HG := Lib.hid (good_of HD.out p8 HPS.out)
          clear HI HW HB0
          go_wp2
          go_loopw [8] (fun v wr => ∃ i : Nat, v = .int .i64 i ∧ i ≤ T.length ∧ Hid (∀ j : Nat, j < i → covB T P j = true) ∧ Hid (Below wp.heap.size wp wr)) (fun v _ => T.length - (intOf v).toNat)
          case atStart => exact ⟨0, rfl, Nat.zero_le _, Lib.hid (fun j hj => by omega), Lib.hid (Below.refl _ _)⟩
          case round =>
            obtain ⟨i, rfl, hi, HI, HW⟩ := hrel
            obtain ⟨wq, rfl⟩ : ∃ wq : World, wq = wr := ⟨_, rfl⟩
            have HCQ := Lib.hid (HC.out.below (HB1.out.trans (HW.out.mono HB1.out.size)))
            replace r0 := pw_cell_below HW.out r0
            replace r1 := pw_cell_below HW.out r1
            replace r2 := pw_cell_below HW.out r2
            replace r3 := pw_cell_below HW.out r3
            replace r4 := pw_cell_below HW.out r4
            by_cases hlt : i < T.length
            · go_wp2_with (fail)
              refine (covB2_calls (n := n) (s := s) (k := k) HCQ.out i (by omega) (by omega)).mono ?_
              rintro e w2 ⟨rfl, hd⟩
              have HB2 := Lib.hid (HW.out.trans (hd.mono HW.out.size))
              clear hd r0 r1 r2 r3 r4
              cases y1 : covB T P i
              · have HF := Lib.hid (chk_cov HD.out t1 t4 HTS.out p8 HPS.out hlt y1)
                clear y1
                go_wp2
                go_ret
                exact ⟨by rw [HF.out]; rfl, HB1.out.trans (HB2.out.mono HB1.out.size)⟩
              · have HN := Lib.hid (all_succ (p := fun j : Nat => covB T P j) HI.out y1)
                clear y1
                go_wp2
                go_roundw
                case rel => exact ⟨i + 1, by go_num, hlt, HN, HB2⟩
                case measure => simp [intOf]; omega
            · obtain rfl : i = T.length := by omega
              have HB2 := Lib.hid (HB1.out.trans (HW.out.mono HB1.out.size))
              have HCV := HI
              clear HI HW HB1
              obtain ⟨nn, rfl⟩ := Int.eq_ofNat_of_zero_le (show 0 ≤ n by omega)
              go_wp2
              go_loopw [10] (fun v wr => ∃ i : Nat, v = .int .i64 i ∧ i ≤ nn ∧ Hid (∀ j : Nat, j < i → ofAt nn s k P j = true) ∧ Hid (Below wq.heap.size wq wr)) (fun v _ => nn - (intOf v).toNat)
              case atStart => exact ⟨0, rfl, Nat.zero_le _, Lib.hid (fun j hj => by omega), Lib.hid (Below.refl _ _)⟩
              case round =>
                obtain ⟨i, rfl, hi, HI, HW⟩ := hrel
                obtain ⟨wt, rfl⟩ : ∃ wt : World, wt = wr := ⟨_, rfl⟩
                have HCT := Lib.hid (HC.out.below (HB2.out.trans (HW.out.mono HB2.out.size)))
                replace r0 := pw_cell_below HW.out r0
                replace r1 := pw_cell_below HW.out r1
                replace r2 := pw_cell_below HW.out r2
                replace r3 := pw_cell_below HW.out r3
                replace r4 := pw_cell_below HW.out r4
                by_cases hlt : i < nn
                · go_wp2_with (fail)
                  refine (of2_calls HG.out HCT.out i).mono ?_
                  rintro e w2 ⟨Av, cv, rfl, hle, hCv, hd⟩
                  have HB3 := Lib.hid (HW.out.trans (hd.mono HW.out.size))
                  have hm := hCv.2.1
                  clear hd r0 r1 r2 r3 r4 hCv
                  cases y1 : ofAt nn s k P i
                  · have HF := Lib.hid (chk_of HD.out t1 t4 HTS.out p8 HPS.out HCV.out (i := i) (by simpa using hlt) y1)
                    have d : (((ofL nn s k P i).length : Int) == 0) = true := by
                      unfold ofAt at y1
                      rw [Bool.not_eq_false', List.isEmpty_iff] at y1
                      rw [y1]; rfl
                    clear y1
                    go_wp2
                    go_ret
                    exact ⟨by rw [HF.out]; rfl, HB2.out.trans (HB3.out.mono HB2.out.size)⟩
                  · have HN := Lib.hid (all_succ (p := ofAt nn s k P) HI.out y1)
                    have d : (((ofL nn s k P i).length : Int) == 0) = false := by
                      unfold ofAt at y1
                      cases hq : ofL nn s k P i with
                      | nil => rw [hq] at y1; cases y1
                      | cons a b => rw [beq_eq_false_iff_ne]; simp; omega
                    clear y1
                    go_wp2
                    go_roundw
                    case rel => exact ⟨i + 1, by go_num, hlt, HN, HB3⟩
                    case measure => simp [intOf]; omega
                · obtain rfl : i = nn := by omega
                  have HF := Lib.hid (chk_ok HD.out t1 t4 HTS.out p8 HPS.out HCV.out (fun j hj => HI.out j (by simpa using hj)))
                  go_wp2
                  go_ret
                  exact ⟨by rw [HF.out]; rfl, HB2.out.trans (HW.out.mono HB2.out.size)⟩
end Go.Proofs.Ytnaaaldeadjohaa.Cat
