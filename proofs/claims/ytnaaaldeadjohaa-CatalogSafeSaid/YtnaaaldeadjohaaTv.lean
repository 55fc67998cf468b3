import Derived.Test.YtnaaaldeadjohaaTu
set_option linter.unusedVariables false
set_option linter.unusedSimpArgs false
namespace Go.Proofs.Ytnaaaldeadjohaa.Cat
open Go.RowKit Go.Shelf Go.Proofs Go.Proofs.YtnaaaldeadjohaaW.PrintWords Go.Proofs.Ytnaaaldeadjohaa.PCatalogLies
/-! ### The law CatalogLies -/
theorem Taken.good {n s k : Int} {T : List S79} {P : List S66} (h : Taken n s k T P) : Good n s k P := good_of h.head h.p8 h.projs
set_option maxHeartbeats 8000000 in
set_option maxRecDepth 100000 in
theorem CatalogLies_calls (n s k : Int) (T : List S79) (P : List S66) (A3 : Option Addr) (c3 : Nat) (A4 : Option Addr) (c4 : Nat) (a b : Int) (B : Option Addr) (d : Nat) (live : List Bool) (w : World) (h : CatR w T P A3 c3 A4 c4) (hl : Kd.bool.C w B live.length live) (hd : live.length ≤ d) :
    Calls Try.prog 4 #[catV n s k T P A3 c3 A4 c4, .agg #[.int .i64 a, .int .i64 b], .slice B live.length d] w fun e w' => e = .returned (.bool true) ∧ Below w.heap.size w w' := by
  have hA := ((Below.refl w.heap.size w).alloc (Nat.le_refl _) (.cells #[.int .i64 n, .int .i64 s, .int .i64 k, .slice A3 T.length c3, .slice A4 P.length c4] 25)).alloc (by simp) (.cells #[.int .i64 a, .int .i64 b] 31)
  have HA := Lib.hid hA
  have HCW := Lib.hid (h.below hA)
  have HLW := Lib.hid (Kd.C_below hl hA)
  have hq := CatBox.below (CatBox.new w n s k T P A3 c3 A4 c4) ((Below.refl _ (w.alloc (.cells #[.int .i64 n, .int .i64 s, .int .i64 k, .slice A3 T.length c3, .slice A4 P.length c4] 25))).alloc (Nat.le_refl _) (.cells #[.int .i64 a, .int .i64 b] 31))
  have HQ := Lib.hid hq
  obtain ⟨q0, q1, q2, q3, q4⟩ := hq
  have s0 : ((w.alloc (.cells #[.int .i64 n, .int .i64 s, .int .i64 k, .slice A3 T.length c3, .slice A4 P.length c4] 25)).alloc (.cells #[.int .i64 a, .int .i64 b] 31)).cell? ⟨w.heap.size + 1, 0, none⟩ = some (.int .i64 a) := by simp [go_sem]
  have s1 : ((w.alloc (.cells #[.int .i64 n, .int .i64 s, .int .i64 k, .slice A3 T.length c3, .slice A4 P.length c4] 25)).alloc (.cells #[.int .i64 a, .int .i64 b] 31)).cell? ⟨w.heap.size + 1, 1, none⟩ = some (.int .i64 b) := by simp [go_sem]
  clear hA h hl
  go_enter Try.func4, Try.ntmps4
  go_wp2_with (fail)
  generalize (w.alloc (.cells #[.int .i64 n, .int .i64 s, .int .i64 k, .slice A3 T.length c3, .slice A4 P.length c4] 25)).alloc (.cells #[.int .i64 a, .int .i64 b] 31) = W0 at *
  refine (check2_calls n s k T P _ c3 _ c4 _ HCW.out).mono ?_
  rintro e w1 ⟨rfl, hb⟩
  have HB1 := Lib.hid hb
  replace q0 := pw_cell_below hb q0
  replace q1 := pw_cell_below hb q1
  replace q2 := pw_cell_below hb q2
  replace q3 := pw_cell_below hb q3
  replace q4 := pw_cell_below hb q4
  clear hb
  by_cases hz : ¬ chk n s k T P = 0
  · have dz : (chk n s k T P == 0) = false := beq_eq_false_iff_ne.2 hz
    go_wp2_with (fail)
    refine (alive_calls _).mono ?_
    rintro e w2 ⟨rfl, hb⟩
    have HB2 := Lib.hid (HA.out.trans ((HB1.out.trans (hb.mono HB1.out.size)).mono HA.out.size))
    clear hb
    go_wp2
    go_ret
    exact ⟨rfl, HB2.out⟩
  replace hz := Decidable.not_not.1 hz
  have HT := Lib.hid (taken_of hz)
  have HG := Lib.hid HT.out.good
  rw [hz]
  clear hz
  go_wp2_with (fail)
  refine (segments_calls n s k T P _ c3 _ c4 w1 HG.out (HCW.out.below HB1.out)).mono ?_
  rintro e w2 ⟨AL, cL, rfl, hleL, hCL, hb⟩
  have HB2 := Lib.hid (HB1.out.trans (hb.mono HB1.out.size))
  have HCL := Lib.hid hCL
  have hml := hCL.2.1
  have HLL := Lib.hid hleL
  have HS0 := Lib.hid s0
  have HS1 := Lib.hid s1
  clear hb hCL q0 q1 q2 q3 q4 s0 s1
  go_wp2
  go_loopw [9] (fun v wr => ∃ i : Int, v = .int .i64 i ∧ -1 ≤ i ∧ i ≤ n + 1 ∧ Hid (Below w2.heap.size w2 wr)) (fun v _ => (n + 1 - intOf v).toNat)
  case atStart => exact ⟨-1, rfl, by omega, by have := HG.out.hn; omega, Lib.hid (Below.refl _ _)⟩
  case round =>
    obtain ⟨i, rfl, hi0, hi1, HW⟩ := hrel
    obtain ⟨wo, rfl⟩ : ∃ wo : World, wo = wr := ⟨_, rfl⟩
    have HB3 := Lib.hid (HB2.out.trans (HW.out.mono HB2.out.size))
    have HQ3 := Lib.hid (HQ.out.below HB3.out)
    have HC3 := Lib.hid (HCW.out.below HB3.out)
    obtain ⟨q0, q1, q2, q3, q4⟩ := HQ3.out
    by_cases hlt : i ≤ n
    · go_wp2
      have HBD := Lib.hid (show Below wo.heap.size wo wo from Below.refl _ wo)
      have HBN := Lib.hid (show Below wo.heap.size wo wo.drew from (Below.refl _ wo).drew)
      clear q0 q1 q2 q3 q4
      go_region_held3 (fun w' => w'.cell? ⟨w.heap.size, 0, none⟩ = some (.int .i64 n) ∧ w'.cell? ⟨w.heap.size, 1, none⟩ = some (.int .i64 s) ∧ w'.cell? ⟨w.heap.size, 2, none⟩ = some (.int .i64 k) ∧ w'.cell? ⟨w.heap.size, 3, none⟩ = some (.slice A3 T.length c3) ∧ w'.cell? ⟨w.heap.size, 4, none⟩ = some (.slice A4 P.length c4))
        (first | exact HQ3.out.below HBN.out | exact HQ3.out.below HBD.out)
        (first
          | (go_at_call 14; refine (of_calls n s k T P _ c3 _ c4 i _ HG.out (HC3.out.below HBN.out)).mono ?_; rintro e w4 ⟨A4', c4', rfl, hle4, hC4, hb⟩; have HLE4 := Lib.hid hle4; have HC4 := Lib.hid hC4; have HM4 := hC4.2.1; (try (have HC5' := Lib.hid (Kd.C_below HC5.out hb); clear HC5; have HC5 := HC5'; clear HC5')); have HBN2 := Lib.hid (HBN.out.trans (hb.mono HBN.out.size)); clear HBN; have HBN := HBN2; clear HBN2; clear hle4 hC4 hb)
          | (go_at_call 15; refine (of2_calls HG.out (HC3.out.below HBN.out) i).mono ?_; rintro e w5 ⟨A5', c5', rfl, hle5, hC5, hb⟩; have HLE5 := Lib.hid hle5; have HC5 := Lib.hid hC5; (try (have HC4' := Lib.hid (Kd.C_below HC4.out hb); clear HC4; have HC4 := HC4'; clear HC4')); have HBN2 := Lib.hid (HBN.out.trans (hb.mono HBN.out.size)); clear HBN; have HBN := HBN2; clear HBN2; clear hle5 hC5 hb)
          | (go_at_call 13; refine (sameSegs_calls A4' c4' (ofL n s k P i) A5' _ c5' _ rfl HC4.out HLE4.out HC5.out HLE5.out).mono ?_; rintro e w6 ⟨rfl, hdr⟩; have hb := Drawn0.below hdr; have HBN2 := Lib.hid (HBN.out.trans (hb.mono HBN.out.size)); clear HBN; have HBN := HBN2; clear HBN2; clear hb hdr))
      go_wp2
      have hw : wrap64 (i + 1) = i + 1 := by have := HG.out.hn; unfold wrap64; omega
      go_roundw
      case rel => exact ⟨i + 1, by rw [hw], by omega, by omega, Lib.hid (HW.out.trans (HBN.out.mono HW.out.size))⟩
      case measure => simp [intOf, hw]; omega
    · go_wp2
      have HS := Lib.hid (fun (w' : World) (hb : Below wo.heap.size wo w') => (show w'.cell? ⟨w.heap.size, 0, none⟩ = some (.int .i64 n) ∧ w'.cell? ⟨w.heap.size, 1, none⟩ = some (.int .i64 s) ∧ w'.cell? ⟨w.heap.size, 2, none⟩ = some (.int .i64 k) ∧ w'.cell? ⟨w.heap.size, 3, none⟩ = some (.slice A3 T.length c3) ∧ w'.cell? ⟨w.heap.size, 4, none⟩ = some (.slice A4 P.length c4) ∧ w'.cell? ⟨w.heap.size + 1, 0, none⟩ = some (.int .i64 a) ∧ w'.cell? ⟨w.heap.size + 1, 1, none⟩ = some (.int .i64 b) from ⟨pw_cell_below hb q0, pw_cell_below hb q1, pw_cell_below hb q2, pw_cell_below hb q3, pw_cell_below hb q4, pw_cell_below (HB3.out.trans (hb.mono HB3.out.size)) HS0.out, pw_cell_below (HB3.out.trans (hb.mono HB3.out.size)) HS1.out⟩))
      have HBD := Lib.hid (show Below wo.heap.size wo wo from Below.refl _ wo)
      have HBN := Lib.hid (show Below wo.heap.size wo wo.drew from (Below.refl _ wo).drew)
      have HL3 := Lib.hid (Kd.C_below HCL.out (HW.out))
      have HLV := Lib.hid (Kd.C_below HLW.out HB3.out)
      clear q0 q1 q2 q3 q4
      go_region_held3 (fun w' => w'.cell? ⟨w.heap.size, 0, none⟩ = some (.int .i64 n) ∧ w'.cell? ⟨w.heap.size, 1, none⟩ = some (.int .i64 s) ∧ w'.cell? ⟨w.heap.size, 2, none⟩ = some (.int .i64 k) ∧ w'.cell? ⟨w.heap.size, 3, none⟩ = some (.slice A3 T.length c3) ∧ w'.cell? ⟨w.heap.size, 4, none⟩ = some (.slice A4 P.length c4) ∧ w'.cell? ⟨w.heap.size + 1, 0, none⟩ = some (.int .i64 a) ∧ w'.cell? ⟨w.heap.size + 1, 1, none⟩ = some (.int .i64 b))
        (first | exact HS.out _ HBN.out | exact HS.out _ HBD.out)
        (first
          | (go_at_call 9; refine (alive_calls _).mono ?_; rintro e w3 ⟨rfl, hb⟩; (try (have HX' := Lib.hid (Kd.C_below HC4.out hb); clear HC4; have HC4 := HX'; clear HX')); (try (have HX' := Lib.hid (Kd.C_below HC7.out hb); clear HC7; have HC7 := HX'; clear HX')); (try (have HX' := Lib.hid (Kd.C_below HC8.out hb); clear HC8; have HC8 := HX'; clear HX')); have HBN2 := Lib.hid (HBN.out.trans (hb.mono HBN.out.size)); clear HBN; have HBN := HBN2; clear HBN2; clear hb)
          | (go_at_call 16; refine (segs2_calls HG.out (HC3.out.below HBN.out)).mono ?_; rintro e w4 ⟨A4', c4', rfl, hle4, hC4, hb⟩; (try (have HX' := Lib.hid (Kd.C_below HC4.out hb); clear HC4; have HC4 := HX'; clear HX')); (try (have HX' := Lib.hid (Kd.C_below HC7.out hb); clear HC7; have HC7 := HX'; clear HX')); (try (have HX' := Lib.hid (Kd.C_below HC8.out hb); clear HC8; have HC8 := HX'; clear HX')); have HLE4 := Lib.hid hle4; have HC4 := Lib.hid hC4; have HBN2 := Lib.hid (HBN.out.trans (hb.mono HBN.out.size)); clear HBN; have HBN := HBN2; clear HBN2; clear hle4 hC4 hb)
          | (go_at_call 13; refine (sameSegs_calls AL cL (segsL s P) A4' _ c4' _ rfl (Kd.C_below HL3.out HBN.out) HLL.out HC4.out HLE4.out).mono ?_; rintro e w6 ⟨rfl, hdr⟩; have hb := Drawn0.below hdr; (try (have HX' := Lib.hid (Kd.C_below HC4.out hb); clear HC4; have HC4 := HX'; clear HX')); (try (have HX' := Lib.hid (Kd.C_below HC7.out hb); clear HC7; have HC7 := HX'; clear HX')); (try (have HX' := Lib.hid (Kd.C_below HC8.out hb); clear HC8; have HC8 := HX'; clear HX')); have HBN2 := Lib.hid (HBN.out.trans (hb.mono HBN.out.size)); clear HBN; have HBN := HBN2; clear HBN2; clear hb hdr)
          | (go_at_call 18; refine (nodes_calls HG.out (HC3.out.below HBN.out) a b).mono ?_; rintro e w7 ⟨A7, c7, rfl, hle7, hC7, hb⟩; (try (have HX' := Lib.hid (Kd.C_below HC4.out hb); clear HC4; have HC4 := HX'; clear HX')); (try (have HX' := Lib.hid (Kd.C_below HC7.out hb); clear HC7; have HC7 := HX'; clear HX')); (try (have HX' := Lib.hid (Kd.C_below HC8.out hb); clear HC8; have HC8 := HX'; clear HX')); have HLE7 := Lib.hid hle7; have HC7 := Lib.hid hC7; have HBN2 := Lib.hid (HBN.out.trans (hb.mono HBN.out.size)); clear HBN; have HBN := HBN2; clear HBN2; clear hle7 hC7 hb)
          | (go_at_call 19; refine (nodes2_calls HG.out (HC3.out.below HBN.out) a b).mono ?_; rintro e w8 ⟨A8, c8, rfl, hle8, hC8, hb⟩; (try (have HX' := Lib.hid (Kd.C_below HC4.out hb); clear HC4; have HC4 := HX'; clear HX')); (try (have HX' := Lib.hid (Kd.C_below HC7.out hb); clear HC7; have HC7 := HX'; clear HX')); (try (have HX' := Lib.hid (Kd.C_below HC8.out hb); clear HC8; have HC8 := HX'; clear HX')); have HLE8 := Lib.hid hle8; have HC8 := Lib.hid hC8; have HBN2 := Lib.hid (HBN.out.trans (hb.mono HBN.out.size)); clear HBN; have HBN := HBN2; clear HBN2; clear hle8 hC8 hb)
          | (go_at_call 17; refine (sameInts_calls A7 c7 (nodesL n s k P a b) A8 _ c8 _ rfl HC7.out HLE7.out HC8.out HLE8.out).mono ?_; rintro e w9 ⟨rfl, hdr⟩; have hb := Drawn0.below hdr; (try (have HX' := Lib.hid (Kd.C_below HC4.out hb); clear HC4; have HC4 := HX'; clear HX')); (try (have HX' := Lib.hid (Kd.C_below HC7.out hb); clear HC7; have HC7 := HX'; clear HX')); (try (have HX' := Lib.hid (Kd.C_below HC8.out hb); clear HC8; have HC8 := HX'; clear HX')); have HBN2 := Lib.hid (HBN.out.trans (hb.mono HBN.out.size)); clear HBN; have HBN := HBN2; clear HBN2; clear hb hdr)
          | (go_at_call 20; refine (cov_calls n s k T P _ c3 _ c4 B d live _ HG.out (HC3.out.below HBN.out) (Kd.C_below HLV.out HBN.out) hd).mono ?_; rintro e wx ⟨rfl, hb⟩; (try (have HX' := Lib.hid (Kd.C_below HC4.out hb); clear HC4; have HC4 := HX'; clear HX')); (try (have HX' := Lib.hid (Kd.C_below HC7.out hb); clear HC7; have HC7 := HX'; clear HX')); (try (have HX' := Lib.hid (Kd.C_below HC8.out hb); clear HC8; have HC8 := HX'; clear HX')); have HBN2 := Lib.hid (HBN.out.trans (hb.mono HBN.out.size)); clear HBN; have HBN := HBN2; clear HBN2; clear hb)
          | (go_at_call 21; refine (cov2_calls HG.out (HC3.out.below HBN.out) B d live (Kd.C_below HLV.out HBN.out) hd).mono ?_; rintro e wy ⟨rfl, hb⟩; (try (have HX' := Lib.hid (Kd.C_below HC4.out hb); clear HC4; have HC4 := HX'; clear HX')); (try (have HX' := Lib.hid (Kd.C_below HC7.out hb); clear HC7; have HC7 := HX'; clear HX')); (try (have HX' := Lib.hid (Kd.C_below HC8.out hb); clear HC8; have HC8 := HX'; clear HX')); have HBN2 := Lib.hid (HBN.out.trans (hb.mono HBN.out.size)); clear HBN; have HBN := HBN2; clear HBN2; clear hb))
      all_goals
        go_wp2
        go_ret
        exact ⟨by simp, HA.out.trans ((HB3.out.trans (HBN.out.mono HB3.out.size)).mono HA.out.size)⟩
end Go.Proofs.Ytnaaaldeadjohaa.Cat
