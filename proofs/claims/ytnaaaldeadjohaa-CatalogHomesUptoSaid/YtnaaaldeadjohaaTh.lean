import Derived.Test.YtnaaaldeadjohaaTg
set_option linter.unusedVariables false
set_option linter.unusedSimpArgs false
namespace Go.Proofs.Ytnaaaldeadjohaa.Cat
open Go.RowKit Go.Proofs.YtnaaaldeadjohaaW.PrintWords Go.Proofs.Ytnaaaldeadjohaa.PCatalogLies
/-- A catalog's tables and projections, as they lie. -/
structure CatR (w : World) (T : List S79) (P : List S66) (A3 : Option Addr) (c3 : Nat) (A4 : Option Addr) (c4 : Nat) : Prop where
  rT : k79.C w A3 T.length T
  cT : T.length ≤ c3
  rP : k66.C w A4 P.length P
  cP : P.length ≤ c4
theorem CatR.below {w w1 : World} {T : List S79} {P : List S66} {A3 : Option Addr} {c3 : Nat} {A4 : Option Addr} {c4 : Nat} (h : CatR w T P A3 c3 A4 c4) (hb : Below w.heap.size w w1) : CatR w1 T P A3 c3 A4 c4 :=
  ⟨Kd.C_below h.rT hb, h.cT, Kd.C_below h.rP hb, h.cP⟩
/-- A projection's two lists. -/
structure ProjR (w : World) (p : S66) (A2 : Option Addr) (c2 : Nat) (A3 : Option Addr) (c3 : Nat) : Prop where
  r2 : (Kd.int .i64).C w A2 p.f2.length p.f2
  l2 : p.f2.length ≤ c2
  r3 : (Kd.int .i64).C w A3 p.f3.length p.f3
  l3 : p.f3.length ≤ c3
theorem ProjR.below {w w1 : World} {p : S66} {A2 : Option Addr} {c2 : Nat} {A3 : Option Addr} {c3 : Nat} (h : ProjR w p A2 c2 A3 c3) (hb : Below w.heap.size w w1) : ProjR w1 p A2 c2 A3 c3 :=
  ⟨Kd.C_below h.r2 hb, h.l2, Kd.C_below h.r3 hb, h.l3⟩
@[reducible] def catV (n s k : Int) (T : List S79) (P : List S66) (A3 : Option Addr) (c3 : Nat) (A4 : Option Addr) (c4 : Nat) : Value := .agg #[.int .i64 n, .int .i64 s, .int .i64 k, .slice A3 T.length c3, .slice A4 P.length c4]
@[reducible] def projV (p : S66) (A2 : Option Addr) (c2 : Nat) (A3 : Option Addr) (c3 : Nat) : Value := .agg #[.string p.f0, .int .i64 p.f1, .slice A2 p.f2.length c2, .slice A3 p.f3.length c3, .int .i64 p.f4, .int .i64 p.f5]
theorem projOk_name {n : Int} {T : List S79} {p : S66} (h : namedB p.f0 = false) : projOk n T p = false := by unfold projOk; rw [h]; rfl
theorem projOk_t0 {n : Int} {T : List S79} {p : S66} (h : p.f1 < 0) : projOk n T p = false := by unfold projOk; rw [decide_eq_false (show ¬ 0 ≤ p.f1 by omega)]; simp
theorem projOk_t1 {n : Int} {T : List S79} {p : S66} (h : (T.length : Int) ≤ p.f1) : projOk n T p = false := by unfold projOk; rw [decide_eq_false (show ¬ p.f1 < (T.length : Int) by omega)]; simp
theorem projOk_c0 {n : Int} {T : List S79} {p : S66} (h : p.f2.length = 0) : projOk n T p = false := by unfold projOk; rw [decide_eq_false (show ¬ p.f2.length ≠ 0 by omega)]; simp
theorem projOk_s0 {n : Int} {T : List S79} {p : S66} (h : p.f5 < 0) : projOk n T p = false := by unfold projOk; rw [decide_eq_false (show ¬ 0 ≤ p.f5 by omega)]; simp
theorem projOk_s1 {n : Int} {T : List S79} {p : S66} (h : n ≤ p.f5) : projOk n T p = false := by unfold projOk; rw [decide_eq_false (show ¬ p.f5 < n by omega)]; simp
theorem projOk_rest {n : Int} {T : List S79} {p : S66} (h1 : namedB p.f0 = true) (h2 : 0 ≤ p.f1) (h3 : p.f1 < T.length) (h4 : p.f2.length ≠ 0) :
    projOk n T p = (plOk p.f2 (rd_T79 T p.f1).f1.length && plOk p.f3 (rd_T79 T p.f1).f1.length && p.f2.contains p.f4 && p.f3.all (fun x => p.f2.contains x) && (decide (0 ≤ p.f5) && decide (p.f5 < n))) := by
  unfold projOk
  rw [h1, decide_eq_true h2, decide_eq_true h3, decide_eq_true h4]
  simp only [Bool.true_and, Bool.and_true]
  cases decide (0 ≤ p.f5) <;> cases decide (p.f5 < n) <;> simp
theorem all_take {l : List Int} {q : Int → Bool} (h : ∀ j, j < l.length → q (rd l j) = true) : l.all q = true := by
  rw [List.all_eq_true]
  intro x hx
  obtain ⟨i, hi, rfl⟩ := List.mem_iff_getElem.1 hx
  have := h i hi
  rwa [rd_nat l i hi] at this
theorem all_not {l : List Int} {q : Int → Bool} {j : Nat} (hj : j < l.length) (h : q (rd l j) = false) : l.all q = false := by
  cases e : l.all q
  · rfl
  · rw [List.all_eq_true] at e
    rw [rd_nat l j hj] at h
    rw [e _ (List.getElem_mem hj)] at h
    cases h
theorem namedB_0 {s : ByteArray} (h : s.size = 0) : namedB s = false := by unfold namedB; rw [decide_eq_false (by omega)]; rfl
theorem namedB_65 {s : ByteArray} (h : 64 < s.size) : namedB s = false := by unfold namedB; rw [decide_eq_false (show ¬ s.size ≤ 64 by omega)]; simp
theorem namedB_yes {s : ByteArray} (h : ¬ s.size = 0) (h' : ¬ 64 < s.size) : namedB s = true := by unfold namedB; rw [decide_eq_true (show 1 ≤ s.size by omega), decide_eq_true (show s.size ≤ 64 by omega)]; rfl
set_option maxHeartbeats 4000000 in
set_option maxRecDepth 100000 in
theorem projection2_calls (n s k : Int) (T : List S79) (P : List S66) (A3 : Option Addr) (c3 : Nat) (A4 : Option Addr) (c4 : Nat) (p : S66) (B2 : Option Addr) (d2 : Nat) (B3 : Option Addr) (d3 : Nat) (w : World)
    (hc : CatR w T P A3 c3 A4 c4) (hp : ProjR w p B2 d2 B3 d3) :
    Calls Try.prog 35 #[catV n s k T P A3 c3 A4 c4, projV p B2 d2 B3 d3] w fun e w' => e = .returned (.bool (projOk n T p)) ∧ Below w.heap.size w w' := by
  have HC := Lib.hid hc
  have HP := Lib.hid hp
  have hT : T.length ≤ 9223372036854775807 := hc.rT.2.1
  have h2 : p.f2.length ≤ 9223372036854775807 := hp.r2.2.1
  have h3 : p.f3.length ≤ 9223372036854775807 := hp.r3.2.1
  have HB := Lib.hid (((Below.refl w.heap.size w).alloc (Nat.le_refl _) (.cells #[.int .i64 n, .int .i64 s, .int .i64 k, .slice A3 T.length c3, .slice A4 P.length c4] 25)).alloc (by simp) (.cells #[.string p.f0, .int .i64 p.f1, .slice B2 p.f2.length d2, .slice B3 p.f3.length d3, .int .i64 p.f4, .int .i64 p.f5] 66))
  clear hc hp
  by_cases c1 : p.f0.size = 0
  · have HF := Lib.hid (projOk_name (n := n) (T := T) (namedB_0 c1))
    have d : ((p.f0.size : Int) == 0) = true := beq_iff_eq.2 (by omega)
    clear c1
    go_enter Try.func35, Try.ntmps35
    go_wp2
    go_ret
    exact ⟨by rw [HF.out]; rfl, HB.out⟩
  have b1 : ((p.f0.size : Int) == 0) = false := beq_eq_false_iff_ne.2 (by omega)
  by_cases c2 : 64 < p.f0.size
  · have HF := Lib.hid (projOk_name (n := n) (T := T) (namedB_65 c2))
    have d : decide ((64 : Int) < (p.f0.size : Int)) = true := decide_eq_true (by omega)
    clear c1 c2
    go_enter Try.func35, Try.ntmps35
    go_wp2
    go_ret
    exact ⟨by rw [HF.out]; rfl, HB.out⟩
  have b2 : decide ((64 : Int) < (p.f0.size : Int)) = false := decide_eq_false (by omega)
  have HN := Lib.hid (namedB_yes c1 c2)
  clear c1 c2
  by_cases c3' : p.f1 < 0
  · have HF := Lib.hid (projOk_t0 (n := n) (T := T) c3')
    go_enter Try.func35, Try.ntmps35
    go_wp2
    go_ret
    exact ⟨by rw [HF.out]; rfl, HB.out⟩
  have b3 : decide (p.f1 < 0) = false := decide_eq_false c3'
  by_cases c4' : (T.length : Int) ≤ p.f1
  · have HF := Lib.hid (projOk_t1 (n := n) (T := T) c4')
    go_enter Try.func35, Try.ntmps35
    go_wp2
    go_ret
    exact ⟨by rw [HF.out]; rfl, HB.out⟩
  have b4 : decide ((T.length : Int) ≤ p.f1) = false := decide_eq_false c4'
  by_cases c5 : p.f2.length = 0
  · have HF := Lib.hid (projOk_c0 (n := n) (T := T) c5)
    have d : ((p.f2.length : Int) == 0) = true := beq_iff_eq.2 (by omega)
    clear c5
    go_enter Try.func35, Try.ntmps35
    go_wp2
    go_ret
    exact ⟨by rw [HF.out]; rfl, HB.out⟩
  have b5 : ((p.f2.length : Int) == 0) = false := beq_eq_false_iff_ne.2 (by omega)
  have HR := Lib.hid (projOk_rest (n := n) (T := T) HN.out (show 0 ≤ p.f1 by omega) (by omega) c5)
  clear c5
  obtain ⟨ad, A1, e1, E1, hc1, hc2, hl1, hC1⟩ := at_T79 (Kd.C_below HC.out.rT HB.out) p.f1 (by omega) (by omega)
  cases E1
  have hi0 : 0 ≤ p.f1 := by omega
  have hi1 : p.f1 < (T.length : Int) := by omega
  go_enter Try.func35, Try.ntmps35
  have hCP := Lib.hid (HC.out.below HB.out)
  have hPP := Lib.hid (HP.out.below HB.out)
  go_wp2_with (fail)
  have q2 : ((w.alloc (.cells #[.int .i64 n, .int .i64 s, .int .i64 k, .slice (some ad) T.length c3, .slice A4 P.length c4] 25)).alloc (.cells #[.string p.f0, .int .i64 p.f1, .slice B2 p.f2.length d2, .slice B3 p.f3.length d3, .int .i64 p.f4, .int .i64 p.f5] 66)).cell? ⟨w.heap.size + 1, 2, none⟩ = some (.slice B2 p.f2.length d2) := by simp [go_sem]
  have q3 : ((w.alloc (.cells #[.int .i64 n, .int .i64 s, .int .i64 k, .slice (some ad) T.length c3, .slice A4 P.length c4] 25)).alloc (.cells #[.string p.f0, .int .i64 p.f1, .slice B2 p.f2.length d2, .slice B3 p.f3.length d3, .int .i64 p.f4, .int .i64 p.f5] 66)).cell? ⟨w.heap.size + 1, 3, none⟩ = some (.slice B3 p.f3.length d3) := by simp [go_sem]
  have q4 : ((w.alloc (.cells #[.int .i64 n, .int .i64 s, .int .i64 k, .slice (some ad) T.length c3, .slice A4 P.length c4] 25)).alloc (.cells #[.string p.f0, .int .i64 p.f1, .slice B2 p.f2.length d2, .slice B3 p.f3.length d3, .int .i64 p.f4, .int .i64 p.f5] 66)).cell? ⟨w.heap.size + 1, 4, none⟩ = some (.int .i64 p.f4) := by simp [go_sem]
  have q5 : ((w.alloc (.cells #[.int .i64 n, .int .i64 s, .int .i64 k, .slice (some ad) T.length c3, .slice A4 P.length c4] 25)).alloc (.cells #[.string p.f0, .int .i64 p.f1, .slice B2 p.f2.length d2, .slice B3 p.f3.length d3, .int .i64 p.f4, .int .i64 p.f5] 66)).cell? ⟨w.heap.size + 1, 5, none⟩ = some (.int .i64 p.f5) := by simp [go_sem]
  have q0 : ((w.alloc (.cells #[.int .i64 n, .int .i64 s, .int .i64 k, .slice (some ad) T.length c3, .slice A4 P.length c4] 25)).alloc (.cells #[.string p.f0, .int .i64 p.f1, .slice B2 p.f2.length d2, .slice B3 p.f3.length d3, .int .i64 p.f4, .int .i64 p.f5] 66)).cell? ⟨w.heap.size, 0, none⟩ = some (.int .i64 n) := by simp [go_sem]
  generalize ((w.alloc (.cells #[.int .i64 n, .int .i64 s, .int .i64 k, .slice (some ad) T.length c3, .slice A4 P.length c4] 25)).alloc (.cells #[.string p.f0, .int .i64 p.f1, .slice B2 p.f2.length d2, .slice B3 p.f3.length d3, .int .i64 p.f4, .int .i64 p.f5] 66)) = W0 at *
  clear hc1 hc2 hC1
  refine (places_calls B2 p.f2 d2 _ _ hPP.out.r2 hPP.out.l2).mono ?_
  rintro e w1 ⟨rfl, h1⟩
  generalize hy1 : plOk p.f2 (rd_T79 T p.f1).f1.length = y1 at *
  have hb1 := Drawn0.below h1
  have q2' := pw_cell_below hb1 q2
  have q3' := pw_cell_below hb1 q3
  have q4' := pw_cell_below hb1 q4
  have H1 := Lib.hid h1
  have HY1 := Lib.hid hy1
  clear h1 hb1 hy1
  go_wp2_with (fail)
  refine (places_calls B3 p.f3 d3 _ _ (Kd.C_below hPP.out.r3 (Drawn0.below H1.out)) hPP.out.l3).mono ?_
  rintro e w2 ⟨rfl, h2'⟩
  clear q2' q3' q4'
  have h2'' := drawn_trans H1.out h2'
  have hb1 := Drawn0.below h2''
  have q2' := pw_cell_below hb1 q2
  have q4' := pw_cell_below hb1 q4
  have H2 := Lib.hid h2''
  generalize hy2 : plOk p.f3 (rd_T79 T p.f1).f1.length = y2 at *
  have HY2 := Lib.hid hy2
  clear h2' h2'' hb1 hy2 H1
  go_wp2_with (fail)
  refine (in_calls B2 _ d2 p.f2 _ _ rfl (Kd.C_below hPP.out.r2 (Drawn0.below H2.out)) hPP.out.l2).mono ?_
  rintro e w3 ⟨rfl, h2'⟩
  have h2'' := drawn_trans H2.out h2'
  clear q2' q4'
  have H3 := Lib.hid h2''
  generalize hy3 : p.f2.contains p.f4 = y3 at *
  have HY3 := Lib.hid hy3
  clear h2' h2'' hy3 H2
  go_wp2_with (fail)
  go_loopw [9] (fun i wr => ∃ j : Nat, i = .int .i64 j ∧ j ≤ p.f3.length ∧ Hid (∀ i, i < j → p.f2.contains (rd p.f3 i) = true) ∧ Drawn0 W0 wr) (fun i _ => p.f3.length - (intOf i).toNat)
  case atStart => exact ⟨0, rfl, Nat.zero_le _, Lib.hid (fun j hj => by omega), H3.out⟩
  case round =>
    obtain ⟨j, rfl, hj, HJ, HW⟩ := hrel
    have hbw := Drawn0.below HW
    have q2' := pw_cell_below hbw q2
    have q3' := pw_cell_below hbw q3
    by_cases hlt : j < p.f3.length
    · obtain ⟨ad3, E3, hcell⟩ := int_at (Kd.C_below hPP.out.r3 hbw) j hlt
      have HX := Lib.hid (rd_nat p.f3 j hlt)
      have HI2 := Lib.hid (Kd.C_below hPP.out.r2 hbw)
      clear hbw
      cases E3
      generalize hx : p.f3[j] = x at *
      clear hx
      have hj0 : (0 : Int) ≤ (j : Int) := by omega
      have hj1 : (j : Int) < (p.f3.length : Int) := by omega
      go_wp2_with (fail)
      go_quiet ((go_at_call 22; exact quiet_drawn (in_calls _ _ d2 p.f2 x _ rfl (Kd.C_below HI2.out (Drawn0.below ⟨⟨_, rfl⟩⟩)) hPP.out.l2)))
      have HW1 := HW.step nq
      clear HW
      cases hb : p.f2.contains x
      · have HA := Lib.hid (all_not (q := fun x => p.f2.contains x) hlt (by rw [HX.out]; exact hb))
        have HF := Lib.hid (show projOk n T p = false by rw [HR.out, HA.out]; simp)
        clear hb
        go_wp2
        go_ret
        exact ⟨by rw [HF.out]; rfl, HB.out.trans ((Drawn0.below HW1).mono HB.out.size)⟩
      · have HA := Lib.hid (all_succ (p := fun i => p.f2.contains (rd p.f3 i)) HJ.out (k := j) (by show p.f2.contains (rd p.f3 j) = true; rw [HX.out]; exact hb))
        clear hb
        go_wp2
        go_roundw
        case rel => exact ⟨j + 1, by go_num, hlt, HA, HW1⟩
        case measure => simp [intOf]; omega
    · obtain rfl : j = p.f3.length := by omega
      have q5' := pw_cell_below hbw q5
      have q0' := pw_cell_below hbw q0
      have HA := Lib.hid (all_take (q := fun x => p.f2.contains x) HJ.out)
      have HF : Hid (projOk n T p = (y1 && y2 && y3 && (decide (0 ≤ p.f5) && decide (p.f5 < n)))) := Lib.hid (by rw [HR.out, HA.out]; simp)
      have HBW := Lib.hid (HB.out.trans (hbw.mono HB.out.size))
      clear hbw
      go_wp2
      all_goals
        go_ret
        exact ⟨by rw [HF.out]; first | rfl | (simp [*]; done) | (simp [*]; omega), HBW.out⟩
end Go.Proofs.Ytnaaaldeadjohaa.Cat
