import Derived.Test.YtnaaaldeadjohaaMa
import Derived.Laws.EntriesVeiled
import Derived.Shelf.Abstract
import Derived.Lib.AppendZeros
import Derived.RangeFuncNested
import Derived.RangeFuncBound
import Derived.RangeFuncCalls
import Derived.RangeFuncLeaves
import Derived.Shelf.RegionOpen
import Derived.OwnWalkIn
import Derived.TacticsInMore
import Derived.LoopNIn
import Derived.LoopIn
set_option linter.unusedVariables false
set_option linter.unusedSimpArgs false
namespace Go.Proofs.Ytnaaaldeadjohaa.Cat
open Go.RowKit Go.Proofs.YtnaaaldeadjohaaW.PrintWords Go.Proofs.Ytnaaaldeadjohaa.PCatalogLies
/-- A catalog's tables and projections, as they lie. -/
structure CatR (w : World) (T : List S79) (P : List S66) (A3 : Option Addr) (c3 : Nat) (A4 : Option Addr) (c4 : Nat) : Prop where
  rT : k79.C w A3 T.length T
  cT : T.length ≤ c3
  rP : k66.C w A4 P.length P
  cP : P.length ≤ c4
theorem CatR.below {w w1 : World} {T : List S79} {P : List S66} {A3 : Option Addr} {c3 : Nat} {A4 : Option Addr} {c4 : Nat} (h : CatR w T P A3 c3 A4 c4) (hb : Below w.heap.size w w1) : CatR w1 T P A3 c3 A4 c4 :=
  ⟨Kd.C_below h.rT hb, h.cT, Kd.C_below h.rP hb, h.cP⟩
/-- A projection's two lists. -/
structure ProjR (w : World) (p : S66) (A2 : Option Addr) (c2 : Nat) (A3 : Option Addr) (c3 : Nat) : Prop where
  r2 : (Kd.int .i64).C w A2 p.f2.length p.f2
  l2 : p.f2.length ≤ c2
  r3 : (Kd.int .i64).C w A3 p.f3.length p.f3
  l3 : p.f3.length ≤ c3
theorem ProjR.below {w w1 : World} {p : S66} {A2 : Option Addr} {c2 : Nat} {A3 : Option Addr} {c3 : Nat} (h : ProjR w p A2 c2 A3 c3) (hb : Below w.heap.size w w1) : ProjR w1 p A2 c2 A3 c3 :=
  ⟨Kd.C_below h.r2 hb, h.l2, Kd.C_below h.r3 hb, h.l3⟩
@[reducible] def catV (n s k : Int) (T : List S79) (P : List S66) (A3 : Option Addr) (c3 : Nat) (A4 : Option Addr) (c4 : Nat) : Value := .agg #[.int .i64 n, .int .i64 s, .int .i64 k, .slice A3 T.length c3, .slice A4 P.length c4]
@[reducible] def projV (p : S66) (A2 : Option Addr) (c2 : Nat) (A3 : Option Addr) (c3 : Nat) : Value := .agg #[.string p.f0, .int .i64 p.f1, .slice A2 p.f2.length c2, .slice A3 p.f3.length c3, .int .i64 p.f4, .int .i64 p.f5]
theorem projOk_name {n : Int} {T : List S79} {p : S66} (h : namedB p.f0 = false) : projOk n T p = false := by unfold projOk; rw [h]; rfl
theorem projOk_t0 {n : Int} {T : List S79} {p : S66} (h : p.f1 < 0) : projOk n T p = false := by unfold projOk; rw [decide_eq_false (show ¬ 0 ≤ p.f1 by omega)]; simp
theorem projOk_t1 {n : Int} {T : List S79} {p : S66} (h : (T.length : Int) ≤ p.f1) : projOk n T p = false := by unfold projOk; rw [decide_eq_false (show ¬ p.f1 < (T.length : Int) by omega)]; simp
theorem projOk_c0 {n : Int} {T : List S79} {p : S66} (h : p.f2.length = 0) : projOk n T p = false := by unfold projOk; rw [decide_eq_false (show ¬ p.f2.length ≠ 0 by omega)]; simp
theorem projOk_s0 {n : Int} {T : List S79} {p : S66} (h : p.f5 < 0) : projOk n T p = false := by unfold projOk; rw [decide_eq_false (show ¬ 0 ≤ p.f5 by omega)]; simp
theorem projOk_s1 {n : Int} {T : List S79} {p : S66} (h : n ≤ p.f5) : projOk n T p = false := by unfold projOk; rw [decide_eq_false (show ¬ p.f5 < n by omega)]; simp
theorem projOk_rest {n : Int} {T : List S79} {p : S66} (h1 : namedB p.f0 = true) (h2 : 0 ≤ p.f1) (h3 : p.f1 < T.length) (h4 : p.f2.length ≠ 0) :
    projOk n T p = (plOk p.f2 (rd_T79 T p.f1).f1.length && plOk p.f3 (rd_T79 T p.f1).f1.length && p.f2.contains p.f4 && p.f3.all (fun x => p.f2.contains x) && (decide (0 ≤ p.f5) && decide (p.f5 < n))) := by
  unfold projOk
  rw [h1, decide_eq_true h2, decide_eq_true h3, decide_eq_true h4]
  simp only [Bool.true_and, Bool.and_true]
  cases decide (0 ≤ p.f5) <;> cases decide (p.f5 < n) <;> simp
theorem all_take {l : List Int} {q : Int → Bool} (h : ∀ j, j < l.length → q (rd l j) = true) : l.all q = true := by
  rw [List.all_eq_true]
  intro x hx
  obtain ⟨i, hi, rfl⟩ := List.mem_iff_getElem.1 hx
  have := h i hi
  rwa [rd_nat l i hi] at this
theorem all_not {l : List Int} {q : Int → Bool} {j : Nat} (hj : j < l.length) (h : q (rd l j) = false) : l.all q = false := by
  cases e : l.all q
  · rfl
  · rw [List.all_eq_true] at e
    rw [rd_nat l j hj] at h
    rw [e _ (List.getElem_mem hj)] at h
    cases h
theorem namedB_0 {s : ByteArray} (h : s.size = 0) : namedB s = false := by unfold namedB; rw [decide_eq_false (by omega)]; rfl
theorem namedB_65 {s : ByteArray} (h : 64 < s.size) : namedB s = false := by unfold namedB; rw [decide_eq_false (show ¬ s.size ≤ 64 by omega)]; simp
theorem namedB_yes {s : ByteArray} (h : ¬ s.size = 0) (h' : ¬ 64 < s.size) : namedB s = true := by unfold namedB; rw [decide_eq_true (show 1 ≤ s.size by omega), decide_eq_true (show s.size ≤ 64 by omega)]; rfl
set_option maxHeartbeats 4000000 in
set_option maxRecDepth 100000 in
theorem projection2_calls (n s k : Int) (T : List S79) (P : List S66) (A3 : Option Addr) (c3 : Nat) (A4 : Option Addr) (c4 : Nat) (p : S66) (B2 : Option Addr) (d2 : Nat) (B3 : Option Addr) (d3 : Nat) (w : World)
    (hc : CatR w T P A3 c3 A4 c4) (hp : ProjR w p B2 d2 B3 d3) :
    Calls Try.prog 35 #[catV n s k T P A3 c3 A4 c4, projV p B2 d2 B3 d3] w fun e w' => e = .returned (.bool (projOk n T p)) ∧ Below w.heap.size w w' := by
  have HC := Lib.hid hc
  have HP := Lib.hid hp
  have hT : T.length ≤ 9223372036854775807 := hc.rT.2.1
  have h2 : p.f2.length ≤ 9223372036854775807 := hp.r2.2.1
  have h3 : p.f3.length ≤ 9223372036854775807 := hp.r3.2.1
  have HB := Lib.hid (((Below.refl w.heap.size w).alloc (Nat.le_refl _) (.cells #[.int .i64 n, .int .i64 s, .int .i64 k, .slice A3 T.length c3, .slice A4 P.length c4] 25)).alloc (by simp) (.cells #[.string p.f0, .int .i64 p.f1, .slice B2 p.f2.length d2, .slice B3 p.f3.length d3, .int .i64 p.f4, .int .i64 p.f5] 66))
  clear hc hp
  by_cases c1 : p.f0.size = 0
  · have HF := Lib.hid (projOk_name (n := n) (T := T) (namedB_0 c1))
    have d : ((p.f0.size : Int) == 0) = true := beq_iff_eq.2 (by omega)
    clear c1
    go_enter Try.func35, Try.ntmps35
    go_wp2
    go_ret
    exact ⟨by rw [HF.out]; rfl, HB.out⟩
  have b1 : ((p.f0.size : Int) == 0) = false := beq_eq_false_iff_ne.2 (by omega)
  by_cases c2 : 64 < p.f0.size
  · have HF := Lib.hid (projOk_name (n := n) (T := T) (namedB_65 c2))
    have d : decide ((64 : Int) < (p.f0.size : Int)) = true := decide_eq_true (by omega)
    clear c1 c2
    go_enter Try.func35, Try.ntmps35
    go_wp2
    go_ret
    exact ⟨by rw [HF.out]; rfl, HB.out⟩
  have b2 : decide ((64 : Int) < (p.f0.size : Int)) = false := decide_eq_false (by omega)
  have HN := Lib.hid (namedB_yes c1 c2)
  clear c1 c2
  by_cases c3' : p.f1 < 0
  · have HF := Lib.hid (projOk_t0 (n := n) (T := T) c3')
    go_enter Try.func35, Try.ntmps35
    go_wp2
    go_ret
    exact ⟨by rw [HF.out]; rfl, HB.out⟩
  have b3 : decide (p.f1 < 0) = false := decide_eq_false c3'
  by_cases c4' : (T.length : Int) ≤ p.f1
  · have HF := Lib.hid (projOk_t1 (n := n) (T := T) c4')
    go_enter Try.func35, Try.ntmps35
    go_wp2
    go_ret
    exact ⟨by rw [HF.out]; rfl, HB.out⟩
  have b4 : decide ((T.length : Int) ≤ p.f1) = false := decide_eq_false c4'
  by_cases c5 : p.f2.length = 0
  · have HF := Lib.hid (projOk_c0 (n := n) (T := T) c5)
    have d : ((p.f2.length : Int) == 0) = true := beq_iff_eq.2 (by omega)
    clear c5
    go_enter Try.func35, Try.ntmps35
    go_wp2
    go_ret
    exact ⟨by rw [HF.out]; rfl, HB.out⟩
  have b5 : ((p.f2.length : Int) == 0) = false := beq_eq_false_iff_ne.2 (by omega)
  have HR := Lib.hid (projOk_rest (n := n) (T := T) HN.out (show 0 ≤ p.f1 by omega) (by omega) c5)
  clear c5
  obtain ⟨ad, A1, e1, E1, hc1, hc2, hl1, hC1⟩ := at_T79 (Kd.C_below HC.out.rT HB.out) p.f1 (by omega) (by omega)
  cases E1
  have hi0 : 0 ≤ p.f1 := by omega
  have hi1 : p.f1 < (T.length : Int) := by omega
  go_enter Try.func35, Try.ntmps35
  have hCP := Lib.hid (HC.out.below HB.out)
  have hPP := Lib.hid (HP.out.below HB.out)
  go_wp2_with (fail)
  have q2 : ((w.alloc (.cells #[.int .i64 n, .int .i64 s, .int .i64 k, .slice (some ad) T.length c3, .slice A4 P.length c4] 25)).alloc (.cells #[.string p.f0, .int .i64 p.f1, .slice B2 p.f2.length d2, .slice B3 p.f3.length d3, .int .i64 p.f4, .int .i64 p.f5] 66)).cell? ⟨w.heap.size + 1, 2, none⟩ = some (.slice B2 p.f2.length d2) := by simp [go_sem]
  have q3 : ((w.alloc (.cells #[.int .i64 n, .int .i64 s, .int .i64 k, .slice (some ad) T.length c3, .slice A4 P.length c4] 25)).alloc (.cells #[.string p.f0, .int .i64 p.f1, .slice B2 p.f2.length d2, .slice B3 p.f3.length d3, .int .i64 p.f4, .int .i64 p.f5] 66)).cell? ⟨w.heap.size + 1, 3, none⟩ = some (.slice B3 p.f3.length d3) := by simp [go_sem]
  have q4 : ((w.alloc (.cells #[.int .i64 n, .int .i64 s, .int .i64 k, .slice (some ad) T.length c3, .slice A4 P.length c4] 25)).alloc (.cells #[.string p.f0, .int .i64 p.f1, .slice B2 p.f2.length d2, .slice B3 p.f3.length d3, .int .i64 p.f4, .int .i64 p.f5] 66)).cell? ⟨w.heap.size + 1, 4, none⟩ = some (.int .i64 p.f4) := by simp [go_sem]
  have q5 : ((w.alloc (.cells #[.int .i64 n, .int .i64 s, .int .i64 k, .slice (some ad) T.length c3, .slice A4 P.length c4] 25)).alloc (.cells #[.string p.f0, .int .i64 p.f1, .slice B2 p.f2.length d2, .slice B3 p.f3.length d3, .int .i64 p.f4, .int .i64 p.f5] 66)).cell? ⟨w.heap.size + 1, 5, none⟩ = some (.int .i64 p.f5) := by simp [go_sem]
  have q0 : ((w.alloc (.cells #[.int .i64 n, .int .i64 s, .int .i64 k, .slice (some ad) T.length c3, .slice A4 P.length c4] 25)).alloc (.cells #[.string p.f0, .int .i64 p.f1, .slice B2 p.f2.length d2, .slice B3 p.f3.length d3, .int .i64 p.f4, .int .i64 p.f5] 66)).cell? ⟨w.heap.size, 0, none⟩ = some (.int .i64 n) := by simp [go_sem]
  generalize ((w.alloc (.cells #[.int .i64 n, .int .i64 s, .int .i64 k, .slice (some ad) T.length c3, .slice A4 P.length c4] 25)).alloc (.cells #[.string p.f0, .int .i64 p.f1, .slice B2 p.f2.length d2, .slice B3 p.f3.length d3, .int .i64 p.f4, .int .i64 p.f5] 66)) = W0 at *
  clear hc1 hc2 hC1
  refine (places_calls B2 p.f2 d2 _ _ hPP.out.r2 hPP.out.l2).mono ?_
  rintro e w1 ⟨rfl, h1⟩
  generalize hy1 : plOk p.f2 (rd_T79 T p.f1).f1.length = y1 at *
  have hb1 := Drawn0.below h1
  have q2' := pw_cell_below hb1 q2
  have q3' := pw_cell_below hb1 q3
  have q4' := pw_cell_below hb1 q4
  have H1 := Lib.hid h1
  have HY1 := Lib.hid hy1
  clear h1 hb1 hy1
  go_wp2_with (fail)
  refine (places_calls B3 p.f3 d3 _ _ (Kd.C_below hPP.out.r3 (Drawn0.below H1.out)) hPP.out.l3).mono ?_
  rintro e w2 ⟨rfl, h2'⟩
  clear q2' q3' q4'
  have h2'' := drawn_trans H1.out h2'
  have hb1 := Drawn0.below h2''
  have q2' := pw_cell_below hb1 q2
  have q4' := pw_cell_below hb1 q4
  have H2 := Lib.hid h2''
  generalize hy2 : plOk p.f3 (rd_T79 T p.f1).f1.length = y2 at *
  have HY2 := Lib.hid hy2
  clear h2' h2'' hb1 hy2 H1
  go_wp2_with (fail)
  refine (in_calls B2 _ d2 p.f2 _ _ rfl (Kd.C_below hPP.out.r2 (Drawn0.below H2.out)) hPP.out.l2).mono ?_
  rintro e w3 ⟨rfl, h2'⟩
  have h2'' := drawn_trans H2.out h2'
  clear q2' q4'
  have H3 := Lib.hid h2''
  generalize hy3 : p.f2.contains p.f4 = y3 at *
  have HY3 := Lib.hid hy3
  clear h2' h2'' hy3 H2
  go_wp2_with (fail)
  go_loopw [9] (fun i wr => ∃ j : Nat, i = .int .i64 j ∧ j ≤ p.f3.length ∧ Hid (∀ i, i < j → p.f2.contains (rd p.f3 i) = true) ∧ Drawn0 W0 wr) (fun i _ => p.f3.length - (intOf i).toNat)
  case atStart => exact ⟨0, rfl, Nat.zero_le _, Lib.hid (fun j hj => by omega), H3.out⟩
  case round =>
    obtain ⟨j, rfl, hj, HJ, HW⟩ := hrel
    have hbw := Drawn0.below HW
    have q2' := pw_cell_below hbw q2
    have q3' := pw_cell_below hbw q3
    by_cases hlt : j < p.f3.length
    · obtain ⟨ad3, E3, hcell⟩ := int_at (Kd.C_below hPP.out.r3 hbw) j hlt
      have HX := Lib.hid (rd_nat p.f3 j hlt)
      have HI2 := Lib.hid (Kd.C_below hPP.out.r2 hbw)
      clear hbw
      cases E3
      generalize hx : p.f3[j] = x at *
      clear hx
      have hj0 : (0 : Int) ≤ (j : Int) := by omega
      have hj1 : (j : Int) < (p.f3.length : Int) := by omega
      go_wp2_with (fail)
      go_quiet ((go_at_call 22; exact quiet_drawn (in_calls _ _ d2 p.f2 x _ rfl (Kd.C_below HI2.out (Drawn0.below ⟨⟨_, rfl⟩⟩)) hPP.out.l2)))
      have HW1 := HW.step nq
      clear HW
      cases hb : p.f2.contains x
      · have HA := Lib.hid (all_not (q := fun x => p.f2.contains x) hlt (by rw [HX.out]; exact hb))
        have HF := Lib.hid (show projOk n T p = false by rw [HR.out, HA.out]; simp)
        clear hb
        go_wp2
        go_ret
        exact ⟨by rw [HF.out]; rfl, HB.out.trans ((Drawn0.below HW1).mono HB.out.size)⟩
      · have HA := Lib.hid (all_succ (p := fun i => p.f2.contains (rd p.f3 i)) HJ.out (k := j) (by show p.f2.contains (rd p.f3 j) = true; rw [HX.out]; exact hb))
        clear hb
        go_wp2
        go_roundw
        case rel => exact ⟨j + 1, by go_num, hlt, HA, HW1⟩
        case measure => simp [intOf]; omega
    · obtain rfl : j = p.f3.length := by omega
      have q5' := pw_cell_below hbw q5
      have q0' := pw_cell_below hbw q0
      have HA := Lib.hid (all_take (q := fun x => p.f2.contains x) HJ.out)
      have HF : Hid (projOk n T p = (y1 && y2 && y3 && (decide (0 ≤ p.f5) && decide (p.f5 < n)))) := Lib.hid (by rw [HR.out, HA.out]; simp)
      have HBW := Lib.hid (HB.out.trans (hbw.mono HB.out.size))
      clear hbw
      go_wp2
      all_goals
        go_ret
        exact ⟨by rw [HF.out]; first | rfl | (simp [*]; done) | (simp [*]; omega), HBW.out⟩
end Go.Proofs.Ytnaaaldeadjohaa.Cat

set_option linter.unusedVariables false
set_option linter.unusedSimpArgs false
namespace Go.Proofs.Ytnaaaldeadjohaa.Cat
open Go.RowKit Go.Proofs.YtnaaaldeadjohaaW.PrintWords Go.Proofs.Ytnaaaldeadjohaa.PCatalogLies
theorem named3_calls (s : ByteArray) (w : World) : Calls Try.prog 52 #[.string s] w fun e w' => e = .returned (.bool (namedB s)) ∧ Drawn0 w w' := by
  have e1 : (decide ((1 : Int) ≤ (s.size : Int)) = decide (1 ≤ s.size)) := decide_eq_decide.2 (by omega)
  have e2 : (decide ((s.size : Int) ≤ 64) = decide (s.size ≤ 64)) := decide_eq_decide.2 (by omega)
  have HF := Lib.hid (show namedB s = (decide ((1 : Int) ≤ (s.size : Int)) && decide ((s.size : Int) ≤ 64)) by unfold namedB; rw [e1, e2])
  clear e1 e2
  generalize hq : decide ((s.size : Int) ≤ 64) = q at *
  cases hp : decide ((1 : Int) ≤ (s.size : Int))
  · rw [hp] at HF
    go_enter Try.func52, Try.ntmps52
    go_wp2
    go_ret
    exact ⟨by rw [HF.out]; rfl, Drawn0.refl _⟩
  · rw [hp] at HF
    go_enter Try.func52, Try.ntmps52
    go_wp2
    go_ret
    exact ⟨by rw [HF.out]; rfl, Drawn0.refl _⟩
set_option maxHeartbeats 2000000 in
/-- 'among': does n stand among p's columns? -/
theorem among_calls (x : Int) (b : Nat) (B2 : Option Addr) (d2 : Nat) (l : List Int) (w : World) (hc : w.cell? ⟨b, 2, none⟩ = some (.slice B2 l.length d2)) (hr : (Kd.int .i64).C w B2 l.length l) (hl : l.length ≤ d2) :
    Calls Try.prog 53 #[.int .i64 x, .pointer (some ⟨b, 0, none⟩)] w fun e w' => e = .returned (.bool (l.contains x)) ∧ Drawn0 w w' := by
  have HR := Lib.hid hr
  clear hr
  go_enter Try.func53, Try.ntmps53
  go_wp2_with (fail)
  refine (contains_calls B2 _ d2 l x _ rfl HR.out hl).mono ?_
  generalize hy : l.contains x = y at *
  have HY := Lib.hid hy
  clear hy
  rintro e w1 ⟨rfl, hd⟩
  go_wp2
  go_ret
  exact ⟨by rw [HY.out]; rfl, hd⟩
set_option maxHeartbeats 2000000 in
/-- Its contrary. -/
theorem notAmong_calls (x : Int) (b g : Nat) (B2 : Option Addr) (d2 : Nat) (l : List Int) (w : World) (hg : w.cell? ⟨g, 0, none⟩ = some (.func (.func 53) #[] #[.pointer (some ⟨b, 0, none⟩)])) (hc : w.cell? ⟨b, 2, none⟩ = some (.slice B2 l.length d2)) (hr : (Kd.int .i64).C w B2 l.length l) (hl : l.length ≤ d2) :
    Calls Try.prog 55 #[.int .i64 x, .pointer (some ⟨g, 0, none⟩)] w fun e w' => e = .returned (.bool (!(l.contains x))) ∧ Below w.heap.size w w' := by
  have HR := Lib.hid hr
  clear hr
  go_enter Try.func55, Try.ntmps55
  go_wp2_with (fail)
  refine (among_calls x b B2 d2 l _ hc HR.out hl).mono ?_
  generalize hy : l.contains x = y at *
  have HY := Lib.hid hy
  clear hy
  rintro e w1 ⟨rfl, hd⟩
  go_wp2
  go_ret
  exact ⟨by rw [HY.out]; rfl, Drawn0.below hd⟩
set_option maxHeartbeats 4000000 in
set_option maxRecDepth 100000 in
theorem projection_calls (n s k : Int) (T : List S79) (P : List S66) (A3 : Option Addr) (c3 : Nat) (A4 : Option Addr) (c4 : Nat) (p : S66) (B2 : Option Addr) (d2 : Nat) (B3 : Option Addr) (d3 : Nat) (w : World)
    (hc : CatR w T P A3 c3 A4 c4) (hp : ProjR w p B2 d2 B3 d3) :
    Calls Try.prog 30 #[catV n s k T P A3 c3 A4 c4, projV p B2 d2 B3 d3] w fun e w' => e = .returned (.bool (projOk n T p)) ∧ Below w.heap.size w w' := by
  have HC := Lib.hid hc
  have HP := Lib.hid hp
  have hT : T.length ≤ 9223372036854775807 := hc.rT.2.1
  have h2 : p.f2.length ≤ 9223372036854775807 := hp.r2.2.1
  have h3 : p.f3.length ≤ 9223372036854775807 := hp.r3.2.1
  have HB := Lib.hid (((Below.refl w.heap.size w).alloc (Nat.le_refl _) (.cells #[.int .i64 n, .int .i64 s, .int .i64 k, .slice A3 T.length c3, .slice A4 P.length c4] 25)).alloc (by simp) (.cells #[.string p.f0, .int .i64 p.f1, .slice B2 p.f2.length d2, .slice B3 p.f3.length d3, .int .i64 p.f4, .int .i64 p.f5] 66))
  clear hc hp
  have q0 : ((w.alloc (.cells #[.int .i64 n, .int .i64 s, .int .i64 k, .slice A3 T.length c3, .slice A4 P.length c4] 25)).alloc (.cells #[.string p.f0, .int .i64 p.f1, .slice B2 p.f2.length d2, .slice B3 p.f3.length d3, .int .i64 p.f4, .int .i64 p.f5] 66)).cell? ⟨w.heap.size, 0, none⟩ = some (.int .i64 n) := by simp [go_sem]
  have q3 : ((w.alloc (.cells #[.int .i64 n, .int .i64 s, .int .i64 k, .slice A3 T.length c3, .slice A4 P.length c4] 25)).alloc (.cells #[.string p.f0, .int .i64 p.f1, .slice B2 p.f2.length d2, .slice B3 p.f3.length d3, .int .i64 p.f4, .int .i64 p.f5] 66)).cell? ⟨w.heap.size, 3, none⟩ = some (.slice A3 T.length c3) := by simp [go_sem]
  have r1 : ((w.alloc (.cells #[.int .i64 n, .int .i64 s, .int .i64 k, .slice A3 T.length c3, .slice A4 P.length c4] 25)).alloc (.cells #[.string p.f0, .int .i64 p.f1, .slice B2 p.f2.length d2, .slice B3 p.f3.length d3, .int .i64 p.f4, .int .i64 p.f5] 66)).cell? ⟨w.heap.size + 1, 1, none⟩ = some (.int .i64 p.f1) := by simp [go_sem]
  have r2 : ((w.alloc (.cells #[.int .i64 n, .int .i64 s, .int .i64 k, .slice A3 T.length c3, .slice A4 P.length c4] 25)).alloc (.cells #[.string p.f0, .int .i64 p.f1, .slice B2 p.f2.length d2, .slice B3 p.f3.length d3, .int .i64 p.f4, .int .i64 p.f5] 66)).cell? ⟨w.heap.size + 1, 2, none⟩ = some (.slice B2 p.f2.length d2) := by simp [go_sem]
  have r3 : ((w.alloc (.cells #[.int .i64 n, .int .i64 s, .int .i64 k, .slice A3 T.length c3, .slice A4 P.length c4] 25)).alloc (.cells #[.string p.f0, .int .i64 p.f1, .slice B2 p.f2.length d2, .slice B3 p.f3.length d3, .int .i64 p.f4, .int .i64 p.f5] 66)).cell? ⟨w.heap.size + 1, 3, none⟩ = some (.slice B3 p.f3.length d3) := by simp [go_sem]
  have r4 : ((w.alloc (.cells #[.int .i64 n, .int .i64 s, .int .i64 k, .slice A3 T.length c3, .slice A4 P.length c4] 25)).alloc (.cells #[.string p.f0, .int .i64 p.f1, .slice B2 p.f2.length d2, .slice B3 p.f3.length d3, .int .i64 p.f4, .int .i64 p.f5] 66)).cell? ⟨w.heap.size + 1, 4, none⟩ = some (.int .i64 p.f4) := by simp [go_sem]
  have r5 : ((w.alloc (.cells #[.int .i64 n, .int .i64 s, .int .i64 k, .slice A3 T.length c3, .slice A4 P.length c4] 25)).alloc (.cells #[.string p.f0, .int .i64 p.f1, .slice B2 p.f2.length d2, .slice B3 p.f3.length d3, .int .i64 p.f4, .int .i64 p.f5] 66)).cell? ⟨w.heap.size + 1, 5, none⟩ = some (.int .i64 p.f5) := by simp [go_sem]
  have hz : ((w.alloc (.cells #[.int .i64 n, .int .i64 s, .int .i64 k, .slice A3 T.length c3, .slice A4 P.length c4] 25)).alloc (.cells #[.string p.f0, .int .i64 p.f1, .slice B2 p.f2.length d2, .slice B3 p.f3.length d3, .int .i64 p.f4, .int .i64 p.f5] 66)).heap.size = w.heap.size + 2 := by simp
  go_enter Try.func30, Try.ntmps30
  go_wp2_with (fail)
  generalize ((w.alloc (.cells #[.int .i64 n, .int .i64 s, .int .i64 k, .slice A3 T.length c3, .slice A4 P.length c4] 25)).alloc (.cells #[.string p.f0, .int .i64 p.f1, .slice B2 p.f2.length d2, .slice B3 p.f3.length d3, .int .i64 p.f4, .int .i64 p.f5] 66)) = W0 at *
  have HZ := Lib.hid hz
  clear hz
  refine (named3_calls p.f0 _).mono ?_
  rintro e w1 ⟨rfl, hd⟩
  have hb := Drawn0.below hd
  replace q0 := pw_cell_below hb q0
  replace q3 := pw_cell_below hb q3
  replace r1 := pw_cell_below hb r1
  replace r2 := pw_cell_below hb r2
  replace r3 := pw_cell_below hb r3
  replace r4 := pw_cell_below hb r4
  replace r5 := pw_cell_below hb r5
  have HB1 := Lib.hid (HB.out.trans (hb.mono HB.out.size))
  have HZ1 := Lib.hid (show w.heap.size + 2 ≤ w1.heap.size by have := hb.size; have := HZ.out; omega)
  clear hb hd
  cases hnm : namedB p.f0
  · have HF := Lib.hid (projOk_name (n := n) (T := T) hnm)
    clear hnm
    go_wp2
    go_ret
    exact ⟨by rw [HF.out]; rfl, HB1.out⟩
  have HN := Lib.hid hnm
  clear hnm
  by_cases c3' : p.f1 < 0
  · have HF := Lib.hid (projOk_t0 (n := n) (T := T) c3')
    go_wp2
    go_ret
    exact ⟨by rw [HF.out]; rfl, HB1.out⟩
  have b3 : decide (p.f1 < 0) = false := decide_eq_false c3'
  by_cases c4' : (T.length : Int) ≤ p.f1
  · have HF := Lib.hid (projOk_t1 (n := n) (T := T) c4')
    go_wp2
    go_ret
    exact ⟨by rw [HF.out]; rfl, HB1.out⟩
  have b4 : decide ((T.length : Int) ≤ p.f1) = false := decide_eq_false c4'
  by_cases c5 : p.f2.length = 0
  · have HF := Lib.hid (projOk_c0 (n := n) (T := T) c5)
    have d : ((p.f2.length : Int) == 0) = true := beq_iff_eq.2 (by omega)
    clear c5
    go_wp2
    go_ret
    exact ⟨by rw [HF.out]; rfl, HB1.out⟩
  have b5 : ((p.f2.length : Int) == 0) = false := beq_eq_false_iff_ne.2 (by omega)
  by_cases c6 : p.f5 < 0
  · have HF := Lib.hid (projOk_s0 (n := n) (T := T) c6)
    clear c5
    go_wp2
    go_ret
    exact ⟨by rw [HF.out]; rfl, HB1.out⟩
  have b6 : decide (p.f5 < 0) = false := decide_eq_false c6
  by_cases c7 : n ≤ p.f5
  · have HF := Lib.hid (projOk_s1 (n := n) (T := T) c7)
    clear c5
    go_wp2
    go_ret
    exact ⟨by rw [HF.out]; rfl, HB1.out⟩
  have b7 : decide (n ≤ p.f5) = false := decide_eq_false c7
  have HR := Lib.hid (show projOk n T p = (plOk p.f2 (rd_T79 T p.f1).f1.length && plOk p.f3 (rd_T79 T p.f1).f1.length && p.f2.contains p.f4 && p.f3.all (fun x => p.f2.contains x)) by
    rw [projOk_rest (n := n) (T := T) HN.out (show 0 ≤ p.f1 by omega) (by omega) c5, decide_eq_true (show 0 ≤ p.f5 by omega), decide_eq_true (show p.f5 < n by omega), Bool.and_true, Bool.and_true])
  clear c5
  obtain ⟨ad, A1, e1, E1, hc1, hc2, hl1, hC1⟩ := at_T79 (Kd.C_below HC.out.rT HB1.out) p.f1 (by omega) (by omega)
  cases E1
  have hi0 : 0 ≤ p.f1 := by omega
  have hi1 : p.f1 < (T.length : Int) := by omega
  have HPP := Lib.hid (HP.out.below HB1.out)
  clear hC1
  have hA := (Below.refl w1.heap.size w1).alloc (Nat.le_refl _) (.cells #[.func (.func 53) #[] #[.pointer (some ⟨w.heap.size + 1, 0, none⟩)]] 91)
  have HA := Lib.hid hA
  have q3x := pw_cell_below hA q3
  have r1x := pw_cell_below hA r1
  have r2x := pw_cell_below hA r2
  have r3x := pw_cell_below hA r3
  have r4x := pw_cell_below hA r4
  have hc1x := pw_cell_below hA hc1
  have hc2x := pw_cell_below hA hc2
  have g0 : (w1.alloc (.cells #[.func (.func 53) #[] #[.pointer (some ⟨w.heap.size + 1, 0, none⟩)]] 91)).cell? ⟨w1.heap.size, 0, none⟩ = some (.func (.func 53) #[] #[.pointer (some ⟨w.heap.size + 1, 0, none⟩)]) := by simp [go_sem]
  clear hA
  go_wp2_with (fail)
  generalize w1.alloc (.cells #[.func (.func 53) #[] #[.pointer (some ⟨w.heap.size + 1, 0, none⟩)]] 91) = W2 at *
  have HPP2 := Lib.hid (HPP.out.below HA.out)
  clear HPP hc1 hc2 q3 r1 hc1x hc2x q3x r1x r2 r3 r4 q0 r5
  refine (unlike_calls B2 p.f2 d2 _ _ HPP2.out.r2 HPP2.out.l2).mono ?_
  rintro e w3 ⟨rfl, hd⟩
  have HB3 := Lib.hid ((HB1.out.trans (HA.out.mono HB1.out.size)).trans ((Drawn0.below hd).mono (Nat.le_trans HB1.out.size HA.out.size)))
  have h2s := pw_cell_below (Drawn0.below hd) r2x
  have h3s := pw_cell_below (Drawn0.below hd) r3x
  have h4s := pw_cell_below (Drawn0.below hd) r4x
  have g0s := pw_cell_below (Drawn0.below hd) g0
  have H3 := Lib.hid hd
  clear hd
  cases y1 : plOk p.f2 (rd_T79 T p.f1).f1.length
  · have HF := Lib.hid (show projOk n T p = false by rw [HR.out, y1]; rfl)
    clear y1
    go_wp2
    go_ret
    exact ⟨by rw [HF.out]; rfl, HB3.out⟩
  have Y1 := Lib.hid y1
  clear y1
  go_wp2_with (fail)
  refine (unlike_calls B3 p.f3 d3 _ _ (Kd.C_below HPP2.out.r3 (Drawn0.below H3.out)) HPP2.out.l3).mono ?_
  rintro e w4 ⟨rfl, hd⟩
  have hd4 := drawn_trans H3.out hd
  have HB4 := Lib.hid ((HB1.out.trans (HA.out.mono HB1.out.size)).trans ((Drawn0.below hd4).mono (Nat.le_trans HB1.out.size HA.out.size)))
  clear h2s h3s h4s g0s
  have h2s := pw_cell_below (Drawn0.below hd4) r2x
  have h3s := pw_cell_below (Drawn0.below hd4) r3x
  have h4s := pw_cell_below (Drawn0.below hd4) r4x
  have g0s := pw_cell_below (Drawn0.below hd4) g0
  have H4 := Lib.hid hd4
  clear hd hd4 H3 HB3
  cases y2 : plOk p.f3 (rd_T79 T p.f1).f1.length
  · have HF := Lib.hid (show projOk n T p = false by rw [HR.out, y2]; simp)
    clear y2
    go_wp2
    go_ret
    exact ⟨by rw [HF.out]; rfl, HB4.out⟩
  have Y2 := Lib.hid y2
  clear y2
  go_wp2_with (fail)
  refine (among_calls p.f4 (w.heap.size + 1) B2 d2 p.f2 _ h2s (Kd.C_below HPP2.out.r2 (Drawn0.below H4.out)) HPP2.out.l2).mono ?_
  rintro e w5 ⟨rfl, hd⟩
  have hd5 := drawn_trans H4.out hd
  have HB5 := Lib.hid ((HB1.out.trans (HA.out.mono HB1.out.size)).trans ((Drawn0.below hd5).mono (Nat.le_trans HB1.out.size HA.out.size)))
  clear h2s h3s h4s g0s
  have h2s := pw_cell_below (Drawn0.below hd5) r2x
  have h3s := pw_cell_below (Drawn0.below hd5) r3x
  have g0s := pw_cell_below (Drawn0.below hd5) g0
  have H5 := Lib.hid hd5
  clear hd hd5 H4 HB4
  cases y3 : p.f2.contains p.f4
  · have HF := Lib.hid (show projOk n T p = false by rw [HR.out, y3]; simp)
    clear y3
    go_wp2
    go_ret
    exact ⟨by rw [HF.out]; rfl, HB5.out⟩
  have Y3 := Lib.hid y3
  clear y3
  go_wp2_with (fail)
  refine (ContainsFunc_int 55 #[.pointer (some ⟨w1.heap.size, 0, none⟩)] (enters_of Try.func55 (by kernel_rfl) rfl) B3 p.f3 d3 (fun x => !(p.f2.contains x)) _ (Kd.C_below HPP2.out.r3 (Drawn0.below H5.out)) (fun x _ W hW => notAmong_calls x (w.heap.size + 1) w1.heap.size B2 d2 p.f2 W (pw_cell_below hW g0s) (pw_cell_below hW h2s) (Kd.C_below (Kd.C_below HPP2.out.r2 (Drawn0.below H5.out)) hW) HPP2.out.l2)).mono ?_
  rintro e w6 ⟨rfl, hb⟩
  have HB6 := Lib.hid (HB5.out.trans (hb.mono HB5.out.size))
  have HF := Lib.hid (show projOk n T p = !(p.f3.any (fun x => !(p.f2.contains x))) by rw [HR.out, Y1.out, Y2.out, Y3.out, List.all_eq_not_any_not]; rfl)
  generalize p.f3.any (fun x => !(p.f2.contains x)) = y at *
  clear hb h2s h3s g0s
  go_wp2
  go_ret
  exact ⟨by rw [HF.out]; rfl, HB6.out⟩
end Go.Proofs.Ytnaaaldeadjohaa.Cat

set_option linter.unusedVariables false
set_option linter.unusedSimpArgs false
namespace Go.Proofs.Ytnaaaldeadjohaa.Cat
open Go.RowKit Go.Proofs.YtnaaaldeadjohaaW.PrintWords Go.Proofs.Ytnaaaldeadjohaa.PCatalogLies
set_option maxHeartbeats 2000000 in
set_option maxRecDepth 100000 in
/-- slices.Grow of nil: room, and no element. -/
theorem Grow_calls (n : Nat) (hn : n ≤ 1000000) (w : World) :
    Calls Try.prog 69 #[.slice none 0 0, .int .i64 (n : Int)] w fun e w' => ∃ v, e = .returned v ∧ w'.ownsRow w.heap.size 3 1 v 0 (nums .i64 []) ∧ Below w.heap.size w w' := by
  by_cases h0 : n = 0
  · subst h0
    go_enter Try.func69, Try.ntmps69
    go_wp2
    go_ret
    exact ⟨_, rfl, own_nil _ _ _ _, Below.refl _ _⟩
  · obtain ⟨i0, hi, hz0, hz1, hz2⟩ := info_parts info3
    have hr := Lib.hid (Lib.run_append_nil_zeros (P := Try.prog) w 40 3 40 3 i0 (.int .i64 0) .i64 .i64 Try.underlying40 Try.underlying3 hi hz0 n (by omega) (by omega) (by omega) (by rw [hz2]; omega))
    have hpos : (0 : Int) < (n : Int) := by omega
    have hlt : ¬ ((n : Int) < 0) := by omega
    go_enter Try.func69, Try.ntmps69
    go_wp2_with (at_builtin; refine Lib.wpList_append_run _ rfl _ _ _ _ rfl _ _ rfl rfl _ _ hr.out ?_)
    have h1 := grownCap_ge w n 0 3
    have h2 := grownCap_le_maxLen w n 0 3 (by unfold maxLen; omega)
    go_ret
    refine ⟨_, rfl, ⟨by simp [nums], .inr ⟨w.heap.size, grownCap w n 0 3, _, rfl, Nat.le_refl _, heap_alloc_new _ _, Nat.zero_le _, h2, ?_, by simp [nums]⟩⟩, ((Below.refl _ w).drew).alloc (Nat.le_refl _) _⟩
    rw [Array.size_append, size_zeroCells, size_zeroCells]
    simp [Value.cells]
    omega
/-- All the numbers of some lists, as they lie. -/
theorem lists_at {w : World} {A : Option Addr} {n : Nat} {xs : List (List Int)} (h : Kd.C (Kd.slice 3 (Kd.int .i64)) w A n xs) (k : Nat) (hk : k < xs.length) (hn : xs.length = n) : ∃ ad A0 c0, A = some ad ∧ w.cell? (ad.add k) = some (.slice A0 xs[k].length c0) ∧ xs[k].length ≤ c0 ∧ (Kd.int .i64).C w A0 xs[k].length xs[k] := by
  have h1 := at_L2 h k (by omega) (by omega)
  have e0 : rd_L2 xs (k : Int) = xs[k] := by simp [rd_L2, List.getD_eq_getElem?_getD, hk]
  rw [e0] at h1
  simpa using h1
/-- The first k lists, one behind the other, and how long they are. -/
def flatK (xs : List (List Int)) (k : Nat) : List Int := (xs.take k).flatten
def lenK (xs : List (List Int)) (k : Nat) : Nat := (flatK xs k).length
theorem flatK_succ {xs : List (List Int)} {k : Nat} (hk : k < xs.length) : flatK xs (k + 1) = flatK xs k ++ xs[k] := by
  unfold flatK
  rw [List.take_succ_eq_append_getElem hk, List.flatten_append, List.flatten_cons, List.flatten_nil, List.append_nil]
theorem lenK_succ {xs : List (List Int)} {k : Nat} (hk : k < xs.length) : lenK xs (k + 1) = lenK xs k + xs[k].length := by
  unfold lenK
  rw [flatK_succ hk, List.length_append]
theorem lenK_le {xs : List (List Int)} (k : Nat) : lenK xs k ≤ lenK xs xs.length := by
  have h := congrArg (fun l => l.flatten.length) (List.take_append_drop k xs)
  simp only [List.flatten_append, List.length_append] at h
  unfold lenK flatK
  rw [List.take_length]
  omega
set_option maxHeartbeats 2000000 in
set_option maxRecDepth 100000 in
theorem Concat_calls (A : Option Addr) (xs : List (List Int)) (c : Nat) (w : World) (hr : Kd.C (Kd.slice 3 (Kd.int .i64)) w A xs.length xs) (hc : xs.length ≤ c) (hle : lenK xs xs.length ≤ 1000000) :
    Calls Try.prog 58 #[.slice A xs.length c] w fun e w' => ∃ v, e = .returned v ∧ w'.ownsRow w.heap.size 3 1 v (lenK xs xs.length) (nums .i64 (flatK xs xs.length)) ∧ Below w.heap.size w w' := by
  have HR := Lib.hid hr
  have hm : xs.length ≤ 9223372036854775807 := hr.2.1
  clear hr
  go_enter Try.func58, Try.ntmps58
  go_wp2
  go_loop [3, 11] (fun n i => ∃ k : Nat, i = .int .i64 k ∧ k ≤ xs.length ∧ n = .int .i64 (lenK xs k : Int)) (fun _ i => xs.length - (intOf i).toNat)
  case atStart => exact ⟨0, rfl, Nat.zero_le _, rfl⟩
  case round =>
    obtain ⟨k, rfl, hk, rfl⟩ := hrel
    have hfl := lenK_le (xs := xs) k
    by_cases hlt : k < xs.length
    · obtain ⟨ad, A0, c0, e1, hcell, _, _⟩ := lists_at HR.out k hlt rfl
      cases e1
      have hfs := lenK_le (xs := xs) (k + 1)
      have HS := Lib.hid (lenK_succ hlt)
      rw [HS.out] at hfs
      have h0 : ¬ ((lenK xs k : Int) + (xs[k].length : Int) < 0) := by omega
      go_wp2
      go_round
      case rel => exact ⟨k + 1, by go_num, hlt, by rw [HS.out]; go_num⟩
      case measure => simp [intOf]; omega
    · obtain rfl : k = xs.length := by omega
      go_wp2_with (fail)
      refine (Grow_calls (lenK xs xs.length) hle _).mono ?_
      rintro e w1 ⟨v0, rfl, hown, hb⟩
      have HO := Lib.hid hown
      have HB := Lib.hid hb
      clear hown hb
      go_wp2
      go_loopw [6, 27] (fun v i wr => ∃ k : Nat, i = .int .i64 k ∧ k ≤ xs.length ∧ Hid (wr.ownsRow w.heap.size 3 1 v (lenK xs k) (nums .i64 (flatK xs k))) ∧ Hid (Below w.heap.size w wr)) (fun _ i _ => xs.length - (intOf i).toNat)
      case atStart => exact ⟨0, rfl, Nat.zero_le _, HO, HB⟩
      case round =>
        obtain ⟨k, rfl, hk, HO2, HB2⟩ := hrel
        by_cases hlt : k < xs.length
        · obtain ⟨ad, A0, c0, e1, hcell, hl0, hc0⟩ := lists_at (Kd.C_below HR.out HB2.out) k hlt rfl
          cases e1
          have hfs := lenK_le (xs := xs) (k + 1)
          have HS := Lib.hid (lenK_succ hlt)
          rw [HS.out] at hfs
          have HC0 := Lib.hid (Kd.reads_of_C (enc := Value.int .i64) (d := (0 : Int)) (h1 := fun _ => rfl) hc0)
          clear hc0
          go_wp2_with (at_builtin; refine print_append_row (w0 := w) w.heap.size rfl (.tmp 31) (.tmp 32) 40 3 .i64 8 rfl Try.underlying40 info3 (by decide) u6 (flatK xs k) xs[k] A0 xs[k].length c0 rfl rfl HO2.out HC0.out HB2.out HB2.out.size ?hl ?_; (case hl => (show (lenK xs k + xs[k].length) * 8 ≤ _; omega)); intro v1 w1 hown hB hg hat)
          have HO3 := Lib.hid (show w1.ownsRow w.heap.size 3 1 v1 (lenK xs (k + 1)) (nums .i64 (flatK xs (k + 1))) by rw [lenK, flatK_succ hlt]; exact hown)
          have HB3 := Lib.hid hB
          clear hown hB hg hat
          go_wp2
          go_roundw
          case rel => exact ⟨k + 1, by go_num, hlt, HO3, HB3⟩
          case measure => simp [intOf]; omega
        · obtain rfl : k = xs.length := by omega
          go_wp2
          go_ret
          exact ⟨_, rfl, HO2.out, HB2.out⟩
end Go.Proofs.Ytnaaaldeadjohaa.Cat

set_option linter.unusedVariables false
set_option linter.unusedSimpArgs false
namespace Go.Proofs.Ytnaaaldeadjohaa.Cat
open Go.RowKit Go.Proofs.YtnaaaldeadjohaaW.PrintWords Go.Proofs.Ytnaaaldeadjohaa.PCatalogLies
/-- The printed functions, with what they come to. -/
theorem covers_calls (nm : ByteArray) (A : Option Addr) (c : Nat) (cs : List S76) (B : Option Addr) (m d : Nat) (l : List Int) (w : World) (hr : k76.C w A cs.length cs) (hc : cs.length ≤ c) (hm : l.length = m) (hl : (Kd.int .i64).C w B m l) (hd : m ≤ d) :
    Calls Try.prog 57 #[.agg #[.string nm, .slice A cs.length c], .slice B m d] w fun e w' => e = .returned (.bool (coversB cs l)) ∧ Below w.heap.size w w' := by
  subst hm
  obtain ⟨k, hk⟩ := Ev.rounds (covers_ev nm cs l hl.2.1 hr.2.1)
  exact catalog_covers.calls k nm A c cs B d l _ w hr hc hl hd hk
section
variable {n s k : Int} {T : List S79} {P : List S66} {A3 : Option Addr} {c3 : Nat} {A4 : Option Addr} {c4 : Nat} {w : World}
/-- A list of numbers that a call hands back. -/
def GivesInts (l : List Int) (w : World) (e : Ending) (w' : World) : Prop := ∃ A c, e = .returned (.slice A l.length c) ∧ l.length ≤ c ∧ (Kd.int .i64).C w' A l.length l ∧ Below w.heap.size w w'
def GivesSegs (l : List S31) (w : World) (e : Ending) (w' : World) : Prop := ∃ A c, e = .returned (.slice A l.length c) ∧ l.length ≤ c ∧ k31.C w' A l.length l ∧ Below w.heap.size w w'
theorem nodes_calls (g : Good n s k P) (h : CatR w T P A3 c3 A4 c4) (a b : Int) : Calls Try.prog 18 #[catV n s k T P A3 c3 A4 c4, .agg #[.int .i64 a, .int .i64 b]] w (GivesInts (nodesL n s k P a b) w) := by
  obtain ⟨q, hq⟩ := Ev.rounds (nodes_ev n s k T P g a b)
  refine (catalog_Nodes.calls q n s k A3 c3 T A4 c4 P a b _ w h.rT h.cT h.rP h.cP hq).mono ?_
  rintro e w' ⟨v, rfl, hr, hb⟩
  obtain ⟨A, c, rfl, hl, hc⟩ := Kd.R_reads hr
  exact ⟨A, c, rfl, hl, hc, hb⟩
theorem nodes2_calls (g : Good n s k P) (h : CatR w T P A3 c3 A4 c4) (a b : Int) : Calls Try.prog 19 #[catV n s k T P A3 c3 A4 c4, .agg #[.int .i64 a, .int .i64 b]] w (GivesInts (nodesL n s k P a b) w) := by
  obtain ⟨q, hq⟩ := Ev.rounds (nodes13_ev n s k T P g a b)
  refine (hayloftref13_Nodes.calls q n s k A3 c3 T A4 c4 P a b _ w h.rT h.cT h.rP h.cP hq).mono ?_
  rintro e w' ⟨v, rfl, hr, hb⟩
  obtain ⟨A, c, rfl, hl, hc⟩ := Kd.R_reads hr
  exact ⟨A, c, rfl, hl, hc, hb⟩
theorem of2_calls (g : Good n s k P) (h : CatR w T P A3 c3 A4 c4) (x : Int) : Calls Try.prog 15 #[catV n s k T P A3 c3 A4 c4, .int .i64 x] w (GivesSegs (ofL n s k P x) w) := by
  obtain ⟨q, hq⟩ := Ev.rounds (of13_ev n s k T P g x)
  refine (hayloftref13_Of.calls q n s k A3 c3 T A4 c4 P x _ w h.rT h.cT h.rP h.cP hq).mono ?_
  rintro e w' ⟨v, rfl, hr, hb⟩
  obtain ⟨A, c, rfl, hl, hc⟩ := Kd.R_reads hr
  exact ⟨A, c, rfl, hl, hc, hb⟩
theorem segs2_calls (g : Good n s k P) (h : CatR w T P A3 c3 A4 c4) : Calls Try.prog 16 #[catV n s k T P A3 c3 A4 c4] w (GivesSegs (segsL s P) w) := by
  obtain ⟨q, hq⟩ := Ev.rounds (segments_ev n s k T P g)
  refine (hayloftref13_Segments.calls q n s k A3 c3 T A4 c4 P _ w h.rT h.cT h.rP h.cP hq).mono ?_
  rintro e w' ⟨v, rfl, hr, hb⟩
  obtain ⟨A, c, rfl, hl, hc⟩ := Kd.R_reads hr
  exact ⟨A, c, rfl, hl, hc, hb⟩
theorem cov2_calls (g : Good n s k P) (h : CatR w T P A3 c3 A4 c4) (B : Option Addr) (d : Nat) (live : List Bool) (hl : Kd.bool.C w B live.length live) (hd : live.length ≤ d) :
    Calls Try.prog 21 #[catV n s k T P A3 c3 A4 c4, .slice B live.length d] w fun e w' => e = .returned (.bool (covered n s k P live)) ∧ Below w.heap.size w w' := by
  obtain ⟨q, hq⟩ := Ev.rounds (covered_ev n s k T P g live)
  exact hayloftref13_Covered.calls q n s k A3 c3 T A4 c4 P B d live _ w h.rT h.cT h.rP h.cP hl hd hq
theorem tab_len (h : CatR w T P A3 c3 A4 c4) (i : Int) (h0 : 0 ≤ i) (h1 : i < T.length) : (rd_T79 T i).f1.length ≤ 9223372036854775807 := by
  obtain ⟨ad, A1, e1, E1, _, _, hl1, hC1⟩ := at_T79 h.rT i h0 h1
  exact hC1.2.1
theorem proj_len (h : CatR w T P A3 c3 A4 c4) (i : Nat) (h1 : i < P.length) : (rd_T66 P i).f2.length ≤ 9223372036854775807 := by
  obtain ⟨ad, A2, e2, A3, e3, E1, _, _, _, _, _, _, _, hC1, _, _⟩ := at_T66 h.rP i (by omega) (by omega)
  exact hC1.2.1
theorem covB2_calls (h : CatR w T P A3 c3 A4 c4) (i : Int) (h0 : 0 ≤ i) (h1 : i < T.length) :
    Calls Try.prog 36 #[catV n s k T P A3 c3 A4 c4, .int .i64 i] w fun e w' => e = .returned (.bool (covB T P i)) ∧ Below w.heap.size w w' := by
  obtain ⟨q, hq⟩ := Ev.rounds (covered13_ev n s k T P i h.rP.2.1 h0 h1 (tab_len h i h0 h1) (fun a ha => proj_len h a ha))
  exact hayloftref13_covered.calls q n s k A3 c3 T A4 c4 P i _ w h.rT h.cT h.rP h.cP hq
end
theorem sameSegs_calls (A : Option Addr) (c : Nat) (l : List S31) (B : Option Addr) (m d : Nat) (w : World) (hm : l.length = m) (h1 : k31.C w A m l) (hc : m ≤ c) (h2 : k31.C w B m l) (hd : m ≤ d) :
    Calls Try.prog 13 #[.slice A m c, .slice B m d] w fun e w' => e = .returned (.bool true) ∧ Drawn0 w w' := by
  subst hm
  obtain ⟨q, hq⟩ := Ev.rounds (sameSegs_ev l l h1.2.1 rfl)
  exact hayloftref13_SameSegments.calls q A c l B d l _ w h1 hc h2 hd hq
theorem sameInts_calls (A : Option Addr) (c : Nat) (l : List Int) (B : Option Addr) (m d : Nat) (w : World) (hm : l.length = m) (h1 : (Kd.int .i64).C w A m l) (hc : m ≤ c) (h2 : (Kd.int .i64).C w B m l) (hd : m ≤ d) :
    Calls Try.prog 17 #[.slice A m c, .slice B m d] w fun e w' => e = .returned (.bool true) ∧ Drawn0 w w' := by
  subst hm
  obtain ⟨q, hq⟩ := Ev.rounds (sameInts_ev l l h1.2.1 rfl)
  exact hayloftref13_SameInts.calls q A c l B d l _ w h1 hc h2 hd hq
theorem own_gives {w : World} {base n : Nat} {v : Value} {xs : List Int} (h : w.ownsRow base 3 1 v n (nums .i64 xs)) : ∃ A c, v = .slice A n c ∧ n ≤ c ∧ (Kd.int .i64).C w A n xs := by
  have hl : xs.length = n := by have := h.1; simp [nums] at this; exact this
  subst hl
  have hR := Kd.R_of_own (enc := Value.int .i64) (h1 := fun _ => rfl) (ok := fun _ => True) (e := 3) (base := base) (v := v) (xs := xs) (w := w) h (fun _ _ => trivial)
  obtain ⟨A, c, he, hle, hc⟩ := Kd.R_reads hR
  exact ⟨A, c, he, hle, hc⟩
theorem two_lists {w : World} {g : Nat} {l m : List Int} {A : Option Addr} {c : Nat} {B : Option Addr} {d : Nat} (h0 : w.cell? ⟨g, 0, none⟩ = some (.slice A l.length c)) (h1 : w.cell? ⟨g, 1, none⟩ = some (.slice B m.length d))
    (hc : l.length ≤ c) (hA : (Kd.int .i64).C w A l.length l) (hd : m.length ≤ d) (hB : (Kd.int .i64).C w B m.length m) : (Kd.slice 3 (Kd.int .i64)).C w (some ⟨g, 0, none⟩) 2 [l, m] := by
  refine ⟨rfl, by omega, fun _ => ⟨_, rfl, fun j p hj => ?_⟩⟩
  rcases j with _ | _ | j
  · obtain rfl : l = p := by simpa using hj
    refine ⟨[.slice A l.length c], rfl, ⟨A, c, rfl, hc, hA⟩, fun i u hu => ?_⟩
    rcases i with _ | i
    · obtain rfl : _ = u := by simpa using hu
      rw [add_plain]; exact h0
    · simp at hu
  · obtain rfl : m = p := by simpa using hj
    refine ⟨[.slice B m.length d], rfl, ⟨B, d, rfl, hd, hB⟩, fun i u hu => ?_⟩
    rcases i with _ | i
    · obtain rfl : _ = u := by simpa using hu
      rw [add_plain]; exact h1
    · simp at hu
  · simp at hj
set_option maxHeartbeats 4000000 in
set_option maxRecDepth 100000 in
/-- catalog.covered, at lists that have at most eight numbers each. -/
theorem covB_calls (n s k : Int) (T : List S79) (P : List S66) (A3 : Option Addr) (c3 : Nat) (A4 : Option Addr) (c4 : Nat) (i : Int) (w : World) (h : CatR w T P A3 c3 A4 c4) (h0 : 0 ≤ i) (h1 : i < T.length) (h8 : ∀ a : Nat, a < P.length → (rd_T66 P a).f2.length ≤ 8) :
    Calls Try.prog 33 #[catV n s k T P A3 c3 A4 c4, .int .i64 i] w fun e w' => e = .returned (.bool (covB T P i)) ∧ Below w.heap.size w w' := by
  have HC := Lib.hid h
  have H8 := Lib.hid h8
  have hm : P.length ≤ 9223372036854775807 := h.rP.2.1
  clear h h8
  have hA := (Below.refl w.heap.size w).alloc (Nat.le_refl _) (.cells #[.int .i64 n, .int .i64 s, .int .i64 k, .slice A3 T.length c3, .slice A4 P.length c4] 25)
  have HA := Lib.hid hA
  have q3 : (w.alloc (.cells #[.int .i64 n, .int .i64 s, .int .i64 k, .slice A3 T.length c3, .slice A4 P.length c4] 25)).cell? ⟨w.heap.size, 3, none⟩ = some (.slice A3 T.length c3) := by simp [go_sem]
  have q4 : (w.alloc (.cells #[.int .i64 n, .int .i64 s, .int .i64 k, .slice A3 T.length c3, .slice A4 P.length c4] 25)).cell? ⟨w.heap.size, 4, none⟩ = some (.slice A4 P.length c4) := by simp [go_sem]
  clear hA
  go_enter Try.func33, Try.ntmps33
  go_wp2
  generalize w.alloc (.cells #[.int .i64 n, .int .i64 s, .int .i64 k, .slice A3 T.length c3, .slice A4 P.length c4] 25) = W0 at *
  go_loopw [12] (fun v wr => ∃ a : Nat, v = .int .i64 a ∧ a ≤ P.length ∧ Hid (∀ j, j < a → anyB (fun b => decide ((rd_T66 P j).f1 = i) && decide ((rd_T66 P b).f1 = i) && coversB (rd_T79 T i).f1 ((rd_T66 P j).f2 ++ (rd_T66 P b).f2)) P.length = false) ∧ Hid (Below W0.heap.size W0 wr)) (fun v _ => P.length - (intOf v).toNat)
  case atStart => exact ⟨0, rfl, Nat.zero_le _, Lib.hid (fun j hj => by omega), Lib.hid (Below.refl _ _)⟩
  case round =>
    obtain ⟨a, rfl, ha, HI, HW⟩ := hrel
    obtain ⟨wo, rfl⟩ : ∃ wo : World, wo = wr := ⟨_, rfl⟩
    by_cases hlt : a < P.length
    · have hbw : Below w.heap.size w wo := HA.out.trans (HW.out.mono HA.out.size)
      obtain ⟨ad, B2, d2, B3, d3, e1, hc0, hc1, hc2, hc3, hc4, hc5, hl2, hC2, hl3, hC3⟩ := at_T66 (Kd.C_below HC.out.rP hbw) a (by omega) (by omega)
      simp only [Int.toNat_natCast] at hc0 hc1 hc2 hc3 hc4 hc5
      cases e1
      generalize hx : rd_T66 P a = x at *
      have HX := Lib.hid hx
      have hA1 := (Below.refl wo.heap.size wo).alloc (Nat.le_refl _) (.cells #[.string x.f0, .int .i64 x.f1, .slice B2 x.f2.length d2, .slice B3 x.f3.length d3, .int .i64 x.f4, .int .i64 x.f5] 66)
      have HA1 := Lib.hid (HW.out.trans (hA1.mono HW.out.size))
      have q4' := pw_cell_below hA1 (pw_cell_below HW.out q4)
      have q3' := pw_cell_below hA1 (pw_cell_below HW.out q3)
      have x1 : (wo.alloc (.cells #[.string x.f0, .int .i64 x.f1, .slice B2 x.f2.length d2, .slice B3 x.f3.length d3, .int .i64 x.f4, .int .i64 x.f5] 66)).cell? ⟨wo.heap.size, 1, none⟩ = some (.int .i64 x.f1) := by simp [go_sem]
      have x2 : (wo.alloc (.cells #[.string x.f0, .int .i64 x.f1, .slice B2 x.f2.length d2, .slice B3 x.f3.length d3, .int .i64 x.f4, .int .i64 x.f5] 66)).cell? ⟨wo.heap.size, 2, none⟩ = some (.slice B2 x.f2.length d2) := by simp [go_sem]
      have HC2 := Lib.hid (Kd.C_below hC2 hA1)
      clear hA1 hx hC2 hC3 hbw
      go_wp2
      generalize wo.alloc (.cells #[.string x.f0, .int .i64 x.f1, .slice B2 x.f2.length d2, .slice B3 x.f3.length d3, .int .i64 x.f4, .int .i64 x.f5] 66) = W1 at *
      clear hc0 hc1 hc2 hc3 hc4 hc5
      go_loopw [19] (fun v wr => ∃ b : Nat, v = .int .i64 b ∧ b ≤ P.length ∧ Hid (∀ j, j < b → (decide ((rd_T66 P a).f1 = i) && decide ((rd_T66 P j).f1 = i) && coversB (rd_T79 T i).f1 ((rd_T66 P a).f2 ++ (rd_T66 P j).f2)) = false) ∧ Hid (Below W1.heap.size W1 wr)) (fun v _ => P.length - (intOf v).toNat)
      case atStart => exact ⟨0, rfl, Nat.zero_le _, Lib.hid (fun j hj => by omega), Lib.hid (Below.refl _ _)⟩
      case round =>
        obtain ⟨b, rfl, hb, HJ, HV⟩ := hrel
        obtain ⟨wp, rfl⟩ : ∃ wp : World, wp = wr := ⟨_, rfl⟩
        by_cases hlb : b < P.length
        · have hbw : Below w.heap.size w wp := HA.out.trans ((HA1.out.trans (HV.out.mono HA1.out.size)).mono HA.out.size)
          obtain ⟨ad', C2, e2, C3, e3, e1, hc0, hc1, hc2, hc3, hc4, hc5, hl2', hD2, hl3', hD3⟩ := at_T66 (Kd.C_below HC.out.rP hbw) b (by omega) (by omega)
          simp only [Int.toNat_natCast] at hc0 hc1 hc2 hc3 hc4 hc5
          cases e1
          have h8x := H8.out a hlt
          have h8y := H8.out b hlb
          rw [HX.out] at h8x
          generalize hy : rd_T66 P b = y at *
          have HY := Lib.hid hy
          have hA2 := (Below.refl wp.heap.size wp).alloc (Nat.le_refl _) (.cells #[.string y.f0, .int .i64 y.f1, .slice C2 y.f2.length e2, .slice C3 y.f3.length e3, .int .i64 y.f4, .int .i64 y.f5] 66)
          have HA2 := Lib.hid (HV.out.trans (hA2.mono HV.out.size))
          have z3 := pw_cell_below hA2 (pw_cell_below HV.out q3')
          have z1 := pw_cell_below hA2 (pw_cell_below HV.out x1)
          have z2 := pw_cell_below hA2 (pw_cell_below HV.out x2)
          have y1 : (wp.alloc (.cells #[.string y.f0, .int .i64 y.f1, .slice C2 y.f2.length e2, .slice C3 y.f3.length e3, .int .i64 y.f4, .int .i64 y.f5] 66)).cell? ⟨wp.heap.size, 1, none⟩ = some (.int .i64 y.f1) := by simp [go_sem]
          have y2 : (wp.alloc (.cells #[.string y.f0, .int .i64 y.f1, .slice C2 y.f2.length e2, .slice C3 y.f3.length e3, .int .i64 y.f4, .int .i64 y.f5] 66)).cell? ⟨wp.heap.size, 2, none⟩ = some (.slice C2 y.f2.length e2) := by simp [go_sem]
          have HD2 := Lib.hid (Kd.C_below hD2 hA2)
          have HBW := Lib.hid (hbw.trans (hA2.mono hbw.size))
          clear hA2 hy hD2 hD3 hbw
          go_wp2_with (fail)
          generalize wp.alloc (.cells #[.string y.f0, .int .i64 y.f1, .slice C2 y.f2.length e2, .slice C3 y.f3.length e3, .int .i64 y.f4, .int .i64 y.f5] 66) = W2 at *
          clear hc0 hc1 hc2 hc3 hc4 hc5
          have hn1 : ∀ hne : (decide (x.f1 = i) && decide (y.f1 = i) && coversB (rd_T79 T i).f1 (x.f2 ++ y.f2)) = false, Hid (∀ j, j < b + 1 → (decide ((rd_T66 P a).f1 = i) && decide ((rd_T66 P j).f1 = i) && coversB (rd_T79 T i).f1 ((rd_T66 P a).f2 ++ (rd_T66 P j).f2)) = false) := fun hne j hj => by
            rcases Nat.lt_or_ge j b with h | h
            · exact HJ.out j h
            · obtain rfl : j = b := by omega
              rw [HX.out, HY.out]; exact hne
          have HN1 := Lib.hid hn1
          clear hn1
          by_cases k1 : x.f1 = i
          · have b1 : (x.f1 == i) = true := beq_iff_eq.2 k1
            by_cases k2 : y.f1 = i
            · have b2 : (y.f1 == i) = true := beq_iff_eq.2 k2
              have K1 := Lib.hid k1
              have K2 := Lib.hid k2
              clear k1 k2
              obtain ⟨adT, AT, eT, E3, t0, t1, hlT, hCT⟩ := at_T79 (Kd.C_below HC.out.rT HBW.out) i h0 h1
              cases E3
              have HX2 := Lib.hid (Kd.C_below HC2.out HA2.out)
              have HCT := Lib.hid hCT
              have HS := Lib.hid (show ∀ w', Below W2.heap.size W2 w' → (w'.cell? ⟨w.heap.size, 3, none⟩ = some (.slice (some adT) T.length c3) ∧ w'.cell? ⟨wo.heap.size, 1, none⟩ = some (.int .i64 x.f1) ∧ w'.cell? ⟨wo.heap.size, 2, none⟩ = some (.slice B2 x.f2.length d2) ∧
                w'.cell? ⟨wp.heap.size, 1, none⟩ = some (.int .i64 y.f1) ∧ w'.cell? ⟨wp.heap.size, 2, none⟩ = some (.slice C2 y.f2.length e2) ∧ w'.cell? (adT.add (i.toNat * 2)) = some (.string (rd_T79 T i).f0) ∧ w'.cell? ⟨(adT.add (i.toNat * 2)).block, (adT.add (i.toNat * 2)).off + 1, none⟩ = some (.slice AT (rd_T79 T i).f1.length eT)) from
                fun w' hb => ⟨pw_cell_below hb z3, pw_cell_below hb z1, pw_cell_below hb z2, pw_cell_below hb y1, pw_cell_below hb y2, pw_cell_below hb t0, pw_cell_below hb t1⟩)
              have HBN := Lib.hid (Below.refl W2.heap.size W2)
              have hB3 : Below W2.heap.size W2 ((W2.alloc (.cells #[.slice B2 x.f2.length d2, .slice C2 y.f2.length e2] 40)).drew) := ((Below.refl _ W2).alloc (Nat.le_refl _) _).drew
              have HB3 := Lib.hid hB3
              have HCall := Lib.hid (Concat_calls (some ⟨W2.heap.size, 0, none⟩) [x.f2, y.f2] 2 ((W2.alloc (.cells #[.slice B2 x.f2.length d2, .slice C2 y.f2.length e2] 40)).drew)
                (two_lists (by simp [go_sem]) (by simp [go_sem]) hl2 (Kd.C_below HX2.out hB3) hl2' (Kd.C_below HD2.out hB3)) (Nat.le_refl _) (by simp [lenK, flatK]; omega))
              clear hCT hB3
              go_region_held3 (fun w' => w'.cell? ⟨w.heap.size, 3, none⟩ = some (.slice (some adT) T.length c3) ∧ w'.cell? ⟨wo.heap.size, 1, none⟩ = some (.int .i64 x.f1) ∧ w'.cell? ⟨wo.heap.size, 2, none⟩ = some (.slice B2 x.f2.length d2) ∧
                w'.cell? ⟨wp.heap.size, 1, none⟩ = some (.int .i64 y.f1) ∧ w'.cell? ⟨wp.heap.size, 2, none⟩ = some (.slice C2 y.f2.length e2) ∧ w'.cell? (adT.add (i.toNat * 2)) = some (.string (rd_T79 T i).f0) ∧ w'.cell? ⟨(adT.add (i.toNat * 2)).block, (adT.add (i.toNat * 2)).off + 1, none⟩ = some (.slice AT (rd_T79 T i).f1.length eT))
                (first | exact HS.out _ HBN.out | exact HS.out _ (pw_below_drewN HBN.out 1) | exact HS.out _ HB3.out)
                (first
                  | (go_at_call 58; refine HCall.out.mono ?_; rintro e w4 ⟨v4, rfl, hown, hb⟩; obtain ⟨A4', c4', rfl, hle4, hC4⟩ := own_gives hown; have HBN4 := Lib.hid (HB3.out.trans (hb.mono HB3.out.size)); have HC4 := Lib.hid hC4; clear HBN; have HBN := HBN4; clear HBN4 hown hb hC4)
                  | (go_at_call 57; refine (covers_calls (rd_T79 T i).f0 AT eT (rd_T79 T i).f1 A4' _ c4' (x.f2 ++ y.f2) w4 (Kd.C_below HCT.out HBN.out) hlT (by simp [lenK, flatK]) (by simpa [flatK] using HC4.out) hle4).mono ?_; rintro e w5 ⟨rfl, hb⟩; have HBN5 := Lib.hid (HBN.out.trans (hb.mono HBN.out.size)); clear HBN; have HBN := HBN5; clear HBN5 hb))
              cases hz : coversB (rd_T79 T i).f1 (x.f2 ++ y.f2)
              · have HN2 := HN1.out (by rw [hz, Bool.and_false])
                clear hz
                go_wp2
                go_roundw
                case rel => exact ⟨b + 1, by go_num, hlb, HN2, Lib.hid (HA2.out.trans (HBN.out.mono HA2.out.size))⟩
                case measure => simp [intOf]; omega
              · have HF := Lib.hid (show covB T P i = true from anyB_yes hlt (anyB_yes hlb (by rw [HX.out, HY.out, hz, decide_eq_true K1.out, decide_eq_true K2.out]; rfl)))
                clear hz
                go_wp2
                go_ret
                exact ⟨by rw [HF.out]; rfl, HBW.out.trans (HBN.out.mono HBW.out.size)⟩
            · have b2 : (y.f1 == i) = false := beq_eq_false_iff_ne.2 k2
              have HN2 := HN1.out (by rw [decide_eq_false k2, Bool.and_false]; rfl)
              clear k1 k2
              go_quiet (fail)
              go_wp2
              go_roundw
              case rel => exact ⟨b + 1, by go_num, hlb, HN2, Lib.hid (pw_below_drewN HA2.out nq)⟩
              case measure => simp [intOf]; omega
          · have b1 : (x.f1 == i) = false := beq_eq_false_iff_ne.2 k1
            have HN2 := HN1.out (by rw [decide_eq_false k1]; rfl)
            clear k1
            go_quiet (fail)
            go_wp2
            go_roundw
            case rel => exact ⟨b + 1, by go_num, hlb, HN2, Lib.hid (pw_below_drewN HA2.out nq)⟩
            case measure => simp [intOf]; omega
        · obtain rfl : b = P.length := by omega
          have HN2 : Hid (∀ j, j < a + 1 → anyB (fun b => decide ((rd_T66 P j).f1 = i) && decide ((rd_T66 P b).f1 = i) && coversB (rd_T79 T i).f1 ((rd_T66 P j).f2 ++ (rd_T66 P b).f2)) P.length = false) := Lib.hid (fun j hj => by
            rcases Nat.lt_or_ge j a with h | h
            · exact HI.out j h
            · obtain rfl : j = a := by omega
              exact anyB_no HJ.out)
          go_wp2
          go_roundw
          case rel => exact ⟨a + 1, by go_num, hlt, HN2, Lib.hid (HA1.out.trans (HV.out.mono HA1.out.size))⟩
          case measure => simp [intOf]; omega
    · obtain rfl : a = P.length := by omega
      have HF := Lib.hid (show covB T P i = false from anyB_no HI.out)
      go_wp2
      go_ret
      exact ⟨by rw [HF.out]; rfl, HA.out.trans (HW.out.mono HA.out.size)⟩
end Go.Proofs.Ytnaaaldeadjohaa.Cat

set_option linter.unusedVariables false
set_option linter.unusedSimpArgs false
namespace Go.Proofs.Ytnaaaldeadjohaa.Cat
open Go.RowKit Go.Shelf Go.Proofs Go.Proofs.YtnaaaldeadjohaaW.PrintWords Go.Proofs.Ytnaaaldeadjohaa.PCatalogLies
attribute [local go_sem] Oper.semAt_some
/-- Block B lies as it lay. -/
def SameAt (B : Nat) (W W' : World) : Prop := W'.heap[B]? = W.heap[B]?
theorem SameAt.trans {B : Nat} {X Y Z : World} (h : SameAt B X Y) (k : SameAt B Y Z) : SameAt B X Z := Eq.trans k h
theorem cell_same {B : Nat} {W W' : World} (h : SameAt B W W') (j : Nat) : W'.cell? ⟨B, j, none⟩ = W.cell? ⟨B, j, none⟩ := by
  unfold World.cell?
  rw [show W'.heap[B]? = W.heap[B]? from h]
@[reducible] def segV (x : S31) : Value := .agg #[.int .i64 x.f0, .int .i64 x.f1]
theorem segsOne_succ (s : Int) (a b : Nat) : segsOne s a (b + 1) = segsOne s a b ++ [(⟨(a : Int), (b : Int)⟩ : S31)] := by simp [segsOne, List.range_succ]
theorem segsPre_prefix (s : Int) {a m : Nat} (h : a ≤ m) : segsPre s a <+: segsPre s m := by
  obtain ⟨d, rfl⟩ : ∃ d, m = a + d := ⟨m - a, by omega⟩
  clear h
  induction d with
  | zero => exact List.prefix_refl _
  | succ d ih => exact ih.trans (by rw [← Nat.add_assoc, segsPre_succ]; exact List.prefix_append _ _)
theorem segsOne_prefix (s : Int) (a : Nat) {b m : Nat} (h : b ≤ m) : segsOne s a b <+: segsOne s a m := by
  obtain ⟨d, rfl⟩ : ∃ d, m = b + d := ⟨m - b, by omega⟩
  clear h
  induction d with
  | zero => exact List.prefix_refl _
  | succ d ih => exact ih.trans (by rw [← Nat.add_assoc, segsOne_succ]; exact List.prefix_append _ _)
set_option maxRecDepth 100000 in
set_option maxHeartbeats 2000000 in
/-- The iterator of Segments, at whatever body keeps what lay below n₀. -/
theorem segs1_in (F : Fence) (n : Nat) (h62 : F.fn 62) (hro : F.round = none) (hn : 1 ≤ n) (l B : Nat) (s : Int) (m c4 : Nat) (A4 : Option Addr) (hs : 0 ≤ s ∧ s ≤ 8) (hm : m ≤ 8) (J Jx : List S31 → World → Prop)
    (hY : ∀ pre x W, J pre W → pre.length < m * s.toNat → YieldAt F (n - 1) Try.prog l #[segV x] W fun e W' =>
      (e = .returned (.bool true) ∧ J (pre ++ [x]) W' ∧ SameAt B W W') ∨ (e = .returned (.bool false) ∧ Jx (pre ++ [x]) W'))
    (W : World) (hc1 : W.cell? ⟨B, 1, none⟩ = some (.int .i64 s)) (hc4 : W.cell? ⟨B, 4, none⟩ = some (.slice A4 m c4)) (h0 : J [] W) :
    CallsIn F n Try.prog 62 #[.func (.yield l) #[] #[], .pointer (some ⟨B, 0, none⟩)] W fun e W' => (∃ v, e = .returned v) ∧
      ((∃ ys, ys = segsPre s m ∧ J ys W') ∨ (∃ pre, pre <+: segsPre s m ∧ Jx pre W')) := by
  have HY := Lib.hid hY
  clear hY
  refine callsIn_of_wp Try.func62 rfl h62 ?_ hro
  simp only [Try.ntmps62, List.size_toArray, List.length_cons, List.length_nil, Nat.reduceAdd, Nat.reduceSub, Array.replicate_succ, Array.replicate_zero, List.push_toArray, List.append_toArray, List.nil_append, List.cons_append]
  gi_wp2
  gi_loopw [8] (fun v wr => ∃ a : Nat, v = .int .i64 a ∧ a ≤ m ∧ Hid (J (segsPre s a) wr) ∧ wr.cell? ⟨B, 1, none⟩ = some (.int .i64 s)) (fun v _ => m - (intOf v).toNat)
  case atStart => exact ⟨0, rfl, Nat.zero_le _, Lib.hid h0, hc1⟩
  case round =>
    obtain ⟨a, rfl, ha, HJ, hc1⟩ := hrel
    obtain ⟨wo, rfl⟩ : ∃ wo : World, wo = wr := ⟨_, rfl⟩
    by_cases hlt : a < m
    · gi_wp2
      gi_loopw [13] (fun v wr => ∃ b : Nat, v = .int .i64 b ∧ b ≤ s.toNat ∧ Hid (J (segsPre s a ++ segsOne s a b) wr) ∧ wr.cell? ⟨B, 1, none⟩ = some (.int .i64 s)) (fun v _ => s.toNat - (intOf v).toNat)
      case atStart => exact ⟨0, rfl, Nat.zero_le _, Lib.hid (by simpa [segsOne] using HJ.out), hc1⟩
      case round =>
        obtain ⟨b, rfl, hb, HJ2, hc1⟩ := hrel
        by_cases hlb : b < s.toNat
        · have hlb' : (b : Int) < s := by omega
          obtain ⟨fn, tmps, assign, body, hy, hR⟩ := HY.out (segsPre s a ++ segsOne s a b) ⟨(a : Int), (b : Int)⟩ wr HJ2.out (by
            rw [List.length_append, segsPre_length]
            have : (segsOne s a b).length = b := by simp [segsOne]
            rw [this]
            have := Nat.mul_le_mul_right s.toNat hlt
            rw [Nat.succ_mul] at this
            omega)
          dsimp only [segV] at hy
          gi_wp2
          refine hR.mono ?_
          rintro e W3 (⟨rfl, hJ3, hk3⟩ | ⟨rfl, hJx3⟩)
          · have hc1' : W3.cell? ⟨B, 1, none⟩ = some (.int .i64 s) := (cell_same hk3 1).trans hc1
            have HJ3 := Lib.hid hJ3
            clear hk3 hJ3 hy hR
            gi_wp2
            go_roundw
            case rel => exact ⟨b + 1, by go_num, hlb, Lib.hid (by rw [segsOne_succ, ← List.append_assoc]; exact HJ3.out), hc1'⟩
            case measure => simp [intOf]; omega
          · have HX := Lib.hid hJx3
            clear hJx3 hy hR
            gi_wp2
            refine bodyPost_ret (results_none rfl _ _ _) rfl ?_
            refine ⟨⟨_, rfl⟩, .inr ⟨_, ?_, HX.out⟩⟩
            rw [List.append_assoc, ← segsOne_succ]
            exact ((List.prefix_append_right_inj _).2 (segsOne_prefix s a hlb)).trans (by rw [← segsPre_succ]; exact segsPre_prefix s hlt)
        · obtain rfl : b = s.toNat := by omega
          have hge : ¬ ((s.toNat : Int) < s) := by omega
          gi_wp2
          go_roundw
          case rel => exact ⟨a + 1, by go_num, hlt, Lib.hid (by rw [segsPre_succ]; exact HJ2.out), hc1⟩
          case measure => simp [intOf]; omega
    · obtain rfl : a = m := by omega
      gi_wp2
      go_end0
      exact ⟨⟨_, rfl⟩, .inl ⟨_, rfl, HJ.out⟩⟩
end Go.Proofs.Ytnaaaldeadjohaa.Cat

set_option linter.unusedVariables false
set_option linter.unusedSimpArgs false
namespace Go.Proofs.Ytnaaaldeadjohaa.Cat
open Go.RowKit Go.Shelf Go.Proofs Go.Proofs.YtnaaaldeadjohaaW.PrintWords Go.Proofs.Ytnaaaldeadjohaa.PCatalogLies
attribute [local go_sem] Oper.semAt_some
set_option maxHeartbeats 1000000 in
/-- Segments hands back a function that has the catalog in a box. -/
theorem segsFn_in (F : Fence) (q : Nat) (h37 : F.fn 37) (hro : F.round = none) (n s k : Int) (T : List S79) (P : List S66) (A3 : Option Addr) (c3 : Nat) (A4 : Option Addr) (c4 : Nat) (w : World) :
    CallsIn F q Try.prog 37 #[catV n s k T P A3 c3 A4 c4] w fun e w' => e = .returned (.func (.func 62) #[] #[.pointer (some ⟨w.heap.size, 0, none⟩)]) ∧ w' = w.alloc (.cells #[.int .i64 n, .int .i64 s, .int .i64 k, .slice A3 T.length c3, .slice A4 P.length c4] 25) := by
  refine callsIn_of_wp Try.func37 rfl h37 ?_ hro
  simp only [Try.ntmps37, List.size_toArray, List.length_cons, List.length_nil, Nat.reduceAdd, Nat.reduceSub, Array.replicate_succ, Array.replicate_zero, List.push_toArray, List.append_toArray, List.nil_append, List.cons_append]
  gi_wp2
  go_ret
  exact ⟨rfl, rfl⟩
/-- .. which gives all segments in their order. -/
theorem segs_stops (F : Fence) (q : Nat) (h62 : F.fn 62) (hro : F.round = none) (hq : 1 ≤ q) (B : Nat) (s : Int) (P : List S66) (A4 : Option Addr) (c4 : Nat) (w : World) (hs : 0 ≤ s ∧ s ≤ 8) (hP : P.length ≤ 8) (hB : B < w.heap.size)
    (hc1 : w.cell? ⟨B, 1, none⟩ = some (.int .i64 s)) (hc4 : w.cell? ⟨B, 4, none⟩ = some (.slice A4 P.length c4)) :
    SeqStopsK F q Try.prog 62 #[.pointer (some ⟨B, 0, none⟩)] (fun x : S31 => #[segV x]) (SameAt B) (fun ys => ys = segsL s P) (fun pre => pre <+: segsL s P) (P.length * s.toNat) w := fun l J Jx W hW _ _ hY h0 =>
  segs1_in F q h62 hro hq l B s P.length c4 A4 hs hP J Jx hY W ((hW.cell (p := ⟨B, 1, none⟩) hB).trans hc1) ((hW.cell (p := ⟨B, 4, none⟩) hB).trans hc4) h0
theorem sameAt_b {B : Nat} {w : World} (hB : B < w.heap.size) (W : World) (l : Nat) (o o' : Obj) (hl : w.heap.size ≤ l) (_ : W.heap[l]? = some o) (_ : o.isCells = false) (_ : o.isWalk = false) : SameAt B W (W.putObj l o') :=
  World.putObj_heap_other (by omega)
/-- 'Block B holds these cells' speaks of cells alone. -/
theorem blk_own {β : Type} (B : Nat) (cs : Array Value) (t : TypeId) : Own (fun (_ : β) W => W.heap[B]? = some (.cells cs t (0, 0))) := fun s X Y row hs hg hrow => by
  refine blk_grown hs hg (fun e' => ?_)
  obtain ⟨o, ho, hc⟩ := hrow B e'.symm
  rw [show X.heap[B]? = _ from hs] at ho
  cases ho; cases hc
theorem reps_segs (w : World) (base : Nat) (ok : Nat → Prop) (l : List S31) : Reps (k31.M w base ok) 2 l (l.flatMap fun x => [Value.int .i64 x.f0, .int .i64 x.f1]) := by
  induction l with
  | nil => exact Reps.none _ _
  | cons x l ih =>
    refine ⟨by rw [List.flatMap_cons, List.length_append, ih.1]; simp; omega, fun j p hj => ?_⟩
    rcases j with _ | j
    · obtain rfl : x = p := by simpa using hj
      simpa using k31_mkM w base ok x
    · have := ih.2 j p (by simpa using hj)
      rw [Nat.succ_mul]
      simpa using this
/-- Does a number stand in a list? (A name that the walk does not open.) -/
def hasB (l : List Int) (x : Int) : Bool := l.contains x
theorem has_calls (A : Option Addr) (n c : Nat) (l : List Int) (x : Int) (w : World) (hn : l.length = n) (hr : Kd.C (Kd.int .i64) w A n l) (hc : n ≤ c) :
    Calls Try.prog 38 #[.slice A n c, .int .i64 x] w fun e w' => e = .returned (.bool (hasB l x)) ∧ Drawn0 w w' := contains_calls A n c l x w hn hr hc
/-- What of some segments lies at a node. -/
def pick (n s k : Int) (P : List S66) (x : Int) (pre : List S31) : List S31 := pre.filter fun at_ => (nodesL n s k P at_.f0 at_.f1).contains x
def segCells (l : List S31) : List Value := l.flatMap fun x => [Value.int .i64 x.f0, .int .i64 x.f1]
theorem keepsFrom_of_below {B : Nat} {W W' : World} (h : Below W.heap.size W W') : KeepsFrom B W W' := ⟨h.size, fun k o _ hk _ => (h.block k (blk_lt hk)).trans hk⟩
theorem segs_gives {w : World} {base : Nat} {v : Value} {l : List S31} (h : w.ownsRow base 31 2 v l.length (segCells l)) : ∃ A c, v = .slice A l.length c ∧ l.length ≤ c ∧ k31.C w A l.length l :=
  Kd.R_reads (d := k31) (e := 31) (base := base) (ok := fun _ => True) ⟨fun _ _ => trivial, segCells l, h, reps_segs _ _ _ l⟩
theorem pick_hit (n s k : Int) (P : List S66) (x : Int) (pre : List S31) {y : S31} (h : (nodesL n s k P y.f0 y.f1).contains x = true) : pick n s k P x (pre ++ [y]) = pick n s k P x pre ++ [y] := by
  unfold pick; rw [List.filter_append]; simp only [List.filter_cons, List.filter_nil, h, if_true]
theorem pick_miss (n s k : Int) (P : List S66) (x : Int) (pre : List S31) {y : S31} (h : (nodesL n s k P y.f0 y.f1).contains x = false) : pick n s k P x (pre ++ [y]) = pick n s k P x pre := by
  unfold pick; rw [List.filter_append]; simp only [List.filter_cons, List.filter_nil, h, Bool.false_eq_true, if_false, List.append_nil]
theorem segCells_snoc (l : List S31) (y : S31) : segCells (l ++ [y]) = segCells l ++ [.int .i64 y.f0, .int .i64 y.f1] := by simp [segCells]
set_option maxRecDepth 100000 in
set_option maxHeartbeats 4000000 in
theorem of_calls (n s k : Int) (T : List S79) (P : List S66) (A3 : Option Addr) (c3 : Nat) (A4 : Option Addr) (c4 : Nat) (x : Int) (w : World) (g : Good n s k P) (h : CatR w T P A3 c3 A4 c4) :
    Calls Try.prog 14 #[catV n s k T P A3 c3 A4 c4, .int .i64 x] w (GivesSegs (ofL n s k P x) w) := by
  refine (callsIn_wide (n := 5)).1 ?_
  refine callsIn_of_wp_marks Try.func14 rfl trivial ?_ rfl
  simp only [Try.ntmps14, List.size_toArray, List.length_cons, List.length_nil, Nat.reduceAdd, Nat.reduceSub, Array.replicate_succ, Array.replicate_zero, List.push_toArray, List.append_toArray, List.nil_append, List.cons_append]
  gi_wp2_with (refine ⟨trivial, ?_⟩; gi_at_call 37; refine (segsFn_in Fence.wide _ trivial rfl n s k T P A3 c3 A4 c4 _).mono ?_; rintro e w' ⟨rfl, rfl⟩)
  have HC := Lib.hid h
  have HG := Lib.hid g
  obtain ⟨i0, hi, hz0, hz1, hz2⟩ := info_parts info31
  have hB0 : Below w.heap.size w ((((w.alloc (.cells #[.int .i64 n, .int .i64 s, .int .i64 k, .slice A3 T.length c3, .slice A4 P.length c4] 25)).alloc (.cells #[.int .i64 x] 3)).alloc (.cells #[.slice none 0 0] 33)).alloc (.cells #[.int .i64 n, .int .i64 s, .int .i64 k, .slice A3 T.length c3, .slice A4 P.length c4] 25)) :=
    ((((Below.refl _ w).alloc (Nat.le_refl _) _).alloc (by simp) _).alloc (by simp; omega) _).alloc (by simp; omega) _
  have b0 := blk_alloc (blk_alloc (blk_alloc (heap_alloc_new w (.cells #[.int .i64 n, .int .i64 s, .int .i64 k, .slice A3 T.length c3, .slice A4 P.length c4] 25)) (.cells #[.int .i64 x] 3)) (.cells #[.slice none 0 0] 33)) (.cells #[.int .i64 n, .int .i64 s, .int .i64 k, .slice A3 T.length c3, .slice A4 P.length c4] 25)
  have b1 := ((Boxed.new (w.alloc (.cells #[.int .i64 n, .int .i64 s, .int .i64 k, .slice A3 T.length c3, .slice A4 P.length c4] 25)) 3 (.int .i64 x)).alloc (.cells #[.slice none 0 0] 33)).alloc (.cells #[.int .i64 n, .int .i64 s, .int .i64 k, .slice A3 T.length c3, .slice A4 P.length c4] 25)
  have b2 := (Boxed.new ((w.alloc (.cells #[.int .i64 n, .int .i64 s, .int .i64 k, .slice A3 T.length c3, .slice A4 P.length c4] 25)).alloc (.cells #[.int .i64 x] 3)) 33 (.slice none 0 0)).alloc (.cells #[.int .i64 n, .int .i64 s, .int .i64 k, .slice A3 T.length c3, .slice A4 P.length c4] 25)
  have b3 := heap_alloc_new (((w.alloc (.cells #[.int .i64 n, .int .i64 s, .int .i64 k, .slice A3 T.length c3, .slice A4 P.length c4] 25)).alloc (.cells #[.int .i64 x] 3)).alloc (.cells #[.slice none 0 0] 33)) (.cells #[.int .i64 n, .int .i64 s, .int .i64 k, .slice A3 T.length c3, .slice A4 P.length c4] 25)
  have hsz : ((((w.alloc (.cells #[.int .i64 n, .int .i64 s, .int .i64 k, .slice A3 T.length c3, .slice A4 P.length c4] 25)).alloc (.cells #[.int .i64 x] 3)).alloc (.cells #[.slice none 0 0] 33)).alloc (.cells #[.int .i64 n, .int .i64 s, .int .i64 k, .slice A3 T.length c3, .slice A4 P.length c4] 25)).heap.size = w.heap.size + 4 := by simp
  simp only [World.size_alloc] at b0 b1 b2 b3
  clear h g
  generalize ((((w.alloc (.cells #[.int .i64 n, .int .i64 s, .int .i64 k, .slice A3 T.length c3, .slice A4 P.length c4] 25)).alloc (.cells #[.int .i64 x] 3)).alloc (.cells #[.slice none 0 0] 33)).alloc (.cells #[.int .i64 n, .int .i64 s, .int .i64 k, .slice A3 T.length c3, .slice A4 P.length c4] 25)) = W0 at *
  have c31 := (blk_cell b3 1).trans rfl
  have c34 := (blk_cell b3 4).trans rfl
  refine wpIn_rangeFunc_ownH rfl (by omega) (gf := 62) (lb := #[.pointer (some ⟨w.heap.size + 1 + 1 + 1, 0, none⟩)]) rfl trivial (enters_of Try.func62 (by kernel_rfl) rfl)
    (segs_stops Fence.wide _ trivial rfl (by omega) (w.heap.size + 1 + 1 + 1) s P A4 c4 W0 (by have := HG.out.hs; omega) HG.out.hP (by omega) c31 c34) SameAt.trans (sameAt_b (by omega)) (Below.refl _ _) (fun _ => rfl)
    (fun pre W => ((W.heap[w.heap.size]? = some (.cells #[.int .i64 n, .int .i64 s, .int .i64 k, .slice A3 T.length c3, .slice A4 P.length c4] 25 (0, 0)) ∧ W.heap[w.heap.size + 1 + 1 + 1]? = some (.cells #[.int .i64 n, .int .i64 s, .int .i64 k, .slice A3 T.length c3, .slice A4 P.length c4] 25 (0, 0))) ∧
      (Boxed W (w.heap.size + 1) 3 (.int .i64 x) ∧ ∃ v, Boxed W (w.heap.size + 1 + 1) 33 v ∧ W.ownsRow w.heap.size 31 2 v (pick n s k P x pre).length (segCells (pick n s k P x pre)) ∧ True)) ∧ Below w.heap.size w W)
    (fun _ _ _ => False)
    (OwnFrom.and (OwnFrom.and (OwnFrom.and (Own.from (blk_own _ _ _) _) (Own.from (blk_own _ _ _) _)) (OwnFrom.and (Own.from (boxed_own _ _ _) _) (Own.from (holdsRow_own w.heap.size (w.heap.size + 1 + 1) 33 31 2 (fun pre => (pick n s k P x pre).length) (fun pre => segCells (pick n s k P x pre)) (fun _ _ => True)) _))) (ownFrom_below (Nat.le_refl _) (by omega)))
    (fun _ _ _ _ _ hs _ _ => hs)
    ⟨⟨⟨b0, b3⟩, b1, _, b2, own_nil _ _ _ _, trivial⟩, hB0⟩
    (fun y a' W => ∃ Bx, w.heap.size + 3 < Bx ∧ W.heap[Bx]? = some (.cells #[.int .i64 y.f0, .int .i64 y.f1] 31 (0, 0)) ∧ a' = { tmps := #[catV n s k T P A3 c3 A4 c4, .int .i64 x, .pointer (some ⟨w.heap.size, 0, none⟩), .pointer (some ⟨w.heap.size + 1, 0, none⟩), .slice none 0 0, .pointer (some ⟨w.heap.size + 1 + 1, 0, none⟩), .pointer (some ⟨Bx, 0, none⟩), catV n s k T P A3 c3 A4 c4, .func (.func 62) #[] #[.pointer (some ⟨w.heap.size + 1 + 1 + 1, 0, none⟩)], segV y, undef, undef, undef, undef, undef, undef, undef, undef, undef, undef], defers := [] })
    (fun y a' _ X Y row hs hg hr => by obtain ⟨Bx, h1, h2, h3⟩ := hs; exact ⟨Bx, h1, blk_own Bx _ _ () X Y row h2 hg (fun r e => (hr r e).2), h3⟩)
    ?assign ?body ?done ?stop
  case assign =>
    rintro l pre y W K ⟨⟨⟨hb0, hb3⟩, hb1, v, hb2, hrow, _⟩, hB⟩ hK
    gi_wp2
    exact hK _ _ ((KeepsOthers.alloc _ _).from _) (Below.heap_alloc _ _ _ (blk_lt hb3)) ⟨⟨⟨blk_alloc hb0 _, blk_alloc hb3 _⟩, hb1.alloc _, v, hb2.alloc _, hrow.alloc _, trivial⟩, hB.alloc hB.size _⟩ ⟨W.heap.size, by have := blk_lt hb3; omega, heap_alloc_new W _, rfl⟩
  case body =>
    rintro l pre y a' W hl ⟨r, hr⟩ ⟨⟨⟨hb0, hb3⟩, hb1, v, hb2, hrow, _⟩, hB⟩ ⟨Bx, hBx, bX, rfl⟩ hlt
    have hlen : (pick n s k P x pre).length ≤ 64 := by
      have h1 : (pick n s k P x pre).length ≤ pre.length := List.length_filter_le _ _
      have h2 := Nat.mul_le_mul HG.out.hP (show s.toNat ≤ 8 by have := HG.out.hs; omega)
      omega
    have HRow := Lib.hid hrow
    have HBel := Lib.hid hB
    have H0 := Lib.hid hb0
    have H1 := Lib.hid hb1
    have H2 := Lib.hid hb2
    have H3 := Lib.hid hb3
    have HX := Lib.hid bX
    have z0 := (blk_cell hb0 0).trans rfl
    have z1 := (blk_cell hb0 1).trans rfl
    have z2 := (blk_cell hb0 2).trans rfl
    have z3 := (blk_cell hb0 3).trans rfl
    have z4 := (blk_cell hb0 4).trans rfl
    have x0 := (blk_cell bX 0).trans rfl
    have x1 := (blk_cell bX 1).trans rfl
    have n0 := hb1.cell
    clear hrow hB hb0 hb1 hb2 hb3 bX
    clear b0 b1 b2 b3 c31 c34
    have hd : 1 ≤ 5 - 1 - 1 := by omega
    have hmx : Try.prog.follows .mixedOrders = true := by kernel_rfl
    gi_wp2
    gi_region_with_o (first
      | (refine ⟨trivial, ?_⟩; gi_at_call 18; refine (CallsIn.inRound l (callsIn_wide.2 (nodes_calls (n := n) (s := s) (k := k) (T := T) (P := P) (w := W.drew) HG.out (HC.out.below HBel.out.drew) y.f0 y.f1))).mono ?_; rintro e w1 ⟨Av, cv, rfl, hle, hCv, hb⟩; have n1 := pw_cell_below hb n0; have Hb := Lib.hid hb; have HCv := Lib.hid hCv; clear hb hCv)
      | (refine ⟨trivial, ?_⟩; gi_at_call 38; refine (CallsIn.inRound l (callsIn_wide.2 (has_calls Av _ cv (nodesL n s k P y.f0 y.f1) x w1 rfl HCv.out hle))).mono ?_; rintro e w2 ⟨rfl, hdr⟩; have Hb2 := Lib.hid (Hb.out.trans ((Drawn0.below hdr).mono Hb.out.size)); clear hdr))
    all_goals
      have hW2 := Below.drew (Below.refl W.heap.size W)
      have HW := Lib.hid (show Below W.heap.size W w2 from hW2.trans (Hb2.out.mono (Nat.le_refl _)))
      clear hW2
      have R0 := Lib.hid (blk_below H0.out HW.out)
      have R1 := Lib.hid (show Boxed w2 (w.heap.size + 1) 3 (.int .i64 x) from blk_below H1.out HW.out)
      have R2 := Lib.hid (show Boxed w2 (w.heap.size + 1 + 1) 33 v from blk_below H2.out HW.out)
      have R3 := Lib.hid (blk_below H3.out HW.out)
      have RX := Lib.hid (blk_below HX.out HW.out)
      have RR := Lib.hid (pw_own_below HRow.out HW.out)
      have RB := Lib.hid (HBel.out.trans (HW.out.mono HBel.out.size))
      cases hcon : hasB (nodesL n s k P y.f0 y.f1) x
      · have HP := Lib.hid (pick_miss n s k P x pre hcon)
        clear hcon
        gi_wp2
        exact ⟨keepsFrom_of_below HW.out, HW.out.block _ (blk_lt H3.out), ⟨⟨⟨R0.out, R3.out⟩, R1.out, v, R2.out, by rw [HP.out]; exact RR.out, trivial⟩, RB.out⟩⟩
      · have HP := Lib.hid (pick_hit n s k P x pre hcon)
        clear hcon
        have l0 := R2.out.cell
        have e0 := (blk_cell RX.out 0).trans rfl
        have e1 := (blk_cell RX.out 1).trans rfl
        clear n0 n1 z0 z1 z2 z3 z4 x0 x1
        gi_wp2_with (gi_at_builtin; refine wpListIn_append_own _ rfl _ _ 33 rfl w.heap.size 31 i0 (.agg #[.int .i64 0, .int .i64 0]) 2 16 Try.underlying33 hi hz0 hz1 hz2 rfl (by decide) v _ _ rfl (RR.out.alloc _) ⟨w2.heap.size, 0, none⟩ 1 1 [.int .i64 y.f0, .int .i64 y.f1] rfl rfl (World.news_of_block (cs := #[.int .i64 y.f0, .int .i64 y.f1]) (t := 31) (fr := (0, 0)) (heap_alloc_new w2 _)) (by simp [Value.oneCell']) (by simp only [maxLen]; omega) (by omega) (by have := RB.out.size; simp; omega) ?_; intro v' w3 hown' hgrow _; obtain ⟨g', cap', rfl⟩ := ownsRow_succ hown'; obtain ⟨hv1, hv2, hr2, hk2, hb2'⟩ := R2.out.appended (by decide) RR.out RB.out.size (by omega) hown' hgrow; have hc1 := hv1.cell; have hf1 := hv1.frozen; have HV2 := Lib.hid hv2; have HR2 := Lib.hid hr2; have HK2 := Lib.hid hk2; have HB2' := Lib.hid hb2'; have HGR := Lib.hid hgrow; clear hv1 hv2 hr2 hk2 hb2' hown' hgrow)
        have G0 := Lib.hid (blk_grown (blk_alloc R0.out (.cells #[.int .i64 y.f0, .int .i64 y.f1] 31)) HGR.out (own_ne (RR.out.alloc (.cells #[.int .i64 y.f0, .int .i64 y.f1] 31)) (blk_alloc R0.out (.cells #[.int .i64 y.f0, .int .i64 y.f1] 31)) (by decide)))
        have G1 := Lib.hid (show Boxed w3 (w.heap.size + 1) 3 (.int .i64 x) from blk_grown (blk_alloc R1.out (.cells #[.int .i64 y.f0, .int .i64 y.f1] 31)) HGR.out (own_ne (RR.out.alloc (.cells #[.int .i64 y.f0, .int .i64 y.f1] 31)) (blk_alloc R1.out (.cells #[.int .i64 y.f0, .int .i64 y.f1] 31)) (by decide)))
        have G3 := Lib.hid (blk_grown (blk_alloc R3.out (.cells #[.int .i64 y.f0, .int .i64 y.f1] 31)) HGR.out (own_ne (RR.out.alloc (.cells #[.int .i64 y.f0, .int .i64 y.f1] 31)) (blk_alloc R3.out (.cells #[.int .i64 y.f0, .int .i64 y.f1] 31)) (by decide)))
        refine ⟨(keepsFrom_of_below HW.out).trans (HK2.out.from _), ?_, ⟨⟨⟨blk_far G0.out (by show _ ≠ w.heap.size + 1 + 1; omega) _, blk_far G3.out (by show _ ≠ w.heap.size + 1 + 1; omega) _⟩, G1.out.other (by omega) _, _, HV2.out, ?_, trivial⟩, RB.out.trans HB2'.out⟩⟩
        · exact (blk_far G3.out (by show _ ≠ w.heap.size + 1 + 1; omega) _).trans H3.out.symm
        · rw [HP.out, segCells_snoc, List.length_append]
          exact HR2.out
  case done =>
    rintro D ys W hD rfl ⟨⟨⟨hb0, hb3⟩, hb1, v, hb2, hrow, _⟩, hB⟩ hK
    have hc := hb2.cell
    have HR := Lib.hid (ownsRow_putObj hrow (.deferred none) hK rfl)
    have HB2 := Lib.hid (hB.trans (belowK_b (w := w) (Nat.le_refl _) W D _ (.deferred none) (by omega) hK rfl rfl))
    clear b0 b1 b2 b3 c31 c34 hb0 hb3 hb1 hrow hB
    gi_wp2
    refine ⟨by simp, .inl ⟨_, _, rfl, run_takeDeferred hK, ?_⟩⟩
    obtain ⟨A, c, rfl, hle, hC⟩ := segs_gives HR.out
    exact ⟨_, results_tmp rfl _ _ _, A, c, rfl, hle, hC, HB2.out⟩
  case stop =>
    rintro D c pre W _ _ h _
    exact h.elim
end Go.Proofs.Ytnaaaldeadjohaa.Cat
