import Derived.Test.YtnaaaldeadjohaaTh
import Derived.Laws.EntriesVeiled
import Derived.Shelf.Abstract
set_option linter.unusedVariables false
set_option linter.unusedSimpArgs false
namespace Go.Proofs.Ytnaaaldeadjohaa.Cat
open Go.RowKit Go.Proofs.YtnaaaldeadjohaaW.PrintWords Go.Proofs.Ytnaaaldeadjohaa.PCatalogLies
theorem named3_calls (s : ByteArray) (w : World) : Calls Try.prog 52 #[.string s] w fun e w' => e = .returned (.bool (namedB s)) ∧ Drawn0 w w' := by
  have e1 : (decide ((1 : Int) ≤ (s.size : Int)) = decide (1 ≤ s.size)) := decide_eq_decide.2 (by omega)
  have e2 : (decide ((s.size : Int) ≤ 64) = decide (s.size ≤ 64)) := decide_eq_decide.2 (by omega)
  have HF := Lib.hid (show namedB s = (decide ((1 : Int) ≤ (s.size : Int)) && decide ((s.size : Int) ≤ 64)) by unfold namedB; rw [e1, e2])
  clear e1 e2
  generalize hq : decide ((s.size : Int) ≤ 64) = q at *
  cases hp : decide ((1 : Int) ≤ (s.size : Int))
  · rw [hp] at HF
    go_enter Try.func52, Try.ntmps52
    go_wp2
    go_ret
    exact ⟨by rw [HF.out]; rfl, Drawn0.refl _⟩
  · rw [hp] at HF
    go_enter Try.func52, Try.ntmps52
    go_wp2
    go_ret
    exact ⟨by rw [HF.out]; rfl, Drawn0.refl _⟩
set_option maxHeartbeats 2000000 in
/-- 'among': does n stand among p's columns? -/
theorem among_calls (x : Int) (b : Nat) (B2 : Option Addr) (d2 : Nat) (l : List Int) (w : World) (hc : w.cell? ⟨b, 2, none⟩ = some (.slice B2 l.length d2)) (hr : (Kd.int .i64).C w B2 l.length l) (hl : l.length ≤ d2) :
    Calls Try.prog 53 #[.int .i64 x, .pointer (some ⟨b, 0, none⟩)] w fun e w' => e = .returned (.bool (l.contains x)) ∧ Drawn0 w w' := by
  have HR := Lib.hid hr
  clear hr
  go_enter Try.func53, Try.ntmps53
  go_wp2_with (fail)
  refine (contains_calls B2 _ d2 l x _ rfl HR.out hl).mono ?_
  generalize hy : l.contains x = y at *
  have HY := Lib.hid hy
  clear hy
  rintro e w1 ⟨rfl, hd⟩
  go_wp2
  go_ret
  exact ⟨by rw [HY.out]; rfl, hd⟩
set_option maxHeartbeats 2000000 in
/-- Its contrary. -/
theorem notAmong_calls (x : Int) (b g : Nat) (B2 : Option Addr) (d2 : Nat) (l : List Int) (w : World) (hg : w.cell? ⟨g, 0, none⟩ = some (.func (.func 53) #[] #[.pointer (some ⟨b, 0, none⟩)])) (hc : w.cell? ⟨b, 2, none⟩ = some (.slice B2 l.length d2)) (hr : (Kd.int .i64).C w B2 l.length l) (hl : l.length ≤ d2) :
    Calls Try.prog 55 #[.int .i64 x, .pointer (some ⟨g, 0, none⟩)] w fun e w' => e = .returned (.bool (!(l.contains x))) ∧ Below w.heap.size w w' := by
  have HR := Lib.hid hr
  clear hr
  go_enter Try.func55, Try.ntmps55
  go_wp2_with (fail)
  refine (among_calls x b B2 d2 l _ hc HR.out hl).mono ?_
  generalize hy : l.contains x = y at *
  have HY := Lib.hid hy
  clear hy
  rintro e w1 ⟨rfl, hd⟩
  go_wp2
  go_ret
  exact ⟨by rw [HY.out]; rfl, Drawn0.below hd⟩
set_option maxHeartbeats 4000000 in
set_option maxRecDepth 100000 in
theorem projection_calls (n s k : Int) (T : List S79) (P : List S66) (A3 : Option Addr) (c3 : Nat) (A4 : Option Addr) (c4 : Nat) (p : S66) (B2 : Option Addr) (d2 : Nat) (B3 : Option Addr) (d3 : Nat) (w : World)
    (hc : CatR w T P A3 c3 A4 c4) (hp : ProjR w p B2 d2 B3 d3) :
    Calls Try.prog 30 #[catV n s k T P A3 c3 A4 c4, projV p B2 d2 B3 d3] w fun e w' => e = .returned (.bool (projOk n T p)) ∧ Below w.heap.size w w' := by
  have HC := Lib.hid hc
  have HP := Lib.hid hp
  have hT : T.length ≤ 9223372036854775807 := hc.rT.2.1
  have h2 : p.f2.length ≤ 9223372036854775807 := hp.r2.2.1
  have h3 : p.f3.length ≤ 9223372036854775807 := hp.r3.2.1
  have HB := Lib.hid (((Below.refl w.heap.size w).alloc (Nat.le_refl _) (.cells #[.int .i64 n, .int .i64 s, .int .i64 k, .slice A3 T.length c3, .slice A4 P.length c4] 25)).alloc (by simp) (.cells #[.string p.f0, .int .i64 p.f1, .slice B2 p.f2.length d2, .slice B3 p.f3.length d3, .int .i64 p.f4, .int .i64 p.f5] 66))
  clear hc hp
  have q0 : ((w.alloc (.cells #[.int .i64 n, .int .i64 s, .int .i64 k, .slice A3 T.length c3, .slice A4 P.length c4] 25)).alloc (.cells #[.string p.f0, .int .i64 p.f1, .slice B2 p.f2.length d2, .slice B3 p.f3.length d3, .int .i64 p.f4, .int .i64 p.f5] 66)).cell? ⟨w.heap.size, 0, none⟩ = some (.int .i64 n) := by simp [go_sem]
  have q3 : ((w.alloc (.cells #[.int .i64 n, .int .i64 s, .int .i64 k, .slice A3 T.length c3, .slice A4 P.length c4] 25)).alloc (.cells #[.string p.f0, .int .i64 p.f1, .slice B2 p.f2.length d2, .slice B3 p.f3.length d3, .int .i64 p.f4, .int .i64 p.f5] 66)).cell? ⟨w.heap.size, 3, none⟩ = some (.slice A3 T.length c3) := by simp [go_sem]
  have r1 : ((w.alloc (.cells #[.int .i64 n, .int .i64 s, .int .i64 k, .slice A3 T.length c3, .slice A4 P.length c4] 25)).alloc (.cells #[.string p.f0, .int .i64 p.f1, .slice B2 p.f2.length d2, .slice B3 p.f3.length d3, .int .i64 p.f4, .int .i64 p.f5] 66)).cell? ⟨w.heap.size + 1, 1, none⟩ = some (.int .i64 p.f1) := by simp [go_sem]
  have r2 : ((w.alloc (.cells #[.int .i64 n, .int .i64 s, .int .i64 k, .slice A3 T.length c3, .slice A4 P.length c4] 25)).alloc (.cells #[.string p.f0, .int .i64 p.f1, .slice B2 p.f2.length d2, .slice B3 p.f3.length d3, .int .i64 p.f4, .int .i64 p.f5] 66)).cell? ⟨w.heap.size + 1, 2, none⟩ = some (.slice B2 p.f2.length d2) := by simp [go_sem]
  have r3 : ((w.alloc (.cells #[.int .i64 n, .int .i64 s, .int .i64 k, .slice A3 T.length c3, .slice A4 P.length c4] 25)).alloc (.cells #[.string p.f0, .int .i64 p.f1, .slice B2 p.f2.length d2, .slice B3 p.f3.length d3, .int .i64 p.f4, .int .i64 p.f5] 66)).cell? ⟨w.heap.size + 1, 3, none⟩ = some (.slice B3 p.f3.length d3) := by simp [go_sem]
  have r4 : ((w.alloc (.cells #[.int .i64 n, .int .i64 s, .int .i64 k, .slice A3 T.length c3, .slice A4 P.length c4] 25)).alloc (.cells #[.string p.f0, .int .i64 p.f1, .slice B2 p.f2.length d2, .slice B3 p.f3.length d3, .int .i64 p.f4, .int .i64 p.f5] 66)).cell? ⟨w.heap.size + 1, 4, none⟩ = some (.int .i64 p.f4) := by simp [go_sem]
  have r5 : ((w.alloc (.cells #[.int .i64 n, .int .i64 s, .int .i64 k, .slice A3 T.length c3, .slice A4 P.length c4] 25)).alloc (.cells #[.string p.f0, .int .i64 p.f1, .slice B2 p.f2.length d2, .slice B3 p.f3.length d3, .int .i64 p.f4, .int .i64 p.f5] 66)).cell? ⟨w.heap.size + 1, 5, none⟩ = some (.int .i64 p.f5) := by simp [go_sem]
  have hz : ((w.alloc (.cells #[.int .i64 n, .int .i64 s, .int .i64 k, .slice A3 T.length c3, .slice A4 P.length c4] 25)).alloc (.cells #[.string p.f0, .int .i64 p.f1, .slice B2 p.f2.length d2, .slice B3 p.f3.length d3, .int .i64 p.f4, .int .i64 p.f5] 66)).heap.size = w.heap.size + 2 := by simp
  go_enter Try.func30, Try.ntmps30
  go_wp2_with (fail)
  generalize ((w.alloc (.cells #[.int .i64 n, .int .i64 s, .int .i64 k, .slice A3 T.length c3, .slice A4 P.length c4] 25)).alloc (.cells #[.string p.f0, .int .i64 p.f1, .slice B2 p.f2.length d2, .slice B3 p.f3.length d3, .int .i64 p.f4, .int .i64 p.f5] 66)) = W0 at *
  have HZ := Lib.hid hz
  clear hz
  refine (named3_calls p.f0 _).mono ?_
  rintro e w1 ⟨rfl, hd⟩
  have hb := Drawn0.below hd
  replace q0 := pw_cell_below hb q0
  replace q3 := pw_cell_below hb q3
  replace r1 := pw_cell_below hb r1
  replace r2 := pw_cell_below hb r2
  replace r3 := pw_cell_below hb r3
  replace r4 := pw_cell_below hb r4
  replace r5 := pw_cell_below hb r5
  have HB1 := Lib.hid (HB.out.trans (hb.mono HB.out.size))
  have HZ1 := Lib.hid (show w.heap.size + 2 ≤ w1.heap.size by have := hb.size; have := HZ.out; omega)
  clear hb hd
  cases hnm : namedB p.f0
  · have HF := Lib.hid (projOk_name (n := n) (T := T) hnm)
    clear hnm
    go_wp2
    go_ret
    exact ⟨by rw [HF.out]; rfl, HB1.out⟩
  have HN := Lib.hid hnm
  clear hnm
  by_cases c3' : p.f1 < 0
  · have HF := Lib.hid (projOk_t0 (n := n) (T := T) c3')
    go_wp2
    go_ret
    exact ⟨by rw [HF.out]; rfl, HB1.out⟩
  have b3 : decide (p.f1 < 0) = false := decide_eq_false c3'
  by_cases c4' : (T.length : Int) ≤ p.f1
  · have HF := Lib.hid (projOk_t1 (n := n) (T := T) c4')
    go_wp2
    go_ret
    exact ⟨by rw [HF.out]; rfl, HB1.out⟩
  have b4 : decide ((T.length : Int) ≤ p.f1) = false := decide_eq_false c4'
  by_cases c5 : p.f2.length = 0
  · have HF := Lib.hid (projOk_c0 (n := n) (T := T) c5)
    have d : ((p.f2.length : Int) == 0) = true := beq_iff_eq.2 (by omega)
    clear c5
    go_wp2
    go_ret
    exact ⟨by rw [HF.out]; rfl, HB1.out⟩
  have b5 : ((p.f2.length : Int) == 0) = false := beq_eq_false_iff_ne.2 (by omega)
  by_cases c6 : p.f5 < 0
  · have HF := Lib.hid (projOk_s0 (n := n) (T := T) c6)
    clear c5
    go_wp2
    go_ret
    exact ⟨by rw [HF.out]; rfl, HB1.out⟩
  have b6 : decide (p.f5 < 0) = false := decide_eq_false c6
  by_cases c7 : n ≤ p.f5
  · have HF := Lib.hid (projOk_s1 (n := n) (T := T) c7)
    clear c5
    go_wp2
    go_ret
    exact ⟨by rw [HF.out]; rfl, HB1.out⟩
  have b7 : decide (n ≤ p.f5) = false := decide_eq_false c7
  have HR := Lib.hid (show projOk n T p = (plOk p.f2 (rd_T79 T p.f1).f1.length && plOk p.f3 (rd_T79 T p.f1).f1.length && p.f2.contains p.f4 && p.f3.all (fun x => p.f2.contains x)) by
    rw [projOk_rest (n := n) (T := T) HN.out (show 0 ≤ p.f1 by omega) (by omega) c5, decide_eq_true (show 0 ≤ p.f5 by omega), decide_eq_true (show p.f5 < n by omega), Bool.and_true, Bool.and_true])
  clear c5
  obtain ⟨ad, A1, e1, E1, hc1, hc2, hl1, hC1⟩ := at_T79 (Kd.C_below HC.out.rT HB1.out) p.f1 (by omega) (by omega)
  cases E1
  have hi0 : 0 ≤ p.f1 := by omega
  have hi1 : p.f1 < (T.length : Int) := by omega
  have HPP := Lib.hid (HP.out.below HB1.out)
  clear hC1
  have hA := (Below.refl w1.heap.size w1).alloc (Nat.le_refl _) (.cells #[.func (.func 53) #[] #[.pointer (some ⟨w.heap.size + 1, 0, none⟩)]] 91)
  have HA := Lib.hid hA
  have q3x := pw_cell_below hA q3
  have r1x := pw_cell_below hA r1
  have r2x := pw_cell_below hA r2
  have r3x := pw_cell_below hA r3
  have r4x := pw_cell_below hA r4
  have hc1x := pw_cell_below hA hc1
  have hc2x := pw_cell_below hA hc2
  have g0 : (w1.alloc (.cells #[.func (.func 53) #[] #[.pointer (some ⟨w.heap.size + 1, 0, none⟩)]] 91)).cell? ⟨w1.heap.size, 0, none⟩ = some (.func (.func 53) #[] #[.pointer (some ⟨w.heap.size + 1, 0, none⟩)]) := by simp [go_sem]
  clear hA
  go_wp2_with (fail)
  generalize w1.alloc (.cells #[.func (.func 53) #[] #[.pointer (some ⟨w.heap.size + 1, 0, none⟩)]] 91) = W2 at *
  have HPP2 := Lib.hid (HPP.out.below HA.out)
  clear HPP hc1 hc2 q3 r1 hc1x hc2x q3x r1x r2 r3 r4 q0 r5
  refine (unlike_calls B2 p.f2 d2 _ _ HPP2.out.r2 HPP2.out.l2).mono ?_
  rintro e w3 ⟨rfl, hd⟩
  have HB3 := Lib.hid ((HB1.out.trans (HA.out.mono HB1.out.size)).trans ((Drawn0.below hd).mono (Nat.le_trans HB1.out.size HA.out.size)))
  have h2s := pw_cell_below (Drawn0.below hd) r2x
  have h3s := pw_cell_below (Drawn0.below hd) r3x
  have h4s := pw_cell_below (Drawn0.below hd) r4x
  have g0s := pw_cell_below (Drawn0.below hd) g0
  have H3 := Lib.hid hd
  clear hd
  cases y1 : plOk p.f2 (rd_T79 T p.f1).f1.length
  · have HF := Lib.hid (show projOk n T p = false by rw [HR.out, y1]; rfl)
    clear y1
    go_wp2
    go_ret
    exact ⟨by rw [HF.out]; rfl, HB3.out⟩
  have Y1 := Lib.hid y1
  clear y1
  go_wp2_with (fail)
  refine (unlike_calls B3 p.f3 d3 _ _ (Kd.C_below HPP2.out.r3 (Drawn0.below H3.out)) HPP2.out.l3).mono ?_
  rintro e w4 ⟨rfl, hd⟩
  have hd4 := drawn_trans H3.out hd
  have HB4 := Lib.hid ((HB1.out.trans (HA.out.mono HB1.out.size)).trans ((Drawn0.below hd4).mono (Nat.le_trans HB1.out.size HA.out.size)))
  clear h2s h3s h4s g0s
  have h2s := pw_cell_below (Drawn0.below hd4) r2x
  have h3s := pw_cell_below (Drawn0.below hd4) r3x
  have h4s := pw_cell_below (Drawn0.below hd4) r4x
  have g0s := pw_cell_below (Drawn0.below hd4) g0
  have H4 := Lib.hid hd4
  clear hd hd4 H3 HB3
  cases y2 : plOk p.f3 (rd_T79 T p.f1).f1.length
  · have HF := Lib.hid (show projOk n T p = false by rw [HR.out, y2]; simp)
    clear y2
    go_wp2
    go_ret
    exact ⟨by rw [HF.out]; rfl, HB4.out⟩
  have Y2 := Lib.hid y2
  clear y2
  go_wp2_with (fail)
  refine (among_calls p.f4 (w.heap.size + 1) B2 d2 p.f2 _ h2s (Kd.C_below HPP2.out.r2 (Drawn0.below H4.out)) HPP2.out.l2).mono ?_
  rintro e w5 ⟨rfl, hd⟩
  have hd5 := drawn_trans H4.out hd
  have HB5 := Lib.hid ((HB1.out.trans (HA.out.mono HB1.out.size)).trans ((Drawn0.below hd5).mono (Nat.le_trans HB1.out.size HA.out.size)))
  clear h2s h3s h4s g0s
  have h2s := pw_cell_below (Drawn0.below hd5) r2x
  have h3s := pw_cell_below (Drawn0.below hd5) r3x
  have g0s := pw_cell_below (Drawn0.below hd5) g0
  have H5 := Lib.hid hd5
  clear hd hd5 H4 HB4
  cases y3 : p.f2.contains p.f4
  · have HF := Lib.hid (show projOk n T p = false by rw [HR.out, y3]; simp)
    clear y3
    go_wp2
    go_ret
    exact ⟨by rw [HF.out]; rfl, HB5.out⟩
  have Y3 := Lib.hid y3
  clear y3
  go_wp2_with (fail)
  refine (ContainsFunc_int 55 #[.pointer (some ⟨w1.heap.size, 0, none⟩)] (enters_of Try.func55 (by kernel_rfl) rfl) B3 p.f3 d3 (fun x => !(p.f2.contains x)) _ (Kd.C_below HPP2.out.r3 (Drawn0.below H5.out)) (fun x _ W hW => notAmong_calls x (w.heap.size + 1) w1.heap.size B2 d2 p.f2 W (pw_cell_below hW g0s) (pw_cell_below hW h2s) (Kd.C_below (Kd.C_below HPP2.out.r2 (Drawn0.below H5.out)) hW) HPP2.out.l2)).mono ?_
  rintro e w6 ⟨rfl, hb⟩
  have HB6 := Lib.hid (HB5.out.trans (hb.mono HB5.out.size))
  have HF := Lib.hid (show projOk n T p = !(p.f3.any (fun x => !(p.f2.contains x))) by rw [HR.out, Y1.out, Y2.out, Y3.out, List.all_eq_not_any_not]; rfl)
  generalize p.f3.any (fun x => !(p.f2.contains x)) = y at *
  clear hb h2s h3s g0s
  go_wp2
  go_ret
  exact ⟨by rw [HF.out]; rfl, HB6.out⟩
end Go.Proofs.Ytnaaaldeadjohaa.Cat
