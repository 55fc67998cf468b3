import Derived.Test.YtnaaaldeadjohaaTa
import Derived.Test.YtnaaaldeadjohaaTd
set_option linter.unusedVariables false
set_option linter.unusedSimpArgs false
namespace Go.Proofs.Ytnaaaldeadjohaa.Cat
open Go.RowKit Go.Proofs.YtnaaaldeadjohaaW.PrintWords Go.Proofs.Ytnaaaldeadjohaa.PCatalogLies

theorem C_take {α : Type} {d : Kd α} {w : World} {A : Option Addr} {n : Nat} {l : List α} (h : d.C w A n l) (j : Nat) (hj : j ≤ n) : d.C w A j (l.take j) := by
  refine ⟨by rw [List.length_take, h.1]; omega, by have := h.2.1; omega, fun hp => ?_⟩
  obtain ⟨ad, e, hc⟩ := h.2.2 (by omega)
  refine ⟨ad, e, fun i p hi => hc i p ?_⟩
  rw [List.getElem?_take] at hi
  split at hi
  · exact hi
  · cases hi
theorem drawn_trans {a b c : World} (h : Drawn0 a b) (k : Drawn0 b c) : Drawn0 a c := by
  obtain ⟨n, rfl⟩ := k
  exact h.step n
theorem quiet_drawn {P : Program} {f : FuncId} {args : Array Value} {w : World} {n : Nat} {v : Value} (h : Calls P f args (w.drewN n) fun e w' => e = .returned v ∧ Drawn0 (w.drewN n) w') :
    Calls P f args (w.drewN n) fun e w'' => e = .returned v ∧ ∃ m, w'' = w.drewN m := h.mono fun _ _ ⟨he, ⟨m, hm⟩⟩ => ⟨he, n + m, by rw [hm, World.drewN_drewN]⟩
theorem contains_calls (A : Option Addr) (n c : Nat) (l : List Int) (x : Int) (w : World) (hn : l.length = n) (hr : Kd.C (Kd.int .i64) w A n l) (hc : n ≤ c) :
    Calls Try.prog 38 #[.slice A n c, .int .i64 x] w fun e w' => e = .returned (.bool (l.contains x)) ∧ Drawn0 w w' := by
  subst hn
  obtain ⟨k, hk⟩ := Ev.rounds (contains_ev l x hr.2.1)
  exact slices_Contains_int_int.calls k A c l x _ w hr hc hk
theorem in_calls (A : Option Addr) (n c : Nat) (l : List Int) (x : Int) (w : World) (hn : l.length = n) (hr : Kd.C (Kd.int .i64) w A n l) (hc : n ≤ c) :
    Calls Try.prog 22 #[.slice A n c, .int .i64 x] w fun e w' => e = .returned (.bool (l.contains x)) ∧ Drawn0 w w' := by
  subst hn
  obtain ⟨k, hk⟩ := Ev.rounds (in_ev l x hr.2.1)
  exact hayloftref13_In.calls k A c l x _ w hr hc hk
theorem all_succ {p : Nat → Bool} {k : Nat} (h : ∀ j, j < k → p j = true) (hk : p k = true) : ∀ j, j < k + 1 → p j = true := fun j hj => by
  rcases Nat.lt_or_ge j k with h1 | h1
  · exact h j h1
  · obtain rfl : j = k := by omega
    exact hk
/-- One place of a list of places. -/
def plAt (l : List Int) (m : Int) (i : Nat) : Bool := decide (0 ≤ rd l i) && decide (rd l i < m) && !((l.take i).contains (rd l i))
theorem plOk_def (l : List Int) (m : Int) : plOk l m = allB (plAt l m) l.length := rfl
theorem plOk_no {l : List Int} {m : Int} {i : Nat} (hi : i < l.length) (h : plAt l m i = false) : plOk l m = false := allB_no hi h
theorem plOk_yes {l : List Int} {m : Int} (h : ∀ i, i < l.length → plAt l m i = true) : plOk l m = true := allB_iff.2 h
set_option maxHeartbeats 2000000 in
set_option maxRecDepth 100000 in
theorem unlike_calls (A : Option Addr) (xs : List Int) (c : Nat) (m : Int) (w : World) (hr : Kd.C (Kd.int .i64) w A xs.length xs) (hc : xs.length ≤ c) :
    Calls Try.prog 54 #[.slice A xs.length c, .int .i64 m] w fun e w' => e = .returned (.bool (plOk xs m)) ∧ Drawn0 w w' := by
  have HR := Lib.hid hr
  have HC := Lib.hid hc
  have hm : xs.length ≤ 9223372036854775807 := hr.2.1
  clear hr
  go_enter Try.func54, Try.ntmps54
  go_wp2
  go_loopw [9] (fun i wr => ∃ k : Nat, i = .int .i64 k ∧ k ≤ xs.length ∧ Hid (∀ j, j < k → plAt xs m j = true) ∧ Drawn0 w wr) (fun i _ => xs.length - (intOf i).toNat)
  case atStart => exact ⟨0, rfl, Nat.zero_le _, Lib.hid (fun j hj => by omega), Drawn0.refl _⟩
  case round =>
    obtain ⟨k, rfl, hk, HI, HW⟩ := hrel
    by_cases hlt : k < xs.length
    · obtain ⟨ad, e1, hcell⟩ := int_at (Kd.C_below HR.out (Drawn0.below HW)) k hlt
      cases e1
      have HT := Lib.hid (C_take HR.out k hk)
      have HX := Lib.hid (rd_nat xs k hlt)
      generalize hx : xs[k] = x at *
      clear hx
      have hcap : k ≤ c := by omega
      by_cases c1 : x < 0
      · have HF := Lib.hid (plOk_no (m := m) hlt (by unfold plAt; rw [HX.out, decide_eq_false (by omega)]; rfl))
        go_wp2
        go_ret
        exact ⟨by rw [HF.out]; rfl, HW⟩
      by_cases c2 : m ≤ x
      · have HF := Lib.hid (plOk_no (m := m) hlt (by unfold plAt; rw [HX.out, decide_eq_false (show ¬ x < m by omega), Bool.and_false]; rfl))
        go_wp2
        go_ret
        exact ⟨by rw [HF.out]; rfl, HW⟩
      go_wp2_with (fail)
      refine (contains_calls _ k c (xs.take k) x _ (by simp; omega) (Kd.C_below HT.out (Drawn0.below HW)) hcap).mono ?_
      rintro e w1 ⟨rfl, hd⟩
      have HW1 := drawn_trans HW hd
      clear hd HW
      cases hb : (xs.take k).contains x
      · have HF := Lib.hid (show plAt xs m k = true by unfold plAt; rw [HX.out, hb, decide_eq_true (show 0 ≤ x by omega), decide_eq_true (show x < m by omega)]; rfl)
        clear hb
        go_wp2
        go_roundw
        case rel => exact ⟨k + 1, by go_num, hlt, Lib.hid (all_succ HI.out HF.out), HW1⟩
        case measure => simp [intOf]; omega
      · have HF := Lib.hid (plOk_no (m := m) hlt (by unfold plAt; rw [HX.out, hb]; simp))
        clear hb
        go_wp2
        go_ret
        exact ⟨by rw [HF.out]; rfl, HW1⟩
    · obtain rfl : k = xs.length := by omega
      have HF := Lib.hid (plOk_yes HI.out)
      go_wp2
      go_ret
      exact ⟨by rw [HF.out]; rfl, HW⟩
set_option maxHeartbeats 2000000 in
set_option maxRecDepth 100000 in
theorem places_calls (A : Option Addr) (xs : List Int) (c : Nat) (m : Int) (w : World) (hr : Kd.C (Kd.int .i64) w A xs.length xs) (hc : xs.length ≤ c) :
    Calls Try.prog 60 #[.slice A xs.length c, .int .i64 m] w fun e w' => e = .returned (.bool (plOk xs m)) ∧ Drawn0 w w' := by
  have HR := Lib.hid hr
  have HC := Lib.hid hc
  have hm : xs.length ≤ 9223372036854775807 := hr.2.1
  clear hr
  go_enter Try.func60, Try.ntmps60
  go_wp2
  go_loopw [5] (fun i wr => ∃ k : Nat, i = .int .i64 k ∧ k ≤ xs.length ∧ Hid (∀ j, j < k → plAt xs m j = true) ∧ Drawn0 w wr) (fun i _ => xs.length - (intOf i).toNat)
  case atStart => exact ⟨0, rfl, Nat.zero_le _, Lib.hid (fun j hj => by omega), Drawn0.refl _⟩
  case round =>
    obtain ⟨k, rfl, hk, HI, HW⟩ := hrel
    by_cases hlt : k < xs.length
    · obtain ⟨ad, e1, hcell⟩ := int_at (Kd.C_below HR.out (Drawn0.below HW)) k hlt
      cases e1
      have HT := Lib.hid (Kd.C_below (C_take HR.out k hk) (Drawn0.below HW))
      have HX := Lib.hid (rd_nat xs k hlt)
      generalize hx : xs[k] = x at *
      clear hx
      have hcap : k ≤ c := by omega
      go_wp2_with (fail)
      go_quiet ((go_at_call 22; exact quiet_drawn (in_calls _ k c (xs.take k) x _ (by simp; omega) (Kd.C_below HT.out (Drawn0.below ⟨⟨_, rfl⟩⟩)) hcap)))
      have HW1 : Drawn0 w (wr.drewN nq) := HW.step nq
      clear HW
      by_cases c1 : x < 0
      · have HF := Lib.hid (plOk_no (m := m) hlt (by unfold plAt; rw [HX.out, decide_eq_false (by omega)]; rfl))
        go_wp2
        go_ret
        exact ⟨by rw [HF.out]; rfl, HW1⟩
      by_cases c2 : m ≤ x
      · have HF := Lib.hid (plOk_no (m := m) hlt (by unfold plAt; rw [HX.out, decide_eq_false (show ¬ x < m by omega), Bool.and_false]; rfl))
        go_wp2
        go_ret
        exact ⟨by rw [HF.out]; rfl, HW1⟩
      cases hb : (xs.take k).contains x
      · have HF := Lib.hid (show plAt xs m k = true by unfold plAt; rw [HX.out, hb, decide_eq_true (show 0 ≤ x by omega), decide_eq_true (show x < m by omega)]; rfl)
        clear hb
        go_wp2
        go_roundw
        case rel => exact ⟨k + 1, by go_num, hlt, Lib.hid (all_succ HI.out HF.out), HW1⟩
        case measure => simp [intOf]; omega
      · have HF := Lib.hid (plOk_no (m := m) hlt (by unfold plAt; rw [HX.out, hb]; simp))
        clear hb
        go_wp2
        go_ret
        exact ⟨by rw [HF.out]; rfl, HW1⟩
    · obtain rfl : k = xs.length := by omega
      have HF := Lib.hid (plOk_yes HI.out)
      go_wp2
      go_ret
      exact ⟨by rw [HF.out]; rfl, HW⟩
end Go.Proofs.Ytnaaaldeadjohaa.Cat
