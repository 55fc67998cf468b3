import Derived.Test.YtnaaaldeadjohaaTi
import Derived.Lib.AppendZeros
set_option linter.unusedVariables false
set_option linter.unusedSimpArgs false
namespace Go.Proofs.Ytnaaaldeadjohaa.Cat
open Go.RowKit Go.Proofs.YtnaaaldeadjohaaW.PrintWords Go.Proofs.Ytnaaaldeadjohaa.PCatalogLies
set_option maxHeartbeats 2000000 in
set_option maxRecDepth 100000 in
/-- slices.Grow of nil: room, and no element. -/
theorem Grow_calls (n : Nat) (hn : n ≤ 1000000) (w : World) :
    Calls Try.prog 69 #[.slice none 0 0, .int .i64 (n : Int)] w fun e w' => ∃ v, e = .returned v ∧ w'.ownsRow w.heap.size 3 1 v 0 (nums .i64 []) ∧ Below w.heap.size w w' := by
  by_cases h0 : n = 0
  · subst h0
    go_enter Try.func69, Try.ntmps69
    go_wp2
    go_ret
    exact ⟨_, rfl, own_nil _ _ _ _, Below.refl _ _⟩
  · obtain ⟨i0, hi, hz0, hz1, hz2⟩ := info_parts info3
    have hr := Lib.hid (Lib.run_append_nil_zeros (P := Try.prog) w 40 3 40 3 i0 (.int .i64 0) .i64 .i64 Try.underlying40 Try.underlying3 hi hz0 n (by omega) (by omega) (by omega) (by rw [hz2]; omega))
    have hpos : (0 : Int) < (n : Int) := by omega
    have hlt : ¬ ((n : Int) < 0) := by omega
    go_enter Try.func69, Try.ntmps69
    go_wp2_with (at_builtin; refine Lib.wpList_append_run _ rfl _ _ _ _ rfl _ _ rfl rfl _ _ hr.out ?_)
    have h1 := grownCap_ge w n 0 3
    have h2 := grownCap_le_maxLen w n 0 3 (by unfold maxLen; omega)
    go_ret
    refine ⟨_, rfl, ⟨by simp [nums], .inr ⟨w.heap.size, grownCap w n 0 3, _, rfl, Nat.le_refl _, heap_alloc_new _ _, Nat.zero_le _, h2, ?_, by simp [nums]⟩⟩, ((Below.refl _ w).drew).alloc (Nat.le_refl _) _⟩
    rw [Array.size_append, size_zeroCells, size_zeroCells]
    simp [Value.cells]
    omega
/-- All the numbers of some lists, as they lie. -/
theorem lists_at {w : World} {A : Option Addr} {n : Nat} {xs : List (List Int)} (h : Kd.C (Kd.slice 3 (Kd.int .i64)) w A n xs) (k : Nat) (hk : k < xs.length) (hn : xs.length = n) : ∃ ad A0 c0, A = some ad ∧ w.cell? (ad.add k) = some (.slice A0 xs[k].length c0) ∧ xs[k].length ≤ c0 ∧ (Kd.int .i64).C w A0 xs[k].length xs[k] := by
  have h1 := at_L2 h k (by omega) (by omega)
  have e0 : rd_L2 xs (k : Int) = xs[k] := by simp [rd_L2, List.getD_eq_getElem?_getD, hk]
  rw [e0] at h1
  simpa using h1
/-- The first k lists, one behind the other, and how long they are. -/
def flatK (xs : List (List Int)) (k : Nat) : List Int := (xs.take k).flatten
def lenK (xs : List (List Int)) (k : Nat) : Nat := (flatK xs k).length
theorem flatK_succ {xs : List (List Int)} {k : Nat} (hk : k < xs.length) : flatK xs (k + 1) = flatK xs k ++ xs[k] := by
  unfold flatK
  rw [List.take_succ_eq_append_getElem hk, List.flatten_append, List.flatten_cons, List.flatten_nil, List.append_nil]
theorem lenK_succ {xs : List (List Int)} {k : Nat} (hk : k < xs.length) : lenK xs (k + 1) = lenK xs k + xs[k].length := by
  unfold lenK
  rw [flatK_succ hk, List.length_append]
theorem lenK_le {xs : List (List Int)} (k : Nat) : lenK xs k ≤ lenK xs xs.length := by
  have h := congrArg (fun l => l.flatten.length) (List.take_append_drop k xs)
  simp only [List.flatten_append, List.length_append] at h
  unfold lenK flatK
  rw [List.take_length]
  omega
set_option maxHeartbeats 2000000 in
set_option maxRecDepth 100000 in
theorem Concat_calls (A : Option Addr) (xs : List (List Int)) (c : Nat) (w : World) (hr : Kd.C (Kd.slice 3 (Kd.int .i64)) w A xs.length xs) (hc : xs.length ≤ c) (hle : lenK xs xs.length ≤ 1000000) :
    Calls Try.prog 58 #[.slice A xs.length c] w fun e w' => ∃ v, e = .returned v ∧ w'.ownsRow w.heap.size 3 1 v (lenK xs xs.length) (nums .i64 (flatK xs xs.length)) ∧ Below w.heap.size w w' := by
  have HR := Lib.hid hr
  have hm : xs.length ≤ 9223372036854775807 := hr.2.1
  clear hr
  go_enter Try.func58, Try.ntmps58
  go_wp2
  go_loop [3, 11] (fun n i => ∃ k : Nat, i = .int .i64 k ∧ k ≤ xs.length ∧ n = .int .i64 (lenK xs k : Int)) (fun _ i => xs.length - (intOf i).toNat)
  case atStart => exact ⟨0, rfl, Nat.zero_le _, rfl⟩
  case round =>
    obtain ⟨k, rfl, hk, rfl⟩ := hrel
    have hfl := lenK_le (xs := xs) k
    by_cases hlt : k < xs.length
    · obtain ⟨ad, A0, c0, e1, hcell, _, _⟩ := lists_at HR.out k hlt rfl
      cases e1
      have hfs := lenK_le (xs := xs) (k + 1)
      have HS := Lib.hid (lenK_succ hlt)
      rw [HS.out] at hfs
      have h0 : ¬ ((lenK xs k : Int) + (xs[k].length : Int) < 0) := by omega
      go_wp2
      go_round
      case rel => exact ⟨k + 1, by go_num, hlt, by rw [HS.out]; go_num⟩
      case measure => simp [intOf]; omega
    · obtain rfl : k = xs.length := by omega
      go_wp2_with (fail)
      refine (Grow_calls (lenK xs xs.length) hle _).mono ?_
      rintro e w1 ⟨v0, rfl, hown, hb⟩
      have HO := Lib.hid hown
      have HB := Lib.hid hb
      clear hown hb
      go_wp2
      go_loopw [6, 27] (fun v i wr => ∃ k : Nat, i = .int .i64 k ∧ k ≤ xs.length ∧ Hid (wr.ownsRow w.heap.size 3 1 v (lenK xs k) (nums .i64 (flatK xs k))) ∧ Hid (Below w.heap.size w wr)) (fun _ i _ => xs.length - (intOf i).toNat)
      case atStart => exact ⟨0, rfl, Nat.zero_le _, HO, HB⟩
      case round =>
        obtain ⟨k, rfl, hk, HO2, HB2⟩ := hrel
        by_cases hlt : k < xs.length
        · obtain ⟨ad, A0, c0, e1, hcell, hl0, hc0⟩ := lists_at (Kd.C_below HR.out HB2.out) k hlt rfl
          cases e1
          have hfs := lenK_le (xs := xs) (k + 1)
          have HS := Lib.hid (lenK_succ hlt)
          rw [HS.out] at hfs
          have HC0 := Lib.hid (Kd.reads_of_C (enc := Value.int .i64) (d := (0 : Int)) (h1 := fun _ => rfl) hc0)
          clear hc0
          go_wp2_with (at_builtin; refine print_append_row (w0 := w) w.heap.size rfl (.tmp 31) (.tmp 32) 40 3 .i64 8 rfl Try.underlying40 info3 (by decide) u6 (flatK xs k) xs[k] A0 xs[k].length c0 rfl rfl HO2.out HC0.out HB2.out HB2.out.size ?hl ?_; (case hl => (show (lenK xs k + xs[k].length) * 8 ≤ _; omega)); intro v1 w1 hown hB hg hat)
          have HO3 := Lib.hid (show w1.ownsRow w.heap.size 3 1 v1 (lenK xs (k + 1)) (nums .i64 (flatK xs (k + 1))) by rw [lenK, flatK_succ hlt]; exact hown)
          have HB3 := Lib.hid hB
          clear hown hB hg hat
          go_wp2
          go_roundw
          case rel => exact ⟨k + 1, by go_num, hlt, HO3, HB3⟩
          case measure => simp [intOf]; omega
        · obtain rfl : k = xs.length := by omega
          go_wp2
          go_ret
          exact ⟨_, rfl, HO2.out, HB2.out⟩
end Go.Proofs.Ytnaaaldeadjohaa.Cat
