import Derived.Test.YtnaaaldeadjohaaProg
import Derived.WalkKit
import Derived.Outline
import Derived.Lib.Hide
import Derived.Deep.DeepFit
import Derived.Deep.QuietTactic
import Derived.BigQuiet
import Derived.LoopTactic
import Derived.OwnWalk
import Derived.Test.YtnaaaldeadjohaaPCatalogLiesx0
set_option linter.unusedVariables false
set_option linter.unusedSimpArgs false
namespace Go.Proofs.Ytnaaaldeadjohaa.Cat
open Go.RowKit Go.Proofs.YtnaaaldeadjohaaW.PrintWords Go.Proofs.Ytnaaaldeadjohaa.PCatalogLies
/-- The first place at which p says yes, from i on. -/
def idxFrom {α : Type} (p : α → Bool) : Int → List α → Int
  | _, [] => -1
  | i, x :: xs => if p x then i else idxFrom p (i + 1) xs
theorem idxFrom_drop {α : Type} (p : α → Bool) (xs : List α) (k : Nat) (h : k < xs.length) : idxFrom p (k : Int) (xs.drop k) = if p xs[k] then (k : Int) else idxFrom p ((k + 1 : Nat) : Int) (xs.drop (k + 1)) := by
  rw [List.drop_eq_getElem_cons h]
  simp [idxFrom]
theorem int_at {w : World} {A : Option Addr} {xs : List Int} (h : Kd.C (Kd.int .i64) w A xs.length xs) (k : Nat) (hk : k < xs.length) : ∃ ad, A = some ad ∧ w.cell? (ad.add k) = some (.int .i64 xs[k]) := by
  obtain ⟨ad, e, hc⟩ := Kd.at_int h k (by omega) (by omega)
  refine ⟨ad, e, ?_⟩
  simpa [rd, List.getD_eq_getElem?_getD, hk] using hc
theorem tab_at {w : World} {A : Option Addr} {xs : List S79} (h : Kd.C k79 w A xs.length xs) (k : Nat) (hk : k < xs.length) : ∃ ad A1 c1, A = some ad ∧ w.cell? (ad.add (k * 2)) = some (.string xs[k].f0) ∧ w.cell? ⟨(ad.add (k * 2)).block, (ad.add (k * 2)).off + 1, none⟩ = some (.slice A1 xs[k].f1.length c1) ∧ xs[k].f1.length ≤ c1 ∧ k76.C w A1 xs[k].f1.length xs[k].f1 := by
  have e0 : rd_T79 xs (k : Int) = xs[k] := by simp [rd_T79, List.getD_eq_getElem?_getD, hk]
  have h1 := at_T79 h k (by omega) (by omega)
  rw [e0] at h1
  simpa using h1
theorem proj_at {w : World} {A : Option Addr} {xs : List S66} (h : Kd.C k66 w A xs.length xs) (k : Nat) (hk : k < xs.length) : ∃ ad A2 c2 A3 c3, A = some ad ∧ w.cell? (ad.add (k * 6)) = some (.string xs[k].f0) ∧ w.cell? ⟨(ad.add (k * 6)).block, (ad.add (k * 6)).off + 1, none⟩ = some (.int .i64 xs[k].f1) ∧ w.cell? ⟨(ad.add (k * 6)).block, (ad.add (k * 6)).off + 2, none⟩ = some (.slice A2 xs[k].f2.length c2) ∧ w.cell? ⟨(ad.add (k * 6)).block, (ad.add (k * 6)).off + 3, none⟩ = some (.slice A3 xs[k].f3.length c3) ∧ w.cell? ⟨(ad.add (k * 6)).block, (ad.add (k * 6)).off + 4, none⟩ = some (.int .i64 xs[k].f4) ∧ w.cell? ⟨(ad.add (k * 6)).block, (ad.add (k * 6)).off + 5, none⟩ = some (.int .i64 xs[k].f5) ∧ xs[k].f2.length ≤ c2 ∧ (Kd.int .i64).C w A2 xs[k].f2.length xs[k].f2 ∧ xs[k].f3.length ≤ c3 ∧ (Kd.int .i64).C w A3 xs[k].f3.length xs[k].f3 := by
  have e0 : rd_T66 xs (k : Int) = xs[k] := by simp [rd_T66, List.getD_eq_getElem?_getD, hk]
  have h1 := at_T66 h k (by omega) (by omega)
  rw [e0] at h1
  obtain ⟨ad, A2, c2, A3, c3, h2⟩ := h1
  exact ⟨ad, A2, c2, A3, c3, by simpa using h2⟩
set_option maxHeartbeats 2000000 in
set_option maxRecDepth 100000 in
theorem IndexFunc_int (g : Nat) (lb : Array Value) (eg : ∀ args w, (callFunc g args).run Try.prog w = .ok (.enter g args) w)
    (A : Option Addr) (xs : List Int) (c : Nat) (p : Int → Bool) (w : World)
    (hr : Kd.C (Kd.int .i64) w A xs.length xs)
    (hp : ∀ x, x ∈ xs → ∀ W, Below w.heap.size w W → Calls Try.prog g (#[.int .i64 x] ++ lb) W fun e w' => e = .returned (.bool (p x)) ∧ Below W.heap.size W w') :
    Calls Try.prog 64 #[.slice A xs.length c, .func (.func g) #[] lb] w fun e w' => e = .returned (.int .i64 (idxFrom p 0 xs)) ∧ Below w.heap.size w w' := by
  have HP := Lib.hid hp
  have HR := Lib.hid hr
  have hm : xs.length ≤ 9223372036854775807 := hr.2.1
  clear hp hr
  go_enter Try.func64, Try.ntmps64
  go_wp2
  go_loopw [5, 8] (fun _ i wr => ∃ k : Nat, i = .int .i64 k ∧ k ≤ xs.length ∧ Hid (idxFrom p 0 xs = idxFrom p k (xs.drop k)) ∧ Hid (Below w.heap.size w wr)) (fun _ i _ => xs.length - (intOf i).toNat)
  case atStart => exact ⟨0, rfl, Nat.zero_le _, Lib.hid rfl, Lib.hid (Below.refl _ _)⟩
  case round =>
    obtain ⟨k, rfl, hk, HI, HB⟩ := hrel
    by_cases hlt : k < xs.length
    · obtain ⟨ad, e1, hc⟩ := int_at (Kd.C_below HR.out HB.out) k hlt
      cases e1
      have HD := Lib.hid (idxFrom_drop p xs k hlt)
      have HM := Lib.hid (List.getElem_mem hlt)
      go_wp2_with (fail)
      refine (HP.out _ HM.out _ HB.out).mono ?_
      rintro e w1 ⟨rfl, hb⟩
      have HB1 := Lib.hid (HB.out.trans (hb.mono HB.out.size))
      clear hb
      cases hpx : p xs[k]
      · have HX := Lib.hid (show idxFrom p 0 xs = idxFrom p ((k + 1 : Nat) : Int) (xs.drop (k + 1)) from by
          rw [HI.out, HD.out, if_neg (by rw [hpx]; decide)])
        clear hpx
        go_wp2
        go_roundw
        case rel => exact ⟨k + 1, by go_num, hlt, HX, HB1⟩
        case measure => simp [intOf]; omega
      · have HX := Lib.hid (show idxFrom p 0 xs = k from by rw [HI.out, HD.out, if_pos hpx])
        clear hpx
        go_wp2
        go_ret
        exact ⟨by rw [HX.out]; rfl, HB1.out⟩
    · obtain rfl : k = xs.length := by omega
      have HX := Lib.hid (show idxFrom p 0 xs = -1 from by rw [HI.out]; simp [idxFrom])
      go_wp2
      go_ret
      exact ⟨by rw [HX.out]; rfl, HB.out⟩
set_option maxHeartbeats 2000000 in
set_option maxRecDepth 100000 in
theorem IndexFunc_tab (g : Nat) (lb : Array Value) (eg : ∀ args w, (callFunc g args).run Try.prog w = .ok (.enter g args) w)
    (A : Option Addr) (xs : List S79) (c : Nat) (p : ByteArray → Bool) (w : World)
    (hr : Kd.C k79 w A xs.length xs)
    (hp : ∀ nm v W, Below w.heap.size w W → Calls Try.prog g (#[.agg #[.string nm, v]] ++ lb) W fun e w' => e = .returned (.bool (p nm)) ∧ Below W.heap.size W w') :
    Calls Try.prog 51 #[.slice A xs.length c, .func (.func g) #[] lb] w fun e w' => e = .returned (.int .i64 (idxFrom (fun x : S79 => p x.f0) 0 xs)) ∧ Below w.heap.size w w' := by
  have HP := Lib.hid hp
  have HR := Lib.hid hr
  have hm : xs.length ≤ 9223372036854775807 := hr.2.1
  clear hp hr
  go_enter Try.func51, Try.ntmps51
  go_wp2
  go_loopw [5, 8] (fun _ i wr => ∃ k : Nat, i = .int .i64 k ∧ k ≤ xs.length ∧ Hid (idxFrom (fun x : S79 => p x.f0) 0 xs = idxFrom (fun x : S79 => p x.f0) k (xs.drop k)) ∧ Hid (Below w.heap.size w wr)) (fun _ i _ => xs.length - (intOf i).toNat)
  case atStart => exact ⟨0, rfl, Nat.zero_le _, Lib.hid rfl, Lib.hid (Below.refl _ _)⟩
  case round =>
    obtain ⟨k, rfl, hk, HI, HB⟩ := hrel
    by_cases hlt : k < xs.length
    · obtain ⟨ad, A1, c1, e1, hc1, hc2, _, _⟩ := tab_at (Kd.C_below HR.out HB.out) k hlt
      cases e1
      have HD := Lib.hid (idxFrom_drop (fun x : S79 => p x.f0) xs k hlt)
      go_wp2_with (fail)
      refine (HP.out _ _ _ HB.out).mono ?_
      rintro e w1 ⟨rfl, hb⟩
      have HB1 := Lib.hid (HB.out.trans (hb.mono HB.out.size))
      clear hb
      cases hpx : p xs[k].f0
      · have HX := Lib.hid (show idxFrom (fun x : S79 => p x.f0) 0 xs = idxFrom (fun x : S79 => p x.f0) ((k + 1 : Nat) : Int) (xs.drop (k + 1)) from by
          rw [HI.out, HD.out, if_neg (by rw [hpx]; decide)])
        clear hpx
        go_wp2
        go_roundw
        case rel => exact ⟨k + 1, by go_num, hlt, HX, HB1⟩
        case measure => simp [intOf]; omega
      · have HX := Lib.hid (show idxFrom (fun x : S79 => p x.f0) 0 xs = k from by rw [HI.out, HD.out, if_pos hpx])
        clear hpx
        go_wp2
        go_ret
        exact ⟨by rw [HX.out]; rfl, HB1.out⟩
    · obtain rfl : k = xs.length := by omega
      have HX := Lib.hid (show idxFrom (fun x : S79 => p x.f0) 0 xs = -1 from by rw [HI.out]; simp [idxFrom])
      go_wp2
      go_ret
      exact ⟨by rw [HX.out]; rfl, HB.out⟩
set_option maxHeartbeats 2000000 in
set_option maxRecDepth 100000 in
theorem IndexFunc_proj (g : Nat) (lb : Array Value) (eg : ∀ args w, (callFunc g args).run Try.prog w = .ok (.enter g args) w)
    (A : Option Addr) (xs : List S66) (c : Nat) (p : ByteArray → Bool) (w : World)
    (hr : Kd.C k66 w A xs.length xs)
    (hp : ∀ nm v1 v2 v3 v4 v5 W, Below w.heap.size w W → Calls Try.prog g (#[.agg #[.string nm, v1, v2, v3, v4, v5]] ++ lb) W fun e w' => e = .returned (.bool (p nm)) ∧ Below W.heap.size W w') :
    Calls Try.prog 56 #[.slice A xs.length c, .func (.func g) #[] lb] w fun e w' => e = .returned (.int .i64 (idxFrom (fun x : S66 => p x.f0) 0 xs)) ∧ Below w.heap.size w w' := by
  have HP := Lib.hid hp
  have HR := Lib.hid hr
  have hm : xs.length ≤ 9223372036854775807 := hr.2.1
  clear hp hr
  go_enter Try.func56, Try.ntmps56
  go_wp2
  go_loopw [5, 8] (fun _ i wr => ∃ k : Nat, i = .int .i64 k ∧ k ≤ xs.length ∧ Hid (idxFrom (fun x : S66 => p x.f0) 0 xs = idxFrom (fun x : S66 => p x.f0) k (xs.drop k)) ∧ Hid (Below w.heap.size w wr)) (fun _ i _ => xs.length - (intOf i).toNat)
  case atStart => exact ⟨0, rfl, Nat.zero_le _, Lib.hid rfl, Lib.hid (Below.refl _ _)⟩
  case round =>
    obtain ⟨k, rfl, hk, HI, HB⟩ := hrel
    by_cases hlt : k < xs.length
    · obtain ⟨ad, A2, c2, A3, c3, e1, hc1, hc2, hc3, hc4, hc5, hc6, _, _, _, _⟩ := proj_at (Kd.C_below HR.out HB.out) k hlt
      cases e1
      have HD := Lib.hid (idxFrom_drop (fun x : S66 => p x.f0) xs k hlt)
      go_wp2_with (fail)
      refine (HP.out _ _ _ _ _ _ _ HB.out).mono ?_
      rintro e w1 ⟨rfl, hb⟩
      have HB1 := Lib.hid (HB.out.trans (hb.mono HB.out.size))
      clear hb
      cases hpx : p xs[k].f0
      · have HX := Lib.hid (show idxFrom (fun x : S66 => p x.f0) 0 xs = idxFrom (fun x : S66 => p x.f0) ((k + 1 : Nat) : Int) (xs.drop (k + 1)) from by
          rw [HI.out, HD.out, if_neg (by rw [hpx]; decide)])
        clear hpx
        go_wp2
        go_roundw
        case rel => exact ⟨k + 1, by go_num, hlt, HX, HB1⟩
        case measure => simp [intOf]; omega
      · have HX := Lib.hid (show idxFrom (fun x : S66 => p x.f0) 0 xs = k from by rw [HI.out, HD.out, if_pos hpx])
        clear hpx
        go_wp2
        go_ret
        exact ⟨by rw [HX.out]; rfl, HB1.out⟩
    · obtain rfl : k = xs.length := by omega
      have HX := Lib.hid (show idxFrom (fun x : S66 => p x.f0) 0 xs = -1 from by rw [HI.out]; simp [idxFrom])
      go_wp2
      go_ret
      exact ⟨by rw [HX.out]; rfl, HB.out⟩
theorem idxFrom_any {α : Type} (p : α → Bool) (xs : List α) : ∀ i : Int, 0 ≤ i → (0 ≤ idxFrom p i xs ↔ xs.any p = true) := by
  induction xs with
  | nil => intro i hi; simp [idxFrom]
  | cons x xs ih =>
    intro i hi
    simp only [idxFrom, List.any_cons]
    cases hx : p x
    · simpa using ih (i + 1) (by omega)
    · simp [hi]
theorem idxFrom_dec {α : Type} (p : α → Bool) (xs : List α) : decide (0 ≤ idxFrom p 0 xs) = xs.any p := by
  have := idxFrom_any p xs 0 (by omega)
  cases h : xs.any p <;> simp_all
set_option maxHeartbeats 2000000 in
set_option maxRecDepth 100000 in
theorem ContainsFunc_int (g : Nat) (lb : Array Value) (eg : ∀ args w, (callFunc g args).run Try.prog w = .ok (.enter g args) w)
    (A : Option Addr) (xs : List Int) (c : Nat) (p : Int → Bool) (w : World)
    (hr : Kd.C (Kd.int .i64) w A xs.length xs)
    (hp : ∀ x, x ∈ xs → ∀ W, Below w.heap.size w W → Calls Try.prog g (#[.int .i64 x] ++ lb) W fun e w' => e = .returned (.bool (p x)) ∧ Below W.heap.size W w') :
    Calls Try.prog 39 #[.slice A xs.length c, .func (.func g) #[] lb] w fun e w' => e = .returned (.bool (xs.any p)) ∧ Below w.heap.size w w' := by
  have HC := Lib.hid (IndexFunc_int g lb eg A xs c p w hr hp)
  have HE := Lib.hid (idxFrom_dec p xs)
  clear hp hr
  go_enter Try.func39, Try.ntmps39
  go_wp2_with (fail)
  refine HC.out.mono ?_
  rintro e w1 ⟨rfl, hb⟩
  generalize hi : idxFrom p 0 xs = i at *
  have HI := Lib.hid hi
  have HB := Lib.hid hb
  clear hi hb HC
  go_wp2
  go_ret
  exact ⟨congrArg (fun b => Ending.returned (.bool b)) HE.out, HB.out⟩
set_option maxHeartbeats 2000000 in
set_option maxRecDepth 100000 in
theorem ContainsFunc_tab (g : Nat) (lb : Array Value) (eg : ∀ args w, (callFunc g args).run Try.prog w = .ok (.enter g args) w)
    (A : Option Addr) (xs : List S79) (c : Nat) (p : ByteArray → Bool) (w : World)
    (hr : Kd.C k79 w A xs.length xs)
    (hp : ∀ nm v W, Below w.heap.size w W → Calls Try.prog g (#[.agg #[.string nm, v]] ++ lb) W fun e w' => e = .returned (.bool (p nm)) ∧ Below W.heap.size W w') :
    Calls Try.prog 28 #[.slice A xs.length c, .func (.func g) #[] lb] w fun e w' => e = .returned (.bool (xs.any (fun x : S79 => p x.f0))) ∧ Below w.heap.size w w' := by
  have HC := Lib.hid (IndexFunc_tab g lb eg A xs c p w hr hp)
  have HE := Lib.hid (idxFrom_dec (fun x : S79 => p x.f0) xs)
  clear hp hr
  go_enter Try.func28, Try.ntmps28
  go_wp2_with (fail)
  refine HC.out.mono ?_
  rintro e w1 ⟨rfl, hb⟩
  generalize hi : idxFrom (fun x : S79 => p x.f0) 0 xs = i at *
  have HI := Lib.hid hi
  have HB := Lib.hid hb
  clear hi hb HC
  go_wp2
  go_ret
  exact ⟨congrArg (fun b => Ending.returned (.bool b)) HE.out, HB.out⟩
set_option maxHeartbeats 2000000 in
set_option maxRecDepth 100000 in
theorem ContainsFunc_proj (g : Nat) (lb : Array Value) (eg : ∀ args w, (callFunc g args).run Try.prog w = .ok (.enter g args) w)
    (A : Option Addr) (xs : List S66) (c : Nat) (p : ByteArray → Bool) (w : World)
    (hr : Kd.C k66 w A xs.length xs)
    (hp : ∀ nm v1 v2 v3 v4 v5 W, Below w.heap.size w W → Calls Try.prog g (#[.agg #[.string nm, v1, v2, v3, v4, v5]] ++ lb) W fun e w' => e = .returned (.bool (p nm)) ∧ Below W.heap.size W w') :
    Calls Try.prog 31 #[.slice A xs.length c, .func (.func g) #[] lb] w fun e w' => e = .returned (.bool (xs.any (fun x : S66 => p x.f0))) ∧ Below w.heap.size w w' := by
  have HC := Lib.hid (IndexFunc_proj g lb eg A xs c p w hr hp)
  have HE := Lib.hid (idxFrom_dec (fun x : S66 => p x.f0) xs)
  clear hp hr
  go_enter Try.func31, Try.ntmps31
  go_wp2_with (fail)
  refine HC.out.mono ?_
  rintro e w1 ⟨rfl, hb⟩
  generalize hi : idxFrom (fun x : S66 => p x.f0) 0 xs = i at *
  have HI := Lib.hid hi
  have HB := Lib.hid hb
  clear hi hb HC
  go_wp2
  go_ret
  exact ⟨congrArg (fun b => Ending.returned (.bool b)) HE.out, HB.out⟩
set_option maxHeartbeats 2000000 in
theorem sameTab (nm s : ByteArray) (v : Value) (b : Nat) (w : World) (hc : w.cell? ⟨b, 0, none⟩ = some (.string s)) :
    Calls Try.prog 29 #[.agg #[.string nm, v], .pointer (some ⟨b, 0, none⟩)] w fun e w' => e = .returned (.bool (nm.toList == s.toList)) ∧ Below w.heap.size w w' := by
  have hb : Below w.heap.size w (w.alloc (.cells #[.string nm, v] 79)) := (Below.refl _ _).alloc (Nat.le_refl _) _
  have hc1 := pw_cell_below hb hc
  have HB := Lib.hid hb
  clear hc hb
  go_enter Try.func29, Try.ntmps29
  go_wp2
  go_ret
  exact ⟨rfl, HB.out⟩
set_option maxHeartbeats 2000000 in
theorem sameProj (nm s : ByteArray) (v1 v2 v3 v4 v5 : Value) (b : Nat) (w : World) (hc : w.cell? ⟨b, 0, none⟩ = some (.string s)) :
    Calls Try.prog 32 #[.agg #[.string nm, v1, v2, v3, v4, v5], .pointer (some ⟨b, 0, none⟩)] w fun e w' => e = .returned (.bool (nm.toList == s.toList)) ∧ Below w.heap.size w w' := by
  have hb : Below w.heap.size w (w.alloc (.cells #[.string nm, v1, v2, v3, v4, v5] 66)) := (Below.refl _ _).alloc (Nat.le_refl _) _
  have hc1 := pw_cell_below hb hc
  have HB := Lib.hid hb
  clear hc hb
  go_enter Try.func32, Try.ntmps32
  go_wp2
  go_ret
  exact ⟨rfl, HB.out⟩
end Go.Proofs.Ytnaaaldeadjohaa.Cat
