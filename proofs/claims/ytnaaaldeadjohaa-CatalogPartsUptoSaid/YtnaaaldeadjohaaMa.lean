import Derived.Test.YtnaaaldeadjohaaProg
import Derived.WalkKit
import Derived.Outline
import Derived.Lib.Hide
import Derived.Deep.DeepFit
import Derived.Deep.QuietTactic
import Derived.BigQuiet
import Derived.LoopTactic
import Derived.OwnWalk
import Derived.Test.YtnaaaldeadjohaaPCatalogLiesx0
import Derived.Test.YtnaaaldeadjohaaPCatalogLiesx2
import Derived.Test.YtnaaaldeadjohaaPCatalogLiesx4
import Derived.Test.YtnaaaldeadjohaaPCatalogLiesx5
import Derived.Test.YtnaaaldeadjohaaPCatalogLiesx6
import Derived.Test.YtnaaaldeadjohaaPCatalogLiesx9
import Derived.Test.YtnaaaldeadjohaaPCatalogLiesx10
import Derived.Test.YtnaaaldeadjohaaPCatalogLiesx12
set_option linter.unusedVariables false
set_option linter.unusedSimpArgs false
namespace Go.Proofs.Ytnaaaldeadjohaa.Cat
open Go.RowKit Go.Proofs.YtnaaaldeadjohaaW.PrintWords Go.Proofs.Ytnaaaldeadjohaa.PCatalogLies
/-- The first place at which p says yes, from i on. -/
def idxFrom {α : Type} (p : α → Bool) : Int → List α → Int
  | _, [] => -1
  | i, x :: xs => if p x then i else idxFrom p (i + 1) xs
theorem idxFrom_drop {α : Type} (p : α → Bool) (xs : List α) (k : Nat) (h : k < xs.length) : idxFrom p (k : Int) (xs.drop k) = if p xs[k] then (k : Int) else idxFrom p ((k + 1 : Nat) : Int) (xs.drop (k + 1)) := by
  rw [List.drop_eq_getElem_cons h]
  simp [idxFrom]
theorem int_at {w : World} {A : Option Addr} {xs : List Int} (h : Kd.C (Kd.int .i64) w A xs.length xs) (k : Nat) (hk : k < xs.length) : ∃ ad, A = some ad ∧ w.cell? (ad.add k) = some (.int .i64 xs[k]) := by
  obtain ⟨ad, e, hc⟩ := Kd.at_int h k (by omega) (by omega)
  refine ⟨ad, e, ?_⟩
  simpa [rd, List.getD_eq_getElem?_getD, hk] using hc
theorem tab_at {w : World} {A : Option Addr} {xs : List S79} (h : Kd.C k79 w A xs.length xs) (k : Nat) (hk : k < xs.length) : ∃ ad A1 c1, A = some ad ∧ w.cell? (ad.add (k * 2)) = some (.string xs[k].f0) ∧ w.cell? ⟨(ad.add (k * 2)).block, (ad.add (k * 2)).off + 1, none⟩ = some (.slice A1 xs[k].f1.length c1) ∧ xs[k].f1.length ≤ c1 ∧ k76.C w A1 xs[k].f1.length xs[k].f1 := by
  have e0 : rd_T79 xs (k : Int) = xs[k] := by simp [rd_T79, List.getD_eq_getElem?_getD, hk]
  have h1 := at_T79 h k (by omega) (by omega)
  rw [e0] at h1
  simpa using h1
theorem proj_at {w : World} {A : Option Addr} {xs : List S66} (h : Kd.C k66 w A xs.length xs) (k : Nat) (hk : k < xs.length) : ∃ ad A2 c2 A3 c3, A = some ad ∧ w.cell? (ad.add (k * 6)) = some (.string xs[k].f0) ∧ w.cell? ⟨(ad.add (k * 6)).block, (ad.add (k * 6)).off + 1, none⟩ = some (.int .i64 xs[k].f1) ∧ w.cell? ⟨(ad.add (k * 6)).block, (ad.add (k * 6)).off + 2, none⟩ = some (.slice A2 xs[k].f2.length c2) ∧ w.cell? ⟨(ad.add (k * 6)).block, (ad.add (k * 6)).off + 3, none⟩ = some (.slice A3 xs[k].f3.length c3) ∧ w.cell? ⟨(ad.add (k * 6)).block, (ad.add (k * 6)).off + 4, none⟩ = some (.int .i64 xs[k].f4) ∧ w.cell? ⟨(ad.add (k * 6)).block, (ad.add (k * 6)).off + 5, none⟩ = some (.int .i64 xs[k].f5) ∧ xs[k].f2.length ≤ c2 ∧ (Kd.int .i64).C w A2 xs[k].f2.length xs[k].f2 ∧ xs[k].f3.length ≤ c3 ∧ (Kd.int .i64).C w A3 xs[k].f3.length xs[k].f3 := by
  have e0 : rd_T66 xs (k : Int) = xs[k] := by simp [rd_T66, List.getD_eq_getElem?_getD, hk]
  have h1 := at_T66 h k (by omega) (by omega)
  rw [e0] at h1
  obtain ⟨ad, A2, c2, A3, c3, h2⟩ := h1
  exact ⟨ad, A2, c2, A3, c3, by simpa using h2⟩
set_option maxHeartbeats 2000000 in
set_option maxRecDepth 100000 in
theorem IndexFunc_int (g : Nat) (lb : Array Value) (eg : ∀ args w, (callFunc g args).run Try.prog w = .ok (.enter g args) w)
    (A : Option Addr) (xs : List Int) (c : Nat) (p : Int → Bool) (w : World)
    (hr : Kd.C (Kd.int .i64) w A xs.length xs)
    (hp : ∀ x, x ∈ xs → ∀ W, Below w.heap.size w W → Calls Try.prog g (#[.int .i64 x] ++ lb) W fun e w' => e = .returned (.bool (p x)) ∧ Below W.heap.size W w') :
    Calls Try.prog 64 #[.slice A xs.length c, .func (.func g) #[] lb] w fun e w' => e = .returned (.int .i64 (idxFrom p 0 xs)) ∧ Below w.heap.size w w' := by
  have HP := Lib.hid hp
  have HR := Lib.hid hr
  have hm : xs.length ≤ 9223372036854775807 := hr.2.1
  clear hp hr
  go_enter Try.func64, Try.ntmps64
  go_wp2
  go_loopw [5, 8] (fun _ i wr => ∃ k : Nat, i = .int .i64 k ∧ k ≤ xs.length ∧ Hid (idxFrom p 0 xs = idxFrom p k (xs.drop k)) ∧ Hid (Below w.heap.size w wr)) (fun _ i _ => xs.length - (intOf i).toNat)
  case atStart => exact ⟨0, rfl, Nat.zero_le _, Lib.hid rfl, Lib.hid (Below.refl _ _)⟩
  case round =>
    obtain ⟨k, rfl, hk, HI, HB⟩ := hrel
    by_cases hlt : k < xs.length
    · obtain ⟨ad, e1, hc⟩ := int_at (Kd.C_below HR.out HB.out) k hlt
      cases e1
      have HD := Lib.hid (idxFrom_drop p xs k hlt)
      have HM := Lib.hid (List.getElem_mem hlt)
      go_wp2_with (fail)
      refine (HP.out _ HM.out _ HB.out).mono ?_
      rintro e w1 ⟨rfl, hb⟩
      have HB1 := Lib.hid (HB.out.trans (hb.mono HB.out.size))
      clear hb
      cases hpx : p xs[k]
      · have HX := Lib.hid (show idxFrom p 0 xs = idxFrom p ((k + 1 : Nat) : Int) (xs.drop (k + 1)) from by
          rw [HI.out, HD.out, if_neg (by rw [hpx]; decide)])
        clear hpx
        go_wp2
        go_roundw
        case rel => exact ⟨k + 1, by go_num, hlt, HX, HB1⟩
        case measure => simp [intOf]; omega
      · have HX := Lib.hid (show idxFrom p 0 xs = k from by rw [HI.out, HD.out, if_pos hpx])
        clear hpx
        go_wp2
        go_ret
        exact ⟨by rw [HX.out]; rfl, HB1.out⟩
    · obtain rfl : k = xs.length := by omega
      have HX := Lib.hid (show idxFrom p 0 xs = -1 from by rw [HI.out]; simp [idxFrom])
      go_wp2
      go_ret
      exact ⟨by rw [HX.out]; rfl, HB.out⟩
set_option maxHeartbeats 2000000 in
set_option maxRecDepth 100000 in
theorem IndexFunc_tab (g : Nat) (lb : Array Value) (eg : ∀ args w, (callFunc g args).run Try.prog w = .ok (.enter g args) w)
    (A : Option Addr) (xs : List S79) (c : Nat) (p : ByteArray → Bool) (w : World)
    (hr : Kd.C k79 w A xs.length xs)
    (hp : ∀ nm v W, Below w.heap.size w W → Calls Try.prog g (#[.agg #[.string nm, v]] ++ lb) W fun e w' => e = .returned (.bool (p nm)) ∧ Below W.heap.size W w') :
    Calls Try.prog 51 #[.slice A xs.length c, .func (.func g) #[] lb] w fun e w' => e = .returned (.int .i64 (idxFrom (fun x : S79 => p x.f0) 0 xs)) ∧ Below w.heap.size w w' := by
  have HP := Lib.hid hp
  have HR := Lib.hid hr
  have hm : xs.length ≤ 9223372036854775807 := hr.2.1
  clear hp hr
  go_enter Try.func51, Try.ntmps51
  go_wp2
  go_loopw [5, 8] (fun _ i wr => ∃ k : Nat, i = .int .i64 k ∧ k ≤ xs.length ∧ Hid (idxFrom (fun x : S79 => p x.f0) 0 xs = idxFrom (fun x : S79 => p x.f0) k (xs.drop k)) ∧ Hid (Below w.heap.size w wr)) (fun _ i _ => xs.length - (intOf i).toNat)
  case atStart => exact ⟨0, rfl, Nat.zero_le _, Lib.hid rfl, Lib.hid (Below.refl _ _)⟩
  case round =>
    obtain ⟨k, rfl, hk, HI, HB⟩ := hrel
    by_cases hlt : k < xs.length
    · obtain ⟨ad, A1, c1, e1, hc1, hc2, _, _⟩ := tab_at (Kd.C_below HR.out HB.out) k hlt
      cases e1
      have HD := Lib.hid (idxFrom_drop (fun x : S79 => p x.f0) xs k hlt)
      go_wp2_with (fail)
      refine (HP.out _ _ _ HB.out).mono ?_
      rintro e w1 ⟨rfl, hb⟩
      have HB1 := Lib.hid (HB.out.trans (hb.mono HB.out.size))
      clear hb
      cases hpx : p xs[k].f0
      · have HX := Lib.hid (show idxFrom (fun x : S79 => p x.f0) 0 xs = idxFrom (fun x : S79 => p x.f0) ((k + 1 : Nat) : Int) (xs.drop (k + 1)) from by
          rw [HI.out, HD.out, if_neg (by rw [hpx]; decide)])
        clear hpx
        go_wp2
        go_roundw
        case rel => exact ⟨k + 1, by go_num, hlt, HX, HB1⟩
        case measure => simp [intOf]; omega
      · have HX := Lib.hid (show idxFrom (fun x : S79 => p x.f0) 0 xs = k from by rw [HI.out, HD.out, if_pos hpx])
        clear hpx
        go_wp2
        go_ret
        exact ⟨by rw [HX.out]; rfl, HB1.out⟩
    · obtain rfl : k = xs.length := by omega
      have HX := Lib.hid (show idxFrom (fun x : S79 => p x.f0) 0 xs = -1 from by rw [HI.out]; simp [idxFrom])
      go_wp2
      go_ret
      exact ⟨by rw [HX.out]; rfl, HB.out⟩
set_option maxHeartbeats 2000000 in
set_option maxRecDepth 100000 in
theorem IndexFunc_proj (g : Nat) (lb : Array Value) (eg : ∀ args w, (callFunc g args).run Try.prog w = .ok (.enter g args) w)
    (A : Option Addr) (xs : List S66) (c : Nat) (p : ByteArray → Bool) (w : World)
    (hr : Kd.C k66 w A xs.length xs)
    (hp : ∀ nm v1 v2 v3 v4 v5 W, Below w.heap.size w W → Calls Try.prog g (#[.agg #[.string nm, v1, v2, v3, v4, v5]] ++ lb) W fun e w' => e = .returned (.bool (p nm)) ∧ Below W.heap.size W w') :
    Calls Try.prog 56 #[.slice A xs.length c, .func (.func g) #[] lb] w fun e w' => e = .returned (.int .i64 (idxFrom (fun x : S66 => p x.f0) 0 xs)) ∧ Below w.heap.size w w' := by
  have HP := Lib.hid hp
  have HR := Lib.hid hr
  have hm : xs.length ≤ 9223372036854775807 := hr.2.1
  clear hp hr
  go_enter Try.func56, Try.ntmps56
  go_wp2
  go_loopw [5, 8] (fun _ i wr => ∃ k : Nat, i = .int .i64 k ∧ k ≤ xs.length ∧ Hid (idxFrom (fun x : S66 => p x.f0) 0 xs = idxFrom (fun x : S66 => p x.f0) k (xs.drop k)) ∧ Hid (Below w.heap.size w wr)) (fun _ i _ => xs.length - (intOf i).toNat)
  case atStart => exact ⟨0, rfl, Nat.zero_le _, Lib.hid rfl, Lib.hid (Below.refl _ _)⟩
  case round =>
    obtain ⟨k, rfl, hk, HI, HB⟩ := hrel
    by_cases hlt : k < xs.length
    · obtain ⟨ad, A2, c2, A3, c3, e1, hc1, hc2, hc3, hc4, hc5, hc6, _, _, _, _⟩ := proj_at (Kd.C_below HR.out HB.out) k hlt
      cases e1
      have HD := Lib.hid (idxFrom_drop (fun x : S66 => p x.f0) xs k hlt)
      go_wp2_with (fail)
      refine (HP.out _ _ _ _ _ _ _ HB.out).mono ?_
      rintro e w1 ⟨rfl, hb⟩
      have HB1 := Lib.hid (HB.out.trans (hb.mono HB.out.size))
      clear hb
      cases hpx : p xs[k].f0
      · have HX := Lib.hid (show idxFrom (fun x : S66 => p x.f0) 0 xs = idxFrom (fun x : S66 => p x.f0) ((k + 1 : Nat) : Int) (xs.drop (k + 1)) from by
          rw [HI.out, HD.out, if_neg (by rw [hpx]; decide)])
        clear hpx
        go_wp2
        go_roundw
        case rel => exact ⟨k + 1, by go_num, hlt, HX, HB1⟩
        case measure => simp [intOf]; omega
      · have HX := Lib.hid (show idxFrom (fun x : S66 => p x.f0) 0 xs = k from by rw [HI.out, HD.out, if_pos hpx])
        clear hpx
        go_wp2
        go_ret
        exact ⟨by rw [HX.out]; rfl, HB1.out⟩
    · obtain rfl : k = xs.length := by omega
      have HX := Lib.hid (show idxFrom (fun x : S66 => p x.f0) 0 xs = -1 from by rw [HI.out]; simp [idxFrom])
      go_wp2
      go_ret
      exact ⟨by rw [HX.out]; rfl, HB.out⟩
theorem idxFrom_any {α : Type} (p : α → Bool) (xs : List α) : ∀ i : Int, 0 ≤ i → (0 ≤ idxFrom p i xs ↔ xs.any p = true) := by
  induction xs with
  | nil => intro i hi; simp [idxFrom]
  | cons x xs ih =>
    intro i hi
    simp only [idxFrom, List.any_cons]
    cases hx : p x
    · simpa using ih (i + 1) (by omega)
    · simp [hi]
theorem idxFrom_dec {α : Type} (p : α → Bool) (xs : List α) : decide (0 ≤ idxFrom p 0 xs) = xs.any p := by
  have := idxFrom_any p xs 0 (by omega)
  cases h : xs.any p <;> simp_all
set_option maxHeartbeats 2000000 in
set_option maxRecDepth 100000 in
theorem ContainsFunc_int (g : Nat) (lb : Array Value) (eg : ∀ args w, (callFunc g args).run Try.prog w = .ok (.enter g args) w)
    (A : Option Addr) (xs : List Int) (c : Nat) (p : Int → Bool) (w : World)
    (hr : Kd.C (Kd.int .i64) w A xs.length xs)
    (hp : ∀ x, x ∈ xs → ∀ W, Below w.heap.size w W → Calls Try.prog g (#[.int .i64 x] ++ lb) W fun e w' => e = .returned (.bool (p x)) ∧ Below W.heap.size W w') :
    Calls Try.prog 39 #[.slice A xs.length c, .func (.func g) #[] lb] w fun e w' => e = .returned (.bool (xs.any p)) ∧ Below w.heap.size w w' := by
  have HC := Lib.hid (IndexFunc_int g lb eg A xs c p w hr hp)
  have HE := Lib.hid (idxFrom_dec p xs)
  clear hp hr
  go_enter Try.func39, Try.ntmps39
  go_wp2_with (fail)
  refine HC.out.mono ?_
  rintro e w1 ⟨rfl, hb⟩
  generalize hi : idxFrom p 0 xs = i at *
  have HI := Lib.hid hi
  have HB := Lib.hid hb
  clear hi hb HC
  go_wp2
  go_ret
  exact ⟨congrArg (fun b => Ending.returned (.bool b)) HE.out, HB.out⟩
set_option maxHeartbeats 2000000 in
set_option maxRecDepth 100000 in
theorem ContainsFunc_tab (g : Nat) (lb : Array Value) (eg : ∀ args w, (callFunc g args).run Try.prog w = .ok (.enter g args) w)
    (A : Option Addr) (xs : List S79) (c : Nat) (p : ByteArray → Bool) (w : World)
    (hr : Kd.C k79 w A xs.length xs)
    (hp : ∀ nm v W, Below w.heap.size w W → Calls Try.prog g (#[.agg #[.string nm, v]] ++ lb) W fun e w' => e = .returned (.bool (p nm)) ∧ Below W.heap.size W w') :
    Calls Try.prog 28 #[.slice A xs.length c, .func (.func g) #[] lb] w fun e w' => e = .returned (.bool (xs.any (fun x : S79 => p x.f0))) ∧ Below w.heap.size w w' := by
  have HC := Lib.hid (IndexFunc_tab g lb eg A xs c p w hr hp)
  have HE := Lib.hid (idxFrom_dec (fun x : S79 => p x.f0) xs)
  clear hp hr
  go_enter Try.func28, Try.ntmps28
  go_wp2_with (fail)
  refine HC.out.mono ?_
  rintro e w1 ⟨rfl, hb⟩
  generalize hi : idxFrom (fun x : S79 => p x.f0) 0 xs = i at *
  have HI := Lib.hid hi
  have HB := Lib.hid hb
  clear hi hb HC
  go_wp2
  go_ret
  exact ⟨congrArg (fun b => Ending.returned (.bool b)) HE.out, HB.out⟩
set_option maxHeartbeats 2000000 in
set_option maxRecDepth 100000 in
theorem ContainsFunc_proj (g : Nat) (lb : Array Value) (eg : ∀ args w, (callFunc g args).run Try.prog w = .ok (.enter g args) w)
    (A : Option Addr) (xs : List S66) (c : Nat) (p : ByteArray → Bool) (w : World)
    (hr : Kd.C k66 w A xs.length xs)
    (hp : ∀ nm v1 v2 v3 v4 v5 W, Below w.heap.size w W → Calls Try.prog g (#[.agg #[.string nm, v1, v2, v3, v4, v5]] ++ lb) W fun e w' => e = .returned (.bool (p nm)) ∧ Below W.heap.size W w') :
    Calls Try.prog 31 #[.slice A xs.length c, .func (.func g) #[] lb] w fun e w' => e = .returned (.bool (xs.any (fun x : S66 => p x.f0))) ∧ Below w.heap.size w w' := by
  have HC := Lib.hid (IndexFunc_proj g lb eg A xs c p w hr hp)
  have HE := Lib.hid (idxFrom_dec (fun x : S66 => p x.f0) xs)
  clear hp hr
  go_enter Try.func31, Try.ntmps31
  go_wp2_with (fail)
  refine HC.out.mono ?_
  rintro e w1 ⟨rfl, hb⟩
  generalize hi : idxFrom (fun x : S66 => p x.f0) 0 xs = i at *
  have HI := Lib.hid hi
  have HB := Lib.hid hb
  clear hi hb HC
  go_wp2
  go_ret
  exact ⟨congrArg (fun b => Ending.returned (.bool b)) HE.out, HB.out⟩
set_option maxHeartbeats 2000000 in
theorem sameTab (nm s : ByteArray) (v : Value) (b : Nat) (w : World) (hc : w.cell? ⟨b, 0, none⟩ = some (.string s)) :
    Calls Try.prog 29 #[.agg #[.string nm, v], .pointer (some ⟨b, 0, none⟩)] w fun e w' => e = .returned (.bool (nm.toList == s.toList)) ∧ Below w.heap.size w w' := by
  have hb : Below w.heap.size w (w.alloc (.cells #[.string nm, v] 79)) := (Below.refl _ _).alloc (Nat.le_refl _) _
  have hc1 := pw_cell_below hb hc
  have HB := Lib.hid hb
  clear hc hb
  go_enter Try.func29, Try.ntmps29
  go_wp2
  go_ret
  exact ⟨rfl, HB.out⟩
set_option maxHeartbeats 2000000 in
theorem sameProj (nm s : ByteArray) (v1 v2 v3 v4 v5 : Value) (b : Nat) (w : World) (hc : w.cell? ⟨b, 0, none⟩ = some (.string s)) :
    Calls Try.prog 32 #[.agg #[.string nm, v1, v2, v3, v4, v5], .pointer (some ⟨b, 0, none⟩)] w fun e w' => e = .returned (.bool (nm.toList == s.toList)) ∧ Below w.heap.size w w' := by
  have hb : Below w.heap.size w (w.alloc (.cells #[.string nm, v1, v2, v3, v4, v5] 66)) := (Below.refl _ _).alloc (Nat.le_refl _) _
  have hc1 := pw_cell_below hb hc
  have HB := Lib.hid hb
  clear hc hb
  go_enter Try.func32, Try.ntmps32
  go_wp2
  go_ret
  exact ⟨rfl, HB.out⟩
end Go.Proofs.Ytnaaaldeadjohaa.Cat

set_option linter.unusedVariables false
set_option linter.unusedSimpArgs false
namespace Go.Proofs.Ytnaaaldeadjohaa.Cat
open Go.RowKit Go.Proofs.YtnaaaldeadjohaaW.PrintWords Go.Proofs.Ytnaaaldeadjohaa.PCatalogLies

/-! ### What the catalog's functions come to -/
def allB (p : Nat → Bool) (n : Nat) : Bool := (List.range n).all p
def anyB (p : Nat → Bool) (n : Nat) : Bool := (List.range n).any p
theorem allB_iff {p : Nat → Bool} {n : Nat} : allB p n = true ↔ ∀ i, i < n → p i = true := by simp [allB]
theorem anyB_iff {p : Nat → Bool} {n : Nat} : anyB p n = true ↔ ∃ i, i < n ∧ p i = true := by simp [anyB]
theorem allB_no {p : Nat → Bool} {n i : Nat} (h : i < n) (hp : p i = false) : allB p n = false := by
  cases e : allB p n
  · rfl
  · rw [allB_iff.1 e i h] at hp; cases hp
theorem anyB_no {p : Nat → Bool} {n : Nat} (h : ∀ i, i < n → p i = false) : anyB p n = false := by
  cases e : anyB p n
  · rfl
  · obtain ⟨i, hi, hp⟩ := anyB_iff.1 e
    rw [h i hi] at hp; cases hp
theorem anyB_yes {p : Nat → Bool} {n i : Nat} (h : i < n) (hp : p i = true) : anyB p n = true := anyB_iff.2 ⟨i, h, hp⟩

def namedB (s : ByteArray) : Bool := decide (1 ≤ s.size) && decide (s.size ≤ 64)
def plOk (l : List Int) (m : Int) : Bool := allB (fun i => decide (0 ≤ rd l i) && decide (rd l i < m) && !((l.take i).contains (rd l i))) l.length
def colOk (cs : List S76) (i : Nat) : Bool := namedB (rd_T76 cs i).f0 && decide (1 ≤ (rd_T76 cs i).f1) && decide ((rd_T76 cs i).f1 ≤ 3) && !(anyB (fun j => decide ((rd_T76 cs j).f0.toList = (rd_T76 cs i).f0.toList)) i)
def tabOk (nm : ByteArray) (cs : List S76) : Bool := namedB nm && decide (1 ≤ cs.length) && decide (cs.length ≤ 8) && allB (colOk cs) cs.length
def projOk (n : Int) (T : List S79) (p : S66) : Bool :=
  namedB p.f0 && decide (0 ≤ p.f1) && decide (p.f1 < T.length) && decide (p.f2.length ≠ 0) && decide (0 ≤ p.f5) && decide (p.f5 < n) &&
    plOk p.f2 (rd_T79 T p.f1).f1.length && plOk p.f3 (rd_T79 T p.f1).f1.length && p.f2.contains p.f4 && p.f3.all (fun x => p.f2.contains x)
def coversB (cs : List S76) (l : List Int) : Bool := allB (fun i => l.contains (i : Int)) cs.length
def covB (T : List S79) (P : List S66) (i : Int) : Bool :=
  anyB (fun a => anyB (fun b => decide ((rd_T66 P a).f1 = i) && decide ((rd_T66 P b).f1 = i) && coversB (rd_T79 T i).f1 ((rd_T66 P a).f2 ++ (rd_T66 P b).f2)) P.length) P.length
def segsL (s : Int) (P : List S66) : List S31 := (List.range P.length).flatMap fun (p : Nat) => (List.range s.toNat).map fun (q : Nat) => (⟨(p : Int), (q : Int)⟩ : S31)
def inRange (s : Int) (P : List S66) (a b : Int) : Bool := decide (0 ≤ a) && decide (a < P.length) && decide (0 ≤ b) && decide (b < s)
def nodesL (n s k : Int) (P : List S66) (a b : Int) : List Int :=
  if inRange s P a b then (List.range (k + 1).toNat).map fun (j : Nat) => (b + (rd_T66 P a).f5 + (j : Int)) % n else []
def ofL (n s k : Int) (P : List S66) (node : Int) : List S31 := (segsL s P).filter fun at_ => (nodesL n s k P at_.f0 at_.f1).contains node
def liveB (live : List Bool) (m : Int) : Bool := decide (m < live.length) && rdOf false live m
def covered (n s k : Int) (P : List S66) (live : List Bool) : Bool := (segsL s P).all fun at_ => (nodesL n s k P at_.f0 at_.f1).any (liveB live)
def headOk (n s k : Int) : Bool := decide (1 ≤ n) && decide (n ≤ 8) && decide (0 ≤ k) && decide (k < n) && decide (1 ≤ s) && decide (s ≤ 8)
def tabsOk (T : List S79) : Bool := allB (fun i => tabOk (rd_T79 T i).f0 (rd_T79 T i).f1 && !(anyB (fun j => decide ((rd_T79 T j).f0.toList = (rd_T79 T i).f0.toList)) i)) T.length
def projsOk (n : Int) (T : List S79) (P : List S66) : Bool := allB (fun i => projOk n T (rd_T66 P i) && !(anyB (fun j => decide ((rd_T66 P j).f0.toList = (rd_T66 P i).f0.toList)) i)) P.length
def chk (n s k : Int) (T : List S79) (P : List S66) : Int :=
  if headOk n s k = false then 133
  else if (decide (1 ≤ T.length) && decide (T.length ≤ 4)) = false then 130
  else if tabsOk T = false then 130
  else if 8 < P.length then 131
  else if projsOk n T P = false then 131
  else if allB (fun i => covB T P i) T.length = false then 132
  else if allB (fun i => !(ofL n s k P i).isEmpty) n.toNat = false then 133 else 0

/-! ### Rounds -/
theorem ev_succ {α : Type} {g : Nat → Option α} {r : α} (h : ∃ K, ∀ k, K ≤ k → g (k + 1) = some r) : Ev g r := by
  obtain ⟨K, h⟩ := h
  refine ⟨K + 1, fun k hk => ?_⟩
  obtain ⟨k, rfl⟩ : ∃ m, k = m + 1 := ⟨k - 1, by omega⟩
  exact h k (by omega)
theorem w64 (i : Nat) (h : i < 9223372036854775807) : wrap64 ((i : Int) + 1) = ((i + 1 : Nat) : Int) := by
  unfold wrap64
  omega
theorem loop_all' {ρ : Type} (l : Nat → Nat → Option ρ) (p : Nat → Bool) (n : Nat) (rT rF : ρ)
    (h1 : ∀ i, i < n → p i = true → ∀ r, Ev (fun k => l k (i + 1)) r → Ev (fun k => l k i) r)
    (h2 : ∀ i, i < n → p i = false → Ev (fun k => l k i) rF) (h3 : allB p n = true → Ev (fun k => l k n) rT) : Ev (fun k => l k 0) (if allB p n = true then rT else rF) := by
  have key : ∀ d i, i + d = n → (∀ j, j < i → p j = true) → Ev (fun k => l k i) (if allB p n = true then rT else rF) := by
    intro d
    induction d with
    | zero =>
      intro i hi hb
      obtain rfl : i = n := by omega
      rw [if_pos (allB_iff.2 hb)]
      exact h3 (allB_iff.2 hb)
    | succ d ih =>
      intro i hi hb
      cases hp : p i
      · rw [if_neg (by rw [allB_no (show i < n by omega) hp]; decide)]
        exact h2 i (by omega) hp
      · refine h1 i (by omega) hp _ (ih (i + 1) (by omega) fun j hj => ?_)
        rcases Nat.lt_or_ge j i with h | h
        · exact hb j h
        · obtain rfl : j = i := by omega
          exact hp
  exact key n 0 (by omega) (fun j hj => by omega)
theorem loop_all {ρ : Type} (l : Nat → Nat → Option ρ) (p : Nat → Bool) (n : Nat) (rT rF : ρ)
    (h1 : ∀ i, i < n → p i = true → ∀ r, Ev (fun k => l k (i + 1)) r → Ev (fun k => l k i) r)
    (h2 : ∀ i, i < n → p i = false → Ev (fun k => l k i) rF) (h3 : Ev (fun k => l k n) rT) : Ev (fun k => l k 0) (if allB p n = true then rT else rF) :=
  loop_all' l p n rT rF h1 h2 (fun _ => h3)
theorem anyB_not (p : Nat → Bool) (n : Nat) : anyB p n = !(allB (fun i => !p i) n) := by simp only [anyB, allB, List.any_eq_not_all_not]
theorem loop_any' {ρ : Type} (l : Nat → Nat → Option ρ) (p : Nat → Bool) (n : Nat) (rT rF : ρ)
    (h1 : ∀ i, i < n → p i = false → ∀ r, Ev (fun k => l k (i + 1)) r → Ev (fun k => l k i) r)
    (h2 : ∀ i, i < n → p i = true → Ev (fun k => l k i) rT) (h3 : anyB p n = false → Ev (fun k => l k n) rF) : Ev (fun k => l k 0) (if anyB p n = true then rT else rF) := by
  have h := loop_all' l (fun i => !p i) n rF rT (fun i hi hp => h1 i hi (by simpa using hp)) (fun i hi hp => h2 i hi (by simpa using hp)) (fun e => h3 (by rw [anyB_not, e]; rfl))
  rw [anyB_not]
  cases ha : allB (fun i => !p i) n <;> simpa [ha] using h
theorem loop_any {ρ : Type} (l : Nat → Nat → Option ρ) (p : Nat → Bool) (n : Nat) (rT rF : ρ)
    (h1 : ∀ i, i < n → p i = false → ∀ r, Ev (fun k => l k (i + 1)) r → Ev (fun k => l k i) r)
    (h2 : ∀ i, i < n → p i = true → Ev (fun k => l k i) rT) (h3 : Ev (fun k => l k n) rF) : Ev (fun k => l k 0) (if anyB p n = true then rT else rF) :=
  loop_any' l p n rT rF h1 h2 (fun _ => h3)
/-- What gathers. -/
theorem loop_fold {ρ σ : Type} (l : Nat → σ → Nat → Option ρ) (st : Nat → σ) (n : Nat) (r : ρ)
    (h1 : ∀ i, i < n → Ev (fun k => l k (st (i + 1)) (i + 1)) r → Ev (fun k => l k (st i) i) r) (h3 : Ev (fun k => l k (st n) n) r) : Ev (fun k => l k (st 0) 0) r := by
  have key : ∀ d i, i + d = n → Ev (fun k => l k (st i) i) r := by
    intro d
    induction d with
    | zero => intro i hi; obtain rfl : i = n := by omega
              exact h3
    | succ d ih => intro i hi; exact h1 i (by omega) (ih (i + 1) (by omega))
  exact key n 0 (by omega)

/-! ### The printed functions -/
theorem rd_nat (l : List Int) (i : Nat) (h : i < l.length) : rd l i = l[i] := by simp [rd, List.getD_eq_getElem?_getD, h]
theorem named_f (s : ByteArray) : value_named.f s = some (namedB s) := by
  unfold value_named.f namedB
  by_cases h : (s.size : Int) ≥ 1
  · rw [if_pos h, decide_eq_true (show 1 ≤ s.size by omega), Bool.true_and]
    exact congrArg some (decide_eq_decide.2 (by omega))
  · rw [if_neg h, decide_eq_false (show ¬ 1 ≤ s.size by omega), Bool.false_and]
theorem named2_f (s : ByteArray) : hayloftref02_named.f s = some (namedB s) := by
  unfold hayloftref02_named.f namedB
  by_cases h : (s.size : Int) > 0
  · rw [if_pos h, decide_eq_true (show 1 ≤ s.size by omega), Bool.true_and]
    exact congrArg some (decide_eq_decide.2 (by omega))
  · rw [if_neg h, decide_eq_false (show ¬ 1 ≤ s.size by omega), Bool.false_and]
theorem contains_any (l : List Int) (x : Int) : l.contains x = anyB (fun i => decide (rd l i = x)) l.length := by
  rw [Bool.eq_iff_iff, anyB_iff]
  simp only [List.contains_iff_mem, List.mem_iff_getElem, decide_eq_true_eq]
  exact ⟨fun ⟨i, h, e⟩ => ⟨i, h, by rw [rd_nat l i h]; exact e⟩, fun ⟨i, h, e⟩ => ⟨i, h, by rw [rd_nat l i h] at e; exact e⟩⟩
theorem in_ev (l : List Int) (x : Int) (hl : l.length ≤ 9223372036854775807) : Ev (fun k => hayloftref13_In.f k l x) (l.contains x) := by
  have h := loop_any (fun k i => hayloftref13_In.l0 k l x (i : Int)) (fun i => decide (rd l i = x)) l.length true false
    (fun i hi hp r ⟨K, hK⟩ => ev_succ ⟨K, fun k hk => by
      simp only [hayloftref13_In.l0]
      rw [if_pos (by omega), if_pos (by omega), if_neg (by simpa using hp), w64 i (by omega)]
      exact hK k hk⟩)
    (fun i hi hp => ev_succ ⟨0, fun k hk => by
      simp only [hayloftref13_In.l0]
      rw [if_pos (by omega), if_pos (by omega), if_pos (by simpa using hp)]⟩)
    (ev_succ ⟨0, fun k hk => by
      simp only [hayloftref13_In.l0]
      rw [if_neg (by omega)]⟩)
  rw [contains_any]
  simpa [hayloftref13_In.f] using h
theorem contains_ev (l : List Int) (x : Int) (hl : l.length ≤ 9223372036854775807) : Ev (fun k => slices_Contains_int_int.f k l x) (l.contains x) := by
  have h : Ev (fun k => (slices_Index_int_int.f k l x).bind fun t => some (decide (t ≥ 0))) (if anyB (fun i => decide (rd l i = x)) l.length = true then true else false) := by
    refine loop_any (fun k i => (slices_Index_int_int.l0 k l x (l.length : Int) (i : Int)).bind fun t => some (decide (t ≥ 0))) (fun i => decide (rd l i = x)) l.length true false
      (fun i hi hp r ⟨K, hK⟩ => ev_succ ⟨K, fun k hk => by
        simp only [slices_Index_int_int.l0]
        rw [if_pos (by omega), if_pos (by omega), if_pos (by omega), if_neg (by simp at hp; exact fun e => hp e.symm), w64 i (by omega)]
        exact hK k hk⟩)
      (fun i hi hp => ev_succ ⟨0, fun k hk => by
        simp only [slices_Index_int_int.l0]
        rw [if_pos (by omega), if_pos (by omega), if_pos (by omega), if_pos (by simp at hp; exact hp.symm)]
        simp⟩)
      (ev_succ ⟨0, fun k hk => by
        simp only [slices_Index_int_int.l0]
        rw [if_neg (by omega)]
        simp⟩)
  rw [contains_any]
  simpa [slices_Contains_int_int.f] using h
end Go.Proofs.Ytnaaaldeadjohaa.Cat

set_option linter.unusedVariables false
set_option linter.unusedSimpArgs false
namespace Go.Proofs.Ytnaaaldeadjohaa.Cat
open Go.RowKit Go.Proofs.YtnaaaldeadjohaaW.PrintWords Go.Proofs.Ytnaaaldeadjohaa.PCatalogLies

/-- A catalog whose numbers are as they must be. -/
structure Good (n s k : Int) (P : List S66) : Prop where
  hn : 1 ≤ n ∧ n ≤ 8
  hk : 0 ≤ k ∧ k < n
  hs : 1 ≤ s ∧ s ≤ 8
  hP : P.length ≤ 8
  hsh : ∀ a : Int, 0 ≤ a → a < P.length → 0 ≤ (rd_T66 P a).f5 ∧ (rd_T66 P a).f5 < n

theorem ite_tf (b : Bool) : (if b = true then true else false) = b := by cases b <;> rfl
theorem covers_ev (nm : ByteArray) (cs : List S76) (l : List Int) (hl : l.length ≤ 9223372036854775807) (hc : cs.length ≤ 9223372036854775807) : Ev (fun k => catalog_covers.f k nm cs l) (coversB cs l) := by
  have h := loop_all (fun k i => catalog_covers.l0 k l (cs.length : Int) (i : Int)) (fun i => l.contains (i : Int)) cs.length true false
    (fun i hi hp r ⟨K, hK⟩ => by
      obtain ⟨K2, h2⟩ := contains_ev l i hl
      dsimp only at h2
      exact ev_succ ⟨max K K2, fun k hk => by
        simp only [catalog_covers.l0]
        rw [if_pos (by omega), h2 k (by omega)]
        simp only [Option.bind_some]
        rw [if_pos hp, w64 i (by omega)]
        exact hK k (by omega)⟩)
    (fun i hi hp => by
      obtain ⟨K2, h2⟩ := contains_ev l i hl
      dsimp only at h2
      exact ev_succ ⟨K2, fun k hk => by
        simp only [catalog_covers.l0]
        rw [if_pos (by omega), h2 k (by omega)]
        simp only [Option.bind_some]
        rw [if_neg (by rw [hp]; decide)]⟩)
    (ev_succ ⟨0, fun k hk => by
      simp only [catalog_covers.l0]
      rw [if_neg (by omega)]⟩)
  rw [ite_tf] at h
  exact h
theorem all_ev (a0 : ByteArray) (cs : List S76) (b0 : ByteArray) (b1 : Int) (l : List Int) (b3 : List Int) (b4 b5 : Int) (c0 : ByteArray) (c1 : Int) (m : List Int) (c3 : List Int) (c4 c5 : Int)
    (hl : l.length ≤ 9223372036854775807) (hm : m.length ≤ 9223372036854775807) (hc : cs.length ≤ 9223372036854775807) :
    Ev (fun k => hayloftref13_All.f k a0 cs b0 b1 l b3 b4 b5 c0 c1 m c3 c4 c5) (coversB cs (l ++ m)) := by
  have h := loop_all (fun k i => hayloftref13_All.l0 k (i : Int) a0 cs b0 b1 l b3 b4 b5 c0 c1 m c3 c4 c5) (fun i => (l ++ m).contains (i : Int)) cs.length true false
    (fun i hi hp r ⟨K, hK⟩ => by
      obtain ⟨K2, h2⟩ := in_ev l i hl
      dsimp only at h2
      obtain ⟨K3, h3⟩ := in_ev m i hm
      dsimp only at h3
      exact ev_succ ⟨max K (max K2 K3), fun k hk => by
        simp only [hayloftref13_All.l0]
        rw [if_pos (by omega), h2 k (by omega)]
        simp only [Option.bind_some]
        rw [h3 k (by omega)]
        simp only [Option.bind_some]
        rw [w64 i (by omega)]
        have hK' := hK k (by omega)
        simp at hp
        rcases hp with hp | hp
        · rw [if_pos (by simpa using hp)]; exact hK'
        · split
          · exact hK'
          · rw [if_pos (by simpa using hp)]; exact hK'⟩)
    (fun i hi hp => by
      obtain ⟨K2, h2⟩ := in_ev l i hl
      dsimp only at h2
      obtain ⟨K3, h3⟩ := in_ev m i hm
      dsimp only at h3
      exact ev_succ ⟨max K2 K3, fun k hk => by
        simp only [hayloftref13_All.l0]
        rw [if_pos (by omega), h2 k (by omega)]
        simp only [Option.bind_some]
        rw [h3 k (by omega)]
        simp only [Option.bind_some]
        simp at hp
        rw [if_neg (by simpa using hp.1), if_neg (by simpa using hp.2)]⟩)
    (ev_succ ⟨0, fun k hk => by
      simp only [hayloftref13_All.l0]
      rw [if_neg (by omega)]⟩)
  rw [ite_tf] at h
  exact h
theorem covered13_ev (n s k : Int) (T : List S79) (P : List S66) (i : Int) (hP : P.length ≤ 9223372036854775807) (h0 : 0 ≤ i) (h1 : i < T.length) (hcs : (rd_T79 T i).f1.length ≤ 9223372036854775807)
    (hls : ∀ a : Nat, a < P.length → (rd_T66 P a).f2.length ≤ 9223372036854775807) :
    Ev (fun q => hayloftref13_covered.f q n s k T P i) (covB T P i) := by
  have hin : ∀ (a : Nat), a < P.length → ∀ r, (anyB (fun b => decide ((rd_T66 P a).f1 = i) && decide ((rd_T66 P b).f1 = i) && coversB (rd_T79 T i).f1 ((rd_T66 P a).f2 ++ (rd_T66 P b).f2)) P.length = false → Ev (fun q => hayloftref13_covered.l0 q i ((a + 1 : Nat) : Int) n s k T P) r) →
      Ev (fun q => hayloftref13_covered.l1 q i (a : Int) ((0 : Nat) : Int) n s k T P) (if anyB (fun b => decide ((rd_T66 P a).f1 = i) && decide ((rd_T66 P b).f1 = i) && coversB (rd_T79 T i).f1 ((rd_T66 P a).f2 ++ (rd_T66 P b).f2)) P.length = true then true else r) := by
    intro a ha r hr
    refine loop_any' (fun q b => hayloftref13_covered.l1 q i (a : Int) (b : Int) n s k T P) _ P.length true r ?_ ?_ ?_
    · intro b hb hp r ⟨K, hK⟩
      dsimp only at hK
      obtain ⟨K2, h2⟩ := all_ev (rd_T79 T i).f0 (rd_T79 T i).f1 (rd_T66 P a).f0 (rd_T66 P a).f1 (rd_T66 P a).f2 (rd_T66 P a).f3 (rd_T66 P a).f4 (rd_T66 P a).f5 (rd_T66 P b).f0 (rd_T66 P b).f1 (rd_T66 P b).f2 (rd_T66 P b).f3 (rd_T66 P b).f4 (rd_T66 P b).f5 (hls a ha) (hls b hb) hcs
      dsimp only at h2
      refine ev_succ ⟨max K K2 + 1, fun q hq => ?_⟩
      obtain ⟨q, rfl⟩ : ∃ m, q = m + 1 := ⟨q - 1, by omega⟩
      simp only [hayloftref13_covered.l1]
      rw [if_pos (by omega), if_pos (by omega), if_pos (by omega)]
      by_cases e1 : (rd_T66 P a).f1 = i
      · rw [if_pos e1, if_pos (by omega)]
        simp only [hayloftref13_covered.j2]
        by_cases e2 : (rd_T66 P b).f1 = i
        · rw [if_pos (by simpa using e2), if_pos h0, if_pos h1, if_pos (by omega), if_pos (by omega), if_pos (by omega), if_pos (by omega), h2 q (by omega)]
          simp only [Option.bind_some]
          rw [if_neg (by simpa [e1, e2] using hp), w64 b (by omega)]
          exact hK q (by omega)
        · rw [if_neg (by simpa using e2), w64 b (by omega)]
          exact hK q (by omega)
      · rw [if_neg e1]
        simp only [hayloftref13_covered.j2]
        rw [if_neg (by decide), w64 b (by omega)]
        exact hK q (by omega)
    · intro b hb hp
      obtain ⟨K2, h2⟩ := all_ev (rd_T79 T i).f0 (rd_T79 T i).f1 (rd_T66 P a).f0 (rd_T66 P a).f1 (rd_T66 P a).f2 (rd_T66 P a).f3 (rd_T66 P a).f4 (rd_T66 P a).f5 (rd_T66 P b).f0 (rd_T66 P b).f1 (rd_T66 P b).f2 (rd_T66 P b).f3 (rd_T66 P b).f4 (rd_T66 P b).f5 (hls a ha) (hls b hb) hcs
      dsimp only at h2
      simp only [Bool.and_eq_true, decide_eq_true_eq] at hp
      obtain ⟨⟨e1, e2⟩, e3⟩ := hp
      refine ev_succ ⟨K2 + 1, fun q hq => ?_⟩
      obtain ⟨q, rfl⟩ : ∃ m, q = m + 1 := ⟨q - 1, by omega⟩
      simp only [hayloftref13_covered.l1]
      rw [if_pos (by omega), if_pos (by omega), if_pos (by omega), if_pos e1, if_pos (by omega)]
      simp only [hayloftref13_covered.j2]
      rw [if_pos (by simpa using e2), if_pos h0, if_pos h1, if_pos (by omega), if_pos (by omega), if_pos (by omega), if_pos (by omega), h2 q (by omega)]
      simp only [Option.bind_some]
      rw [if_pos e3]
    · intro hany
      obtain ⟨K, hK⟩ := hr hany
      exact ev_succ ⟨K, fun q hq => by
        simp only [hayloftref13_covered.l1]
        rw [if_neg (by omega), w64 a (by omega)]
        exact hK q hq⟩
  have h := loop_any (fun q a => hayloftref13_covered.l0 q i (a : Int) n s k T P)
    (fun a => anyB (fun b => decide ((rd_T66 P a).f1 = i) && decide ((rd_T66 P b).f1 = i) && coversB (rd_T79 T i).f1 ((rd_T66 P a).f2 ++ (rd_T66 P b).f2)) P.length) P.length true false ?_ ?_ ?_
  · rw [ite_tf] at h
    exact h
  · intro a ha hp r hr
    have hx := hin a ha r (fun _ => hr)
    rw [if_neg (by rw [hp]; decide)] at hx
    obtain ⟨K, hK⟩ := hx
    exact ev_succ ⟨K, fun q hq => by
      simp only [hayloftref13_covered.l0]
      rw [if_pos (by omega)]
      exact hK q hq⟩
  · intro a ha hp
    have hx := hin a ha true (fun h => by rw [h] at hp; cases hp)
    rw [if_pos hp] at hx
    obtain ⟨K, hK⟩ := hx
    exact ev_succ ⟨K, fun q hq => by
      simp only [hayloftref13_covered.l0]
      rw [if_pos (by omega)]
      exact hK q hq⟩
  · exact ev_succ ⟨0, fun q hq => by
      simp only [hayloftref13_covered.l0]
      rw [if_neg (by omega)]⟩
theorem tmod_small (b sh n : Int) (j : Nat) (hb : 0 ≤ b) (hb' : b < 8) (hs : 0 ≤ sh) (hs' : sh < 8) (hj : j < 8) (hn : 1 ≤ n) (hn' : n ≤ 8) :
    Int.tmod (wrap64 (wrap64 (b + sh) + (j : Int))) n = (b + sh + (j : Int)) % n := by
  have e1 : wrap64 (b + sh) = b + sh := by unfold wrap64; omega
  have e2 : wrap64 (b + sh + (j : Int)) = b + sh + (j : Int) := by unfold wrap64; omega
  rw [e1, e2, Int.tmod_eq_emod_of_nonneg (by omega)]
theorem inRange_iff {s : Int} {P : List S66} {a b : Int} : inRange s P a b = true ↔ 0 ≤ a ∧ a < P.length ∧ 0 ≤ b ∧ b < s := by simp [inRange, and_assoc]
theorem nodes13_ev (n s k : Int) (T : List S79) (P : List S66) (g : Good n s k P) (a b : Int) : Ev (fun q => hayloftref13_Nodes.f q n s k T P a b) (nodesL n s k P a b) := by
  have hT : ∀ c : Bool, c = true → Ev (fun q => hayloftref13_Nodes.j0 q c n s k T P a b) ([] : List Int) := fun c hc => ev_succ ⟨0, fun q _ => by simp only [hayloftref13_Nodes.j0]; rw [if_pos hc]⟩
  have hT' : ¬ inRange s P a b = true → nodesL n s k P a b = [] := fun h => by unfold nodesL; rw [if_neg h]
  unfold hayloftref13_Nodes.f
  by_cases c1 : a < 0
  · rw [hT' (by rw [inRange_iff]; omega)]; simp only [if_pos c1]; exact hT _ rfl
  simp only [if_neg c1]
  by_cases c2 : a ≥ (P.length : Int)
  · rw [hT' (by rw [inRange_iff]; omega)]; simp only [if_pos c2]; exact hT _ rfl
  simp only [if_neg c2]
  by_cases c3 : b < 0
  · rw [hT' (by rw [inRange_iff]; omega)]; simp only [if_pos c3]; exact hT _ rfl
  simp only [if_neg c3]
  by_cases c4 : b ≥ s
  · rw [hT' (by rw [inRange_iff]; omega)]; exact hT _ (by simpa using c4)
  have hr : inRange s P a b = true := by rw [inRange_iff]; omega
  have hsh := g.hsh a (by omega) (by omega)
  obtain ⟨gn, gk, gs, gP⟩ := (⟨g.hn, g.hk, g.hs, g.hP⟩ : (1 ≤ n ∧ n ≤ 8) ∧ (0 ≤ k ∧ k < n) ∧ (1 ≤ s ∧ s ≤ 8) ∧ P.length ≤ 8)
  have h := loop_fold (fun q l i => hayloftref13_Nodes.l0 q l (i : Int) n s k T P a b) (fun i => (List.range i).map fun (j : Nat) => (b + (rd_T66 P a).f5 + (j : Int)) % n) (k + 1).toNat (nodesL n s k P a b)
    (fun i hi ⟨K, hK⟩ => ev_succ ⟨K, fun q hq => by
      simp only [hayloftref13_Nodes.l0]
      rw [if_pos (by omega), if_pos (by omega), if_pos (by omega), if_neg (by omega), if_pos (by simp; omega), w64 i (by omega), tmod_small b _ n i (by omega) (by omega) (by omega) (by omega) (by omega) (by omega) (by omega)]
      have := hK q hq
      rw [List.range_succ, List.map_append] at this
      exact this⟩)
    (ev_succ ⟨0, fun q _ => by
      simp only [hayloftref13_Nodes.l0]
      rw [if_neg (by omega)]
      unfold nodesL
      rw [if_pos hr]⟩)
  obtain ⟨K, hK⟩ := h
  exact ev_succ ⟨K, fun q hq => by
    simp only [hayloftref13_Nodes.j0]
    rw [if_neg (by simpa using c4)]
    exact hK q hq⟩
theorem nodes_ev (n s k : Int) (T : List S79) (P : List S66) (g : Good n s k P) (a b : Int) : Ev (fun q => catalog_Nodes.f q n s k T P a b) (nodesL n s k P a b) := by
  have hT : ∀ c : Bool, c = true → Ev (fun q => catalog_Nodes.j0 q c n s k T P a b) ([] : List Int) := fun c hc => ev_succ ⟨0, fun q _ => by simp only [catalog_Nodes.j0]; rw [if_pos hc]⟩
  have hT' : ¬ inRange s P a b = true → nodesL n s k P a b = [] := fun h => by unfold nodesL; rw [if_neg h]
  unfold catalog_Nodes.f
  by_cases c1 : a < 0
  · rw [hT' (by rw [inRange_iff]; omega)]; simp only [if_pos c1]; exact hT _ rfl
  simp only [if_neg c1]
  by_cases c2 : a ≥ (P.length : Int)
  · rw [hT' (by rw [inRange_iff]; omega)]; simp only [if_pos c2]; exact hT _ rfl
  simp only [if_neg c2]
  by_cases c3 : b < 0
  · rw [hT' (by rw [inRange_iff]; omega)]; simp only [if_pos c3]; exact hT _ rfl
  simp only [if_neg c3]
  by_cases c4 : b ≥ s
  · rw [hT' (by rw [inRange_iff]; omega)]; simp only [if_pos c4]; exact hT _ rfl
  simp only [if_neg c4]
  have hr : inRange s P a b = true := by rw [inRange_iff]; omega
  have hsh := g.hsh a (by omega) (by omega)
  obtain ⟨gn, gk, gs, gP⟩ := (⟨g.hn, g.hk, g.hs, g.hP⟩ : (1 ≤ n ∧ n ≤ 8) ∧ (0 ≤ k ∧ k < n) ∧ (1 ≤ s ∧ s ≤ 8) ∧ P.length ≤ 8)
  have ek : wrap64 (k + 1) = k + 1 := by unfold wrap64; omega
  have h := loop_fold (fun q l i => catalog_Nodes.l0 q l (wrap64 (k + 1)) (i : Int) n s k T P a b) (fun i => (List.range i).map fun (j : Nat) => (b + (rd_T66 P a).f5 + (j : Int)) % n) (k + 1).toNat (nodesL n s k P a b)
    (fun i hi ⟨K, hK⟩ => ev_succ ⟨K, fun q hq => by
      simp only [catalog_Nodes.l0]
      rw [if_pos (by omega), if_pos (by omega), if_pos (by omega), if_neg (by omega), if_pos (by simp; omega), w64 i (by omega), tmod_small b _ n i (by omega) (by omega) (by omega) (by omega) (by omega) (by omega) (by omega)]
      have := hK q hq
      rw [List.range_succ, List.map_append] at this
      exact this⟩)
    (ev_succ ⟨0, fun q _ => by
      simp only [catalog_Nodes.l0]
      rw [if_neg (by omega)]
      unfold nodesL
      rw [if_pos hr]⟩)
  obtain ⟨K, hK⟩ := h
  exact ev_succ ⟨K, fun q hq => by
    simp only [catalog_Nodes.j0]
    rw [if_neg (by simp; omega)]
    exact hK q hq⟩
end Go.Proofs.Ytnaaaldeadjohaa.Cat

set_option linter.unusedVariables false
set_option linter.unusedSimpArgs false
namespace Go.Proofs.Ytnaaaldeadjohaa.Cat
open Go.RowKit Go.Proofs.YtnaaaldeadjohaaW.PrintWords Go.Proofs.Ytnaaaldeadjohaa.PCatalogLies

/-- The segments of one projection; of those ahead of a. -/
def segsOne (s : Int) (p : Nat) (q : Nat) : List S31 := (List.range q).map fun (q : Nat) => (⟨(p : Int), (q : Int)⟩ : S31)
def segsPre (s : Int) (a : Nat) : List S31 := (List.range a).flatMap fun (p : Nat) => segsOne s p s.toNat
theorem segsPre_succ (s : Int) (a : Nat) : segsPre s (a + 1) = segsPre s a ++ segsOne s a s.toNat := by
  simp [segsPre, List.range_succ, List.flatMap_append]
theorem segsPre_length (s : Int) (a : Nat) : (segsPre s a).length = a * s.toNat := by
  induction a with
  | zero => simp [segsPre]
  | succ a ih => rw [segsPre_succ, List.length_append, ih]; simp [segsOne, Nat.add_mul]
theorem segsL_pre (s : Int) (P : List S66) : segsL s P = segsPre s P.length := rfl
theorem segsL_length (s : Int) (P : List S66) : (segsL s P).length = P.length * s.toNat := segsPre_length s P.length
theorem segments_ev (n s k : Int) (T : List S79) (P : List S66) (g : Good n s k P) : Ev (fun q => hayloftref13_Segments.f q n s k T P) (segsL s P) := by
  obtain ⟨gs, gP⟩ := (⟨g.hs, g.hP⟩ : (1 ≤ s ∧ s ≤ 8) ∧ P.length ≤ 8)
  have hlen : ∀ a, a ≤ P.length → (segsPre s a).length ≤ 64 := by
    intro a ha
    rw [segsPre_length]
    exact Nat.le_trans (Nat.mul_le_mul (Nat.le_trans ha gP) (show s.toNat ≤ 8 by omega)) (by decide)
  refine loop_fold (fun q l i => hayloftref13_Segments.l0 q l (i : Int) n s k T P) (fun a => segsPre s a) P.length (segsL s P) ?_ ?_
  · intro a ha hr
    have hin : Ev (fun q => hayloftref13_Segments.l1 q (segsPre s a ++ segsOne s a 0) (a : Int) ((0 : Nat) : Int) n s k T P) (segsL s P) := by
      refine loop_fold (fun q l i => hayloftref13_Segments.l1 q l (a : Int) (i : Int) n s k T P) (fun b => segsPre s a ++ segsOne s a b) s.toNat (segsL s P) ?_ ?_
      · rintro b hb ⟨K, hK⟩
        dsimp only at hK
        refine ev_succ ⟨K, fun q hq => ?_⟩
        simp only [hayloftref13_Segments.l1]
        have h64 := hlen a (by omega)
        rw [if_pos (by omega), if_pos (by rw [List.length_append]; simp [segsOne]; omega), w64 b (by omega), List.append_assoc]
        have e : segsOne s a b ++ [(⟨(a : Int), (b : Int)⟩ : S31)] = segsOne s a (b + 1) := by simp [segsOne, List.range_succ]
        rw [e]
        exact hK q hq
      · obtain ⟨K, hK⟩ := hr
        dsimp only at hK
        refine ev_succ ⟨K, fun q hq => ?_⟩
        simp only [hayloftref13_Segments.l1]
        rw [if_neg (by omega), w64 a (by omega), ← segsPre_succ]
        exact hK q hq
    obtain ⟨K, hK⟩ := hin
    dsimp only at hK
    refine ev_succ ⟨K, fun q hq => ?_⟩
    simp only [hayloftref13_Segments.l0]
    rw [if_pos (by omega)]
    have := hK q hq
    simpa [segsOne] using this
  · refine ev_succ ⟨0, fun q hq => ?_⟩
    simp only [hayloftref13_Segments.l0]
    rw [if_neg (by omega)]
    rfl
theorem rdT31_nat (l : List S31) (i : Nat) (h : i < l.length) : rd_T31 l i = l[i] := by simp [rd_T31, List.getD_eq_getElem?_getD, h]
theorem nodesL_length (n s k : Int) (P : List S66) (g : Good n s k P) (a b : Int) : (nodesL n s k P a b).length ≤ 8 := by
  have := g.hk; have := g.hn
  unfold nodesL
  split
  · simp; omega
  · simp
theorem of13_ev (n s k : Int) (T : List S79) (P : List S66) (g : Good n s k P) (x : Int) : Ev (fun q => hayloftref13_Of.f q n s k T P x) (ofL n s k P x) := by
  obtain ⟨gs, gP⟩ := (⟨g.hs, g.hP⟩ : (1 ≤ s ∧ s ≤ 8) ∧ P.length ≤ 8)
  have h64 : (segsL s P).length ≤ 64 := by
    rw [segsL_length]
    exact Nat.le_trans (Nat.mul_le_mul gP (show s.toNat ≤ 8 by omega)) (by decide)
  refine Ev.bind (segments_ev n s k T P g) ?_
  have h := loop_fold (fun q l i => hayloftref13_Of.l0 q x l (segsL s P) (i : Int) n s k T P) (fun i => ((segsL s P).take i).filter fun at_ => (nodesL n s k P at_.f0 at_.f1).contains x) (segsL s P).length (ofL n s k P x) ?_ ?_
  · simpa using h
  · rintro i hi ⟨K, hK⟩
    dsimp only at hK
    obtain ⟨K2, h2⟩ := nodes13_ev n s k T P g (segsL s P)[i].f0 (segsL s P)[i].f1
    obtain ⟨K3, h3⟩ := in_ev (nodesL n s k P (segsL s P)[i].f0 (segsL s P)[i].f1) x (by have := nodesL_length n s k P g (segsL s P)[i].f0 (segsL s P)[i].f1; omega)
    dsimp only at h2 h3
    refine ev_succ ⟨max K (max K2 K3), fun q hq => ?_⟩
    simp only [hayloftref13_Of.l0]
    rw [if_pos (by omega), if_pos (by omega), rdT31_nat _ i hi, h2 q (by omega)]
    simp only [Option.bind_some]
    rw [h3 q (by omega)]
    simp only [Option.bind_some]
    have hK' := hK q (by omega)
    rw [List.take_succ_eq_append_getElem hi, List.filter_append] at hK'
    have hl : (((segsL s P).take i).filter fun at_ => (nodesL n s k P at_.f0 at_.f1).contains x).length < 8796093022208 := by
      have := List.length_filter_le (fun at_ : S31 => (nodesL n s k P at_.f0 at_.f1).contains x) ((segsL s P).take i)
      have := List.length_take_le i (segsL s P)
      omega
    cases hc : (nodesL n s k P (segsL s P)[i].f0 (segsL s P)[i].f1).contains x
    · simp only [List.filter_cons, List.filter_nil, hc, Bool.false_eq_true, if_false, List.append_nil] at hK'
      rw [if_neg (by decide), w64 i (by omega)]
      exact hK'
    · simp only [List.filter_cons, List.filter_nil, hc, if_true] at hK'
      rw [if_pos rfl, if_pos hl, w64 i (by omega)]
      exact hK'
  · refine ev_succ ⟨0, fun q hq => ?_⟩
    simp only [hayloftref13_Of.l0]
    rw [if_neg (by omega), List.take_length]
    rfl
theorem ext_any {α : Type} (l m : List α) (z : α) (hlen : l.length = m.length) (hb : ∀ i : Nat, i < l.length → l.getD i z = m.getD i z) : l = m := by
  apply List.ext_getElem hlen
  intro i h1 h2
  have := hb i h1
  simpa [List.getD_eq_getElem?_getD, h1, h2] using this
theorem sameSegs_ev (l m : List S31) (hl : l.length ≤ 9223372036854775807) (e : l = m) : Ev (fun q => hayloftref13_SameSegments.f q l m) true := by
  subst e
  have h := loop_fold (fun q (_ : Unit) i => hayloftref13_SameSegments.l0 q l l (i : Int)) (fun _ => ()) l.length true
    (fun i hi ⟨K, hK⟩ => ev_succ ⟨K, fun q hq => by
      simp only [hayloftref13_SameSegments.l0]
      rw [if_pos (by omega), if_pos (by omega), if_pos (by omega), if_neg (by simp), w64 i (by omega)]
      exact hK q hq⟩)
    (ev_succ ⟨0, fun q _ => by
      simp only [hayloftref13_SameSegments.l0]
      rw [if_neg (by omega)]⟩)
  unfold hayloftref13_SameSegments.f
  simpa using h
theorem sameInts_ev (l m : List Int) (hl : l.length ≤ 9223372036854775807) (e : l = m) : Ev (fun q => hayloftref13_SameInts.f q l m) true := by
  subst e
  have h := loop_fold (fun q (_ : Unit) i => hayloftref13_SameInts.l0 q l l (i : Int)) (fun _ => ()) l.length true
    (fun i hi ⟨K, hK⟩ => ev_succ ⟨K, fun q hq => by
      simp only [hayloftref13_SameInts.l0]
      rw [if_pos (by omega), if_pos (by omega), if_pos (by omega), if_pos trivial, w64 i (by omega)]
      exact hK q hq⟩)
    (ev_succ ⟨0, fun q _ => by
      simp only [hayloftref13_SameInts.l0]
      rw [if_neg (by omega)]⟩)
  unfold hayloftref13_SameInts.f
  simpa using h
theorem nodesL_nonneg (n s k : Int) (P : List S66) (g : Good n s k P) (a b x : Int) (h : x ∈ nodesL n s k P a b) : 0 ≤ x ∧ x < n := by
  have gn := g.hn
  unfold nodesL at h
  split at h
  · obtain ⟨j, _, rfl⟩ := List.mem_map.1 h
    exact ⟨Int.emod_nonneg _ (by omega), Int.emod_lt_of_pos _ (by omega)⟩
  · cases h
theorem covered_ev (n s k : Int) (T : List S79) (P : List S66) (g : Good n s k P) (live : List Bool) : Ev (fun q => hayloftref13_Covered.f q n s k T P live) (covered n s k P live) := by
  obtain ⟨gs, gP⟩ := (⟨g.hs, g.hP⟩ : (1 ≤ s ∧ s ≤ 8) ∧ P.length ≤ 8)
  have h64 : (segsL s P).length ≤ 64 := by
    rw [segsL_length]
    exact Nat.le_trans (Nat.mul_le_mul gP (show s.toNat ≤ 8 by omega)) (by decide)
  refine Ev.bind (segments_ev n s k T P g) ?_
  have hin : ∀ (i : Nat) (hi : i < (segsL s P).length) (r : Bool), ((nodesL n s k P (segsL s P)[i].f0 (segsL s P)[i].f1).any (liveB live) = true → Ev (fun q => hayloftref13_Covered.l0 q live (segsL s P) ((i + 1 : Nat) : Int) n s k T P) r) →
      Ev (fun q => hayloftref13_Covered.l1 q live (segsL s P) (i : Int) false (nodesL n s k P (segsL s P)[i].f0 (segsL s P)[i].f1) ((0 : Nat) : Int) n s k T P) (if (nodesL n s k P (segsL s P)[i].f0 (segsL s P)[i].f1).any (liveB live) = true then r else false) := by
    intro i hi r hr
    generalize hN : nodesL n s k P (segsL s P)[i].f0 (segsL s P)[i].f1 = N at *
    have hN8 : N.length ≤ 8 := by rw [← hN]; exact nodesL_length n s k P g _ _
    have hNn : ∀ j (hj : j < N.length), 0 ≤ N[j] := fun j hj => (nodesL_nonneg n s k P g _ _ _ (by rw [hN]; exact List.getElem_mem hj)).1
    have h := loop_fold (fun q f j => hayloftref13_Covered.l1 q live (segsL s P) (i : Int) f N (j : Int) n s k T P) (fun j => (N.take j).any (liveB live)) N.length (if N.any (liveB live) = true then r else false) ?_ ?_
    · simpa using h
    · rintro j hj ⟨K, hK⟩
      dsimp only at hK
      refine ev_succ ⟨K, fun q hq => ?_⟩
      have hK' := hK q hq
      rw [List.take_succ_eq_append_getElem hj, List.any_append] at hK'
      simp only [List.any_cons, List.any_nil, Bool.or_false] at hK'
      simp only [hayloftref13_Covered.l1]
      rw [if_pos (by omega), w64 j (by omega)]
      cases hf : (N.take j).any (liveB live)
      · rw [hf, Bool.false_or] at hK'
        rw [if_neg (by decide), if_pos (by omega), rd_nat N j hj]
        unfold liveB at hK'
        have h0 := hNn j hj
        by_cases hlt : N[j] < (live.length : Int)
        · rw [if_pos hlt, if_pos h0]
          rw [decide_eq_true hlt, Bool.true_and] at hK'
          exact hK'
        · rw [if_neg hlt]
          rw [decide_eq_false hlt, Bool.false_and] at hK'
          exact hK'
      · rw [hf, Bool.true_or] at hK'
        rw [if_pos rfl]
        exact hK'
    · rw [List.take_length]
      cases hf : N.any (liveB live)
      · refine ev_succ ⟨0, fun q hq => ?_⟩
        simp only [hayloftref13_Covered.l1]
        rw [if_neg (by omega)]
        simp
      · obtain ⟨K, hK⟩ := hr hf
        dsimp only at hK
        refine ev_succ ⟨K, fun q hq => ?_⟩
        simp only [hayloftref13_Covered.l1]
        rw [if_neg (by omega), w64 i (by omega), if_pos trivial, if_pos trivial]
        exact hK q hq
  have hstep : ∀ (i : Nat) (hi : i < (segsL s P).length) (r : Bool), Ev (fun q => hayloftref13_Covered.l1 q live (segsL s P) (i : Int) false (nodesL n s k P (segsL s P)[i].f0 (segsL s P)[i].f1) ((0 : Nat) : Int) n s k T P) r →
      Ev (fun q => hayloftref13_Covered.l0 q live (segsL s P) (i : Int) n s k T P) r := by
    rintro i hi r ⟨K, hK⟩
    dsimp only at hK
    obtain ⟨K2, h2⟩ := nodes13_ev n s k T P g (segsL s P)[i].f0 (segsL s P)[i].f1
    dsimp only at h2
    refine ev_succ ⟨max K K2, fun q hq => ?_⟩
    simp only [hayloftref13_Covered.l0]
    rw [if_pos (by omega), if_pos (by omega), rdT31_nat _ i hi, h2 q (by omega)]
    simp only [Option.bind_some]
    exact hK q (by omega)
  have h := loop_all (fun q i => hayloftref13_Covered.l0 q live (segsL s P) (i : Int) n s k T P) (fun i => (nodesL n s k P (rd_T31 (segsL s P) i).f0 (rd_T31 (segsL s P) i).f1).any (liveB live)) (segsL s P).length true false ?_ ?_ ?_
  · have e : allB (fun i : Nat => (nodesL n s k P (rd_T31 (segsL s P) i).f0 (rd_T31 (segsL s P) i).f1).any (liveB live)) (segsL s P).length = covered n s k P live := by
      rw [Bool.eq_iff_iff, allB_iff, covered, List.all_eq_true]
      constructor
      · intro h x hx
        obtain ⟨i, hi, rfl⟩ := List.mem_iff_getElem.1 hx
        have := h i hi
        rwa [rdT31_nat _ i hi] at this
      · intro h i hi
        rw [rdT31_nat _ i hi]
        exact h _ (List.getElem_mem hi)
    rw [e, ite_tf] at h
    exact h
  · intro i hi hp r hr
    rw [rdT31_nat _ i hi] at hp
    have hx := hin i hi r (fun _ => hr)
    rw [if_pos hp] at hx
    exact hstep i hi r hx
  · intro i hi hp
    rw [rdT31_nat _ i hi] at hp
    have hx := hin i hi true (fun h => by rw [h] at hp; cases hp)
    rw [if_neg (by rw [hp]; decide)] at hx
    exact hstep i hi false hx
  · refine ev_succ ⟨0, fun q hq => ?_⟩
    simp only [hayloftref13_Covered.l0]
    rw [if_neg (by omega)]
end Go.Proofs.Ytnaaaldeadjohaa.Cat

set_option linter.unusedVariables false
set_option linter.unusedSimpArgs false
namespace Go.Proofs.Ytnaaaldeadjohaa.Cat
open Go.RowKit Go.Proofs.YtnaaaldeadjohaaW.PrintWords Go.Proofs.Ytnaaaldeadjohaa.PCatalogLies

theorem C_take {α : Type} {d : Kd α} {w : World} {A : Option Addr} {n : Nat} {l : List α} (h : d.C w A n l) (j : Nat) (hj : j ≤ n) : d.C w A j (l.take j) := by
  refine ⟨by rw [List.length_take, h.1]; omega, by have := h.2.1; omega, fun hp => ?_⟩
  obtain ⟨ad, e, hc⟩ := h.2.2 (by omega)
  refine ⟨ad, e, fun i p hi => hc i p ?_⟩
  rw [List.getElem?_take] at hi
  split at hi
  · exact hi
  · cases hi
theorem drawn_trans {a b c : World} (h : Drawn0 a b) (k : Drawn0 b c) : Drawn0 a c := by
  obtain ⟨n, rfl⟩ := k
  exact h.step n
theorem quiet_drawn {P : Program} {f : FuncId} {args : Array Value} {w : World} {n : Nat} {v : Value} (h : Calls P f args (w.drewN n) fun e w' => e = .returned v ∧ Drawn0 (w.drewN n) w') :
    Calls P f args (w.drewN n) fun e w'' => e = .returned v ∧ ∃ m, w'' = w.drewN m := h.mono fun _ _ ⟨he, ⟨m, hm⟩⟩ => ⟨he, n + m, by rw [hm, World.drewN_drewN]⟩
theorem contains_calls (A : Option Addr) (n c : Nat) (l : List Int) (x : Int) (w : World) (hn : l.length = n) (hr : Kd.C (Kd.int .i64) w A n l) (hc : n ≤ c) :
    Calls Try.prog 38 #[.slice A n c, .int .i64 x] w fun e w' => e = .returned (.bool (l.contains x)) ∧ Drawn0 w w' := by
  subst hn
  obtain ⟨k, hk⟩ := Ev.rounds (contains_ev l x hr.2.1)
  exact slices_Contains_int_int.calls k A c l x _ w hr hc hk
theorem in_calls (A : Option Addr) (n c : Nat) (l : List Int) (x : Int) (w : World) (hn : l.length = n) (hr : Kd.C (Kd.int .i64) w A n l) (hc : n ≤ c) :
    Calls Try.prog 22 #[.slice A n c, .int .i64 x] w fun e w' => e = .returned (.bool (l.contains x)) ∧ Drawn0 w w' := by
  subst hn
  obtain ⟨k, hk⟩ := Ev.rounds (in_ev l x hr.2.1)
  exact hayloftref13_In.calls k A c l x _ w hr hc hk
theorem all_succ {p : Nat → Bool} {k : Nat} (h : ∀ j, j < k → p j = true) (hk : p k = true) : ∀ j, j < k + 1 → p j = true := fun j hj => by
  rcases Nat.lt_or_ge j k with h1 | h1
  · exact h j h1
  · obtain rfl : j = k := by omega
    exact hk
/-- One place of a list of places. -/
def plAt (l : List Int) (m : Int) (i : Nat) : Bool := decide (0 ≤ rd l i) && decide (rd l i < m) && !((l.take i).contains (rd l i))
theorem plOk_def (l : List Int) (m : Int) : plOk l m = allB (plAt l m) l.length := rfl
theorem plOk_no {l : List Int} {m : Int} {i : Nat} (hi : i < l.length) (h : plAt l m i = false) : plOk l m = false := allB_no hi h
theorem plOk_yes {l : List Int} {m : Int} (h : ∀ i, i < l.length → plAt l m i = true) : plOk l m = true := allB_iff.2 h
set_option maxHeartbeats 2000000 in
set_option maxRecDepth 100000 in
theorem unlike_calls (A : Option Addr) (xs : List Int) (c : Nat) (m : Int) (w : World) (hr : Kd.C (Kd.int .i64) w A xs.length xs) (hc : xs.length ≤ c) :
    Calls Try.prog 54 #[.slice A xs.length c, .int .i64 m] w fun e w' => e = .returned (.bool (plOk xs m)) ∧ Drawn0 w w' := by
  have HR := Lib.hid hr
  have HC := Lib.hid hc
  have hm : xs.length ≤ 9223372036854775807 := hr.2.1
  clear hr
  go_enter Try.func54, Try.ntmps54
  go_wp2
  go_loopw [9] (fun i wr => ∃ k : Nat, i = .int .i64 k ∧ k ≤ xs.length ∧ Hid (∀ j, j < k → plAt xs m j = true) ∧ Drawn0 w wr) (fun i _ => xs.length - (intOf i).toNat)
  case atStart => exact ⟨0, rfl, Nat.zero_le _, Lib.hid (fun j hj => by omega), Drawn0.refl _⟩
  case round =>
    obtain ⟨k, rfl, hk, HI, HW⟩ := hrel
    by_cases hlt : k < xs.length
    · obtain ⟨ad, e1, hcell⟩ := int_at (Kd.C_below HR.out (Drawn0.below HW)) k hlt
      cases e1
      have HT := Lib.hid (C_take HR.out k hk)
      have HX := Lib.hid (rd_nat xs k hlt)
      generalize hx : xs[k] = x at *
      clear hx
      have hcap : k ≤ c := by omega
      by_cases c1 : x < 0
      · have HF := Lib.hid (plOk_no (m := m) hlt (by unfold plAt; rw [HX.out, decide_eq_false (by omega)]; rfl))
        go_wp2
        go_ret
        exact ⟨by rw [HF.out]; rfl, HW⟩
      by_cases c2 : m ≤ x
      · have HF := Lib.hid (plOk_no (m := m) hlt (by unfold plAt; rw [HX.out, decide_eq_false (show ¬ x < m by omega), Bool.and_false]; rfl))
        go_wp2
        go_ret
        exact ⟨by rw [HF.out]; rfl, HW⟩
      go_wp2_with (fail)
      refine (contains_calls _ k c (xs.take k) x _ (by simp; omega) (Kd.C_below HT.out (Drawn0.below HW)) hcap).mono ?_
      rintro e w1 ⟨rfl, hd⟩
      have HW1 := drawn_trans HW hd
      clear hd HW
      cases hb : (xs.take k).contains x
      · have HF := Lib.hid (show plAt xs m k = true by unfold plAt; rw [HX.out, hb, decide_eq_true (show 0 ≤ x by omega), decide_eq_true (show x < m by omega)]; rfl)
        clear hb
        go_wp2
        go_roundw
        case rel => exact ⟨k + 1, by go_num, hlt, Lib.hid (all_succ HI.out HF.out), HW1⟩
        case measure => simp [intOf]; omega
      · have HF := Lib.hid (plOk_no (m := m) hlt (by unfold plAt; rw [HX.out, hb]; simp))
        clear hb
        go_wp2
        go_ret
        exact ⟨by rw [HF.out]; rfl, HW1⟩
    · obtain rfl : k = xs.length := by omega
      have HF := Lib.hid (plOk_yes HI.out)
      go_wp2
      go_ret
      exact ⟨by rw [HF.out]; rfl, HW⟩
set_option maxHeartbeats 2000000 in
set_option maxRecDepth 100000 in
theorem places_calls (A : Option Addr) (xs : List Int) (c : Nat) (m : Int) (w : World) (hr : Kd.C (Kd.int .i64) w A xs.length xs) (hc : xs.length ≤ c) :
    Calls Try.prog 60 #[.slice A xs.length c, .int .i64 m] w fun e w' => e = .returned (.bool (plOk xs m)) ∧ Drawn0 w w' := by
  have HR := Lib.hid hr
  have HC := Lib.hid hc
  have hm : xs.length ≤ 9223372036854775807 := hr.2.1
  clear hr
  go_enter Try.func60, Try.ntmps60
  go_wp2
  go_loopw [5] (fun i wr => ∃ k : Nat, i = .int .i64 k ∧ k ≤ xs.length ∧ Hid (∀ j, j < k → plAt xs m j = true) ∧ Drawn0 w wr) (fun i _ => xs.length - (intOf i).toNat)
  case atStart => exact ⟨0, rfl, Nat.zero_le _, Lib.hid (fun j hj => by omega), Drawn0.refl _⟩
  case round =>
    obtain ⟨k, rfl, hk, HI, HW⟩ := hrel
    by_cases hlt : k < xs.length
    · obtain ⟨ad, e1, hcell⟩ := int_at (Kd.C_below HR.out (Drawn0.below HW)) k hlt
      cases e1
      have HT := Lib.hid (Kd.C_below (C_take HR.out k hk) (Drawn0.below HW))
      have HX := Lib.hid (rd_nat xs k hlt)
      generalize hx : xs[k] = x at *
      clear hx
      have hcap : k ≤ c := by omega
      go_wp2_with (fail)
      go_quiet ((go_at_call 22; exact quiet_drawn (in_calls _ k c (xs.take k) x _ (by simp; omega) (Kd.C_below HT.out (Drawn0.below ⟨⟨_, rfl⟩⟩)) hcap)))
      have HW1 : Drawn0 w (wr.drewN nq) := HW.step nq
      clear HW
      by_cases c1 : x < 0
      · have HF := Lib.hid (plOk_no (m := m) hlt (by unfold plAt; rw [HX.out, decide_eq_false (by omega)]; rfl))
        go_wp2
        go_ret
        exact ⟨by rw [HF.out]; rfl, HW1⟩
      by_cases c2 : m ≤ x
      · have HF := Lib.hid (plOk_no (m := m) hlt (by unfold plAt; rw [HX.out, decide_eq_false (show ¬ x < m by omega), Bool.and_false]; rfl))
        go_wp2
        go_ret
        exact ⟨by rw [HF.out]; rfl, HW1⟩
      cases hb : (xs.take k).contains x
      · have HF := Lib.hid (show plAt xs m k = true by unfold plAt; rw [HX.out, hb, decide_eq_true (show 0 ≤ x by omega), decide_eq_true (show x < m by omega)]; rfl)
        clear hb
        go_wp2
        go_roundw
        case rel => exact ⟨k + 1, by go_num, hlt, Lib.hid (all_succ HI.out HF.out), HW1⟩
        case measure => simp [intOf]; omega
      · have HF := Lib.hid (plOk_no (m := m) hlt (by unfold plAt; rw [HX.out, hb]; simp))
        clear hb
        go_wp2
        go_ret
        exact ⟨by rw [HF.out]; rfl, HW1⟩
    · obtain rfl : k = xs.length := by omega
      have HF := Lib.hid (plOk_yes HI.out)
      go_wp2
      go_ret
      exact ⟨by rw [HF.out]; rfl, HW⟩
end Go.Proofs.Ytnaaaldeadjohaa.Cat

set_option linter.unusedVariables false
set_option linter.unusedSimpArgs false
namespace Go.Proofs.Ytnaaaldeadjohaa.Cat
open Go.RowKit Go.Proofs.YtnaaaldeadjohaaW.PrintWords Go.Proofs.Ytnaaaldeadjohaa.PCatalogLies

theorem col_at {w : World} {A : Option Addr} {n : Nat} {xs : List S76} (h : Kd.C k76 w A n xs) (k : Nat) (hk : k < n) : ∃ ad, A = some ad ∧ w.cell? (ad.add (k * 3)) = some (.string (rd_T76 xs k).f0) ∧ w.cell? ⟨(ad.add (k * 3)).block, (ad.add (k * 3)).off + 1, none⟩ = some (.int .i64 (rd_T76 xs k).f1) ∧ w.cell? ⟨(ad.add (k * 3)).block, (ad.add (k * 3)).off + 2, none⟩ = some (.bool (rd_T76 xs k).f2) := by
  have h1 := at_T76 h k (by omega) (by omega)
  simpa using h1
theorem rdT76_take {xs : List S76} {j k : Nat} (h : j < k) : rd_T76 (xs.take k) j = rd_T76 xs j := by
  simp [rd_T76, List.getD_eq_getElem?_getD, List.getElem?_take, h]
theorem box_cell {W w2 : World} {vs : Array Value} {t : TypeId} (hb : Below (W.alloc (.cells vs t)).heap.size (W.alloc (.cells vs t)) w2) (j : Nat) : w2.cell? ⟨W.heap.size, j, none⟩ = vs[j]? := by
  rw [hb.cell (p := ⟨W.heap.size, j, none⟩) (by simp)]
  exact cell_of_row (W.alloc (.cells vs t)) W.heap.size j vs t (0, 0) (heap_alloc_new W _)
theorem below_box {w W w2 : World} {vs : Array Value} {t : TypeId} (h : Below w.heap.size w W) (hb : Below (W.alloc (.cells vs t)).heap.size (W.alloc (.cells vs t)) w2) : Below w.heap.size w w2 :=
  (h.alloc h.size (.cells vs t)).trans (hb.mono (by have := h.size; simp; omega))
theorem named_calls (s : ByteArray) (w : World) : Calls Try.prog 50 #[.string s] w fun e w' => e = .returned (.bool (namedB s)) ∧ Drawn0 w w' := value_named.calls s _ w (named_f s)
theorem colOk_names {cs : List S76} {k j : Nat} (hj : j < k) (h : ((rd_T76 cs j).f0.toList == (rd_T76 cs k).f0.toList) = true) : colOk cs k = false := by
  unfold colOk
  rw [anyB_yes hj (by simpa using h)]
  simp
theorem colOk_yes {cs : List S76} {k : Nat} (h1 : namedB (rd_T76 cs k).f0 = true) (h2 : 1 ≤ (rd_T76 cs k).f1) (h3 : (rd_T76 cs k).f1 ≤ 3) (h : ∀ j, j < k → (!((rd_T76 cs j).f0.toList == (rd_T76 cs k).f0.toList)) = true) : colOk cs k = true := by
  unfold colOk
  rw [h1, decide_eq_true h2, decide_eq_true h3, anyB_no (fun j hj => by have := h j hj; simpa using this)]
  rfl
theorem tabOk_no1 {nm : ByteArray} {cs : List S76} (h : (namedB nm && decide (1 ≤ cs.length) && decide (cs.length ≤ 8)) = false) : tabOk nm cs = false := by unfold tabOk; rw [h]; rfl
theorem tabOk_no2 {nm : ByteArray} {cs : List S76} {i : Nat} (hi : i < cs.length) (h : colOk cs i = false) : tabOk nm cs = false := by unfold tabOk; rw [allB_no hi h, Bool.and_false]
theorem tabOk_yes {nm : ByteArray} {cs : List S76} (h1 : namedB nm = true) (h2 : 1 ≤ cs.length) (h3 : cs.length ≤ 8) (h : ∀ i, i < cs.length → colOk cs i = true) : tabOk nm cs = true := by
  unfold tabOk; rw [h1, decide_eq_true h2, decide_eq_true h3, allB_iff.2 h]; rfl
def tabErr (nm : ByteArray) (cs : List S76) : Int := if tabOk nm cs = true then 0 else 20
theorem tabErr_no {nm : ByteArray} {cs : List S76} (h : tabOk nm cs = false) : tabErr nm cs = 20 := by unfold tabErr; rw [h]; rfl
theorem tabErr_yes {nm : ByteArray} {cs : List S76} (h : tabOk nm cs = true) : tabErr nm cs = 0 := by unfold tabErr; rw [h]; rfl
set_option maxHeartbeats 4000000 in
set_option maxRecDepth 100000 in
theorem Table_calls (nm : ByteArray) (A : Option Addr) (cs : List S76) (c : Nat) (w : World) (hr : Kd.C k76 w A cs.length cs) (hc : cs.length ≤ c) :
    Calls Try.prog 27 #[.agg #[.string nm, .slice A cs.length c]] w fun e w' => e = .returned (.int .i64 (tabErr nm cs)) ∧ Below w.heap.size w w' := by
  have HR := Lib.hid hr
  have hm : cs.length ≤ 9223372036854775807 := hr.2.1
  clear hr
  go_enter Try.func27, Try.ntmps27
  go_wp2_with (fail)
  refine (named_calls nm _).mono ?_
  rintro e w1 ⟨rfl, hd⟩
  have HB := Lib.hid (((Below.refl w.heap.size w).alloc (Nat.le_refl _) (.cells #[.string nm, .slice A cs.length c] 79)).trans ((Drawn0.below hd).mono (by simp)))
  have hb1 := (Drawn0.below hd).cell (p := ⟨w.heap.size, 1, none⟩) (by simp)
  have hb0 : w1.cell? ⟨w.heap.size, 1, none⟩ = some (.slice A cs.length c) := by rw [hb1]; simp [go_sem]
  clear hb1 hd
  by_cases h0 : (namedB nm && decide (1 ≤ cs.length) && decide (cs.length ≤ 8)) = true
  · simp only [Bool.and_eq_true, decide_eq_true_eq] at h0
    obtain ⟨⟨h1, h2⟩, h3⟩ := h0
    have HN := Lib.hid h1
    rw [h1]
    clear h1
    have d1 : decide ((cs.length : Int) < 1) = false := decide_eq_false (by omega)
    have d2 : decide ((8 : Int) < (cs.length : Int)) = false := decide_eq_false (by omega)
    go_wp2
    go_loopw [26] (fun i wr => ∃ k : Nat, i = .int .i64 k ∧ k ≤ cs.length ∧ Hid (∀ j, j < k → colOk cs j = true) ∧ Hid (Below w1.heap.size w1 wr)) (fun i _ => cs.length - (intOf i).toNat)
    case atStart => exact ⟨0, rfl, Nat.zero_le _, Lib.hid (fun j hj => by omega), Lib.hid (Below.refl _ _)⟩
    case round =>
      obtain ⟨k, rfl, hk, HI, HW⟩ := hrel
      obtain ⟨wo, rfl⟩ : ∃ wo : World, wo = wr := ⟨_, rfl⟩
      by_cases hlt : k < cs.length
      · have hbw : Below w.heap.size w wo := HB.out.trans (HW.out.mono HB.out.size)
        obtain ⟨ad, e1, hc0, hc1, hc2⟩ := col_at (Kd.C_below HR.out hbw) k hlt
        cases e1
        have hbx := pw_cell_below HW.out hb0
        generalize hx : rd_T76 cs k = x at *
        have HX := Lib.hid hx
        clear hx hbw
        have hcap : k ≤ c := by omega
        go_wp2_with (fail)
        refine (named_calls x.f0 _).mono ?_
        rintro e w2 ⟨rfl, hd⟩
        have hd' := Drawn0.below hd
        have hx0 := box_cell hd' 0
        have hx1 := box_cell hd' 1
        have HB2 := Lib.hid (below_box HW.out hd')
        have hb2 := pw_cell_below HB2.out hb0
        simp at hx0 hx1
        clear hd hd' hc0 hc1 hc2 hbx
        by_cases hcol : (namedB x.f0 && decide (1 ≤ x.f1) && decide (x.f1 ≤ 3)) = true
        · simp only [Bool.and_eq_true, decide_eq_true_eq] at hcol
          obtain ⟨⟨h4, h5⟩, h6⟩ := hcol
          have H4 := Lib.hid h4
          rw [h4]
          clear h4
          have d3 : decide (x.f1 < 1) = false := decide_eq_false (by omega)
          have d4 : decide (3 < x.f1) = false := decide_eq_false (by omega)
          go_wp2
          go_loopw [50] (fun i wr' => ∃ j : Nat, i = .int .i64 j ∧ j ≤ k ∧ Hid (∀ i, i < j → (!((rd_T76 cs i).f0.toList == (rd_T76 cs k).f0.toList)) = true) ∧ Hid (Below w2.heap.size w2 wr')) (fun i _ => k - (intOf i).toNat)
          case atStart => exact ⟨0, rfl, Nat.zero_le _, Lib.hid (fun j hj => by omega), Lib.hid (Below.refl _ _)⟩
          case round =>
            obtain ⟨j, rfl, hj, HJ, HV⟩ := hrel
            have HBV := Lib.hid (HB.out.trans (HB2.out.mono HB.out.size |>.trans (HV.out.mono (Nat.le_trans HB.out.size HB2.out.size))))
            by_cases hjk : j < k
            · obtain ⟨ad', e1, hc0, hc1, hc2⟩ := col_at (Kd.C_below (C_take HR.out k hk) HBV.out) j hjk
              cases e1
              rw [rdT76_take hjk] at hc0 hc1 hc2
              have HY := Lib.hid (fun h => colOk_names (cs := cs) hjk h)
              have HZ := Lib.hid (fun h => all_succ (p := fun i => (!((rd_T76 cs i).f0.toList == (rd_T76 cs k).f0.toList))) HJ.out (k := j) h)
              generalize hy : rd_T76 cs j = y at *
              clear hy
              have hA := (Below.refl wr.heap.size wr).alloc (Nat.le_refl _) (.cells #[.string y.f0, .int .i64 y.f1, .bool y.f2] 76)
              have hxA := pw_cell_below hA (pw_cell_below HV.out hx0)
              have HA := Lib.hid hA
              clear hA
              cases hne : (y.f0.toList == x.f0.toList)
              · have HN1 := Lib.hid (HZ.out (by rw [HX.out, hne]; rfl))
                go_wp2
                go_roundw
                case rel => exact ⟨j + 1, by go_num, hjk, HN1, Lib.hid (HV.out.trans (HA.out.mono HV.out.size))⟩
                case measure => simp [intOf]; omega
              · have HF := Lib.hid (tabErr_no (tabOk_no2 (nm := nm) hlt (HY.out (by rw [HX.out, hne]))))
                go_wp2
                go_ret
                exact ⟨by rw [HF.out]; rfl, HBV.out.trans (HA.out.mono HBV.out.size)⟩
            · obtain rfl : j = k := by omega
              have HF := Lib.hid (all_succ HI.out (colOk_yes (cs := cs) (by rw [HX.out]; exact H4.out) (by rw [HX.out]; exact h5) (by rw [HX.out]; exact h6) HJ.out))
              go_wp2
              go_roundw
              case rel => exact ⟨j + 1, by go_num, hlt, HF, Lib.hid (HB2.out.trans (HV.out.mono HB2.out.size))⟩
              case measure => simp [intOf]; omega
        · have hcol' : colOk cs k = false := by unfold colOk; rw [HX.out, Bool.eq_false_iff.2 hcol]; rfl
          have HF := Lib.hid (tabErr_no (tabOk_no2 (nm := nm) hlt hcol'))
          clear hcol'
          have hret : ∀ {Q : World → Prop}, Q w2 → Q w2 := fun h => h
          cases hn : namedB x.f0
          · go_wp2
            go_ret
            exact ⟨by rw [HF.out]; rfl, HB.out.trans (HB2.out.mono HB.out.size)⟩
          · rw [hn] at hcol
            clear hn
            by_cases h5 : x.f1 < 1
            · clear hcol
              go_wp2
              go_ret
              exact ⟨by rw [HF.out]; rfl, HB.out.trans (HB2.out.mono HB.out.size)⟩
            · have h6 : 3 < x.f1 := by
                simp at hcol
                omega
              clear hcol
              go_wp2
              go_ret
              exact ⟨by rw [HF.out]; rfl, HB.out.trans (HB2.out.mono HB.out.size)⟩
      · obtain rfl : k = cs.length := by omega
        have HF := Lib.hid (tabErr_yes (tabOk_yes HN.out h2 h3 HI.out))
        go_wp2
        go_ret
        exact ⟨by rw [HF.out]; rfl, HB.out.trans (HW.out.mono HB.out.size)⟩
  · have HF := Lib.hid (tabErr_no (tabOk_no1 (Bool.eq_false_iff.2 h0)))
    cases hn : namedB nm
    · go_wp2
      go_ret
      exact ⟨by rw [HF.out]; rfl, HB.out⟩
    · rw [hn] at h0
      clear hn
      by_cases h5 : cs.length < 1
      · clear h0
        have d1 : decide ((cs.length : Int) < 1) = true := decide_eq_true (by omega)
        go_wp2
        go_ret
        exact ⟨by rw [HF.out]; rfl, HB.out⟩
      · have h6 : 8 < cs.length := by
          simp at h0
          omega
        clear h0
        have d2 : decide ((8 : Int) < (cs.length : Int)) = true := decide_eq_true (by omega)
        go_wp2
        go_ret
        exact ⟨by rw [HF.out]; rfl, HB.out⟩
end Go.Proofs.Ytnaaaldeadjohaa.Cat

set_option linter.unusedVariables false
set_option linter.unusedSimpArgs false
namespace Go.Proofs.Ytnaaaldeadjohaa.Cat
open Go.RowKit Go.Proofs.YtnaaaldeadjohaaW.PrintWords Go.Proofs.Ytnaaaldeadjohaa.PCatalogLies
theorem named2_calls (s : ByteArray) (w : World) : Calls Try.prog 59 #[.string s] w fun e w' => e = .returned (.bool (namedB s)) ∧ Drawn0 w w' := hayloftref02_named.calls s _ w (named2_f s)
set_option maxHeartbeats 4000000 in
set_option maxRecDepth 100000 in
theorem Table2_calls (nm : ByteArray) (A : Option Addr) (cs : List S76) (c : Nat) (w : World) (hr : Kd.C k76 w A cs.length cs) (hc : cs.length ≤ c) :
    Calls Try.prog 34 #[.agg #[.string nm, .slice A cs.length c]] w fun e w' => e = .returned (.int .i64 (tabErr nm cs)) ∧ Below w.heap.size w w' := by
  have HR := Lib.hid hr
  have hm : cs.length ≤ 9223372036854775807 := hr.2.1
  clear hr
  go_enter Try.func34, Try.ntmps34
  go_wp2_with (fail)
  refine (named2_calls nm _).mono ?_
  rintro e w1 ⟨rfl, hd⟩
  have HB := Lib.hid (((Below.refl w.heap.size w).alloc (Nat.le_refl _) (.cells #[.string nm, .slice A cs.length c] 79)).trans ((Drawn0.below hd).mono (by simp)))
  have hb0 := box_cell (Drawn0.below hd) 1
  simp at hb0
  clear hd
  by_cases h0 : (namedB nm && decide (1 ≤ cs.length) && decide (cs.length ≤ 8)) = true
  · simp only [Bool.and_eq_true, decide_eq_true_eq] at h0
    obtain ⟨⟨h1, h2⟩, h3⟩ := h0
    have HN := Lib.hid h1
    rw [h1]
    clear h1
    have d1 : ((cs.length : Int) == 0) = false := beq_eq_false_iff_ne.2 (by omega)
    have d2 : decide ((8 : Int) < (cs.length : Int)) = false := decide_eq_false (by omega)
    go_wp2
    go_loopw [4] (fun i wr => ∃ k : Nat, i = .int .i64 k ∧ k ≤ cs.length ∧ Hid (∀ j, j < k → colOk cs j = true) ∧ Drawn0 w1 wr) (fun i _ => cs.length - (intOf i).toNat)
    case atStart => exact ⟨0, rfl, Nat.zero_le _, Lib.hid (fun j hj => by omega), Drawn0.refl _⟩
    case round =>
      obtain ⟨k, rfl, hk, HI, HW⟩ := hrel
      obtain ⟨wo, rfl⟩ : ∃ wo : World, wo = wr := ⟨_, rfl⟩
      have hbx := pw_cell_below (Drawn0.below HW) hb0
      by_cases hlt : k < cs.length
      · have hbw : Below w.heap.size w wo := HB.out.trans ((Drawn0.below HW).mono HB.out.size)
        obtain ⟨ad, e1, hc0, hc1, hc2⟩ := col_at (Kd.C_below HR.out hbw) k hlt
        cases e1
        generalize hx : rd_T76 cs k = x at *
        have HX := Lib.hid hx
        clear hx hbw
        go_wp2_with (fail)
        refine (named2_calls x.f0 _).mono ?_
        rintro e w2 ⟨rfl, hd⟩
        have hb2 := pw_cell_below (Drawn0.below hd) hbx
        have hx0 := pw_cell_below (Drawn0.below hd) hc0
        have hx1 := pw_cell_below (Drawn0.below hd) hc1
        have HW2 := drawn_trans HW hd
        have HBV := Lib.hid (HB.out.trans ((Drawn0.below HW2).mono HB.out.size))
        clear hd hc0 hc1 hc2 hbx HW
        by_cases hcol : (namedB x.f0 && decide (1 ≤ x.f1) && decide (x.f1 ≤ 3)) = true
        · simp only [Bool.and_eq_true, decide_eq_true_eq] at hcol
          obtain ⟨⟨h4, h5⟩, h6⟩ := hcol
          have H4 := Lib.hid h4
          rw [h4]
          clear h4
          have d3 : decide (x.f1 < 1) = false := decide_eq_false (by omega)
          have d4 : decide (3 < x.f1) = false := decide_eq_false (by omega)
          go_wp2
          go_loopw [5] (fun i wr' => ∃ j : Nat, i = .int .i64 j ∧ j ≤ k ∧ Hid (∀ i, i < j → (!((rd_T76 cs i).f0.toList == (rd_T76 cs k).f0.toList)) = true) ∧ Drawn0 w2 wr') (fun i _ => k - (intOf i).toNat)
          case atStart => exact ⟨0, rfl, Nat.zero_le _, Lib.hid (fun j hj => by omega), Drawn0.refl _⟩
          case round =>
            obtain ⟨j, rfl, hj, HJ, HV⟩ := hrel
            have hb3 := pw_cell_below (Drawn0.below HV) hb2
            by_cases hjk : j < k
            · obtain ⟨ad', e1, hc0, hc1, hc2⟩ := col_at (Kd.C_below (Kd.C_below HR.out HBV.out) (Drawn0.below HV)) j (by omega)
              cases e1
              have hx0' := pw_cell_below (Drawn0.below HV) hx0
              have HY := Lib.hid (fun h => colOk_names (cs := cs) hjk h)
              have HZ := Lib.hid (fun h => all_succ (p := fun i => (!((rd_T76 cs i).f0.toList == (rd_T76 cs k).f0.toList))) HJ.out (k := j) h)
              generalize hy : rd_T76 cs j = y at *
              clear hy
              have hj0 : (0 : Int) ≤ (j : Int) := by omega
              have hk0 : (0 : Int) ≤ (k : Int) := by omega
              have hj1 : (j : Int) < (cs.length : Int) := by omega
              have hk1 : (k : Int) < (cs.length : Int) := by omega
              go_wp2_with (fail)
              go_quiet (fail)
              have HV1 := HV.step nq
              clear HV
              cases hne : (y.f0.toList == x.f0.toList)
              · have HN1 := Lib.hid (HZ.out (by rw [HX.out, hne]; rfl))
                go_wp2
                go_roundw
                case rel => exact ⟨j + 1, by go_num, hjk, HN1, HV1⟩
                case measure => simp [intOf]; omega
              · have HF := Lib.hid (tabErr_no (tabOk_no2 (nm := nm) hlt (HY.out (by rw [HX.out, hne]))))
                go_wp2
                go_ret
                exact ⟨by rw [HF.out]; rfl, HBV.out.trans ((Drawn0.below HV1).mono HBV.out.size)⟩
            · obtain rfl : j = k := by omega
              have HF := Lib.hid (all_succ HI.out (colOk_yes (cs := cs) (by rw [HX.out]; exact H4.out) (by rw [HX.out]; exact h5) (by rw [HX.out]; exact h6) HJ.out))
              go_wp2
              go_roundw
              case rel => exact ⟨j + 1, by go_num, hlt, HF, drawn_trans HW2 HV⟩
              case measure => simp [intOf]; omega
        · have hcol' : colOk cs k = false := by unfold colOk; rw [HX.out, Bool.eq_false_iff.2 hcol]; rfl
          have HF := Lib.hid (tabErr_no (tabOk_no2 (nm := nm) hlt hcol'))
          clear hcol'
          cases hn : namedB x.f0
          · go_wp2
            go_ret
            exact ⟨by rw [HF.out]; rfl, HBV.out⟩
          · rw [hn] at hcol
            clear hn
            by_cases h5 : x.f1 < 1
            · clear hcol
              go_wp2
              go_ret
              exact ⟨by rw [HF.out]; rfl, HBV.out⟩
            · have h6 : 3 < x.f1 := by
                simp at hcol
                omega
              clear hcol
              go_wp2
              go_ret
              exact ⟨by rw [HF.out]; rfl, HBV.out⟩
      · obtain rfl : k = cs.length := by omega
        have HF := Lib.hid (tabErr_yes (tabOk_yes HN.out h2 h3 HI.out))
        go_wp2
        go_ret
        exact ⟨by rw [HF.out]; rfl, HB.out.trans ((Drawn0.below HW).mono HB.out.size)⟩
  · have HF := Lib.hid (tabErr_no (tabOk_no1 (Bool.eq_false_iff.2 h0)))
    cases hn : namedB nm
    · go_wp2
      go_ret
      exact ⟨by rw [HF.out]; rfl, HB.out⟩
    · rw [hn] at h0
      clear hn
      by_cases h5 : cs.length < 1
      · clear h0
        have d1 : ((cs.length : Int) == 0) = true := beq_iff_eq.2 (by omega)
        go_wp2
        go_ret
        exact ⟨by rw [HF.out]; rfl, HB.out⟩
      · have h6 : 8 < cs.length := by
          simp at h0
          omega
        clear h0
        have d1 : ((cs.length : Int) == 0) = false := beq_eq_false_iff_ne.2 (by omega)
        have d2 : decide ((8 : Int) < (cs.length : Int)) = true := decide_eq_true (by omega)
        go_wp2
        go_ret
        exact ⟨by rw [HF.out]; rfl, HB.out⟩
end Go.Proofs.Ytnaaaldeadjohaa.Cat
