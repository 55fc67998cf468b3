import Derived.Test.YtnaaaldeadjohaaTs
import Derived.WalkKit
import Derived.ProofKit
import Derived.OpenShut
import Derived.ShutString
import Derived.ChangeOld
import Derived.Below
import Derived.SizedLaws
import Derived.Deep.Slices
set_option linter.unusedVariables false
set_option linter.unusedSimpArgs false
namespace Go.Proofs.Ytnaaaldeadjohaa.Cat
open Go.RowKit Go.Shelf Go.Proofs Go.Proofs.YtnaaaldeadjohaaW.PrintWords Go.Proofs.Ytnaaaldeadjohaa.PCatalogLies Go.Deep Go.WideShapes Go.ChangeShapes
/-! ### Down: what an argument that reads is made of -/
instance i76 : Inhabited S76 := ⟨⟨ByteArray.empty, 0, false⟩⟩
instance i79 : Inhabited S79 := ⟨⟨ByteArray.empty, []⟩⟩
instance i66 : Inhabited S66 := ⟨⟨ByteArray.empty, 0, [], [], 0, 0⟩⟩
section
variable {H : Type} {enc : TypeId × Value → H} {w : World} {base : Nat} {sp : Nat → Bool} {held : Bool}
theorem opens_slice {α : Type} [Inhabited α] {d : Kd α} {t e : TypeId} (ht : Try.prog.underlying t = some (.slice e)) (hc : Try.prog.cellsOf e = d.sz)
    (he : ∀ fuel cs x, DataW.trod enc Try.prog w base sp held fuel e cs = some x → ∃ a, d.K w a cs) {fuel : Nat} {cs : List Value} {x : DataW H × List MemPlace}
    (h : DataW.trod enc Try.prog w base sp held fuel t cs = some x) : ∃ A c xs, cs = [.slice A (xs : List α).length c] ∧ xs.length ≤ c ∧ d.C w A xs.length xs := by
  rcases open_slice ht h with ⟨rfl, _⟩ | ⟨a, len, cap, m, n, D, Pl, rfl, _, hl, hm, hmm, _, hx⟩
  · exact ⟨none, 0, [], rfl, Nat.le_refl _, rfl, by simp, fun h => absurd h (by simp)⟩
  have hlm : len ≤ m := by rw [hmm]; split <;> omega
  obtain ⟨f, hf⟩ := choose_lt (α := α) (n := len) (p := fun i v => ∃ c, c.length = d.sz ∧ d.K w v c ∧ ∀ j u, c[j]? = some u → w.cell? (a.add (i * d.sz + j)) = some u) (fun i hi => by
    obtain ⟨cs', h1, h2⟩ := hx i (by omega)
    rw [hc] at h1
    obtain ⟨_, hlen, hcell⟩ := World.cells?_some h1
    obtain ⟨v, hv⟩ := he _ _ _ h2
    refine ⟨v, cs', hlen, hv, fun j u hu => ?_⟩
    have hj : j < d.sz := by rw [← hlen]; exact (List.getElem?_eq_some_iff.1 hu).1
    have := hcell j hj
    rw [Go.Deep.add_add] at this
    rw [this, hu])
  have hN : maxLen ≤ 9223372036854775807 := by simp only [maxLen]; omega
  refine ⟨some a, cap, (List.range len).map f, by simp, by simpa using hl, ?_⟩
  refine ⟨rfl, by simp; omega, fun _ => ⟨a, rfl, fun j p hj => ?_⟩⟩
  have hjl : j < len := by simpa using (List.getElem?_eq_some_iff.1 hj).1
  have : f j = p := by
    rw [List.getElem?_map, List.getElem?_range hjl] at hj
    simpa using hj
  subst this
  exact hf j hjl
theorem opens_int {fuel : Nat} {cs : List Value} {x : DataW H × List MemPlace} (h : DataW.trod enc Try.prog w base sp held fuel 3 cs = some x) : ∃ a : Int, (Kd.int .i64).K w a cs := by
  obtain ⟨n, rfl, _⟩ := DataW.trod_int Try.underlying3 h
  exact ⟨n, rfl⟩
theorem opens_bool {fuel : Nat} {cs : List Value} {x : DataW H × List MemPlace} (h : DataW.trod enc Try.prog w base sp held fuel 4 cs = some x) : ∃ a : Bool, Kd.bool.K w a cs := by
  obtain ⟨n, rfl, _⟩ := DataW.trod_bool Try.underlying4 h
  exact ⟨n, rfl⟩
set_option maxRecDepth 100000 in
theorem opens76 {fuel : Nat} {cs : List Value} {x : DataW H × List MemPlace} (h : DataW.trod enc Try.prog w base sp held fuel 76 cs = some x) : ∃ a, k76.K w a cs := by
  obtain ⟨xs, n, _, _, hl, hxl, hf⟩ := DataW.trod_struct Try.underlying76 h
  have hl' : cs.length = 3 := hl.trans (by kernel_rfl)
  match xs, hxl, cs, hl' with
  | [y0, y1, y2], _, [v0, v1, v2], _ =>
    have g0 := hf 0 _ rfl
    have g1 := hf 1 _ rfl
    have g2 := hf 2 _ rfl
    simp [show Try.prog.cellsOf 3 = 1 by kernel_rfl, show Try.prog.cellsOf 9 = 1 by kernel_rfl, show Try.prog.cellsOf 4 = 1 by kernel_rfl] at g0 g1 g2
    obtain ⟨s, e0, _⟩ := DataW.trod_string Try.underlying9 g0
    obtain ⟨m, e1, _⟩ := DataW.trod_int Try.underlying3 g1
    obtain ⟨b, e2, _⟩ := DataW.trod_bool Try.underlying4 g2
    cases e0; cases e1; cases e2
    exact ⟨⟨s, m, b⟩, k76_mk w _⟩
set_option maxRecDepth 100000 in
theorem opens79 {fuel : Nat} {cs : List Value} {x : DataW H × List MemPlace} (h : DataW.trod enc Try.prog w base sp held fuel 79 cs = some x) : ∃ a, k79.K w a cs := by
  obtain ⟨xs, n, _, _, hl, hxl, hf⟩ := DataW.trod_struct Try.underlying79 h
  have hl' : cs.length = 2 := hl.trans (by kernel_rfl)
  match xs, hxl, cs, hl' with
  | [y0, y1], _, [v0, v1], _ =>
    have g0 := hf 0 _ rfl
    have g1 := hf 1 _ rfl
    simp [show Try.prog.cellsOf 77 = 1 by kernel_rfl, show Try.prog.cellsOf 9 = 1 by kernel_rfl] at g0 g1
    obtain ⟨s, e0, _⟩ := DataW.trod_string Try.underlying9 g0
    obtain ⟨A, c, l, e1, hle, hC⟩ := opens_slice (d := k76) Try.underlying77 (by kernel_rfl) (fun _ _ _ h => opens76 h) g1
    cases e0; cases e1
    exact ⟨⟨s, l⟩, k79_mk w _ hle hC⟩
set_option maxRecDepth 100000 in
theorem opens66 {fuel : Nat} {cs : List Value} {x : DataW H × List MemPlace} (h : DataW.trod enc Try.prog w base sp held fuel 66 cs = some x) : ∃ a, k66.K w a cs := by
  obtain ⟨xs, n, _, _, hl, hxl, hf⟩ := DataW.trod_struct Try.underlying66 h
  have hl' : cs.length = 6 := hl.trans (by kernel_rfl)
  match xs, hxl, cs, hl' with
  | [y0, y1, y2, y3, y4, y5], _, [v0, v1, v2, v3, v4, v5], _ =>
    have g0 := hf 0 _ rfl
    have g1 := hf 1 _ rfl
    have g2 := hf 2 _ rfl
    have g3 := hf 3 _ rfl
    have g4 := hf 4 _ rfl
    have g5 := hf 5 _ rfl
    simp [show Try.prog.cellsOf 3 = 1 by kernel_rfl, show Try.prog.cellsOf 9 = 1 by kernel_rfl, show Try.prog.cellsOf 40 = 1 by kernel_rfl] at g0 g1 g2 g3 g4 g5
    obtain ⟨s, e0, _⟩ := DataW.trod_string Try.underlying9 g0
    obtain ⟨m1, e1, _⟩ := DataW.trod_int Try.underlying3 g1
    obtain ⟨A2, c2, l2, e2, hle2, hC2⟩ := opens_slice (d := Kd.int .i64) Try.underlying40 (by kernel_rfl) (fun _ _ _ h => opens_int h) g2
    obtain ⟨A3, c3, l3, e3, hle3, hC3⟩ := opens_slice (d := Kd.int .i64) Try.underlying40 (by kernel_rfl) (fun _ _ _ h => opens_int h) g3
    obtain ⟨m4, e4, _⟩ := DataW.trod_int Try.underlying3 g4
    obtain ⟨m5, e5, _⟩ := DataW.trod_int Try.underlying3 g5
    cases e0; cases e1; cases e2; cases e3; cases e4; cases e5
    exact ⟨⟨s, m1, l2, l3, m4, m5⟩, k66_mk w _ hle2 hC2 hle3 hC3⟩
set_option maxRecDepth 100000 in
/-- A catalog that came in. -/
theorem opens25 {r : Reach} {b0 : Nat} {v : Value} {dd : DataW H} {p : List MemPlace} (hv : Value.okWide Try.prog w r b0 25 v) (h : DataW.Trod enc Try.prog w base sp held 25 v dd p) :
    ∃ n s k T P A3 c3 A4 c4, v = catV n s k T P A3 c3 A4 c4 ∧ CatR w T P A3 c3 A4 c4 := by
  obtain ⟨cs, rfl, hsz⟩ := okWide_struct Try.underlying25 hv
  obtain ⟨fuel, hf0⟩ := h
  obtain ⟨xs, n, _, _, hl, hxl, hf⟩ := DataW.trod_struct Try.underlying25 hf0
  have hsz' : cs.size = 5 := hsz.trans (by kernel_rfl)
  obtain ⟨cl⟩ := cs
  match xs, hxl, cl, hsz' with
  | [y0, y1, y2, y3, y4], _, [v0, v1, v2, v3, v4], _ =>
    have g0 := hf 0 _ rfl
    have g1 := hf 1 _ rfl
    have g2 := hf 2 _ rfl
    have g3 := hf 3 _ rfl
    have g4 := hf 4 _ rfl
    simp [Value.cells, show Try.prog.cellsOf 3 = 1 by kernel_rfl, show Try.prog.cellsOf 22 = 1 by kernel_rfl, show Try.prog.cellsOf 23 = 1 by kernel_rfl] at g0 g1 g2 g3 g4
    obtain ⟨m0, e0, _⟩ := DataW.trod_int Try.underlying3 g0
    obtain ⟨m1, e1, _⟩ := DataW.trod_int Try.underlying3 g1
    obtain ⟨m2, e2, _⟩ := DataW.trod_int Try.underlying3 g2
    obtain ⟨A3, c3, l3, e3, hle3, hC3⟩ := opens_slice (d := k79) Try.underlying22 (by kernel_rfl) (fun _ _ _ h => opens79 h) g3
    obtain ⟨A4, c4, l4, e4, hle4, hC4⟩ := opens_slice (d := k66) Try.underlying23 (by kernel_rfl) (fun _ _ _ h => opens66 h) g4
    cases e0; cases e1; cases e2; cases e3; cases e4
    exact ⟨m0, m1, m2, l3, l4, A3, c3, A4, c4, rfl, hC3, hle3, hC4, hle4⟩
set_option maxRecDepth 100000 in
/-- A segment that came in. -/
theorem opens31 {r : Reach} {b0 : Nat} {v : Value} {dd : DataW H} {p : List MemPlace} (hv : Value.okWide Try.prog w r b0 31 v) (h : DataW.Trod enc Try.prog w base sp held 31 v dd p) :
    ∃ a b, v = .agg #[.int .i64 a, .int .i64 b] := by
  obtain ⟨cs, rfl, hsz⟩ := okWide_struct Try.underlying31 hv
  obtain ⟨fuel, hf0⟩ := h
  obtain ⟨xs, n, _, _, hl, hxl, hf⟩ := DataW.trod_struct Try.underlying31 hf0
  have hsz' : cs.size = 2 := hsz.trans (by kernel_rfl)
  obtain ⟨cl⟩ := cs
  match xs, hxl, cl, hsz' with
  | [y0, y1], _, [v0, v1], _ =>
    have g0 := hf 0 _ rfl
    have g1 := hf 1 _ rfl
    simp [Value.cells, show Try.prog.cellsOf 3 = 1 by kernel_rfl] at g0 g1
    obtain ⟨m0, e0, _⟩ := DataW.trod_int Try.underlying3 g0
    obtain ⟨m1, e1, _⟩ := DataW.trod_int Try.underlying3 g1
    cases e0; cases e1
    exact ⟨m0, m1, rfl⟩
set_option maxRecDepth 100000 in
/-- Some bools that came in. -/
theorem opens32 {r : Reach} {b0 : Nat} {v : Value} {dd : DataW H} {p : List MemPlace} (hv : Value.okWide Try.prog w r b0 32 v) (h : DataW.Trod enc Try.prog w base sp held 32 v dd p) :
    ∃ A c l, v = .slice A (l : List Bool).length c ∧ l.length ≤ c ∧ Kd.bool.C w A l.length l := by
  obtain ⟨a, len, cap, rfl⟩ := okWide_slice Try.underlying32 hv
  obtain ⟨fuel, hf0⟩ := h
  obtain ⟨A, c, l, e, hle, hC⟩ := opens_slice (d := Kd.bool) Try.underlying32 (by kernel_rfl) (fun _ _ _ h => opens_bool h) hf0
  simp [Value.cells] at e
  obtain ⟨rfl, rfl, rfl⟩ := e
  exact ⟨_, _, l, rfl, hle, hC⟩
end
end Go.Proofs.Ytnaaaldeadjohaa.Cat
