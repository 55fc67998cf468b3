import Derived.Test.YtnaaaldeadjohaaMg
import Derived.Test.YtnaaaldeadjohaaMd
set_option linter.unusedVariables false
set_option linter.unusedSimpArgs false
namespace Go.Proofs.Ytnaaaldeadjohaa.Cat
open Go.RowKit Go.Shelf Go.Proofs Go.Proofs.YtnaaaldeadjohaaW.PrintWords Go.Proofs.Ytnaaaldeadjohaa.PCatalogLies
/-! ### CatalogCounts: the plain law -/
/-- How many nodes a row of table t goes to, by the first i projections. -/
def wantN (kk : Nat) (P : List S66) (t : Int) : Nat → Nat
  | 0 => 0
  | i + 1 => wantN kk P t i + (if (rd_T66 P i).f1 = t then kk + 1 else 0)
theorem wantN_yes {kk : Nat} {P : List S66} {t : Int} {i : Nat} (h : (rd_T66 P i).f1 = t) : wantN kk P t (i + 1) = wantN kk P t i + (kk + 1) := by rw [wantN, if_pos h]
theorem wantN_no {kk : Nat} {P : List S66} {t : Int} {i : Nat} (h : ¬ (rd_T66 P i).f1 = t) : wantN kk P t (i + 1) = wantN kk P t i := by rw [wantN, if_neg h]; rfl
theorem wantN_le {kk : Nat} (hk : kk + 1 ≤ 8) (P : List S66) (t : Int) : ∀ i, wantN kk P t i ≤ 8 * i
  | 0 => Nat.le_refl _
  | i + 1 => by have := wantN_le hk P t i; rw [wantN]; split <;> omega
theorem segN_range (v : S97) {s : Int} (h1 : 1 ≤ s) : 0 ≤ segN v s ∧ segN v s < s := ⟨Int.emod_nonneg _ (by omega), Int.emod_lt_of_pos _ (by omega)⟩
theorem eachX_want {nn : Int} {s : Int} {kk : Nat} {P : List S66} (g : Good nn s kk P) (x : S57) : ∀ i, i ≤ P.length → (eachX nn s kk P x i).length = wantN kk P x.f0 i
  | 0, _ => by simp [eachX, wantN]
  | i + 1, h => by
    rw [eachX_succ, List.length_append, eachX_want g x i (by omega), wantN]
    congr 1
    unfold eachOne
    split
    · rw [List.length_map]
      unfold nodesAt
      have hs := segN_range (valAt x.f2 (rd_T66 P i).f4) g.hs.1
      have hl := nodes_len (n := nn) (k := (kk : Int)) (inRange_iff (s := s) (P := P) (a := (whereS s P x.f2 i).f0) (b := (whereS s P x.f2 i).f1) |>.2 ⟨by show (0 : Int) ≤ (i : Int); omega, by show (i : Int) < P.length; omega, hs.1, hs.2⟩)
      rw [hl]
      omega
    · rfl
def sumN (l : List Do) : Nat → Nat
  | 0 => 0
  | j + 1 => sumN l j + (atNode l j).length
theorem sumN_cons (l : List Do) (d : Do) : ∀ j, sumN (d :: l) j = sumN l j + (if d.node < j then 1 else 0)
  | 0 => by simp [sumN]
  | j + 1 => by
    rw [sumN, sumN, sumN_cons l d j]
    have : (atNode (d :: l) j).length = (atNode l j).length + (if d.node = j then 1 else 0) := by
      unfold atNode
      rw [List.filter_cons]
      by_cases e : d.node = j <;> simp [e]
    rw [this]
    by_cases e : d.node = j
    · rw [if_pos e, if_neg (show ¬ d.node < j by omega), if_pos (show d.node < j + 1 by omega)]; omega
    · rw [if_neg e]
      by_cases e2 : d.node < j
      · rw [if_pos e2, if_pos (by omega)]; omega
      · rw [if_neg e2, if_neg (by omega)]; omega
theorem sumN_nil : ∀ j, sumN [] j = 0
  | 0 => rfl
  | j + 1 => by rw [sumN, sumN_nil j]; rfl
theorem sumN_all (nn : Nat) : ∀ l : List Do, (∀ d ∈ l, d.node < nn) → sumN l nn = l.length
  | [], _ => sumN_nil nn
  | d :: l, h => by
    rw [sumN_cons, sumN_all nn l (fun d hd => h d (by simp [hd])), if_pos (h d (by simp))]
    simp
theorem sumN_mono (l : List Do) {i j : Nat} (h : i ≤ j) : sumN l i ≤ sumN l j := by
  induction j with
  | zero => have : i = 0 := by omega
            subst this; exact Nat.le_refl _
  | succ j ih =>
    by_cases e : i = j + 1
    · subst e; exact Nat.le_refl _
    · exact Nat.le_trans (ih (by omega)) (by rw [sumN]; omega)
theorem eachAll_one (nn s k : Int) (P : List S66) (x : S57) : eachAll nn s k P [x] = eachX nn s k P x P.length := by simp [eachAll]
theorem eachX_mem {nn s k : Int} {P : List S66} {x : S57} {d : Do} : ∀ {i : Nat}, d ∈ eachX nn s k P x i → ∃ p m, p < i ∧ m ∈ nodesAt nn s k P x p ∧ d = doAt s P x p m
  | 0, h => by simp [eachX] at h
  | i + 1, h => by
    rw [eachX_succ, List.mem_append] at h
    rcases h with h | h
    · obtain ⟨p, m, hp, hm, e⟩ := eachX_mem h
      exact ⟨p, m, by omega, hm, e⟩
    · unfold eachOne at h
      split at h
      · obtain ⟨m, hm, rfl⟩ := List.mem_map.1 h
        exact ⟨i, m, by omega, hm, rfl⟩
      · cases h
/-- What CatalogCounts asks of the parts of one row: together as many as wanted; each in its own segment. -/
theorem counts_sum {nn : Nat} {s : Int} {kk : Nat} {P : List S66} (g : Good nn s kk P) (x : S57) : sumN (eachAll nn s kk P [x]) nn = wantN kk P x.f0 P.length := by
  rw [sumN_all, eachAll_one, eachX_want g x _ (Nat.le_refl _)]
  intro d hd
  rw [eachAll_one] at hd
  obtain ⟨p, m, hp, hm, rfl⟩ := eachX_mem hd
  have := nodesL_nonneg nn s kk P g _ _ m hm
  show m.toNat < nn
  omega
theorem counts_at {nn s k : Int} {P : List S66} {x : S57} {d : Do} {j : Nat} (h : d ∈ atNode (eachAll nn s k P [x]) j) : 0 ≤ d.at_.f0 ∧ d.at_.f0 < P.length ∧ whereS s P x.f2 d.at_.f0 = d.at_ := by
  have hd := (List.mem_filter.1 h).1
  rw [eachAll_one] at hd
  obtain ⟨p, m, hp, hm, rfl⟩ := eachX_mem hd
  exact ⟨by show (0 : Int) ≤ (p : Int); omega, by show (p : Int) < P.length; omega, rfl⟩
theorem insL_at (P : List S66) (l : List Do) (j i : Nat) (h : i < (atNode l j).length) : (rd_T70 (insL P l j) i).f0 = (atNode l j)[i].at_ := by
  simp [rd_T70, insL, List.getD_eq_getElem?_getD, h, insOf]
theorem eraL_at (l : List Do) (j i : Nat) (h : i < (atNode l j).length) : (rd_T72 (eraL l j) i).f0 = (atNode l j)[i].at_ := by
  simp [rd_T72, eraL, List.getD_eq_getElem?_getD, h]
theorem insL_length (P : List S66) (l : List Do) (j : Nat) : (insL P l j).length = (atNode l j).length := by simp [insL]
theorem eraL_length (l : List Do) (j : Nat) : (eraL l j).length = (atNode l j).length := by simp [eraL]
/-! ### What lies in the parts, read -/
theorem reps_val (w : World) : ∀ l : List S97, Reps (k97.K w) 4 l (valCells l)
  | [] => Reps.none _ _
  | v :: l => Reps.c4 (k97_mk w v) (reps_val w l)
theorem reps_era (w : World) : ∀ l : List S72, Reps (k72.K w) 4 l (eraCells l)
  | [] => Reps.none _ _
  | v :: l => Reps.c4 (k72_mk w v) (reps_era w l)
theorem IsIns.K {w : World} {base : Nat} {x : S70} {cs : List Value} (h : IsIns w base x cs) : k70.K w x cs := by
  obtain ⟨v, rfl, ho⟩ := h
  obtain ⟨A, c, rfl, hl, hr⟩ := OwnRow.reads (show OwnRow (k97.K w) 97 4 w base v x.f1.f1 from ⟨_, ho, reps_val w _⟩)
  exact k70_mk w x hl hr
section
variable {w : World} {base G nn : Nat} {LI : Nat → List S70} {LE : Nat → List S72} {vI vE : Nat → Value} {xI : Nat → List Value}
theorem PM.readI (h : PM w base G nn LI LE vI vE xI) {j : Nat} (hj : j < nn) : ∃ A c, vI j = .slice A (LI j).length c ∧ (LI j).length ≤ c ∧ k70.C w A (LI j).length (LI j) := by
  obtain ⟨A, c, he, hl, hr⟩ := OwnRow.reads (show OwnRow (IsIns w base) 70 6 w base (vI j) (LI j) from ⟨_, h.fI.own j hj, h.rI j hj⟩)
  exact ⟨A, c, he, hl, hr.imp_ (Below.refl _ _) (fun _ _ hp => hp.K)⟩
theorem PM.readE (h : PM w base G nn LI LE vI vE xI) {j : Nat} (hj : j < nn) : ∃ A c, vE j = .slice A (LE j).length c ∧ (LE j).length ≤ c ∧ k72.C w A (LE j).length (LE j) :=
  OwnRow.reads (show OwnRow (k72.K w) 72 4 w base (vE j) (LE j) from ⟨_, h.fE.own j hj, reps_era w _⟩)
theorem PM.cellE (h : PM w base G nn LI LE vI vE xI) {j : Nat} (hj : j < nn) : w.cell? ⟨G, j * 2 + 1, none⟩ = some (vE j) := by
  rw [blk_cell h.blk, pc_cell, if_pos (by omega), if_neg (by omega), show (j * 2 + 1) / 2 = j by omega]
theorem PM.cellI (h : PM w base G nn LI LE vI vE xI) {j : Nat} (hj : j < nn) : w.cell? ⟨G, j * 2, none⟩ = some (vI j) := by
  rw [blk_cell h.blk, pc_cell, if_pos (by omega), if_pos (by omega), show j * 2 / 2 = j by omega]
end
end Go.Proofs.Ytnaaaldeadjohaa.Cat

set_option linter.unusedVariables false
set_option linter.unusedSimpArgs false
namespace Go.Proofs.Ytnaaaldeadjohaa.Cat
open Go.RowKit Go.Shelf Go.Proofs Go.Proofs.YtnaaaldeadjohaaW.PrintWords Go.Proofs.Ytnaaaldeadjohaa.PCatalogLies Go.Deep Go.WideShapes Go.ChangeShapes
/-! ### Down: rows that came in -/
instance i97 : Inhabited S97 := ⟨z97⟩
instance i57 : Inhabited S57 := ⟨z57⟩
section
variable {H : Type} {enc : TypeId × Value → H} {w : World} {base : Nat} {sp : Nat → Bool} {held : Bool}
set_option maxRecDepth 100000 in
theorem opens97 {fuel : Nat} {cs : List Value} {x : DataW H × List MemPlace} (h : DataW.trod enc Try.prog w base sp held fuel 97 cs = some x) : ∃ a, k97.K w a cs := by
  obtain ⟨xs, n, _, _, hl, hxl, hf⟩ := DataW.trod_struct Try.underlying97 h
  have hl' : cs.length = 4 := hl.trans (by kernel_rfl)
  match xs, hxl, cs, hl' with
  | [y0, y1, y2, y3], _, [v0, v1, v2, v3], _ =>
    have g0 := hf 0 _ rfl
    have g1 := hf 1 _ rfl
    have g2 := hf 2 _ rfl
    have g3 := hf 3 _ rfl
    simp [show Try.prog.cellsOf 3 = 1 by kernel_rfl, show Try.prog.cellsOf 9 = 1 by kernel_rfl, show Try.prog.cellsOf 4 = 1 by kernel_rfl, show Try.prog.cellsOf 2 = 1 by kernel_rfl] at g0 g1 g2 g3
    obtain ⟨m, e0, _⟩ := DataW.trod_int Try.underlying3 g0
    obtain ⟨b, e1, _⟩ := DataW.trod_bool Try.underlying4 g1
    obtain ⟨j, e2, _⟩ := DataW.trod_int Try.underlying2 g2
    obtain ⟨s, e3, _⟩ := DataW.trod_string Try.underlying9 g3
    cases e0; cases e1; cases e2; cases e3
    exact ⟨⟨m, b, j, s⟩, k97_mk w _⟩
set_option maxRecDepth 100000 in
theorem opens53 {fuel : Nat} {cs : List Value} {x : DataW H × List MemPlace} (h : DataW.trod enc Try.prog w base sp held fuel 53 cs = some x) : ∃ a, k53.K w a cs := by
  obtain ⟨xs, n, _, _, hl, hxl, hf⟩ := DataW.trod_struct Try.underlying53 h
  have hl' : cs.length = 2 := hl.trans (by kernel_rfl)
  match xs, hxl, cs, hl' with
  | [y0, y1], _, [v0, v1], _ =>
    have g0 := hf 0 _ rfl
    have g1 := hf 1 _ rfl
    simp [show Try.prog.cellsOf 50 = 1 by kernel_rfl, show Try.prog.cellsOf 51 = 1 by kernel_rfl] at g0 g1
    obtain ⟨m, e0, _⟩ := DataW.trod_int Try.underlying50 g0
    obtain ⟨j, e1, _⟩ := DataW.trod_int Try.underlying51 g1
    cases e0; cases e1
    exact ⟨⟨m, j⟩, k53_mk w _⟩
set_option maxRecDepth 100000 in
theorem openc56 {fuel : Nat} {cs : List Value} {x : DataW H × List MemPlace} (h : DataW.trod enc Try.prog w base sp held fuel 56 cs = some x) : ∃ a, k57.K w a cs := by
  obtain ⟨xs, n, _, _, hl, hxl, hf⟩ := DataW.trod_struct Try.underlying56 h
  have hl' : cs.length = 4 := hl.trans (by kernel_rfl)
  match xs, hxl, cs, hl' with
  | [y0, y1, y2], _, [v0, v1, v2, v3], _ =>
    have g0 := hf 0 _ rfl
    have g1 := hf 1 _ rfl
    have g2 := hf 2 _ rfl
    simp [show Try.prog.cellsOf 3 = 1 by kernel_rfl, show Try.prog.cellsOf 53 = 2 by kernel_rfl, show Try.prog.cellsOf 54 = 1 by kernel_rfl] at g0 g1 g2
    obtain ⟨m, e0, _⟩ := DataW.trod_int Try.underlying3 g0
    obtain ⟨⟨i0, i1⟩, hK⟩ := opens53 g1
    obtain ⟨A, c, l, e2, hle, hC⟩ := opens_slice (d := k97) Try.underlying54 (by kernel_rfl) (fun _ _ _ h => opens97 h) g2
    have e1 := k53_open hK
    cases e0; cases e1; cases e2
    exact ⟨⟨m, ⟨i0, i1⟩, l⟩, k57_mk w _ hle hC⟩
set_option maxRecDepth 100000 in
/-- A table's row that came in. -/
theorem opens56 {r : Reach} {b0 : Nat} {v : Value} {dd : DataW H} {p : List MemPlace} (hv : Value.okWide Try.prog w r b0 56 v) (h : DataW.Trod enc Try.prog w base sp held 56 v dd p) :
    ∃ (x : S57) (AR : Option Addr) (cr : Nat), v = .agg #[.int .i64 x.f0, .int .u64 x.f1.f0, .int .u32 x.f1.f1, .slice AR x.f2.length cr] ∧ x.f2.length ≤ cr ∧ k97.C w AR x.f2.length x.f2 := by
  obtain ⟨cs, rfl, hsz⟩ := okWide_struct Try.underlying56 hv
  obtain ⟨fuel, hf0⟩ := h
  obtain ⟨x, hx⟩ := openc56 hf0
  obtain ⟨A, c, e, hle, hC⟩ := k57_open hx
  refine ⟨x, A, c, ?_, hle, hC⟩
  obtain ⟨cl⟩ := cs
  simp [Value.cells] at e
  rw [e]
set_option maxRecDepth 100000 in
/-- Tables' rows that came in. -/
theorem opens46 {r : Reach} {b0 : Nat} {v : Value} {dd : DataW H} {p : List MemPlace} (hv : Value.okWide Try.prog w r b0 46 v) (h : DataW.Trod enc Try.prog w base sp held 46 v dd p) :
    ∃ A c l, v = .slice A (l : List S57).length c ∧ l.length ≤ c ∧ k57.C w A l.length l := by
  obtain ⟨a, len, cap, rfl⟩ := okWide_slice Try.underlying46 hv
  obtain ⟨fuel, hf0⟩ := h
  obtain ⟨A, c, l, e, hle, hC⟩ := opens_slice (d := k57) Try.underlying46 (by kernel_rfl) (fun _ _ _ h => openc56 h) hf0
  simp [Value.cells] at e
  obtain ⟨rfl, rfl, rfl⟩ := e
  exact ⟨_, _, l, rfl, hle, hC⟩
end
end Go.Proofs.Ytnaaaldeadjohaa.Cat
