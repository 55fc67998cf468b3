import Derived.Test.YtnaaaldeadjohaaMg
import Derived.Test.YtnaaaldeadjohaaMd
set_option linter.unusedVariables false
set_option linter.unusedSimpArgs false
namespace Go.Proofs.Ytnaaaldeadjohaa.Cat
open Go.RowKit Go.Shelf Go.Proofs Go.Proofs.YtnaaaldeadjohaaW.PrintWords Go.Proofs.Ytnaaaldeadjohaa.PCatalogLies
/-! ### CatalogCounts: the plain law -/
/-- How many nodes a row of table t goes to, by the first i projections. -/
def wantN (kk : Nat) (P : List S66) (t : Int) : Nat → Nat
  | 0 => 0
  | i + 1 => wantN kk P t i + (if (rd_T66 P i).f1 = t then kk + 1 else 0)
theorem wantN_yes {kk : Nat} {P : List S66} {t : Int} {i : Nat} (h : (rd_T66 P i).f1 = t) : wantN kk P t (i + 1) = wantN kk P t i + (kk + 1) := by rw [wantN, if_pos h]
theorem wantN_no {kk : Nat} {P : List S66} {t : Int} {i : Nat} (h : ¬ (rd_T66 P i).f1 = t) : wantN kk P t (i + 1) = wantN kk P t i := by rw [wantN, if_neg h]; rfl
theorem wantN_le {kk : Nat} (hk : kk + 1 ≤ 8) (P : List S66) (t : Int) : ∀ i, wantN kk P t i ≤ 8 * i
  | 0 => Nat.le_refl _
  | i + 1 => by have := wantN_le hk P t i; rw [wantN]; split <;> omega
theorem segN_range (v : S97) {s : Int} (h1 : 1 ≤ s) : 0 ≤ segN v s ∧ segN v s < s := ⟨Int.emod_nonneg _ (by omega), Int.emod_lt_of_pos _ (by omega)⟩
theorem eachX_want {nn : Int} {s : Int} {kk : Nat} {P : List S66} (g : Good nn s kk P) (x : S57) : ∀ i, i ≤ P.length → (eachX nn s kk P x i).length = wantN kk P x.f0 i
  | 0, _ => by simp [eachX, wantN]
  | i + 1, h => by
    rw [eachX_succ, List.length_append, eachX_want g x i (by omega), wantN]
    congr 1
    unfold eachOne
    split
    · rw [List.length_map]
      unfold nodesAt
      have hs := segN_range (valAt x.f2 (rd_T66 P i).f4) g.hs.1
      have hl := nodes_len (n := nn) (k := (kk : Int)) (inRange_iff (s := s) (P := P) (a := (whereS s P x.f2 i).f0) (b := (whereS s P x.f2 i).f1) |>.2 ⟨by show (0 : Int) ≤ (i : Int); omega, by show (i : Int) < P.length; omega, hs.1, hs.2⟩)
      rw [hl]
      omega
    · rfl
def sumN (l : List Do) : Nat → Nat
  | 0 => 0
  | j + 1 => sumN l j + (atNode l j).length
theorem sumN_cons (l : List Do) (d : Do) : ∀ j, sumN (d :: l) j = sumN l j + (if d.node < j then 1 else 0)
  | 0 => by simp [sumN]
  | j + 1 => by
    rw [sumN, sumN, sumN_cons l d j]
    have : (atNode (d :: l) j).length = (atNode l j).length + (if d.node = j then 1 else 0) := by
      unfold atNode
      rw [List.filter_cons]
      by_cases e : d.node = j <;> simp [e]
    rw [this]
    by_cases e : d.node = j
    · rw [if_pos e, if_neg (show ¬ d.node < j by omega), if_pos (show d.node < j + 1 by omega)]; omega
    · rw [if_neg e]
      by_cases e2 : d.node < j
      · rw [if_pos e2, if_pos (by omega)]; omega
      · rw [if_neg e2, if_neg (by omega)]; omega
theorem sumN_nil : ∀ j, sumN [] j = 0
  | 0 => rfl
  | j + 1 => by rw [sumN, sumN_nil j]; rfl
theorem sumN_all (nn : Nat) : ∀ l : List Do, (∀ d ∈ l, d.node < nn) → sumN l nn = l.length
  | [], _ => sumN_nil nn
  | d :: l, h => by
    rw [sumN_cons, sumN_all nn l (fun d hd => h d (by simp [hd])), if_pos (h d (by simp))]
    simp
theorem sumN_mono (l : List Do) {i j : Nat} (h : i ≤ j) : sumN l i ≤ sumN l j := by
  induction j with
  | zero => have : i = 0 := by omega
            subst this; exact Nat.le_refl _
  | succ j ih =>
    by_cases e : i = j + 1
    · subst e; exact Nat.le_refl _
    · exact Nat.le_trans (ih (by omega)) (by rw [sumN]; omega)
theorem eachAll_one (nn s k : Int) (P : List S66) (x : S57) : eachAll nn s k P [x] = eachX nn s k P x P.length := by simp [eachAll]
theorem eachX_mem {nn s k : Int} {P : List S66} {x : S57} {d : Do} : ∀ {i : Nat}, d ∈ eachX nn s k P x i → ∃ p m, p < i ∧ m ∈ nodesAt nn s k P x p ∧ d = doAt s P x p m
  | 0, h => by simp [eachX] at h
  | i + 1, h => by
    rw [eachX_succ, List.mem_append] at h
    rcases h with h | h
    · obtain ⟨p, m, hp, hm, e⟩ := eachX_mem h
      exact ⟨p, m, by omega, hm, e⟩
    · unfold eachOne at h
      split at h
      · obtain ⟨m, hm, rfl⟩ := List.mem_map.1 h
        exact ⟨i, m, by omega, hm, rfl⟩
      · cases h
/-- What CatalogCounts asks of the parts of one row: together as many as wanted; each in its own segment. -/
theorem counts_sum {nn : Nat} {s : Int} {kk : Nat} {P : List S66} (g : Good nn s kk P) (x : S57) : sumN (eachAll nn s kk P [x]) nn = wantN kk P x.f0 P.length := by
  rw [sumN_all, eachAll_one, eachX_want g x _ (Nat.le_refl _)]
  intro d hd
  rw [eachAll_one] at hd
  obtain ⟨p, m, hp, hm, rfl⟩ := eachX_mem hd
  have := nodesL_nonneg nn s kk P g _ _ m hm
  show m.toNat < nn
  omega
theorem counts_at {nn s k : Int} {P : List S66} {x : S57} {d : Do} {j : Nat} (h : d ∈ atNode (eachAll nn s k P [x]) j) : 0 ≤ d.at_.f0 ∧ d.at_.f0 < P.length ∧ whereS s P x.f2 d.at_.f0 = d.at_ := by
  have hd := (List.mem_filter.1 h).1
  rw [eachAll_one] at hd
  obtain ⟨p, m, hp, hm, rfl⟩ := eachX_mem hd
  exact ⟨by show (0 : Int) ≤ (p : Int); omega, by show (p : Int) < P.length; omega, rfl⟩
theorem insL_at (P : List S66) (l : List Do) (j i : Nat) (h : i < (atNode l j).length) : (rd_T70 (insL P l j) i).f0 = (atNode l j)[i].at_ := by
  simp [rd_T70, insL, List.getD_eq_getElem?_getD, h, insOf]
theorem eraL_at (l : List Do) (j i : Nat) (h : i < (atNode l j).length) : (rd_T72 (eraL l j) i).f0 = (atNode l j)[i].at_ := by
  simp [rd_T72, eraL, List.getD_eq_getElem?_getD, h]
theorem insL_length (P : List S66) (l : List Do) (j : Nat) : (insL P l j).length = (atNode l j).length := by simp [insL]
theorem eraL_length (l : List Do) (j : Nat) : (eraL l j).length = (atNode l j).length := by simp [eraL]
/-! ### What lies in the parts, read -/
theorem reps_val (w : World) : ∀ l : List S97, Reps (k97.K w) 4 l (valCells l)
  | [] => Reps.none _ _
  | v :: l => Reps.c4 (k97_mk w v) (reps_val w l)
theorem reps_era (w : World) : ∀ l : List S72, Reps (k72.K w) 4 l (eraCells l)
  | [] => Reps.none _ _
  | v :: l => Reps.c4 (k72_mk w v) (reps_era w l)
theorem IsIns.K {w : World} {base : Nat} {x : S70} {cs : List Value} (h : IsIns w base x cs) : k70.K w x cs := by
  obtain ⟨v, rfl, ho⟩ := h
  obtain ⟨A, c, rfl, hl, hr⟩ := OwnRow.reads (show OwnRow (k97.K w) 97 4 w base v x.f1.f1 from ⟨_, ho, reps_val w _⟩)
  exact k70_mk w x hl hr
section
variable {w : World} {base G nn : Nat} {LI : Nat → List S70} {LE : Nat → List S72} {vI vE : Nat → Value} {xI : Nat → List Value}
theorem PM.readI (h : PM w base G nn LI LE vI vE xI) {j : Nat} (hj : j < nn) : ∃ A c, vI j = .slice A (LI j).length c ∧ (LI j).length ≤ c ∧ k70.C w A (LI j).length (LI j) := by
  obtain ⟨A, c, he, hl, hr⟩ := OwnRow.reads (show OwnRow (IsIns w base) 70 6 w base (vI j) (LI j) from ⟨_, h.fI.own j hj, h.rI j hj⟩)
  exact ⟨A, c, he, hl, hr.imp_ (Below.refl _ _) (fun _ _ hp => hp.K)⟩
theorem PM.readE (h : PM w base G nn LI LE vI vE xI) {j : Nat} (hj : j < nn) : ∃ A c, vE j = .slice A (LE j).length c ∧ (LE j).length ≤ c ∧ k72.C w A (LE j).length (LE j) :=
  OwnRow.reads (show OwnRow (k72.K w) 72 4 w base (vE j) (LE j) from ⟨_, h.fE.own j hj, reps_era w _⟩)
theorem PM.cellE (h : PM w base G nn LI LE vI vE xI) {j : Nat} (hj : j < nn) : w.cell? ⟨G, j * 2 + 1, none⟩ = some (vE j) := by
  rw [blk_cell h.blk, pc_cell, if_pos (by omega), if_neg (by omega), show (j * 2 + 1) / 2 = j by omega]
theorem PM.cellI (h : PM w base G nn LI LE vI vE xI) {j : Nat} (hj : j < nn) : w.cell? ⟨G, j * 2, none⟩ = some (vI j) := by
  rw [blk_cell h.blk, pc_cell, if_pos (by omega), if_pos (by omega), show j * 2 / 2 = j by omega]
end
end Go.Proofs.Ytnaaaldeadjohaa.Cat

set_option linter.unusedVariables false
set_option linter.unusedSimpArgs false
namespace Go.Proofs.Ytnaaaldeadjohaa.Cat
open Go.RowKit Go.Shelf Go.Proofs Go.Proofs.YtnaaaldeadjohaaW.PrintWords Go.Proofs.Ytnaaaldeadjohaa.PCatalogLies Go.Deep Go.WideShapes Go.ChangeShapes
/-! ### Down: rows that came in -/
instance i97 : Inhabited S97 := ⟨z97⟩
instance i57 : Inhabited S57 := ⟨z57⟩
section
variable {H : Type} {enc : TypeId × Value → H} {w : World} {base : Nat} {sp : Nat → Bool} {held : Bool}
set_option maxRecDepth 100000 in
theorem opens97 {fuel : Nat} {cs : List Value} {x : DataW H × List MemPlace} (h : DataW.trod enc Try.prog w base sp held fuel 97 cs = some x) : ∃ a, k97.K w a cs := by
  obtain ⟨xs, n, _, _, hl, hxl, hf⟩ := DataW.trod_struct Try.underlying97 h
  have hl' : cs.length = 4 := hl.trans (by kernel_rfl)
  match xs, hxl, cs, hl' with
  | [y0, y1, y2, y3], _, [v0, v1, v2, v3], _ =>
    have g0 := hf 0 _ rfl
    have g1 := hf 1 _ rfl
    have g2 := hf 2 _ rfl
    have g3 := hf 3 _ rfl
    simp [show Try.prog.cellsOf 3 = 1 by kernel_rfl, show Try.prog.cellsOf 9 = 1 by kernel_rfl, show Try.prog.cellsOf 4 = 1 by kernel_rfl, show Try.prog.cellsOf 2 = 1 by kernel_rfl] at g0 g1 g2 g3
    obtain ⟨m, e0, _⟩ := DataW.trod_int Try.underlying3 g0
    obtain ⟨b, e1, _⟩ := DataW.trod_bool Try.underlying4 g1
    obtain ⟨j, e2, _⟩ := DataW.trod_int Try.underlying2 g2
    obtain ⟨s, e3, _⟩ := DataW.trod_string Try.underlying9 g3
    cases e0; cases e1; cases e2; cases e3
    exact ⟨⟨m, b, j, s⟩, k97_mk w _⟩
set_option maxRecDepth 100000 in
theorem opens53 {fuel : Nat} {cs : List Value} {x : DataW H × List MemPlace} (h : DataW.trod enc Try.prog w base sp held fuel 53 cs = some x) : ∃ a, k53.K w a cs := by
  obtain ⟨xs, n, _, _, hl, hxl, hf⟩ := DataW.trod_struct Try.underlying53 h
  have hl' : cs.length = 2 := hl.trans (by kernel_rfl)
  match xs, hxl, cs, hl' with
  | [y0, y1], _, [v0, v1], _ =>
    have g0 := hf 0 _ rfl
    have g1 := hf 1 _ rfl
    simp [show Try.prog.cellsOf 50 = 1 by kernel_rfl, show Try.prog.cellsOf 51 = 1 by kernel_rfl] at g0 g1
    obtain ⟨m, e0, _⟩ := DataW.trod_int Try.underlying50 g0
    obtain ⟨j, e1, _⟩ := DataW.trod_int Try.underlying51 g1
    cases e0; cases e1
    exact ⟨⟨m, j⟩, k53_mk w _⟩
set_option maxRecDepth 100000 in
theorem openc56 {fuel : Nat} {cs : List Value} {x : DataW H × List MemPlace} (h : DataW.trod enc Try.prog w base sp held fuel 56 cs = some x) : ∃ a, k57.K w a cs := by
  obtain ⟨xs, n, _, _, hl, hxl, hf⟩ := DataW.trod_struct Try.underlying56 h
  have hl' : cs.length = 4 := hl.trans (by kernel_rfl)
  match xs, hxl, cs, hl' with
  | [y0, y1, y2], _, [v0, v1, v2, v3], _ =>
    have g0 := hf 0 _ rfl
    have g1 := hf 1 _ rfl
    have g2 := hf 2 _ rfl
    simp [show Try.prog.cellsOf 3 = 1 by kernel_rfl, show Try.prog.cellsOf 53 = 2 by kernel_rfl, show Try.prog.cellsOf 54 = 1 by kernel_rfl] at g0 g1 g2
    obtain ⟨m, e0, _⟩ := DataW.trod_int Try.underlying3 g0
    obtain ⟨⟨i0, i1⟩, hK⟩ := opens53 g1
    obtain ⟨A, c, l, e2, hle, hC⟩ := opens_slice (d := k97) Try.underlying54 (by kernel_rfl) (fun _ _ _ h => opens97 h) g2
    have e1 := k53_open hK
    cases e0; cases e1; cases e2
    exact ⟨⟨m, ⟨i0, i1⟩, l⟩, k57_mk w _ hle hC⟩
set_option maxRecDepth 100000 in
/-- A table's row that came in. -/
theorem opens56 {r : Reach} {b0 : Nat} {v : Value} {dd : DataW H} {p : List MemPlace} (hv : Value.okWide Try.prog w r b0 56 v) (h : DataW.Trod enc Try.prog w base sp held 56 v dd p) :
    ∃ (x : S57) (AR : Option Addr) (cr : Nat), v = .agg #[.int .i64 x.f0, .int .u64 x.f1.f0, .int .u32 x.f1.f1, .slice AR x.f2.length cr] ∧ x.f2.length ≤ cr ∧ k97.C w AR x.f2.length x.f2 := by
  obtain ⟨cs, rfl, hsz⟩ := okWide_struct Try.underlying56 hv
  obtain ⟨fuel, hf0⟩ := h
  obtain ⟨x, hx⟩ := openc56 hf0
  obtain ⟨A, c, e, hle, hC⟩ := k57_open hx
  refine ⟨x, A, c, ?_, hle, hC⟩
  obtain ⟨cl⟩ := cs
  simp [Value.cells] at e
  rw [e]
set_option maxRecDepth 100000 in
/-- Tables' rows that came in. -/
theorem opens46 {r : Reach} {b0 : Nat} {v : Value} {dd : DataW H} {p : List MemPlace} (hv : Value.okWide Try.prog w r b0 46 v) (h : DataW.Trod enc Try.prog w base sp held 46 v dd p) :
    ∃ A c l, v = .slice A (l : List S57).length c ∧ l.length ≤ c ∧ k57.C w A l.length l := by
  obtain ⟨a, len, cap, rfl⟩ := okWide_slice Try.underlying46 hv
  obtain ⟨fuel, hf0⟩ := h
  obtain ⟨A, c, l, e, hle, hC⟩ := opens_slice (d := k57) Try.underlying46 (by kernel_rfl) (fun _ _ _ h => openc56 h) hf0
  simp [Value.cells] at e
  obtain ⟨rfl, rfl, rfl⟩ := e
  exact ⟨_, _, l, rfl, hle, hC⟩
end
end Go.Proofs.Ytnaaaldeadjohaa.Cat

set_option linter.unusedVariables false
set_option linter.unusedSimpArgs false
namespace Go.Proofs.Ytnaaaldeadjohaa.Cat
open Go.RowKit Go.Shelf Go.Proofs Go.Proofs.YtnaaaldeadjohaaW.PrintWords Go.Proofs.Ytnaaaldeadjohaa.PCatalogLies
/-! ### The walk of CatalogCounts -/
/-- The four cells of a box that holds a row of a table. -/
def FullBox (w : World) (b : Nat) (x : S57) (AR : Option Addr) (cr : Nat) : Prop :=
  w.cell? ⟨b, 0, none⟩ = some (.int .i64 x.f0) ∧ w.cell? ⟨b, 1, none⟩ = some (.int .u64 x.f1.f0) ∧ w.cell? ⟨b, 2, none⟩ = some (.int .u32 x.f1.f1) ∧ w.cell? ⟨b, 3, none⟩ = some (.slice AR x.f2.length cr)
theorem FullBox.below {w w1 : World} {b : Nat} {x : S57} {AR : Option Addr} {cr : Nat} (h : FullBox w b x AR cr) (hb : Below w.heap.size w w1) : FullBox w1 b x AR cr :=
  ⟨pw_cell_below hb h.1, pw_cell_below hb h.2.1, pw_cell_below hb h.2.2.1, pw_cell_below hb h.2.2.2⟩
theorem FullBox.new (w : World) (x : S57) (AR : Option Addr) (cr : Nat) : FullBox (w.alloc (.cells #[.int .i64 x.f0, .int .u64 x.f1.f0, .int .u32 x.f1.f1, .slice AR x.f2.length cr] 56)) w.heap.size x AR cr :=
  ⟨by simp [go_sem], by simp [go_sem], by simp [go_sem], by simp [go_sem]⟩
/-- A row of one, in a block of its own. -/
theorem one_row {w : World} (x : S57) {AR : Option Addr} {cr : Nat} (hc : x.f2.length ≤ cr) (hr : k97.C (w.alloc (.cells #[.int .i64 x.f0, .int .u64 x.f1.f0, .int .u32 x.f1.f1, .slice AR x.f2.length cr] 56)) AR x.f2.length x.f2) :
    k57.C (w.alloc (.cells #[.int .i64 x.f0, .int .u64 x.f1.f0, .int .u32 x.f1.f1, .slice AR x.f2.length cr] 56)) (some ⟨w.heap.size, 0, none⟩) [x].length [x] := by
  refine ⟨rfl, by simp, fun _ => ⟨_, rfl, fun j p hj => ?_⟩⟩
  have hj0 : j = 0 := by
    have := (List.getElem?_eq_some_iff.1 hj).1
    simp at this; exact this
  subst hj0
  simp at hj
  subst hj
  refine ⟨_, rfl, k57_mk _ x hc hr, fun i u hu => ?_⟩
  have b := heap_alloc_new w (.cells #[.int .i64 x.f0, .int .u64 x.f1.f0, .int .u32 x.f1.f1, .slice AR x.f2.length cr] 56)
  have : (⟨w.heap.size, 0, none⟩ : Addr).add (0 * k57.sz + i) = ⟨w.heap.size, i, none⟩ := by
    unfold Addr.add
    by_cases h : i = 0 <;> simp [h]
  rw [this, blk_cell b i]
  simpa using hu
set_option maxHeartbeats 8000000 in
set_option maxRecDepth 100000 in
theorem CatalogCounts_calls (n s k : Int) (T : List S79) (P : List S66) (A3 : Option Addr) (c3 : Nat) (A4 : Option Addr) (c4 : Nat) (x : S57) (AR : Option Addr) (cr : Nat) (w : World) (h : CatR w T P A3 c3 A4 c4) (hcr : x.f2.length ≤ cr) (hrow : k97.C w AR x.f2.length x.f2) :
    Calls Try.prog 8 #[catV n s k T P A3 c3 A4 c4, fullV x AR cr] w fun e w' => e = .returned (.bool true) ∧ Below w.heap.size w w' := by
  have hA := ((Below.refl w.heap.size w).alloc (Nat.le_refl _) (.cells #[.int .i64 n, .int .i64 s, .int .i64 k, .slice A3 T.length c3, .slice A4 P.length c4] 25)).alloc (by simp) (.cells #[.int .i64 x.f0, .int .u64 x.f1.f0, .int .u32 x.f1.f1, .slice AR x.f2.length cr] 56)
  have HA := Lib.hid hA
  have HCW := Lib.hid (h.below hA)
  have HRW := Lib.hid (Kd.C_below hrow hA)
  have hq := (CatBox.new w n s k T P A3 c3 A4 c4).below ((Below.refl _ (w.alloc (.cells #[.int .i64 n, .int .i64 s, .int .i64 k, .slice A3 T.length c3, .slice A4 P.length c4] 25))).alloc (Nat.le_refl _) (.cells #[.int .i64 x.f0, .int .u64 x.f1.f0, .int .u32 x.f1.f1, .slice AR x.f2.length cr] 56))
  have HQ := Lib.hid hq
  have hf := FullBox.new (w.alloc (.cells #[.int .i64 n, .int .i64 s, .int .i64 k, .slice A3 T.length c3, .slice A4 P.length c4] 25)) x AR cr
  rw [World.size_alloc] at hf
  have HF := Lib.hid hf
  have hmP := h.rP.2.1
  have hsz : w.heap.size + 2 ≤ ((w.alloc (.cells #[.int .i64 n, .int .i64 s, .int .i64 k, .slice A3 T.length c3, .slice A4 P.length c4] 25)).alloc (.cells #[.int .i64 x.f0, .int .u64 x.f1.f0, .int .u32 x.f1.f1, .slice AR x.f2.length cr] 56)).heap.size := by simp
  obtain ⟨q0, q1, q2, q3, q4⟩ := hq
  clear hA h hf hrow
  go_enter Try.func8, Try.ntmps8
  go_wp2_with (fail)
  generalize (w.alloc (.cells #[.int .i64 n, .int .i64 s, .int .i64 k, .slice A3 T.length c3, .slice A4 P.length c4] 25)).alloc (.cells #[.int .i64 x.f0, .int .u64 x.f1.f0, .int .u32 x.f1.f1, .slice AR x.f2.length cr] 56) = W0 at *
  refine (check2_calls n s k T P _ c3 _ c4 _ HCW.out).mono ?_
  rintro e w1 ⟨rfl, hb⟩
  have HB1 := Lib.hid hb
  replace q0 := pw_cell_below hb q0
  replace q1 := pw_cell_below hb q1
  replace q2 := pw_cell_below hb q2
  replace q3 := pw_cell_below hb q3
  replace q4 := pw_cell_below hb q4
  clear hb
  by_cases hz : ¬ chk n s k T P = 0
  · have dz : (chk n s k T P == 0) = false := beq_eq_false_iff_ne.2 hz
    go_wp2_with (fail)
    refine (alive_calls _).mono ?_
    rintro e w2 ⟨rfl, hb⟩
    have HB2 := Lib.hid (HA.out.trans ((HB1.out.trans (hb.mono HB1.out.size)).mono HA.out.size))
    clear hb
    go_wp2
    go_ret
    exact ⟨rfl, HB2.out⟩
  replace hz := Decidable.not_not.1 hz
  have HT := Lib.hid (taken_of hz)
  have HG := Lib.hid HT.out.good
  rw [hz]
  clear hz
  have hnn := HG.out.hn
  have hkk := HG.out.hk
  have hP8 := HG.out.hP
  obtain ⟨nn, rfl⟩ := Int.eq_ofNat_of_zero_le (show 0 ≤ n by omega)
  obtain ⟨kk, rfl⟩ := Int.eq_ofNat_of_zero_le (show 0 ≤ k by omega)
  have hn8 : nn ≤ 8 := by omega
  have hk8 : kk + 1 ≤ 8 := by omega
  clear hnn hkk
  have HQ1 := Lib.hid (HQ.out.below HB1.out)
  have HF1 := Lib.hid (HF.out.below HB1.out)
  go_wp2
  clear q0 q1 q2 q3 q4
  go_loopw [5, 20] (fun vc v wr => ∃ i : Nat, v = .int .i64 i ∧ vc = .int .i64 (wantN kk P x.f0 i) ∧ i ≤ P.length ∧ Hid (Below w1.heap.size w1 wr)) (fun _ v _ => P.length - (intOf v).toNat)
  case atStart => exact ⟨0, rfl, rfl, Nat.zero_le _, Lib.hid (Below.refl _ _)⟩
  case round =>
    obtain ⟨i, rfl, rfl, hi, HW⟩ := hrel
    obtain ⟨wo, rfl⟩ : ∃ wo : World, wo = wr := ⟨_, rfl⟩
    have HB2 := Lib.hid (HB1.out.trans (HW.out.mono HB1.out.size))
    have hwl := wantN_le hk8 P x.f0 i
    by_cases hlt : i < P.length
    · obtain ⟨ad, B2, d2, B3, d3, e1, hc0, hc1, hc2, hc3, hc4, hc5, hl2, hC2, hl3, hC3⟩ := at_T66 (Kd.C_below HCW.out.rP HB2.out) i (by omega) (by omega)
      simp only [Int.toNat_natCast] at hc0 hc1 hc2 hc3 hc4 hc5
      cases e1
      have HY := Lib.hid (fun (h : (rd_T66 P i).f1 = x.f0) => wantN_yes (kk := kk) h)
      have HN := Lib.hid (fun (h : ¬ (rd_T66 P i).f1 = x.f0) => wantN_no (kk := kk) h)
      generalize rd_T66 P i = pj at *
      have hA1 := (Below.refl wo.heap.size wo).alloc (Nat.le_refl _) (.cells #[.string pj.f0, .int .i64 pj.f1, .slice B2 pj.f2.length d2, .slice B3 pj.f3.length d3, .int .i64 pj.f4, .int .i64 pj.f5] 66)
      have HW1 := Lib.hid (HW.out.trans (hA1.mono HW.out.size))
      obtain ⟨q0, q1, q2, q3, q4⟩ := (HQ1.out.below HW.out).below hA1
      obtain ⟨f0, f1, f2, f3⟩ := (HF1.out.below HW.out).below hA1
      clear hA1 hC2 hC3
      by_cases hq : pj.f1 = x.f0
      · have dq : (pj.f1 == x.f0) = true := beq_iff_eq.2 hq
        have HE := Lib.hid (HY.out hq)
        clear hq
        go_wp2
        go_roundw
        case rel => exact ⟨i + 1, by go_num, by rw [HE.out]; go_num, hlt, HW1⟩
        case measure => simp [intOf]; omega
      · have dq : (pj.f1 == x.f0) = false := beq_eq_false_iff_ne.2 hq
        have HE := Lib.hid (HN.out hq)
        clear hq
        go_wp2
        go_roundw
        case rel => exact ⟨i + 1, by go_num, by rw [HE.out], hlt, HW1⟩
        case measure => simp [intOf]; omega
    · obtain rfl : i = P.length := by omega
      obtain ⟨q0, q1, q2, q3, q4⟩ := HQ1.out.below HW.out
      obtain ⟨f0, f1, f2, f3⟩ := HF1.out.below HW.out
      have hz1 : w.heap.size + 1 < wo.heap.size := by have := HB2.out.size; omega
      have HRow2 := Lib.hid (Kd.C_below HRW.out HB2.out)
      have HCat2 := Lib.hid (HCW.out.below HB2.out)
      have HSUM := Lib.hid (counts_sum HG.out x)
      have HAT := Lib.hid (fun (j : Nat) (d : Do) (hd : d ∈ atNode (eachAll nn s kk P [x]) j) => counts_at hd)
      go_wp2_with (fail)
      have hA1 := (Below.refl wo.heap.size wo).alloc (Nat.le_refl _) (.cells #[.int .i64 x.f0, .int .u64 x.f1.f0, .int .u32 x.f1.f1, .slice AR x.f2.length cr] 56)
      have hA2 := hA1.alloc hA1.size (.cells #[.int .i64 x.f0, .int .u64 x.f1.f0, .int .u32 x.f1.f1, .slice AR x.f2.length cr] 56)
      have hx1 := one_row (w := wo) x hcr (Kd.C_below HRow2.out hA1)
      have hx2 := one_row (w := wo.alloc (.cells #[.int .i64 x.f0, .int .u64 x.f1.f0, .int .u32 x.f1.f1, .slice AR x.f2.length cr] 56)) x hcr (Kd.C_below HRow2.out hA2)
      rw [World.size_alloc] at hx2
      replace hx1 := Kd.C_below hx1 ((Below.refl _ (wo.alloc (.cells #[.int .i64 x.f0, .int .u64 x.f1.f0, .int .u32 x.f1.f1, .slice AR x.f2.length cr] 56))).alloc (Nat.le_refl _) (.cells #[.int .i64 x.f0, .int .u64 x.f1.f0, .int .u32 x.f1.f1, .slice AR x.f2.length cr] 56))
      refine (parts_calls nn s kk T P _ c3 _ c4 _ (HCat2.out.below hA2) HG.out HT.out.cols8 _ _ 1 1 [x] [x] hx1 hx2 (by simp) (by simp)).mono ?_
      rintro e w3 ⟨G, vI, vE, xI, rfl, hpm, hb⟩
      have HPM := Lib.hid hpm
      have HB3 := Lib.hid (HB2.out.trans ((hA2.trans (hb.mono hA2.size)).mono HB2.out.size))
      have HQ3 := Lib.hid (HQ.out.below HB3.out)
      have HF3 := Lib.hid (HF.out.below HB3.out)
      clear hA1 hA2 hx1 hx2 hpm hb q0 q1 q2 q3 q4 f0 f1 f2 f3 hz1
      generalize eachAll nn s kk P [x] = L at *
      have HW' := Lib.hid hwl
      have HMONO := Lib.hid (fun (j : Nat) (hj : j ≤ nn) => show sumN L j ≤ 64 by have h1 := sumN_mono L hj; rw [HSUM.out] at h1; have := HW'.out; omega)
      generalize hwn : wantN kk P x.f0 P.length = wn at *
      clear hwn
      go_wp2
      go_loopw [8, 9, 42] (fun va vb v wr => ∃ j : Nat, v = .int .i64 j ∧ va = .int .i64 (sumN L j) ∧ vb = .int .i64 (sumN L j) ∧ j ≤ nn ∧ Hid (Below w3.heap.size w3 wr)) (fun _ _ v _ => nn - (intOf v).toNat)
      case atStart => exact ⟨0, rfl, rfl, rfl, Nat.zero_le _, Lib.hid (Below.refl _ _)⟩
      case round =>
        obtain ⟨j, rfl, rfl, rfl, hj, HV⟩ := hrel
        obtain ⟨wp, rfl⟩ : ∃ wp : World, wp = wr := ⟨_, rfl⟩
        by_cases hlj : j < nn
        · have HP2 := Lib.hid (HPM.out.below HV.out)
          obtain ⟨AI, cI, eI, leI, hCI⟩ := HP2.out.readI hlj
          obtain ⟨AE, cE, eE, leE, hCE⟩ := HP2.out.readE hlj
          have g0 := HP2.out.cellI hlj
          have g1 := HP2.out.cellE hlj
          rw [eI] at g0
          rw [eE] at g1
          have HIA := Lib.hid (fun (i : Nat) (h : i < (atNode L j).length) => insL_at P L j i h)
          have HEA := Lib.hid (fun (i : Nat) (h : i < (atNode L j).length) => eraL_at L j i h)
          have HATM := Lib.hid (fun (i : Nat) (h : i < (atNode L j).length) => HAT.out j _ (List.getElem_mem h))
          have hm1 := HMONO.out j hj
          have hm2 := HMONO.out (j + 1) hlj
          have HS1 := Lib.hid (show sumN L (j + 1) = sumN L j + (atNode L j).length from rfl)
          have hm3 : (atNode L j).length ≤ 64 := by rw [HS1.out] at hm2; omega
          have eL := insL_length P L j
          have eM := eraL_length L j
          generalize insL P L j = LI at *
          generalize eraL L j = LE at *
          generalize atNode L j = M at *
          rw [eL] at g0 hCI leI
          rw [eM] at g1 hCE leE
          clear eI eE eL eM
          have HCI := Lib.hid hCI
          have HCE := Lib.hid hCE
          clear hCI hCE
          have hA4 := (Below.refl wp.heap.size wp).alloc (Nat.le_refl _) (.cells #[.slice AI M.length cI, .slice AE M.length cE] 62)
          have HB4 := Lib.hid (HB3.out.trans ((HV.out.trans (hA4.mono HV.out.size)).mono HB3.out.size))
          have HV4 := Lib.hid (HV.out.trans (hA4.mono HV.out.size))
          have HCI4 := Lib.hid (Kd.C_below HCI.out hA4)
          have HCE4 := Lib.hid (Kd.C_below HCE.out hA4)
          have B4 := Lib.hid (heap_alloc_new wp (.cells #[.slice AI M.length cI, .slice AE M.length cE] 62))
          clear hA4
          go_wp2_with (fail)
          generalize wp.alloc (.cells #[.slice AI M.length cI, .slice AE M.length cE] 62) = W4 at *
          go_loopw [59] (fun v wr => ∃ i : Nat, v = .int .i64 i ∧ i ≤ M.length ∧ Hid (Below W4.heap.size W4 wr)) (fun v _ => M.length - (intOf v).toNat)
          case atStart => exact ⟨0, rfl, Nat.zero_le _, Lib.hid (Below.refl _ _)⟩
          case round =>
            obtain ⟨i, rfl, hi, HX⟩ := hrel
            obtain ⟨wq, rfl⟩ : ∃ wq : World, wq = wr := ⟨_, rfl⟩
            by_cases hli : i < M.length
            · obtain ⟨adI, A5, c5, e5, i0, i1, _⟩ := at_T70 (Kd.C_below HCI4.out HX.out) i (by omega) (by omega)
              obtain ⟨adE, e6, j0, j1, _⟩ := at_T72 (Kd.C_below HCE4.out HX.out) i (by omega) (by omega)
              simp only [Int.toNat_natCast] at i0 i1 j0 j1
              cases e5
              cases e6
              rw [HIA.out i hli] at i0 i1
              rw [HEA.out i hli] at j0 j1
              obtain ⟨r0, r1, r2⟩ := HATM.out i hli
              generalize M[i].at_ = y at *
              have b4 := blk_below B4.out HX.out
              have p0 := (blk_cell b4 0).trans rfl
              have p1 := (blk_cell b4 1).trans rfl
              have HB5 := Lib.hid (HB4.out.trans (HX.out.mono HB4.out.size))
              have HBD := Lib.hid (show Below wq.heap.size wq wq from Below.refl _ wq)
              have HBN := Lib.hid (show Below wq.heap.size wq wq.drew from (Below.refl _ wq).drew)
              have R2 := Lib.hid r2
              have dlt : decide (M.length ≤ i) = false := decide_eq_false (by omega)
              obtain ⟨q0, q1, q2, q3, q4⟩ := HQ.out.below HB5.out
              obtain ⟨f0, f1, f2, f3⟩ := HF.out.below HB5.out
              have HS := Lib.hid (fun (w' : World) (hb : Below wq.heap.size wq w') => (show w'.cell? ⟨wp.heap.size, 0, none⟩ = some (.slice (some adI) M.length cI) ∧ w'.cell? ⟨wp.heap.size, 1, none⟩ = some (.slice (some adE) M.length cE) ∧ w'.cell? ⟨w.heap.size, 0, none⟩ = some (.int .i64 nn) ∧ w'.cell? ⟨w.heap.size, 1, none⟩ = some (.int .i64 s) ∧ w'.cell? ⟨w.heap.size, 2, none⟩ = some (.int .i64 kk) ∧ w'.cell? ⟨w.heap.size, 3, none⟩ = some (.slice A3 T.length c3) ∧ w'.cell? ⟨w.heap.size, 4, none⟩ = some (.slice A4 P.length c4) ∧ w'.cell? ⟨w.heap.size + 1, 3, none⟩ = some (.slice AR x.f2.length cr) ∧ w'.cell? (adI.add (i * 6)) = some (.int .i64 y.f0) ∧ w'.cell? ⟨(adI.add (i * 6)).block, (adI.add (i * 6)).off + 1, none⟩ = some (.int .i64 y.f1) ∧ w'.cell? (adE.add (i * 4)) = some (.int .i64 y.f0) ∧ w'.cell? ⟨(adE.add (i * 4)).block, (adE.add (i * 4)).off + 1, none⟩ = some (.int .i64 y.f1) from ⟨pw_cell_below hb p0, pw_cell_below hb p1, pw_cell_below hb q0, pw_cell_below hb q1, pw_cell_below hb q2, pw_cell_below hb q3, pw_cell_below hb q4, pw_cell_below hb f3, pw_cell_below hb i0, pw_cell_below hb i1, pw_cell_below hb j0, pw_cell_below hb j1⟩))
              clear p0 p1 q0 q1 q2 q3 q4 f0 f1 f2 f3 i0 i1 j0 j1 b4 r2
              go_wp2_with (fail)
              go_region_held3 (fun w' => w'.cell? ⟨wp.heap.size, 0, none⟩ = some (.slice (some adI) M.length cI) ∧ w'.cell? ⟨wp.heap.size, 1, none⟩ = some (.slice (some adE) M.length cE) ∧ w'.cell? ⟨w.heap.size, 0, none⟩ = some (.int .i64 nn) ∧ w'.cell? ⟨w.heap.size, 1, none⟩ = some (.int .i64 s) ∧ w'.cell? ⟨w.heap.size, 2, none⟩ = some (.int .i64 kk) ∧ w'.cell? ⟨w.heap.size, 3, none⟩ = some (.slice A3 T.length c3) ∧ w'.cell? ⟨w.heap.size, 4, none⟩ = some (.slice A4 P.length c4) ∧ w'.cell? ⟨w.heap.size + 1, 3, none⟩ = some (.slice AR x.f2.length cr) ∧ w'.cell? (adI.add (i * 6)) = some (.int .i64 y.f0) ∧ w'.cell? ⟨(adI.add (i * 6)).block, (adI.add (i * 6)).off + 1, none⟩ = some (.int .i64 y.f1) ∧ w'.cell? (adE.add (i * 4)) = some (.int .i64 y.f0) ∧ w'.cell? ⟨(adE.add (i * 4)).block, (adE.add (i * 4)).off + 1, none⟩ = some (.int .i64 y.f1))
                (first | exact HS.out _ HBN.out | exact HS.out _ HBD.out)
                (first | (go_at_call 26; refine (where_calls nn s kk T P A3 c3 A4 c4 y.f0 AR cr x.f2 _ (HCW.out.below (HB5.out.trans (HBN.out.mono HB5.out.size))) HG.out.hs.1 HG.out.hs.2 r0 r1 (Kd.C_below HRW.out (HB5.out.trans (HBN.out.mono HB5.out.size))) hcr).mono ?_; rintro e w6 ⟨rfl, hb⟩; have HBN2 := Lib.hid (HBN.out.trans (hb.mono HBN.out.size)); clear HBN; have HBN := HBN2; clear HBN2 hb; rw [R2.out]))
              go_wp2
              go_roundw
              case rel => exact ⟨i + 1, by go_num, hli, Lib.hid (HX.out.trans (HBN.out.mono HX.out.size))⟩
              case measure => simp [intOf]; omega
            · obtain rfl : i = M.length := by omega
              go_wp2
              go_roundw
              case rel => exact ⟨j + 1, by go_num, by rw [HS1.out]; go_num, by rw [HS1.out]; go_num, hlj, Lib.hid (HV4.out.trans (HX.out.mono HV4.out.size))⟩
              case measure => simp [intOf]; omega
        · obtain rfl : j = nn := by omega
          rw [HSUM.out]
          have HB4 := Lib.hid (HB3.out.trans (HV.out.mono HB3.out.size))
          go_wp2_with (fail)
          refine (alive_calls _).mono ?_
          rintro e w4 ⟨rfl, hb⟩
          have HB5 := Lib.hid (HB4.out.trans (hb.mono HB4.out.size))
          clear hb
          go_wp2
          go_ret
          exact ⟨rfl, HA.out.trans (HB5.out.mono HA.out.size)⟩
end Go.Proofs.Ytnaaaldeadjohaa.Cat
