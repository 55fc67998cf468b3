import Derived.Test.YtnaaaldeadjohaaNh
import Derived.Test.YtnaaaldeadjohaaNi
import Derived.Deep.LoopGhost
set_option linter.unusedVariables false
set_option linter.unusedSimpArgs false
namespace Go.Proofs.Ytnaaaldeadjohaa.Cat
open Go.RowKit Go.Shelf Go.Proofs Go.Proofs.YtnaaaldeadjohaaW.PrintWords Go.Proofs.Ytnaaaldeadjohaa.PCatalogLies
/-! ### CatalogParts: the plain law: what is done at one node, row by row, projection by projection -/
theorem filter_one {l : List Int} (hd : l.Nodup) (h0 : ∀ m ∈ l, 0 ≤ m) (j : Nat) : l.filter (fun m => m.toNat == j) = if hasB l (j : Int) = true then [(j : Int)] else [] := by
  induction l with
  | nil => rfl
  | cons m l ih =>
    obtain ⟨h1, h2⟩ := List.nodup_cons.1 hd
    have hi := ih h2 (fun x hx => h0 x (by simp [hx]))
    have hm := h0 m (by simp)
    rw [List.filter_cons, hi]
    unfold hasB at *
    by_cases e : m.toNat = j
    · have em : m = (j : Int) := by omega
      subst em
      have hn : ¬ (l.contains (j : Int)) = true := by rw [List.contains_iff_mem]; exact h1
      rw [if_pos (by simp), if_neg hn, if_pos (by simp)]
    · have em : ¬ m = (j : Int) := by omega
      rw [if_neg (by simpa using e)]
      have : (m :: l).contains (j : Int) = l.contains (j : Int) := by
        rw [List.contains_cons]; simp; intro e2; exact absurd e2.symm em
      rw [this]
def hitP (nn s k : Int) (P : List S66) (x : S57) (p : Nat) (j : Nat) : Bool := hasB (nodesAt nn s k P x p) (j : Int) && decide ((rd_T66 P p).f1 = x.f0)
section
variable {nn s k : Int} {P : List S66} (g : Good nn s k P) (x : S57) (p j : Nat)
theorem nodes_ge {nn s k : Int} {P : List S66} (g : Good nn s k P) (a b : Int) : ∀ m ∈ nodesL nn s k P a b, 0 ≤ m := by
  intro m hm
  unfold nodesL at hm
  split at hm
  · obtain ⟨i, _, rfl⟩ := List.mem_map.1 hm
    exact Int.emod_nonneg _ (by have := g.hn; omega)
  · cases hm
include g in
theorem atNode_one : atNode (eachOne nn s k P x p) j = if hitP nn s k P x p j = true then [doAt s P x p (j : Int)] else [] := by
  unfold atNode eachOne hitP
  by_cases e : (rd_T66 P p).f1 = x.f0
  · rw [if_pos e, List.filter_map]
    have h := filter_one (nodes_nodup g (whereS s P x.f2 p).f0 (whereS s P x.f2 p).f1) (nodes_ge g _ _) j
    have : (nodesAt nn s k P x p).filter ((fun d => d.node == j) ∘ doAt s P x p) = (nodesAt nn s k P x p).filter (fun m => m.toNat == j) := by
      apply List.filter_congr; intro m _; rfl
    rw [this]
    unfold nodesAt at *
    rw [h]
    by_cases h2 : hasB (nodesL nn s k P (whereS s P x.f2 p).f0 (whereS s P x.f2 p).f1) (j : Int) = true
    · rw [if_pos h2, if_pos (by simp [h2, e])]; rfl
    · rw [if_neg h2, if_neg (by simp [h2])]; rfl
  · rw [if_neg e, if_neg (by simp [e])]; rfl
include g in
theorem insL_one (l : List Do) : insL P (l ++ eachOne nn s k P x p) j = insL P l j ++ (if hitP nn s k P x p j = true then [insOf P (whereS s P x.f2 p) x] else []) := by
  have h := atNode_one g x p j
  unfold insL
  unfold atNode at *
  rw [List.filter_append, List.map_append, h]
  split <;> rfl
include g in
theorem eraL_one (l : List Do) : eraL (l ++ eachOne nn s k P x p) j = eraL l j ++ (if hitP nn s k P x p j = true then [⟨whereS s P x.f2 p, x.f1⟩] else []) := by
  have h := atNode_one g x p j
  unfold eraL
  unfold atNode at *
  rw [List.filter_append, List.map_append, h]
  split <;> rfl
end
end Go.Proofs.Ytnaaaldeadjohaa.Cat

set_option linter.unusedVariables false
set_option linter.unusedSimpArgs false
namespace Go.Proofs.Ytnaaaldeadjohaa.Cat
open Go.RowKit Go.Shelf Go.Proofs Go.Proofs.YtnaaaldeadjohaaW.PrintWords Go.Proofs.Ytnaaaldeadjohaa.PCatalogLies
/-! ### The document's own Part: what lies in memory while it is made -/
theorem PM.setR {W : World} {base G R nn : Nat} {LI : Nat → List S70} {LE : Nat → List S72} {vI vE : Nat → Value} {xI : Nat → List Value} (h : PM W base G nn LI LE vI vE xI) {cs : Array Value} (hR : W.heap[R]? = some (.cells cs 62 (0, 0))) (hne : R ≠ G) (i : Nat) (u : Value) :
    PM (W.setCell ⟨R, i, none⟩ u) base G nn LI LE vI vE xI :=
  ⟨blk_far h.blk (Ne.symm hne) u, h.fI.set hR (by decide) i u, fun j hj => (h.rI j hj).imp_ fun _ _ r => r.set hR (by decide) i u, h.fE.set hR (by decide) i u⟩
structure PS1 (W w : World) (C R G : Nat) (n s k : Int) (T : List S79) (P : List S66) (A3 : Option Addr) (c3 : Nat) (A4 : Option Addr) (c4 : Nat) (LI : List S70) (LE : List S72) : Prop where
  hC : W.heap[C]? = some (.cells #[.int .i64 n, .int .i64 s, .int .i64 k, .slice A3 T.length c3, .slice A4 P.length c4] 25 (0, 0))
  hR : W.heap[R]? = some (.cells #[.slice none 0 0, .slice none 0 0] 62 (0, 0))
  pm : ∃ LIf LEf vI vE xI, LIf 0 = LI ∧ LEf 0 = LE ∧ PM W w.heap.size G 1 LIf LEf vI vE xI
  hB : Below w.heap.size w W
  gR : w.heap.size ≤ R
  gG : w.heap.size ≤ G
  hne : R ≠ G
section
variable {W w : World} {C R G : Nat} {n s k : Int} {T : List S79} {P : List S66} {A3 : Option Addr} {c3 : Nat} {A4 : Option Addr} {c4 : Nat} {LI : List S70} {LE : List S72}
theorem PS1.below (h : PS1 W w C R G n s k T P A3 c3 A4 c4 LI LE) {w1 : World} (hb : Below W.heap.size W w1) : PS1 w1 w C R G n s k T P A3 c3 A4 c4 LI LE := by
  obtain ⟨LIf, LEf, vI, vE, xI, e1, e2, hp⟩ := h.pm
  exact ⟨blk_below h.hC hb, blk_below h.hR hb, ⟨LIf, LEf, vI, vE, xI, e1, e2, hp.below hb⟩, h.hB.trans (hb.mono h.hB.size), h.gR, h.gG, h.hne⟩
theorem PS1.box (h : PS1 W w C R G n s k T P A3 c3 A4 c4 LI LE) : CatBox W C n s k T P A3 c3 A4 c4 := ⟨(blk_cell h.hC 0).trans rfl, (blk_cell h.hC 1).trans rfl, (blk_cell h.hC 2).trans rfl, (blk_cell h.hC 3).trans rfl, (blk_cell h.hC 4).trans rfl⟩
theorem PS1.ins (h : PS1 W w C R G n s k T P A3 c3 A4 c4 LI LE) {LIf : Nat → List S70} {LEf : Nat → List S72} {vI vE : Nat → Value} {xI : Nat → List Value} (hp : PM W w.heap.size G 1 LIf LEf vI vE xI) (e1 : LIf 0 = LI) (e2 : LEf 0 = LE)
    {w1 : World} {v1 : Value} {x : S70} {ys : List Value} (ho : w1.ownsRow w.heap.size 70 6 v1 ((LIf 0).length + 1) (xI 0 ++ ys)) (hg : W.grownBy w1 (vI 0).ownBlock)
    (hat : v1.ownBlock = (vI 0).ownBlock ∨ ∃ b, v1.ownBlock = some b ∧ W.heap.size ≤ b) (hx : IsIns w1 w.heap.size x ys) (hy : ys.length = 6) :
    PS1 (w1.setCell ⟨G, 0, none⟩ v1) w C R G n s k T P A3 c3 A4 c4 (LI ++ [x]) LE := by
  have hG1 := blk_grown hp.blk hg (own_ne (hp.fI.own 0 (by omega)) hp.blk (by decide))
  have hC1 := blk_grown h.hC hg (own_ne (hp.fI.own 0 (by omega)) h.hC (by decide))
  have hR1 := blk_grown h.hR hg (own_ne (hp.fI.own 0 (by omega)) h.hR (by decide))
  have hpm := hp.ins (k := 0) (by omega) ho hg hat hx hy
  exact ⟨blk_far hC1 (blk_ne hC1 hG1 (by decide)) _, blk_far hR1 h.hne _, ⟨_, _, _, _, _, by rw [upd_same, e1], e2, hpm⟩, (h.hB.grown hg h.hB.size (own_base (hp.fI.own 0 (by omega)))).setCell (p := ⟨G, 0, none⟩) h.gG _, h.gR, h.gG, h.hne⟩
theorem PS1.era (h : PS1 W w C R G n s k T P A3 c3 A4 c4 LI LE) {LIf : Nat → List S70} {LEf : Nat → List S72} {vI vE : Nat → Value} {xI : Nat → List Value} (hp : PM W w.heap.size G 1 LIf LEf vI vE xI) (e1 : LIf 0 = LI) (e2 : LEf 0 = LE)
    {w1 : World} {v1 : Value} {x : S72} (ho : w1.ownsRow w.heap.size 72 4 v1 ((LEf 0).length + 1) (eraCells (LEf 0 ++ [x]))) (hg : W.grownBy w1 (vE 0).ownBlock)
    (hat : v1.ownBlock = (vE 0).ownBlock ∨ ∃ b, v1.ownBlock = some b ∧ W.heap.size ≤ b) :
    PS1 (w1.setCell ⟨G, 1, none⟩ v1) w C R G n s k T P A3 c3 A4 c4 LI (LE ++ [x]) := by
  have hG1 := blk_grown hp.blk hg (own_ne (hp.fE.own 0 (by omega)) hp.blk (by decide))
  have hC1 := blk_grown h.hC hg (own_ne (hp.fE.own 0 (by omega)) h.hC (by decide))
  have hR1 := blk_grown h.hR hg (own_ne (hp.fE.own 0 (by omega)) h.hR (by decide))
  have hpm := hp.era (k := 0) (by omega) ho hg hat
  exact ⟨blk_far hC1 (blk_ne hC1 hG1 (by decide)) _, blk_far hR1 h.hne _, ⟨_, _, _, _, _, e1, by rw [upd_same, e2], hpm⟩, (h.hB.grown hg h.hB.size (own_base (hp.fE.own 0 (by omega)))).setCell (p := ⟨G, 1, none⟩) h.gG _, h.gR, h.gG, h.hne⟩
end
end Go.Proofs.Ytnaaaldeadjohaa.Cat

set_option linter.unusedVariables false
set_option linter.unusedSimpArgs false
namespace Go.Proofs.Ytnaaaldeadjohaa.Cat
open Go.RowKit Go.Shelf Go.Proofs Go.Proofs.YtnaaaldeadjohaaW.PrintWords Go.Proofs.Ytnaaaldeadjohaa.PCatalogLies
attribute [local go_sem high] eqA31 eqA53 eqA72 eqA97
/-! ### The document's own Part -/
set_option maxHeartbeats 16000000 in
set_option maxRecDepth 100000 in
theorem part_calls (nn : Nat) (s k : Int) (T : List S79) (P : List S66) (A3 : Option Addr) (c3 : Nat) (A4 : Option Addr) (c4 : Nat) (w : World) (h : CatR w T P A3 c3 A4 c4) (gd : Good nn s k P) (h8 : ∀ a : Int, 0 ≤ a → a < P.length → (rd_T66 P a).f2.length ≤ 8)
    (X Y : Option Addr) (cx cy : Nat) (xs ys : List S57) (hx : k57.C w X xs.length xs) (hy : k57.C w Y ys.length ys) (bx : xs.length ≤ 10000000) (by_ : ys.length ≤ 10000000) (j : Nat) :
    Calls Try.prog 25 #[catV nn s k T P A3 c3 A4 c4, .slice X xs.length cx, .slice Y ys.length cy, .int .i64 j] w fun e w' => ∃ A c B d, e = .returned (partV (insL P (eachAll nn s k P xs) j).length (eraL (eachAll nn s k P ys) j).length A c B d) ∧ k70.C w' A (insL P (eachAll nn s k P xs) j).length (insL P (eachAll nn s k P xs) j) ∧ k72.C w' B (eraL (eachAll nn s k P ys) j).length (eraL (eachAll nn s k P ys) j) ∧ Below w.heap.size w w' := by
  have hS0 : PS1 (((w.alloc (.cells #[.int .i64 nn, .int .i64 s, .int .i64 k, .slice A3 T.length c3, .slice A4 P.length c4] 25)).alloc (.cells #[.slice none 0 0, .slice none 0 0] 62)).alloc (.cells #[.slice none 0 0, .slice none 0 0] 62)) w w.heap.size (w.heap.size + 1) (w.heap.size + 1 + 1) nn s k T P A3 c3 A4 c4 [] [] := by
    have bC := heap_alloc_new w (.cells #[.int .i64 nn, .int .i64 s, .int .i64 k, .slice A3 T.length c3, .slice A4 P.length c4] 25)
    have bR := heap_alloc_new (w.alloc (.cells #[.int .i64 nn, .int .i64 s, .int .i64 k, .slice A3 T.length c3, .slice A4 P.length c4] 25)) (.cells #[.slice none 0 0, .slice none 0 0] 62)
    have bG := heap_alloc_new ((w.alloc (.cells #[.int .i64 nn, .int .i64 s, .int .i64 k, .slice A3 T.length c3, .slice A4 P.length c4] 25)).alloc (.cells #[.slice none 0 0, .slice none 0 0] 62)) (.cells #[.slice none 0 0, .slice none 0 0] 62)
    rw [World.size_alloc] at bR
    rw [World.size_alloc, World.size_alloc] at bG
    exact ⟨blk_alloc (blk_alloc bC _) _, blk_alloc bR _, ⟨fun _ => [], fun _ => [], _, _, _, rfl, rfl, pm_nil _ w.heap.size (w.heap.size + 1 + 1) 1 (by rw [show madeCells #[Value.slice none 0 0, .slice none 0 0] (1 * 2) = #[.slice none 0 0, .slice none 0 0] from (made2 _ _ 1).trans rfl]; exact bG)⟩, ((((Below.refl w.heap.size w).alloc (Nat.le_refl _) _).alloc (by simp) _).alloc (by simp; omega) _), by omega, by omega, by omega⟩
  have HS0 := Lib.hid hS0
  have HR := Lib.hid h
  have HG := Lib.hid gd
  have H8 := Lib.hid h8
  have HX := Lib.hid hx
  have HY := Lib.hid hy
  have hmx := hx.2.1
  have hmy := hy.2.1
  have hmP := h.rP.2.1
  clear hS0 h gd h8 hx hy
  go_enter Try.func25, Try.ntmps25
  go_wp2
  generalize ((w.alloc (.cells #[.int .i64 nn, .int .i64 s, .int .i64 k, .slice A3 T.length c3, .slice A4 P.length c4] 25)).alloc (.cells #[.slice none 0 0, .slice none 0 0] 62)).alloc (.cells #[.slice none 0 0, .slice none 0 0] 62) = W0 at *
  go_loopg [10] xs.length (fun g v wr => ∃ i : Nat, v = .int .i64 i ∧ i ≤ xs.length ∧ g = xs.length - i ∧ Hid (PS1 wr w w.heap.size (w.heap.size + 1) (w.heap.size + 1 + 1) nn s k T P A3 c3 A4 c4 (insL P (eachAll nn s k P (xs.take i)) j) []))
  case atStart => exact ⟨0, rfl, Nat.zero_le _, rfl, HS0⟩
  case round =>
    obtain ⟨i, rfl, hi, rfl, HST⟩ := hrel
    obtain ⟨wo, rfl⟩ : ∃ wo : World, wo = wr := ⟨_, rfl⟩
    by_cases hlt : i < xs.length
    · have HIX := Lib.hid (show rd_T57 xs i = xs[i] by simp [rd_T57, List.getD_eq_getElem?_getD, hlt])
      have HALL := Lib.hid (show insL P (eachAll nn s k P (xs.take (i + 1))) j = insL P (eachAll nn s k P (xs.take i) ++ eachX nn s k P xs[i] P.length) j by rw [eachAll_succ _ _ _ _ hlt])
      have HLEN := Lib.hid (show (eachAll nn s k P (xs.take i)).length ≤ 64 * xs.length from Nat.le_trans (eachAll_len _ _ _ _ xs i) (eachAll_le HG.out xs))
      generalize eachAll nn s k P (xs.take i) = l0 at *
      go_wp2
      go_loopg [11] P.length (fun g v wr => ∃ p : Nat, v = .int .i64 p ∧ p ≤ P.length ∧ g = P.length - p ∧ Hid (PS1 wr w w.heap.size (w.heap.size + 1) (w.heap.size + 1 + 1) nn s k T P A3 c3 A4 c4 (insL P (l0 ++ eachX nn s k P xs[i] p) j) []))
      case atStart => exact ⟨0, rfl, Nat.zero_le _, rfl, Lib.hid (by have := HST.out; simpa [eachX] using this)⟩
      case round =>
        obtain ⟨p, rfl, hp, rfl, HSP⟩ := hrel
        obtain ⟨wp, rfl⟩ : ∃ wp : World, wp = wr := ⟨_, rfl⟩
        obtain ⟨q0, q1, q2, q3, q4⟩ := HSP.out.box
        by_cases hltp : p < P.length
        · have hb0 := HSP.out.hB
          obtain ⟨ad, AR, cr, e1, x0, x1, x2, x3, hle, hRow⟩ := at_T57 HX.out i (by omega) (by omega)
          simp only [Int.toNat_natCast] at x0 x1 x2 x3
          cases e1
          rw [HIX.out] at x0 x1 x2 x3 hle hRow
          have HONE := Lib.hid (insL_one HG.out xs[i] p j (l0 ++ eachX nn s k P xs[i] p))
          have HSUC := Lib.hid (show l0 ++ eachX nn s k P xs[i] (p + 1) = l0 ++ eachX nn s k P xs[i] p ++ eachOne nn s k P xs[i] p by rw [eachX_succ, List.append_assoc])
          have hlen2 : (insL P (l0 ++ eachX nn s k P xs[i] p) j).length ≤ 700000000 := by
            have h1 := insL_len P (l0 ++ eachX nn s k P xs[i] p) j
            have h2 := eachX_le HG.out xs[i] p
            have h3 := HLEN.out
            have h4 := HG.out.hP
            rw [List.length_append] at h1
            omega
          generalize xs[i] = x at *
          have HX0 := Lib.hid x0
          have HX1 := Lib.hid x1
          have HX2 := Lib.hid x2
          have HX3 := Lib.hid x3
          have HRow := Lib.hid hRow
          have hmr := hRow.2.1
          have HST8 := Lib.hid (fun (w' : World) (hb : Below w.heap.size w w') => (show w'.cell? (ad.add (i * 4)) = some (.int .i64 x.f0) ∧ w'.cell? ⟨(ad.add (i * 4)).block, (ad.add (i * 4)).off + 1, none⟩ = some (.int .u64 x.f1.f0) ∧ w'.cell? ⟨(ad.add (i * 4)).block, (ad.add (i * 4)).off + 2, none⟩ = some (.int .u32 x.f1.f1) ∧ w'.cell? ⟨(ad.add (i * 4)).block, (ad.add (i * 4)).off + 3, none⟩ = some (.slice AR x.f2.length cr) from ⟨pw_cell_below hb x0, pw_cell_below hb x1, pw_cell_below hb x2, pw_cell_below hb x3⟩))
          clear hRow x0 x1 x2 x3 HX0 HX1 HX2 HX3 hb0
          go_upto_region 1 with (fail)
          go_cut [12] from 33 to 40 (fun s12 wx => ∃ B : Nat, s12 = .pointer (some ⟨B, 0, none⟩) ∧ Hid (wx.heap[B]? = some (.cells #[.int .i64 (whereS s P x.f2 p).f0, .int .i64 (whereS s P x.f2 p).f1] 31 (0, 0))) ∧ Hid (Below wp.heap.size wp wx))
          case first =>
            obtain ⟨q0, q1, q2, q3, q4⟩ := HSP.out.box
            obtain ⟨x0, x1, x2, x3⟩ := HST8.out _ HSP.out.hB
            have HBD := Lib.hid (show Below wp.heap.size wp wp.drew from (Below.refl _ wp).drew)
            have HBA := Lib.hid (show Below wp.heap.size wp (wp.alloc (.cells #[.int .i64 0, .int .i64 0] 31)).drew from ((Below.refl wp.heap.size wp).alloc (Nat.le_refl _) _).drew)
            have HS := Lib.hid (fun (w' : World) (hb : Below wp.heap.size wp w') => (show w'.cell? ⟨w.heap.size, 0, none⟩ = some (.int .i64 nn) ∧ w'.cell? ⟨w.heap.size, 1, none⟩ = some (.int .i64 s) ∧ w'.cell? ⟨w.heap.size, 2, none⟩ = some (.int .i64 k) ∧ w'.cell? ⟨w.heap.size, 3, none⟩ = some (.slice A3 T.length c3) ∧ w'.cell? ⟨w.heap.size, 4, none⟩ = some (.slice A4 P.length c4) ∧ w'.cell? ⟨(ad.add (i * 4)).block, (ad.add (i * 4)).off + 3, none⟩ = some (.slice AR x.f2.length cr) from ⟨pw_cell_below hb q0, pw_cell_below hb q1, pw_cell_below hb q2, pw_cell_below hb q3, pw_cell_below hb q4, pw_cell_below hb x3⟩))
            clear q0 q1 q2 q3 q4 x0 x1 x2 x3
            go_region_held3 (fun w' => w'.cell? ⟨w.heap.size, 0, none⟩ = some (.int .i64 nn) ∧ w'.cell? ⟨w.heap.size, 1, none⟩ = some (.int .i64 s) ∧ w'.cell? ⟨w.heap.size, 2, none⟩ = some (.int .i64 k) ∧ w'.cell? ⟨w.heap.size, 3, none⟩ = some (.slice A3 T.length c3) ∧ w'.cell? ⟨w.heap.size, 4, none⟩ = some (.slice A4 P.length c4) ∧ w'.cell? ⟨(ad.add (i * 4)).block, (ad.add (i * 4)).off + 3, none⟩ = some (.slice AR x.f2.length cr))
              (first | exact HS.out _ HBD.out | exact HS.out _ HBA.out | exact HS.out _ HBN.out | exact HS.out _ (HBN.out.alloc HBN.out.size _) | exact HS.out _ ((HBN.out.setCell (p := ⟨wp.heap.size, 0, none⟩) (Nat.le_refl _) _).setCell (p := ⟨wp.heap.size, 1, none⟩) (Nat.le_refl _) _))
              (first
                | (go_at_call 46; refine (where2_calls nn s k T P A3 c3 A4 c4 p AR cr x.f2 wp.drew (HR.out.below (HSP.out.hB.trans (HBD.out.mono HSP.out.hB.size))) HG.out.hs.1 HG.out.hs.2 (by omega) (by omega) (Kd.C_below HRow.out (HSP.out.hB.trans (HBD.out.mono HSP.out.hB.size))) hle).mono ?_; rintro e w3 ⟨rfl, hb⟩; have HBN := Lib.hid (HBD.out.trans (hb.mono HBD.out.size)); clear hb)
                | (go_at_call 46; refine (where2_calls nn s k T P A3 c3 A4 c4 p AR cr x.f2 (wp.alloc (.cells #[.int .i64 0, .int .i64 0] 31)).drew (HR.out.below (HSP.out.hB.trans (HBA.out.mono HSP.out.hB.size))) HG.out.hs.1 HG.out.hs.2 (by omega) (by omega) (Kd.C_below HRow.out (HSP.out.hB.trans (HBA.out.mono HSP.out.hB.size))) hle).mono ?_; rintro e w3 ⟨rfl, hb⟩; have HBN := Lib.hid (HBA.out.trans (hb.mono HBA.out.size)); have bz := blk_below (show (wp.alloc (.cells #[.int .i64 0, .int .i64 0] 31)).drew.heap[wp.heap.size]? = some (.cells #[.int .i64 0, .int .i64 0] 31 (0, 0)) from heap_alloc_new wp _) hb; have BZ := Lib.hid bz; have g0 := (blk_cell bz 0).trans rfl; have g1 := (blk_cell bz 1).trans rfl; have k0 := blk_frozen bz 0; have k1 := blk_frozen bz 1; clear hb bz))
            · go_wp2_with (fail)
              go_meet
              case rel => exact ⟨_, rfl, Lib.hid (heap_alloc_new _ _), Lib.hid (HBN.out.alloc HBN.out.size _)⟩
            · go_wp2_with (fail)
              go_meet
              case rel => exact ⟨_, rfl, Lib.hid (blk_set (blk_set BZ.out 0 _) 1 _), Lib.hid ((HBN.out.setCell (p := ⟨wp.heap.size, 0, none⟩) (Nat.le_refl _) _).setCell (p := ⟨wp.heap.size, 1, none⟩) (Nat.le_refl _) _)⟩
          case rest =>
            obtain ⟨B, rfl, HBB, HBX⟩ := hcut
            have H3 := Lib.hid (HSP.out.below HBX.out)
            obtain ⟨q0, q1, q2, q3, q4⟩ := H3.out.box
            have s0 := (blk_cell HBB.out 0).trans rfl
            have s1 := (blk_cell HBB.out 1).trans rfl
            have HHIT := Lib.hid (show hitP nn s k P x p j = (hasB (nodesL nn s k P (whereS s P x.f2 p).f0 (whereS s P x.f2 p).f1) (j : Int) && decide ((rd_T66 P p).f1 = x.f0)) from rfl)
            have HINS := Lib.hid (show insOf P (whereS s P x.f2 p) x = ⟨whereS s P x.f2 p, ⟨x.f1, rowL (rd_T66 P p).f2 x.f2, 0⟩⟩ from rfl)
            obtain ⟨ap, B2, d2, B3, d3, e1, hc0, hc1, hc2, hc3, hc4, hc5, hl2, hC2, hl3, hC3⟩ := at_T66 HR.out.rP p (by omega) (by omega)
            simp only [Int.toNat_natCast] at hc0 hc1 hc2 hc3 hc4 hc5
            cases e1
            have HPJ := Lib.hid (fun (w' : World) (hb : Below w.heap.size w w') => (show w'.cell? (ap.add (p * 6)) = some (.string (rd_T66 P p).f0) ∧ w'.cell? ⟨(ap.add (p * 6)).block, (ap.add (p * 6)).off + 1, none⟩ = some (.int .i64 (rd_T66 P p).f1) ∧ w'.cell? ⟨(ap.add (p * 6)).block, (ap.add (p * 6)).off + 2, none⟩ = some (.slice B2 (rd_T66 P p).f2.length d2) ∧ w'.cell? ⟨(ap.add (p * 6)).block, (ap.add (p * 6)).off + 3, none⟩ = some (.slice B3 (rd_T66 P p).f3.length d3) ∧ w'.cell? ⟨(ap.add (p * 6)).block, (ap.add (p * 6)).off + 4, none⟩ = some (.int .i64 (rd_T66 P p).f4) ∧ w'.cell? ⟨(ap.add (p * 6)).block, (ap.add (p * 6)).off + 5, none⟩ = some (.int .i64 (rd_T66 P p).f5) from ⟨pw_cell_below hb hc0, pw_cell_below hb hc1, pw_cell_below hb hc2, pw_cell_below hb hc3, pw_cell_below hb hc4, pw_cell_below hb hc5⟩))
            have HPR := Lib.hid (show ProjR w (rd_T66 P p) B2 d2 B3 d3 from ⟨hC2, hl2, hC3, hl3⟩)
            have H8p := Lib.hid (H8.out p (by omega) (by omega))
            clear hc0 hc1 hc2 hc3 hc4 hc5 hC2 hC3
            generalize whereS s P x.f2 p = y at *
            generalize rd_T66 P p = pj at *
            go_wp2_with (fail)
            refine (nodes2_calls HG.out (HR.out.below H3.out.hB) y.f0 y.f1).mono ?_
            rintro e w4 ⟨AN, cN, rfl, hleN, hCN, hb⟩
            have HCN := Lib.hid hCN
            have hmN := hCN.2.1
            have H4 := Lib.hid (H3.out.below hb)
            have HBB4 := Lib.hid (blk_below HBB.out hb)
            clear hCN hb q0 q1 q2 q3 q4 s0 s1
            generalize nodesL nn s k P y.f0 y.f1 = N at *
            go_wp2_with (fail)
            refine (In_calls AN N.length cN N j w4 rfl HCN.out hleN).mono ?_
            rintro e w5 ⟨rfl, hdr⟩
            have H5 := Lib.hid (H4.out.below (Drawn0.below hdr))
            have HBB5 := Lib.hid (blk_below HBB4.out (Drawn0.below hdr))
            clear hdr
            obtain ⟨q0, q1, q2, q3, q4⟩ := H5.out.box
            obtain ⟨x0, x1, x2, x3⟩ := HST8.out _ H5.out.hB
            obtain ⟨z0, z1, z2, z3, z4, z5⟩ := HPJ.out _ H5.out.hB
            cases hh : hasB N (j : Int)
            · have HE := Lib.hid (show insL P (l0 ++ eachX nn s k P x (p + 1)) j = insL P (l0 ++ eachX nn s k P x p) j by rw [HSUC.out, HONE.out, if_neg (by rw [HHIT.out, hh]; simp), List.append_nil])
              clear hh
              go_wp2_with (fail)
              go_quiet (fail)
              go_wp2
              go_roundg (P.length - (p + 1))
              case rel => exact ⟨p + 1, by go_num, hltp, rfl, Lib.hid (by rw [HE.out]; exact H5.out.below (pw_below_drewN (Below.refl _ _) _))⟩
              case measure => omega
            by_cases hq : pj.f1 = x.f0
            · have HE := Lib.hid (show insL P (l0 ++ eachX nn s k P x (p + 1)) j = insL P (l0 ++ eachX nn s k P x p) j ++ [insOf P y x] by rw [HSUC.out, HONE.out, if_pos (by rw [HHIT.out, hh]; simpa using hq)])
              have dq : (pj.f1 == x.f0) = true := beq_iff_eq.2 hq
              clear hh hq
              go_wp2_with (fail)
              go_quiet (fail)
              go_wp2_with (fail)
              have H6 := Lib.hid (H5.out.below (pw_below_drewN (Below.refl _ _) nq))
              have HBB6 := Lib.hid (show (w5.drewN nq).heap[B]? = some (.cells #[.int .i64 y.f0, .int .i64 y.f1] 31 (0, 0)) from HBB5.out)
              clear q0 q1 q2 q3 q4 x0 x1 x2 x3 z0 z1 z2 z3 z4 z5
              generalize w5.drewN nq = w6 at *
              have hsz6 := H6.out.hB.size
              go_cut [14] from 61 to 77 (fun s14 wx => ∃ (D : Nat) (v : Value), s14 = .pointer (some ⟨D, 0, none⟩) ∧ Hid (wx.heap[D]? = some (.cells #[.int .u64 x.f1.f0, .int .u32 x.f1.f1, v, .int .u64 0] 68 (0, 0))) ∧ Hid (wx.ownsRow w.heap.size 97 4 v pj.f2.length (valCells (rowL pj.f2 x.f2))) ∧ Hid (Below w6.heap.size w6 wx))
              case first =>
                obtain ⟨q0, q1, q2, q3, q4⟩ := H6.out.box
                obtain ⟨x0, x1, x2, x3⟩ := HST8.out _ H6.out.hB
                obtain ⟨z0, z1, z2, z3, z4, z5⟩ := HPJ.out _ H6.out.hB
                have HPR6 := Lib.hid (HPR.out.below H6.out.hB)
                have HRW6 := Lib.hid (Kd.C_below HRow.out H6.out.hB)
                have HBD := Lib.hid (show Below w6.heap.size w6 w6.drew from (Below.refl _ w6).drew)
                have HBA := Lib.hid (show Below w6.heap.size w6 (w6.alloc (.cells #[.int .u64 0, .int .u32 0, .slice none 0 0, .int .u64 0] 68)).drew from ((Below.refl w6.heap.size w6).alloc (Nat.le_refl _) _).drew)
                have HS := Lib.hid (fun (w' : World) (hb : Below w6.heap.size w6 w') => (show w'.cell? ⟨w.heap.size, 4, none⟩ = some (.slice (some ap) P.length c4) ∧ w'.cell? ⟨(ad.add (i * 4)).block, (ad.add (i * 4)).off + 1, none⟩ = some (.int .u64 x.f1.f0) ∧ w'.cell? ⟨(ad.add (i * 4)).block, (ad.add (i * 4)).off + 2, none⟩ = some (.int .u32 x.f1.f1) ∧ w'.cell? ⟨(ad.add (i * 4)).block, (ad.add (i * 4)).off + 3, none⟩ = some (.slice AR x.f2.length cr) ∧ w'.cell? (ap.add (p * 6)) = some (.string pj.f0) ∧ w'.cell? ⟨(ap.add (p * 6)).block, (ap.add (p * 6)).off + 1, none⟩ = some (.int .i64 pj.f1) ∧ w'.cell? ⟨(ap.add (p * 6)).block, (ap.add (p * 6)).off + 2, none⟩ = some (.slice B2 pj.f2.length d2) ∧ w'.cell? ⟨(ap.add (p * 6)).block, (ap.add (p * 6)).off + 3, none⟩ = some (.slice B3 pj.f3.length d3) ∧ w'.cell? ⟨(ap.add (p * 6)).block, (ap.add (p * 6)).off + 4, none⟩ = some (.int .i64 pj.f4) ∧ w'.cell? ⟨(ap.add (p * 6)).block, (ap.add (p * 6)).off + 5, none⟩ = some (.int .i64 pj.f5) from ⟨pw_cell_below hb q4, pw_cell_below hb x1, pw_cell_below hb x2, pw_cell_below hb x3, pw_cell_below hb z0, pw_cell_below hb z1, pw_cell_below hb z2, pw_cell_below hb z3, pw_cell_below hb z4, pw_cell_below hb z5⟩))
                clear q0 q1 q2 q3 q4 x0 x1 x2 x3 z0 z1 z2 z3 z4 z5
                go_region_held3 (fun w' => w'.cell? ⟨w.heap.size, 4, none⟩ = some (.slice (some ap) P.length c4) ∧ w'.cell? ⟨(ad.add (i * 4)).block, (ad.add (i * 4)).off + 1, none⟩ = some (.int .u64 x.f1.f0) ∧ w'.cell? ⟨(ad.add (i * 4)).block, (ad.add (i * 4)).off + 2, none⟩ = some (.int .u32 x.f1.f1) ∧ w'.cell? ⟨(ad.add (i * 4)).block, (ad.add (i * 4)).off + 3, none⟩ = some (.slice AR x.f2.length cr) ∧ w'.cell? (ap.add (p * 6)) = some (.string pj.f0) ∧ w'.cell? ⟨(ap.add (p * 6)).block, (ap.add (p * 6)).off + 1, none⟩ = some (.int .i64 pj.f1) ∧ w'.cell? ⟨(ap.add (p * 6)).block, (ap.add (p * 6)).off + 2, none⟩ = some (.slice B2 pj.f2.length d2) ∧ w'.cell? ⟨(ap.add (p * 6)).block, (ap.add (p * 6)).off + 3, none⟩ = some (.slice B3 pj.f3.length d3) ∧ w'.cell? ⟨(ap.add (p * 6)).block, (ap.add (p * 6)).off + 4, none⟩ = some (.int .i64 pj.f4) ∧ w'.cell? ⟨(ap.add (p * 6)).block, (ap.add (p * 6)).off + 5, none⟩ = some (.int .i64 pj.f5))
                  (first | exact HS.out _ HBD.out | exact HS.out _ HBA.out | exact HS.out _ HBN.out | exact HS.out _ (HBN.out.alloc HBN.out.size _) | exact HS.out _ ((((HBN.out.setCell (p := ⟨w6.heap.size, 0, none⟩) (Nat.le_refl _) _).setCell (p := ⟨w6.heap.size, 1, none⟩) (Nat.le_refl _) _).setCell (p := ⟨w6.heap.size, 2, none⟩) (Nat.le_refl _) _).setCell (p := ⟨w6.heap.size, 3, none⟩) (Nat.le_refl _) _))
                  (first
                    | (go_at_call 47; refine (row2_calls pj B2 d2 B3 d3 AR cr x.f2 w6.drew (HPR6.out.below HBD.out) H8p.out (Kd.C_below HRW6.out HBD.out) hle).mono ?_; rintro e w3 ⟨v, rfl, hown, hb⟩; obtain ⟨Av, cv, rfl⟩ := own_form hown; have HOW := Lib.hid hown; have HBN := Lib.hid (HBD.out.trans (hb.mono HBD.out.size)); clear hown hb)
                    | (go_at_call 47; refine (row2_calls pj B2 d2 B3 d3 AR cr x.f2 (w6.alloc (.cells #[.int .u64 0, .int .u32 0, .slice none 0 0, .int .u64 0] 68)).drew (HPR6.out.below HBA.out) H8p.out (Kd.C_below HRW6.out HBA.out) hle).mono ?_; rintro e w3 ⟨v, rfl, hown, hb⟩; obtain ⟨Av, cv, rfl⟩ := own_form hown; have HOW := Lib.hid hown; have HBN := Lib.hid (HBA.out.trans (hb.mono HBA.out.size)); have bz := blk_below (show (w6.alloc (.cells #[.int .u64 0, .int .u32 0, .slice none 0 0, .int .u64 0] 68)).drew.heap[w6.heap.size]? = some (.cells #[.int .u64 0, .int .u32 0, .slice none 0 0, .int .u64 0] 68 (0, 0)) from heap_alloc_new w6 _) hb; have BZ := Lib.hid bz; have g0 := (blk_cell bz 0).trans rfl; have g1 := (blk_cell bz 1).trans rfl; have g2 := (blk_cell bz 2).trans rfl; have g3 := (blk_cell bz 3).trans rfl; have k0 := blk_frozen bz 0; have k1 := blk_frozen bz 1; have k2 := blk_frozen bz 2; have k3 := blk_frozen bz 3; clear hown hb bz))
                · go_wp2_with (fail)
                  go_meet
                  case rel => exact ⟨_, _, rfl, Lib.hid (heap_alloc_new _ _), Lib.hid ((own_lower HOW.out hsz6).alloc _), Lib.hid (HBN.out.alloc HBN.out.size _)⟩
                · have HLO := Lib.hid (own_lower (b' := w.heap.size) HOW.out (Nat.le_trans hsz6 (by simp)))
                  have hne := own_ne HOW.out BZ.out (by decide)
                  go_wp2_with (fail)
                  go_meet
                  case rel => exact ⟨_, _, rfl, Lib.hid (blk_set (blk_set (blk_set (blk_set BZ.out 0 _) 1 _) 2 _) 3 _), Lib.hid (own_setCell (p := ⟨w6.heap.size, 3, none⟩) (own_setCell (p := ⟨w6.heap.size, 2, none⟩) (own_setCell (p := ⟨w6.heap.size, 1, none⟩) (own_setCell (p := ⟨w6.heap.size, 0, none⟩) HLO.out hne _) hne _) hne _) hne _), Lib.hid ((((HBN.out.setCell (p := ⟨w6.heap.size, 0, none⟩) (Nat.le_refl _) _).setCell (p := ⟨w6.heap.size, 1, none⟩) (Nat.le_refl _) _).setCell (p := ⟨w6.heap.size, 2, none⟩) (Nat.le_refl _) _).setCell (p := ⟨w6.heap.size, 3, none⟩) (Nat.le_refl _) _)⟩
              case rest =>
                obtain ⟨D, vr, rfl, HDD, HOW, HBX⟩ := hcut
                obtain ⟨Av, cv, rfl⟩ := own_form HOW.out
                have H7 := Lib.hid (H6.out.below HBX.out)
                have b7 := blk_below HBB6.out HBX.out
                have s0 := (blk_cell b7 0).trans rfl
                have s1 := (blk_cell b7 1).trans rfl
                have g0 := (blk_cell HDD.out 0).trans rfl
                have g1 := (blk_cell HDD.out 1).trans rfl
                have g2 := (blk_cell HDD.out 2).trans rfl
                have g3 := (blk_cell HDD.out 3).trans rfl
                obtain ⟨LIf, LEf, vI, vE, xI, eI, eE, hp1⟩ := H7.out.pm
                have HP1 := Lib.hid hp1
                have HEI := Lib.hid eI
                have HEE := Lib.hid eE
                have gI := hp1.cellI (j := 0) (by omega)
                rw [Nat.zero_mul] at gI
                have hlI : (LIf 0).length ≤ 700000000 := by rw [eI]; exact hlen2
                have HIS := Lib.hid (show IsIns wc w.heap.size (insOf P y x) [.int .i64 y.f0, .int .i64 y.f1, .int .u64 x.f1.f0, .int .u32 x.f1.f1, .slice Av pj.f2.length cv, .int .u64 0] by
                  rw [HINS.out]
                  exact ⟨_, rfl, by
                    show wc.ownsRow _ 97 4 _ (rowL pj.f2 x.f2).length (valCells (rowL pj.f2 x.f2))
                    rw [show (rowL pj.f2 x.f2).length = pj.f2.length by simp [rowL]]
                    exact HOW.out⟩)
                clear eI eE hp1 b7
                go_wp2_with (at_builtin; refine print_append_cells (w0 := w) w.heap.size rfl (.tmp 79) (.tmp 83) 59 70 (.agg #[.int .i64 0, .int .i64 0, .int .u64 0, .int .u32 0, .slice none 0 0, .int .u64 0]) 6 64 rfl Try.underlying59 info70 rfl (by decide) (by decide) (vI 0) (LIf 0).length (xI 0) [.int .i64 y.f0, .int .i64 y.f1, .int .u64 x.f1.f0, .int .u32 x.f1.f1, .slice Av pj.f2.length cv, .int .u64 0] rfl rfl rfl (by simp [Value.oneCell']) (HP1.out.fI.own 0 (by omega)) H7.out.hB H7.out.hB.size ?hl ?_; (case hl => omega); intro v9 w9 hown hB hg hat; obtain ⟨A9, d9, rfl⟩ := own_form hown; have hG9 := blk_grown HP1.out.blk hg (own_ne (HP1.out.fI.own 0 (by omega)) HP1.out.blk (by decide)); have c9 := (blk_cell hG9 0).trans (by rw [pc_cell, if_pos (by omega), if_pos (by omega)]); have k9 := blk_frozen hG9 0; have HN := Lib.hid (H7.out.ins HP1.out HEI.out HEE.out hown hg hat (HIS.out.other (HP1.out.fI.own 0 (by omega)) (by decide) hg) rfl); clear hown hB hg hat hG9)
                go_roundg (P.length - (p + 1))
                case rel => exact ⟨p + 1, by go_num, hltp, rfl, Lib.hid (by rw [HE.out]; exact HN.out)⟩
                case measure => omega
            · have HE := Lib.hid (show insL P (l0 ++ eachX nn s k P x (p + 1)) j = insL P (l0 ++ eachX nn s k P x p) j by rw [HSUC.out, HONE.out, if_neg (by rw [HHIT.out, hh]; simpa using hq), List.append_nil])
              have dq : (pj.f1 == x.f0) = false := beq_eq_false_iff_ne.2 hq
              clear hh hq
              go_wp2_with (fail)
              go_quiet (fail)
              go_wp2
              go_roundg (P.length - (p + 1))
              case rel => exact ⟨p + 1, by go_num, hltp, rfl, Lib.hid (by rw [HE.out]; exact H5.out.below (pw_below_drewN (Below.refl _ _) _))⟩
              case measure => omega
        · obtain rfl : p = P.length := by omega
          go_wp2
          go_roundg (xs.length - (i + 1))
          case rel => exact ⟨i + 1, by go_num, hlt, rfl, Lib.hid (by rw [HALL.out]; exact HSP.out)⟩
          case measure => omega
    · obtain rfl : i = xs.length := by omega
      rw [List.take_length] at HST
      obtain ⟨L, hL⟩ : ∃ L, L = insL P (eachAll nn s k P xs) j := ⟨_, rfl⟩
      rw [← hL] at HST
      have HL := Lib.hid hL
      clear hL
      go_wp2
      go_loopg [15] ys.length (fun g v wr => ∃ i : Nat, v = .int .i64 i ∧ i ≤ ys.length ∧ g = ys.length - i ∧ Hid (PS1 wr w w.heap.size (w.heap.size + 1) (w.heap.size + 1 + 1) nn s k T P A3 c3 A4 c4 L (eraL (eachAll nn s k P (ys.take i)) j)))
      case atStart => exact ⟨0, rfl, Nat.zero_le _, rfl, HST⟩
      case round =>
        obtain ⟨i, rfl, hi, rfl, HST⟩ := hrel
        obtain ⟨wo, rfl⟩ : ∃ wo : World, wo = wr := ⟨_, rfl⟩
        by_cases hlt : i < ys.length
        · have HIX := Lib.hid (show rd_T57 ys i = ys[i] by simp [rd_T57, List.getD_eq_getElem?_getD, hlt])
          have HALL := Lib.hid (show eraL (eachAll nn s k P (ys.take (i + 1))) j = eraL (eachAll nn s k P (ys.take i) ++ eachX nn s k P ys[i] P.length) j by rw [eachAll_succ _ _ _ _ hlt])
          have HLEN := Lib.hid (show (eachAll nn s k P (ys.take i)).length ≤ 64 * ys.length from Nat.le_trans (eachAll_len _ _ _ _ ys i) (eachAll_le HG.out ys))
          generalize eachAll nn s k P (ys.take i) = l0 at *
          go_wp2
          go_loopg [16] P.length (fun g v wr => ∃ p : Nat, v = .int .i64 p ∧ p ≤ P.length ∧ g = P.length - p ∧ Hid (PS1 wr w w.heap.size (w.heap.size + 1) (w.heap.size + 1 + 1) nn s k T P A3 c3 A4 c4 L (eraL (l0 ++ eachX nn s k P ys[i] p) j)))
          case atStart => exact ⟨0, rfl, Nat.zero_le _, rfl, Lib.hid (by have := HST.out; simpa [eachX] using this)⟩
          case round =>
            obtain ⟨p, rfl, hp, rfl, HSP⟩ := hrel
            obtain ⟨wp, rfl⟩ : ∃ wp : World, wp = wr := ⟨_, rfl⟩
            obtain ⟨q0, q1, q2, q3, q4⟩ := HSP.out.box
            by_cases hltp : p < P.length
            · have hb0 := HSP.out.hB
              obtain ⟨ad, AR, cr, e1, x0, x1, x2, x3, hle, hRow⟩ := at_T57 HY.out i (by omega) (by omega)
              simp only [Int.toNat_natCast] at x0 x1 x2 x3
              cases e1
              rw [HIX.out] at x0 x1 x2 x3 hle hRow
              have HONE := Lib.hid (eraL_one HG.out ys[i] p j (l0 ++ eachX nn s k P ys[i] p))
              have HSUC := Lib.hid (show l0 ++ eachX nn s k P ys[i] (p + 1) = l0 ++ eachX nn s k P ys[i] p ++ eachOne nn s k P ys[i] p by rw [eachX_succ, List.append_assoc])
              have hlen2 : (eraL (l0 ++ eachX nn s k P ys[i] p) j).length ≤ 700000000 := by
                have h1 := eraL_len (l0 ++ eachX nn s k P ys[i] p) j
                have h2 := eachX_le HG.out ys[i] p
                have h3 := HLEN.out
                have h4 := HG.out.hP
                rw [List.length_append] at h1
                omega
              generalize ys[i] = x at *
              have HX0 := Lib.hid x0
              have HX1 := Lib.hid x1
              have HX2 := Lib.hid x2
              have HX3 := Lib.hid x3
              have HRow := Lib.hid hRow
              have hmr := hRow.2.1
              have HST8 := Lib.hid (fun (w' : World) (hb : Below w.heap.size w w') => (show w'.cell? (ad.add (i * 4)) = some (.int .i64 x.f0) ∧ w'.cell? ⟨(ad.add (i * 4)).block, (ad.add (i * 4)).off + 1, none⟩ = some (.int .u64 x.f1.f0) ∧ w'.cell? ⟨(ad.add (i * 4)).block, (ad.add (i * 4)).off + 2, none⟩ = some (.int .u32 x.f1.f1) ∧ w'.cell? ⟨(ad.add (i * 4)).block, (ad.add (i * 4)).off + 3, none⟩ = some (.slice AR x.f2.length cr) from ⟨pw_cell_below hb x0, pw_cell_below hb x1, pw_cell_below hb x2, pw_cell_below hb x3⟩))
              clear hRow x0 x1 x2 x3 HX0 HX1 HX2 HX3 hb0
              go_upto_region 1 with (fail)
              go_cut [17] from 99 to 106 (fun s12 wx => ∃ B : Nat, s12 = .pointer (some ⟨B, 0, none⟩) ∧ Hid (wx.heap[B]? = some (.cells #[.int .i64 (whereS s P x.f2 p).f0, .int .i64 (whereS s P x.f2 p).f1] 31 (0, 0))) ∧ Hid (Below wp.heap.size wp wx))
              case first =>
                obtain ⟨q0, q1, q2, q3, q4⟩ := HSP.out.box
                obtain ⟨x0, x1, x2, x3⟩ := HST8.out _ HSP.out.hB
                have HBD := Lib.hid (show Below wp.heap.size wp wp.drew from (Below.refl _ wp).drew)
                have HBA := Lib.hid (show Below wp.heap.size wp (wp.alloc (.cells #[.int .i64 0, .int .i64 0] 31)).drew from ((Below.refl wp.heap.size wp).alloc (Nat.le_refl _) _).drew)
                have HS := Lib.hid (fun (w' : World) (hb : Below wp.heap.size wp w') => (show w'.cell? ⟨w.heap.size, 0, none⟩ = some (.int .i64 nn) ∧ w'.cell? ⟨w.heap.size, 1, none⟩ = some (.int .i64 s) ∧ w'.cell? ⟨w.heap.size, 2, none⟩ = some (.int .i64 k) ∧ w'.cell? ⟨w.heap.size, 3, none⟩ = some (.slice A3 T.length c3) ∧ w'.cell? ⟨w.heap.size, 4, none⟩ = some (.slice A4 P.length c4) ∧ w'.cell? ⟨(ad.add (i * 4)).block, (ad.add (i * 4)).off + 3, none⟩ = some (.slice AR x.f2.length cr) from ⟨pw_cell_below hb q0, pw_cell_below hb q1, pw_cell_below hb q2, pw_cell_below hb q3, pw_cell_below hb q4, pw_cell_below hb x3⟩))
                clear q0 q1 q2 q3 q4 x0 x1 x2 x3
                go_region_held3 (fun w' => w'.cell? ⟨w.heap.size, 0, none⟩ = some (.int .i64 nn) ∧ w'.cell? ⟨w.heap.size, 1, none⟩ = some (.int .i64 s) ∧ w'.cell? ⟨w.heap.size, 2, none⟩ = some (.int .i64 k) ∧ w'.cell? ⟨w.heap.size, 3, none⟩ = some (.slice A3 T.length c3) ∧ w'.cell? ⟨w.heap.size, 4, none⟩ = some (.slice A4 P.length c4) ∧ w'.cell? ⟨(ad.add (i * 4)).block, (ad.add (i * 4)).off + 3, none⟩ = some (.slice AR x.f2.length cr))
                  (first | exact HS.out _ HBD.out | exact HS.out _ HBA.out | exact HS.out _ HBN.out | exact HS.out _ (HBN.out.alloc HBN.out.size _) | exact HS.out _ ((HBN.out.setCell (p := ⟨wp.heap.size, 0, none⟩) (Nat.le_refl _) _).setCell (p := ⟨wp.heap.size, 1, none⟩) (Nat.le_refl _) _))
                  (first
                    | (go_at_call 46; refine (where2_calls nn s k T P A3 c3 A4 c4 p AR cr x.f2 wp.drew (HR.out.below (HSP.out.hB.trans (HBD.out.mono HSP.out.hB.size))) HG.out.hs.1 HG.out.hs.2 (by omega) (by omega) (Kd.C_below HRow.out (HSP.out.hB.trans (HBD.out.mono HSP.out.hB.size))) hle).mono ?_; rintro e w3 ⟨rfl, hb⟩; have HBN := Lib.hid (HBD.out.trans (hb.mono HBD.out.size)); clear hb)
                    | (go_at_call 46; refine (where2_calls nn s k T P A3 c3 A4 c4 p AR cr x.f2 (wp.alloc (.cells #[.int .i64 0, .int .i64 0] 31)).drew (HR.out.below (HSP.out.hB.trans (HBA.out.mono HSP.out.hB.size))) HG.out.hs.1 HG.out.hs.2 (by omega) (by omega) (Kd.C_below HRow.out (HSP.out.hB.trans (HBA.out.mono HSP.out.hB.size))) hle).mono ?_; rintro e w3 ⟨rfl, hb⟩; have HBN := Lib.hid (HBA.out.trans (hb.mono HBA.out.size)); have bz := blk_below (show (wp.alloc (.cells #[.int .i64 0, .int .i64 0] 31)).drew.heap[wp.heap.size]? = some (.cells #[.int .i64 0, .int .i64 0] 31 (0, 0)) from heap_alloc_new wp _) hb; have BZ := Lib.hid bz; have g0 := (blk_cell bz 0).trans rfl; have g1 := (blk_cell bz 1).trans rfl; have k0 := blk_frozen bz 0; have k1 := blk_frozen bz 1; clear hb bz))
                · go_wp2_with (fail)
                  go_meet
                  case rel => exact ⟨_, rfl, Lib.hid (heap_alloc_new _ _), Lib.hid (HBN.out.alloc HBN.out.size _)⟩
                · go_wp2_with (fail)
                  go_meet
                  case rel => exact ⟨_, rfl, Lib.hid (blk_set (blk_set BZ.out 0 _) 1 _), Lib.hid ((HBN.out.setCell (p := ⟨wp.heap.size, 0, none⟩) (Nat.le_refl _) _).setCell (p := ⟨wp.heap.size, 1, none⟩) (Nat.le_refl _) _)⟩
              case rest =>
                obtain ⟨B, rfl, HBB, HBX⟩ := hcut
                have H3 := Lib.hid (HSP.out.below HBX.out)
                obtain ⟨q0, q1, q2, q3, q4⟩ := H3.out.box
                have s0 := (blk_cell HBB.out 0).trans rfl
                have s1 := (blk_cell HBB.out 1).trans rfl
                have HHIT := Lib.hid (show hitP nn s k P x p j = (hasB (nodesL nn s k P (whereS s P x.f2 p).f0 (whereS s P x.f2 p).f1) (j : Int) && decide ((rd_T66 P p).f1 = x.f0)) from rfl)
                obtain ⟨ap, B2, d2, B3, d3, e1, hc0, hc1, hc2, hc3, hc4, hc5, hl2, hC2, hl3, hC3⟩ := at_T66 HR.out.rP p (by omega) (by omega)
                simp only [Int.toNat_natCast] at hc0 hc1 hc2 hc3 hc4 hc5
                cases e1
                have HPJ := Lib.hid (fun (w' : World) (hb : Below w.heap.size w w') => (show w'.cell? (ap.add (p * 6)) = some (.string (rd_T66 P p).f0) ∧ w'.cell? ⟨(ap.add (p * 6)).block, (ap.add (p * 6)).off + 1, none⟩ = some (.int .i64 (rd_T66 P p).f1) ∧ w'.cell? ⟨(ap.add (p * 6)).block, (ap.add (p * 6)).off + 2, none⟩ = some (.slice B2 (rd_T66 P p).f2.length d2) ∧ w'.cell? ⟨(ap.add (p * 6)).block, (ap.add (p * 6)).off + 3, none⟩ = some (.slice B3 (rd_T66 P p).f3.length d3) ∧ w'.cell? ⟨(ap.add (p * 6)).block, (ap.add (p * 6)).off + 4, none⟩ = some (.int .i64 (rd_T66 P p).f4) ∧ w'.cell? ⟨(ap.add (p * 6)).block, (ap.add (p * 6)).off + 5, none⟩ = some (.int .i64 (rd_T66 P p).f5) from ⟨pw_cell_below hb hc0, pw_cell_below hb hc1, pw_cell_below hb hc2, pw_cell_below hb hc3, pw_cell_below hb hc4, pw_cell_below hb hc5⟩))
                have HPR := Lib.hid (show ProjR w (rd_T66 P p) B2 d2 B3 d3 from ⟨hC2, hl2, hC3, hl3⟩)
                have H8p := Lib.hid (H8.out p (by omega) (by omega))
                clear hc0 hc1 hc2 hc3 hc4 hc5 hC2 hC3
                generalize whereS s P x.f2 p = y at *
                generalize rd_T66 P p = pj at *
                go_wp2_with (fail)
                refine (nodes2_calls HG.out (HR.out.below H3.out.hB) y.f0 y.f1).mono ?_
                rintro e w4 ⟨AN, cN, rfl, hleN, hCN, hb⟩
                have HCN := Lib.hid hCN
                have hmN := hCN.2.1
                have H4 := Lib.hid (H3.out.below hb)
                have HBB4 := Lib.hid (blk_below HBB.out hb)
                clear hCN hb q0 q1 q2 q3 q4 s0 s1
                generalize nodesL nn s k P y.f0 y.f1 = N at *
                go_wp2_with (fail)
                refine (In_calls AN N.length cN N j w4 rfl HCN.out hleN).mono ?_
                rintro e w5 ⟨rfl, hdr⟩
                have H5 := Lib.hid (H4.out.below (Drawn0.below hdr))
                have HBB5 := Lib.hid (blk_below HBB4.out (Drawn0.below hdr))
                clear hdr
                obtain ⟨q0, q1, q2, q3, q4⟩ := H5.out.box
                obtain ⟨x0, x1, x2, x3⟩ := HST8.out _ H5.out.hB
                obtain ⟨z0, z1, z2, z3, z4, z5⟩ := HPJ.out _ H5.out.hB
                cases hh : hasB N (j : Int)
                · have HE := Lib.hid (show eraL (l0 ++ eachX nn s k P x (p + 1)) j = eraL (l0 ++ eachX nn s k P x p) j by rw [HSUC.out, HONE.out, if_neg (by rw [HHIT.out, hh]; simp), List.append_nil])
                  clear hh
                  go_wp2_with (fail)
                  go_quiet (fail)
                  go_wp2
                  go_roundg (P.length - (p + 1))
                  case rel => exact ⟨p + 1, by go_num, hltp, rfl, Lib.hid (by rw [HE.out]; exact H5.out.below (pw_below_drewN (Below.refl _ _) _))⟩
                  case measure => omega
                by_cases hq : pj.f1 = x.f0
                · have HE := Lib.hid (show eraL (l0 ++ eachX nn s k P x (p + 1)) j = eraL (l0 ++ eachX nn s k P x p) j ++ [⟨y, x.f1⟩] by rw [HSUC.out, HONE.out, if_pos (by rw [HHIT.out, hh]; simpa using hq)])
                  have dq : (pj.f1 == x.f0) = true := beq_iff_eq.2 hq
                  clear hh hq
                  go_wp2_with (fail)
                  go_quiet (fail)
                  have H6 := Lib.hid (H5.out.below (pw_below_drewN (Below.refl _ _) nq))
                  have HBB6 := Lib.hid (show (w5.drewN nq).heap[B]? = some (.cells #[.int .i64 y.f0, .int .i64 y.f1] 31 (0, 0)) from HBB5.out)
                  clear q0 q1 q2 q3 q4 x0 x1 x2 x3 z0 z1 z2 z3 z4 z5
                  generalize w5.drewN nq = w6 at *
                  go_wp2_with (fail)
                  obtain ⟨i0, hi0, hz0, hz1, hz2⟩ := info_parts info72
                  obtain ⟨LIf, LEf, vI, vE, xI, eI, eE, hp1⟩ := H6.out.pm
                  have HP1 := Lib.hid hp1
                  have HEI := Lib.hid eI
                  have HEE := Lib.hid eE
                  have hlE : (LEf 0).length ≤ 700000000 := by rw [eE]; exact hlen2
                  have gE := hp1.cellE (j := 0) (by omega)
                  rw [Nat.zero_mul] at gE
                  have hO := hp1.fE.own 0 (by omega)
                  have s0 := (blk_cell HBB6.out 0).trans rfl
                  have s1 := (blk_cell HBB6.out 1).trans rfl
                  obtain ⟨_, x1, x2, _⟩ := HST8.out _ H6.out.hB
                  have HX6 := Lib.hid (hp1.below (((Below.refl w6.heap.size w6).alloc (Nat.le_refl _) (.cells #[.int .i64 y.f0, .int .i64 y.f1, .int .u64 x.f1.f0, .int .u32 x.f1.f1] 72)).drew))
                  have HS6 := Lib.hid (H6.out.below (((Below.refl w6.heap.size w6).alloc (Nat.le_refl _) (.cells #[.int .i64 y.f0, .int .i64 y.f1, .int .u64 x.f1.f0, .int .u32 x.f1.f1] 72)).drew))
                  have hsz6 := H6.out.hB.size
                  clear eI eE hp1
                  generalize hv : vE 0 = v at *
                  have HO := Lib.hid hO
                  have HS := Lib.hid (fun (w' : World) (hb : Below w6.heap.size w6 w') => (show w'.cell? ⟨w.heap.size + 1 + 1, 1, none⟩ = some v ∧ w'.cell? ⟨B, 0, none⟩ = some (.int .i64 y.f0) ∧ w'.cell? ⟨B, 1, none⟩ = some (.int .i64 y.f1) ∧ w'.cell? ⟨(ad.add (i * 4)).block, (ad.add (i * 4)).off + 1, none⟩ = some (.int .u64 x.f1.f0) ∧ w'.cell? ⟨(ad.add (i * 4)).block, (ad.add (i * 4)).off + 2, none⟩ = some (.int .u32 x.f1.f1) from ⟨pw_cell_below hb gE, pw_cell_below hb s0, pw_cell_below hb s1, pw_cell_below hb x1, pw_cell_below hb x2⟩))
                  have HBD := Lib.hid (show Below w6.heap.size w6 w6.drew from (Below.refl _ w6).drew)
                  have HBA := Lib.hid (show Below w6.heap.size w6 (w6.alloc (.cells #[.int .i64 y.f0, .int .i64 y.f1, .int .u64 x.f1.f0, .int .u32 x.f1.f1] 72)).drew from ((Below.refl w6.heap.size w6).alloc (Nat.le_refl _) (.cells #[.int .i64 y.f0, .int .i64 y.f1, .int .u64 x.f1.f0, .int .u32 x.f1.f1] 72)).drew)
                  clear hO gE s0 s1 x1 x2
                  refine wp_region_sinkB 12 (fun w' => w'.cell? ⟨w.heap.size + 1 + 1, 1, none⟩ = some v ∧ w'.cell? ⟨B, 0, none⟩ = some (.int .i64 y.f0) ∧ w'.cell? ⟨B, 1, none⟩ = some (.int .i64 y.f1) ∧ w'.cell? ⟨(ad.add (i * 4)).block, (ad.add (i * 4)).off + 1, none⟩ = some (.int .u64 x.f1.f0) ∧ w'.cell? ⟨(ad.add (i * 4)).block, (ad.add (i * 4)).off + 2, none⟩ = some (.int .u32 x.f1.f1)) (by kernel_rfl) rfl rfl rfl rfl (by kernel_rfl) (by kernel_rfl) (by kernel_rfl) ?_
                  refine wpAnyH_take (i := 0) (v := ?_) rfl (by kernel_rfl) (by kernel_rfl) (by kernel_rfl) (fun _ _ _ h => ⟨(fun e => by cases e), fun e => h.2 e⟩) (Or.inl ⟨by rfl, fun w' hS => ?_⟩) (HS.out _ HBD.out) ?_
                  rotate_left
                  · obtain ⟨a1, a2, a3, a4, a5⟩ := hS
                    go_simp
                    try rfl
                  refine wpAnyH_take (i := 1) (v := ?_) rfl (by kernel_rfl) (by kernel_rfl) (by kernel_rfl) (fun _ _ _ h => ⟨(fun e => by cases e), fun e => h.2 e⟩) (Or.inl ⟨by rfl, fun w' hS => ?_⟩) (HS.out _ HBD.out) ?_
                  rotate_left
                  · obtain ⟨a1, a2, a3, a4, a5⟩ := hS
                    go_simp
                    try rfl
                  refine wpAnyH_take (i := 2) (v := ?_) rfl (by kernel_rfl) (by kernel_rfl) (by kernel_rfl) (fun _ _ _ h => ⟨(fun e => by cases e), fun e => h.2 e⟩) (Or.inl ⟨by rfl, fun w' hS => ?_⟩) (HS.out _ HBD.out) ?_
                  rotate_left
                  · obtain ⟨a1, a2, a3, a4, a5⟩ := hS
                    go_simp
                    try rfl
                  refine wpAnyH_take (i := 3) (v := ?_) rfl (by kernel_rfl) (by kernel_rfl) (by kernel_rfl) (fun _ _ _ h => ⟨(fun e => by cases e), fun e => h.2 e⟩) (Or.inl ⟨by rfl, fun w' hS => ?_⟩) (HS.out _ HBD.out) ?_
                  rotate_left
                  · obtain ⟨a1, a2, a3, a4, a5⟩ := hS
                    go_simp
                    try rfl
                  refine wpAnyH_take (i := 4) (v := ?_) rfl (by kernel_rfl) (by kernel_rfl) (by kernel_rfl) (fun _ _ _ h => ⟨(fun e => by cases e), fun e => h.2 e⟩) (Or.inl ⟨by rfl, fun w' hS => ?_⟩) (HS.out _ HBD.out) ?_
                  rotate_left
                  · obtain ⟨a1, a2, a3, a4, a5⟩ := hS
                    go_simp
                    try rfl
                  refine wpAnyH_take (i := 5) (v := ?_) rfl (by kernel_rfl) (by kernel_rfl) (by kernel_rfl) (fun _ _ _ h => ⟨(fun e => by cases e), fun e => h.2 e⟩) (Or.inl ⟨by rfl, fun w' hS => ?_⟩) (HS.out _ HBD.out) ?_
                  rotate_left
                  · obtain ⟨a1, a2, a3, a4, a5⟩ := hS
                    go_simp
                    try rfl
                  refine wpAnyH_take (i := 6) (v := ?_) rfl (by kernel_rfl) (by kernel_rfl) (by kernel_rfl) (fun _ _ _ h => ⟨(fun e => by cases e), fun e => h.2 e⟩) (Or.inl ⟨by rfl, fun w' hS => ?_⟩) (HS.out _ HBD.out) ?_
                  rotate_left
                  · obtain ⟨a1, a2, a3, a4, a5⟩ := hS
                    go_simp
                    try rfl
                  refine wpAnyH_take (i := 7) (v := ?_) rfl (by kernel_rfl) (by kernel_rfl) (by kernel_rfl) (fun _ _ _ h => ⟨(fun e => by cases e), fun e => h.2 e⟩) (Or.inl ⟨by rfl, fun w' hS => ?_⟩) (HS.out _ HBD.out) ?_
                  rotate_left
                  · obtain ⟨a1, a2, a3, a4, a5⟩ := hS
                    go_simp
                    try rfl
                  refine wpAnyH_take (i := 8) (v := ?_) rfl (by kernel_rfl) (by kernel_rfl) (by kernel_rfl) (fun _ _ _ h => ⟨(fun e => by cases e), fun e => h.2 e⟩) (Or.inl ⟨by rfl, fun w' hS => ?_⟩) (HS.out _ HBD.out) ?_
                  rotate_left
                  · obtain ⟨a1, a2, a3, a4, a5⟩ := hS
                    go_simp
                    try rfl
                  refine wpAnyH_ready (rs := [9]) (by kernel_rfl) (by simp) ?_
                  refine AllReadyH.cons rfl (fun K hK => ?_) AllReadyH.nil
                  go_simp
                  refine hK.out _ _ (HS.out _ HBA.out) (fun hHeld => ?_)
                  clear hK K
                  refine wpAnyH_ready (rs := [10]) (by kernel_rfl) (by simp) ?_
                  refine AllReadyH.cons rfl (fun K hK => ?_) AllReadyH.nil
                  refine step_append_lies _ (by rfl) _ _ 60 (by rfl) w.heap.size 72 i0 _ 4 32 Try.underlying60 hi0 hz0 hz1 hz2 rfl (by decide) v _ _ (by rfl) ((HO.out.alloc _).drew)
                    ⟨w6.heap.size, 0, none⟩ 1 1 [.int .i64 y.f0, .int .i64 y.f1, .int .u64 x.f1.f0, .int .u32 x.f1.f1] (by rfl) (by rfl) (World.news_of_block (cs := #[.int .i64 y.f0, .int .i64 y.f1, .int .u64 x.f1.f0, .int .u32 x.f1.f1]) (t := 72) (fr := (0, 0)) (heap_alloc_new w6 _)) (by simp [Value.oneCell'])
                    (by decide) (by simp only [maxLen]; omega) (by omega) (by simp; omega) (w6.heap.size + 1) (by simp) ?_
                  intro gg cap w1 hown1 hgrow hat hlt1
                  have hG1 := blk_grown HX6.out.blk (by rw [hv]; exact hgrow) (own_ne (HX6.out.fE.own 0 (by omega)) HX6.out.blk (by decide))
                  have hB1 := blk_grown (w := (w6.alloc (.cells #[.int .i64 y.f0, .int .i64 y.f1, .int .u64 x.f1.f0, .int .u32 x.f1.f1] 72)).drew) (blk_alloc HBB6.out (.cells #[.int .i64 y.f0, .int .i64 y.f1, .int .u64 x.f1.f0, .int .u32 x.f1.f1] 72)) hgrow (own_ne (w := (w6.alloc (.cells #[.int .i64 y.f0, .int .i64 y.f1, .int .u64 x.f1.f0, .int .u32 x.f1.f1] 72)).drew) ((HO.out.alloc (.cells #[.int .i64 y.f0, .int .i64 y.f1, .int .u64 x.f1.f0, .int .u32 x.f1.f1] 72)).drew) (blk_alloc HBB6.out (.cells #[.int .i64 y.f0, .int .i64 y.f1, .int .u64 x.f1.f0, .int .u32 x.f1.f1] 72)) (by decide))
                  have c1 : w1.cell? ⟨w.heap.size + 1 + 1, 1, none⟩ = some v := (blk_cell hG1 _).trans (by rw [pc_cell, if_pos (by omega), if_neg (by omega), show (1 : Nat) / 2 = 0 by omega, hv])
                  have f1' := blk_frozen hG1 1
                  obtain ⟨_, x1, x2, _⟩ := HST8.out w1 (HS6.out.hB.grown hgrow HS6.out.hB.size (by rw [← hv]; exact own_base (HX6.out.fE.own 0 (by omega))))
                  have HS1 := Lib.hid (show w1.cell? ⟨w.heap.size + 1 + 1, 1, none⟩ = some v ∧ w1.cell? ⟨B, 0, none⟩ = some (.int .i64 y.f0) ∧ w1.cell? ⟨B, 1, none⟩ = some (.int .i64 y.f1) ∧ w1.cell? ⟨(ad.add (i * 4)).block, (ad.add (i * 4)).off + 1, none⟩ = some (.int .u64 x.f1.f0) ∧ w1.cell? ⟨(ad.add (i * 4)).block, (ad.add (i * 4)).off + 2, none⟩ = some (.int .u32 x.f1.f1) from ⟨c1, (blk_cell hB1 0).trans rfl, (blk_cell hB1 1).trans rfl, x1, x2⟩)
                  have HG1 := Lib.hid hgrow
                  have HO1 := Lib.hid hown1
                  have HAT := Lib.hid hat
                  clear hB1 hgrow hown1 hat hG1 x1 x2
                  refine hK.out _ _ HS1.out (fun hHeld => ?_)
                  clear hK K
                  refine wpAnyH_take (i := 11) (v := ?_) rfl (by kernel_rfl) (by kernel_rfl) (by kernel_rfl) (fun _ _ _ h => ⟨(fun e => by cases e), fun e => h.2 e⟩) (Or.inl ⟨by rfl, fun w' hS => ?_⟩) HS1.out ?_
                  rotate_left
                  · obtain ⟨a1, a2, a3, a4, a5⟩ := hS
                    go_simp
                    try rfl
                  refine wpAnyH_take (i := 12) (v := ?_) rfl (by kernel_rfl) (by kernel_rfl) (by kernel_rfl) (fun _ _ _ h => ⟨(fun e => by cases e), fun e => h.2 e⟩) (Or.inl ⟨by rfl, fun w' hS => ?_⟩) HS1.out ?_
                  rotate_left
                  · obtain ⟨a1, a2, a3, a4, a5⟩ := hS
                    go_simp
                    try rfl
                  refine wpAnyH_done (by kernel_rfl) ?_ _
                  refine ⟨fun _ => ?_, fun h => absurd rfl h⟩
                  unfold wpOp
                  simp only [List.getElem?_toArray, List.getElem?_cons_succ, List.getElem?_cons_zero]
                  rw [if_pos (by rfl)]
                  left
                  go_simp
                  have HN := Lib.hid (HS6.out.era HX6.out HEI.out HEE.out (x := ⟨y, x.f1⟩) (by rw [eraCells_snoc]; exact HO1.out) (by rw [hv]; exact HG1.out) (by
                    rw [hv]
                    rcases HAT.out with h | h
                    · exact .inl h.symm
                    · exact .inr ⟨_, congrArg some h, by simp⟩))
                  go_wp2
                  go_roundg (P.length - (p + 1))
                  case rel => exact ⟨p + 1, by go_num, hltp, rfl, Lib.hid (by rw [HE.out]; exact HN.out)⟩
                  case measure => omega
                · have HE := Lib.hid (show eraL (l0 ++ eachX nn s k P x (p + 1)) j = eraL (l0 ++ eachX nn s k P x p) j by rw [HSUC.out, HONE.out, if_neg (by rw [HHIT.out, hh]; simpa using hq), List.append_nil])
                  have dq : (pj.f1 == x.f0) = false := beq_eq_false_iff_ne.2 hq
                  clear hh hq
                  go_wp2_with (fail)
                  go_quiet (fail)
                  go_wp2
                  go_roundg (P.length - (p + 1))
                  case rel => exact ⟨p + 1, by go_num, hltp, rfl, Lib.hid (by rw [HE.out]; exact H5.out.below (pw_below_drewN (Below.refl _ _) _))⟩
                  case measure => omega
            · obtain rfl : p = P.length := by omega
              go_wp2
              go_roundg (ys.length - (i + 1))
              case rel => exact ⟨i + 1, by go_num, hlt, rfl, Lib.hid (by rw [HALL.out]; exact HSP.out)⟩
              case measure => omega
        · obtain rfl : i = ys.length := by omega
          rw [List.take_length] at HST
          obtain ⟨M, hM⟩ : ∃ M, M = eraL (eachAll nn s k P ys) j := ⟨_, rfl⟩
          rw [← hM] at HST
          have HM := Lib.hid hM
          clear hM
          obtain ⟨LIf, LEf, vI, vE, xI, eI, eE, hp1⟩ := HST.out.pm
          subst eI
          subst eE
          have HP1 := Lib.hid hp1
          obtain ⟨AI, cI, eI, leI, _⟩ := hp1.readI (j := 0) (by omega)
          obtain ⟨AE, cE, eE, leE, _⟩ := hp1.readE (j := 0) (by omega)
          have gI := hp1.cellI (j := 0) (by omega)
          have gE := hp1.cellE (j := 0) (by omega)
          rw [Nat.zero_mul, eI] at gI
          rw [Nat.zero_mul, eE] at gE
          have r0 := (blk_cell HST.out.hR 0).trans rfl
          have r1 := (blk_cell HST.out.hR 1).trans rfl
          have k0 := blk_frozen HST.out.hR 0
          have k1 := blk_frozen HST.out.hR 1
          have HRR := Lib.hid HST.out.hR
          have HBF := Lib.hid HST.out.hB
          have EI := Lib.hid eI
          have EE := Lib.hid eE
          clear eI eE hp1
          go_wp2
          refine bodyPost_ret (results_cell_row rfl _ _ (w.heap.size + 1) 62 _ (0, 0) _ rfl (blk_set (blk_set HRR.out 0 _) 1 _) Try.underlying62 rfl (by kernel_rfl)) rfl ?_
          have hpf := (HP1.out.setR HRR.out (by omega) 0 (.slice AI (LIf 0).length cI)).setR (blk_set HRR.out 0 _) (by omega) 1 (.slice AE (LEf 0).length cE)
          obtain ⟨AI2, cI2, eI2, _, hCI⟩ := hpf.readI (j := 0) (by omega)
          obtain ⟨AE2, cE2, eE2, _, hCE⟩ := hpf.readE (j := 0) (by omega)
          rw [EI.out] at eI2
          rw [EE.out] at eE2
          injection eI2 with h1 _ h2
          injection eE2 with h3 _ h4
          subst h1
          subst h3
          rw [← HL.out, ← HM.out]
          refine ⟨AI, cI, AE, cE, rfl, hCI, hCE, ?_⟩
          exact (HBF.out.setCell (p := ⟨w.heap.size + 1, 0, none⟩) (by show w.heap.size ≤ w.heap.size + 1; omega) _).setCell (p := ⟨w.heap.size + 1, 1, none⟩) (by show w.heap.size ≤ w.heap.size + 1; omega) _
end Go.Proofs.Ytnaaaldeadjohaa.Cat
