import Derived.Test.YtnaaaldeadjohaaTl
set_option linter.unusedVariables false
set_option linter.unusedSimpArgs false
namespace Go.Proofs.Ytnaaaldeadjohaa.Cat
open Go.RowKit Go.Shelf Go.Proofs Go.Proofs.YtnaaaldeadjohaaW.PrintWords Go.Proofs.Ytnaaaldeadjohaa.PCatalogLies
attribute [local go_sem] Oper.semAt_some
set_option maxHeartbeats 1000000 in
/-- Segments hands back a function that has the catalog in a box. -/
theorem segsFn_in (F : Fence) (q : Nat) (h37 : F.fn 37) (hro : F.round = none) (n s k : Int) (T : List S79) (P : List S66) (A3 : Option Addr) (c3 : Nat) (A4 : Option Addr) (c4 : Nat) (w : World) :
    CallsIn F q Try.prog 37 #[catV n s k T P A3 c3 A4 c4] w fun e w' => e = .returned (.func (.func 62) #[] #[.pointer (some ⟨w.heap.size, 0, none⟩)]) ∧ w' = w.alloc (.cells #[.int .i64 n, .int .i64 s, .int .i64 k, .slice A3 T.length c3, .slice A4 P.length c4] 25) := by
  refine callsIn_of_wp Try.func37 rfl h37 ?_ hro
  simp only [Try.ntmps37, List.size_toArray, List.length_cons, List.length_nil, Nat.reduceAdd, Nat.reduceSub, Array.replicate_succ, Array.replicate_zero, List.push_toArray, List.append_toArray, List.nil_append, List.cons_append]
  gi_wp2
  go_ret
  exact ⟨rfl, rfl⟩
/-- .. which gives all segments in their order. -/
theorem segs_stops (F : Fence) (q : Nat) (h62 : F.fn 62) (hro : F.round = none) (hq : 1 ≤ q) (B : Nat) (s : Int) (P : List S66) (A4 : Option Addr) (c4 : Nat) (w : World) (hs : 0 ≤ s ∧ s ≤ 8) (hP : P.length ≤ 8) (hB : B < w.heap.size)
    (hc1 : w.cell? ⟨B, 1, none⟩ = some (.int .i64 s)) (hc4 : w.cell? ⟨B, 4, none⟩ = some (.slice A4 P.length c4)) :
    SeqStopsK F q Try.prog 62 #[.pointer (some ⟨B, 0, none⟩)] (fun x : S31 => #[segV x]) (SameAt B) (fun ys => ys = segsL s P) (fun pre => pre <+: segsL s P) (P.length * s.toNat) w := fun l J Jx W hW _ _ hY h0 =>
  segs1_in F q h62 hro hq l B s P.length c4 A4 hs hP J Jx hY W ((hW.cell (p := ⟨B, 1, none⟩) hB).trans hc1) ((hW.cell (p := ⟨B, 4, none⟩) hB).trans hc4) h0
theorem sameAt_b {B : Nat} {w : World} (hB : B < w.heap.size) (W : World) (l : Nat) (o o' : Obj) (hl : w.heap.size ≤ l) (_ : W.heap[l]? = some o) (_ : o.isCells = false) (_ : o.isWalk = false) : SameAt B W (W.putObj l o') :=
  World.putObj_heap_other (by omega)
/-- 'Block B holds these cells' speaks of cells alone. -/
theorem blk_own {β : Type} (B : Nat) (cs : Array Value) (t : TypeId) : Own (fun (_ : β) W => W.heap[B]? = some (.cells cs t (0, 0))) := fun s X Y row hs hg hrow => by
  refine blk_grown hs hg (fun e' => ?_)
  obtain ⟨o, ho, hc⟩ := hrow B e'.symm
  rw [show X.heap[B]? = _ from hs] at ho
  cases ho; cases hc
theorem reps_segs (w : World) (base : Nat) (ok : Nat → Prop) (l : List S31) : Reps (k31.M w base ok) 2 l (l.flatMap fun x => [Value.int .i64 x.f0, .int .i64 x.f1]) := by
  induction l with
  | nil => exact Reps.none _ _
  | cons x l ih =>
    refine ⟨by rw [List.flatMap_cons, List.length_append, ih.1]; simp; omega, fun j p hj => ?_⟩
    rcases j with _ | j
    · obtain rfl : x = p := by simpa using hj
      simpa using k31_mkM w base ok x
    · have := ih.2 j p (by simpa using hj)
      rw [Nat.succ_mul]
      simpa using this
/-- Does a number stand in a list? (A name that the walk does not open.) -/
def hasB (l : List Int) (x : Int) : Bool := l.contains x
theorem has_calls (A : Option Addr) (n c : Nat) (l : List Int) (x : Int) (w : World) (hn : l.length = n) (hr : Kd.C (Kd.int .i64) w A n l) (hc : n ≤ c) :
    Calls Try.prog 38 #[.slice A n c, .int .i64 x] w fun e w' => e = .returned (.bool (hasB l x)) ∧ Drawn0 w w' := contains_calls A n c l x w hn hr hc
/-- What of some segments lies at a node. -/
def pick (n s k : Int) (P : List S66) (x : Int) (pre : List S31) : List S31 := pre.filter fun at_ => (nodesL n s k P at_.f0 at_.f1).contains x
def segCells (l : List S31) : List Value := l.flatMap fun x => [Value.int .i64 x.f0, .int .i64 x.f1]
theorem keepsFrom_of_below {B : Nat} {W W' : World} (h : Below W.heap.size W W') : KeepsFrom B W W' := ⟨h.size, fun k o _ hk _ => (h.block k (blk_lt hk)).trans hk⟩
theorem segs_gives {w : World} {base : Nat} {v : Value} {l : List S31} (h : w.ownsRow base 31 2 v l.length (segCells l)) : ∃ A c, v = .slice A l.length c ∧ l.length ≤ c ∧ k31.C w A l.length l :=
  Kd.R_reads (d := k31) (e := 31) (base := base) (ok := fun _ => True) ⟨fun _ _ => trivial, segCells l, h, reps_segs _ _ _ l⟩
theorem pick_hit (n s k : Int) (P : List S66) (x : Int) (pre : List S31) {y : S31} (h : (nodesL n s k P y.f0 y.f1).contains x = true) : pick n s k P x (pre ++ [y]) = pick n s k P x pre ++ [y] := by
  unfold pick; rw [List.filter_append]; simp only [List.filter_cons, List.filter_nil, h, if_true]
theorem pick_miss (n s k : Int) (P : List S66) (x : Int) (pre : List S31) {y : S31} (h : (nodesL n s k P y.f0 y.f1).contains x = false) : pick n s k P x (pre ++ [y]) = pick n s k P x pre := by
  unfold pick; rw [List.filter_append]; simp only [List.filter_cons, List.filter_nil, h, Bool.false_eq_true, if_false, List.append_nil]
theorem segCells_snoc (l : List S31) (y : S31) : segCells (l ++ [y]) = segCells l ++ [.int .i64 y.f0, .int .i64 y.f1] := by simp [segCells]
set_option maxRecDepth 100000 in
set_option maxHeartbeats 4000000 in
theorem of_calls (n s k : Int) (T : List S79) (P : List S66) (A3 : Option Addr) (c3 : Nat) (A4 : Option Addr) (c4 : Nat) (x : Int) (w : World) (g : Good n s k P) (h : CatR w T P A3 c3 A4 c4) :
    Calls Try.prog 14 #[catV n s k T P A3 c3 A4 c4, .int .i64 x] w (GivesSegs (ofL n s k P x) w) := by
  refine (callsIn_wide (n := 5)).1 ?_
  refine callsIn_of_wp_marks Try.func14 rfl trivial ?_ rfl
  simp only [Try.ntmps14, List.size_toArray, List.length_cons, List.length_nil, Nat.reduceAdd, Nat.reduceSub, Array.replicate_succ, Array.replicate_zero, List.push_toArray, List.append_toArray, List.nil_append, List.cons_append]
  gi_wp2_with (refine ⟨trivial, ?_⟩; gi_at_call 37; refine (segsFn_in Fence.wide _ trivial rfl n s k T P A3 c3 A4 c4 _).mono ?_; rintro e w' ⟨rfl, rfl⟩)
  have HC := Lib.hid h
  have HG := Lib.hid g
  obtain ⟨i0, hi, hz0, hz1, hz2⟩ := info_parts info31
  have hB0 : Below w.heap.size w ((((w.alloc (.cells #[.int .i64 n, .int .i64 s, .int .i64 k, .slice A3 T.length c3, .slice A4 P.length c4] 25)).alloc (.cells #[.int .i64 x] 3)).alloc (.cells #[.slice none 0 0] 33)).alloc (.cells #[.int .i64 n, .int .i64 s, .int .i64 k, .slice A3 T.length c3, .slice A4 P.length c4] 25)) :=
    ((((Below.refl _ w).alloc (Nat.le_refl _) _).alloc (by simp) _).alloc (by simp; omega) _).alloc (by simp; omega) _
  have b0 := blk_alloc (blk_alloc (blk_alloc (heap_alloc_new w (.cells #[.int .i64 n, .int .i64 s, .int .i64 k, .slice A3 T.length c3, .slice A4 P.length c4] 25)) (.cells #[.int .i64 x] 3)) (.cells #[.slice none 0 0] 33)) (.cells #[.int .i64 n, .int .i64 s, .int .i64 k, .slice A3 T.length c3, .slice A4 P.length c4] 25)
  have b1 := ((Boxed.new (w.alloc (.cells #[.int .i64 n, .int .i64 s, .int .i64 k, .slice A3 T.length c3, .slice A4 P.length c4] 25)) 3 (.int .i64 x)).alloc (.cells #[.slice none 0 0] 33)).alloc (.cells #[.int .i64 n, .int .i64 s, .int .i64 k, .slice A3 T.length c3, .slice A4 P.length c4] 25)
  have b2 := (Boxed.new ((w.alloc (.cells #[.int .i64 n, .int .i64 s, .int .i64 k, .slice A3 T.length c3, .slice A4 P.length c4] 25)).alloc (.cells #[.int .i64 x] 3)) 33 (.slice none 0 0)).alloc (.cells #[.int .i64 n, .int .i64 s, .int .i64 k, .slice A3 T.length c3, .slice A4 P.length c4] 25)
  have b3 := heap_alloc_new (((w.alloc (.cells #[.int .i64 n, .int .i64 s, .int .i64 k, .slice A3 T.length c3, .slice A4 P.length c4] 25)).alloc (.cells #[.int .i64 x] 3)).alloc (.cells #[.slice none 0 0] 33)) (.cells #[.int .i64 n, .int .i64 s, .int .i64 k, .slice A3 T.length c3, .slice A4 P.length c4] 25)
  have hsz : ((((w.alloc (.cells #[.int .i64 n, .int .i64 s, .int .i64 k, .slice A3 T.length c3, .slice A4 P.length c4] 25)).alloc (.cells #[.int .i64 x] 3)).alloc (.cells #[.slice none 0 0] 33)).alloc (.cells #[.int .i64 n, .int .i64 s, .int .i64 k, .slice A3 T.length c3, .slice A4 P.length c4] 25)).heap.size = w.heap.size + 4 := by simp
  simp only [World.size_alloc] at b0 b1 b2 b3
  clear h g
  generalize ((((w.alloc (.cells #[.int .i64 n, .int .i64 s, .int .i64 k, .slice A3 T.length c3, .slice A4 P.length c4] 25)).alloc (.cells #[.int .i64 x] 3)).alloc (.cells #[.slice none 0 0] 33)).alloc (.cells #[.int .i64 n, .int .i64 s, .int .i64 k, .slice A3 T.length c3, .slice A4 P.length c4] 25)) = W0 at *
  have c31 := (blk_cell b3 1).trans rfl
  have c34 := (blk_cell b3 4).trans rfl
  refine wpIn_rangeFunc_ownH rfl (by omega) (gf := 62) (lb := #[.pointer (some ⟨w.heap.size + 1 + 1 + 1, 0, none⟩)]) rfl trivial (enters_of Try.func62 (by kernel_rfl) rfl)
    (segs_stops Fence.wide _ trivial rfl (by omega) (w.heap.size + 1 + 1 + 1) s P A4 c4 W0 (by have := HG.out.hs; omega) HG.out.hP (by omega) c31 c34) SameAt.trans (sameAt_b (by omega)) (Below.refl _ _) (fun _ => rfl)
    (fun pre W => ((W.heap[w.heap.size]? = some (.cells #[.int .i64 n, .int .i64 s, .int .i64 k, .slice A3 T.length c3, .slice A4 P.length c4] 25 (0, 0)) ∧ W.heap[w.heap.size + 1 + 1 + 1]? = some (.cells #[.int .i64 n, .int .i64 s, .int .i64 k, .slice A3 T.length c3, .slice A4 P.length c4] 25 (0, 0))) ∧
      (Boxed W (w.heap.size + 1) 3 (.int .i64 x) ∧ ∃ v, Boxed W (w.heap.size + 1 + 1) 33 v ∧ W.ownsRow w.heap.size 31 2 v (pick n s k P x pre).length (segCells (pick n s k P x pre)) ∧ True)) ∧ Below w.heap.size w W)
    (fun _ _ _ => False)
    (OwnFrom.and (OwnFrom.and (OwnFrom.and (Own.from (blk_own _ _ _) _) (Own.from (blk_own _ _ _) _)) (OwnFrom.and (Own.from (boxed_own _ _ _) _) (Own.from (holdsRow_own w.heap.size (w.heap.size + 1 + 1) 33 31 2 (fun pre => (pick n s k P x pre).length) (fun pre => segCells (pick n s k P x pre)) (fun _ _ => True)) _))) (ownFrom_below (Nat.le_refl _) (by omega)))
    (fun _ _ _ _ _ hs _ _ => hs)
    ⟨⟨⟨b0, b3⟩, b1, _, b2, own_nil _ _ _ _, trivial⟩, hB0⟩
    (fun y a' W => ∃ Bx, w.heap.size + 3 < Bx ∧ W.heap[Bx]? = some (.cells #[.int .i64 y.f0, .int .i64 y.f1] 31 (0, 0)) ∧ a' = { tmps := #[catV n s k T P A3 c3 A4 c4, .int .i64 x, .pointer (some ⟨w.heap.size, 0, none⟩), .pointer (some ⟨w.heap.size + 1, 0, none⟩), .slice none 0 0, .pointer (some ⟨w.heap.size + 1 + 1, 0, none⟩), .pointer (some ⟨Bx, 0, none⟩), catV n s k T P A3 c3 A4 c4, .func (.func 62) #[] #[.pointer (some ⟨w.heap.size + 1 + 1 + 1, 0, none⟩)], segV y, undef, undef, undef, undef, undef, undef, undef, undef, undef, undef], defers := [] })
    (fun y a' _ X Y row hs hg hr => by obtain ⟨Bx, h1, h2, h3⟩ := hs; exact ⟨Bx, h1, blk_own Bx _ _ () X Y row h2 hg (fun r e => (hr r e).2), h3⟩)
    ?assign ?body ?done ?stop
  case assign =>
    rintro l pre y W K ⟨⟨⟨hb0, hb3⟩, hb1, v, hb2, hrow, _⟩, hB⟩ hK
    gi_wp2
    exact hK _ _ ((KeepsOthers.alloc _ _).from _) (Below.heap_alloc _ _ _ (blk_lt hb3)) ⟨⟨⟨blk_alloc hb0 _, blk_alloc hb3 _⟩, hb1.alloc _, v, hb2.alloc _, hrow.alloc _, trivial⟩, hB.alloc hB.size _⟩ ⟨W.heap.size, by have := blk_lt hb3; omega, heap_alloc_new W _, rfl⟩
  case body =>
    rintro l pre y a' W hl ⟨r, hr⟩ ⟨⟨⟨hb0, hb3⟩, hb1, v, hb2, hrow, _⟩, hB⟩ ⟨Bx, hBx, bX, rfl⟩ hlt
    have hlen : (pick n s k P x pre).length ≤ 64 := by
      have h1 : (pick n s k P x pre).length ≤ pre.length := List.length_filter_le _ _
      have h2 := Nat.mul_le_mul HG.out.hP (show s.toNat ≤ 8 by have := HG.out.hs; omega)
      omega
    have HRow := Lib.hid hrow
    have HBel := Lib.hid hB
    have H0 := Lib.hid hb0
    have H1 := Lib.hid hb1
    have H2 := Lib.hid hb2
    have H3 := Lib.hid hb3
    have HX := Lib.hid bX
    have z0 := (blk_cell hb0 0).trans rfl
    have z1 := (blk_cell hb0 1).trans rfl
    have z2 := (blk_cell hb0 2).trans rfl
    have z3 := (blk_cell hb0 3).trans rfl
    have z4 := (blk_cell hb0 4).trans rfl
    have x0 := (blk_cell bX 0).trans rfl
    have x1 := (blk_cell bX 1).trans rfl
    have n0 := hb1.cell
    clear hrow hB hb0 hb1 hb2 hb3 bX
    clear b0 b1 b2 b3 c31 c34
    have hd : 1 ≤ 5 - 1 - 1 := by omega
    have hmx : Try.prog.follows .mixedOrders = true := by kernel_rfl
    gi_wp2
    gi_region_with_o (first
      | (refine ⟨trivial, ?_⟩; gi_at_call 18; refine (CallsIn.inRound l (callsIn_wide.2 (nodes_calls (n := n) (s := s) (k := k) (T := T) (P := P) (w := W.drew) HG.out (HC.out.below HBel.out.drew) y.f0 y.f1))).mono ?_; rintro e w1 ⟨Av, cv, rfl, hle, hCv, hb⟩; have n1 := pw_cell_below hb n0; have Hb := Lib.hid hb; have HCv := Lib.hid hCv; clear hb hCv)
      | (refine ⟨trivial, ?_⟩; gi_at_call 38; refine (CallsIn.inRound l (callsIn_wide.2 (has_calls Av _ cv (nodesL n s k P y.f0 y.f1) x w1 rfl HCv.out hle))).mono ?_; rintro e w2 ⟨rfl, hdr⟩; have Hb2 := Lib.hid (Hb.out.trans ((Drawn0.below hdr).mono Hb.out.size)); clear hdr))
    all_goals
      have hW2 := Below.drew (Below.refl W.heap.size W)
      have HW := Lib.hid (show Below W.heap.size W w2 from hW2.trans (Hb2.out.mono (Nat.le_refl _)))
      clear hW2
      have R0 := Lib.hid (blk_below H0.out HW.out)
      have R1 := Lib.hid (show Boxed w2 (w.heap.size + 1) 3 (.int .i64 x) from blk_below H1.out HW.out)
      have R2 := Lib.hid (show Boxed w2 (w.heap.size + 1 + 1) 33 v from blk_below H2.out HW.out)
      have R3 := Lib.hid (blk_below H3.out HW.out)
      have RX := Lib.hid (blk_below HX.out HW.out)
      have RR := Lib.hid (pw_own_below HRow.out HW.out)
      have RB := Lib.hid (HBel.out.trans (HW.out.mono HBel.out.size))
      cases hcon : hasB (nodesL n s k P y.f0 y.f1) x
      · have HP := Lib.hid (pick_miss n s k P x pre hcon)
        clear hcon
        gi_wp2
        exact ⟨keepsFrom_of_below HW.out, HW.out.block _ (blk_lt H3.out), ⟨⟨⟨R0.out, R3.out⟩, R1.out, v, R2.out, by rw [HP.out]; exact RR.out, trivial⟩, RB.out⟩⟩
      · have HP := Lib.hid (pick_hit n s k P x pre hcon)
        clear hcon
        have l0 := R2.out.cell
        have e0 := (blk_cell RX.out 0).trans rfl
        have e1 := (blk_cell RX.out 1).trans rfl
        clear n0 n1 z0 z1 z2 z3 z4 x0 x1
        gi_wp2_with (gi_at_builtin; refine wpListIn_append_own _ rfl _ _ 33 rfl w.heap.size 31 i0 (.agg #[.int .i64 0, .int .i64 0]) 2 16 Try.underlying33 hi hz0 hz1 hz2 rfl (by decide) v _ _ rfl (RR.out.alloc _) ⟨w2.heap.size, 0, none⟩ 1 1 [.int .i64 y.f0, .int .i64 y.f1] rfl rfl (World.news_of_block (cs := #[.int .i64 y.f0, .int .i64 y.f1]) (t := 31) (fr := (0, 0)) (heap_alloc_new w2 _)) (by simp [Value.oneCell']) (by simp only [maxLen]; omega) (by omega) (by have := RB.out.size; simp; omega) ?_; intro v' w3 hown' hgrow _; obtain ⟨g', cap', rfl⟩ := ownsRow_succ hown'; obtain ⟨hv1, hv2, hr2, hk2, hb2'⟩ := R2.out.appended (by decide) RR.out RB.out.size (by omega) hown' hgrow; have hc1 := hv1.cell; have hf1 := hv1.frozen; have HV2 := Lib.hid hv2; have HR2 := Lib.hid hr2; have HK2 := Lib.hid hk2; have HB2' := Lib.hid hb2'; have HGR := Lib.hid hgrow; clear hv1 hv2 hr2 hk2 hb2' hown' hgrow)
        have G0 := Lib.hid (blk_grown (blk_alloc R0.out (.cells #[.int .i64 y.f0, .int .i64 y.f1] 31)) HGR.out (own_ne (RR.out.alloc (.cells #[.int .i64 y.f0, .int .i64 y.f1] 31)) (blk_alloc R0.out (.cells #[.int .i64 y.f0, .int .i64 y.f1] 31)) (by decide)))
        have G1 := Lib.hid (show Boxed w3 (w.heap.size + 1) 3 (.int .i64 x) from blk_grown (blk_alloc R1.out (.cells #[.int .i64 y.f0, .int .i64 y.f1] 31)) HGR.out (own_ne (RR.out.alloc (.cells #[.int .i64 y.f0, .int .i64 y.f1] 31)) (blk_alloc R1.out (.cells #[.int .i64 y.f0, .int .i64 y.f1] 31)) (by decide)))
        have G3 := Lib.hid (blk_grown (blk_alloc R3.out (.cells #[.int .i64 y.f0, .int .i64 y.f1] 31)) HGR.out (own_ne (RR.out.alloc (.cells #[.int .i64 y.f0, .int .i64 y.f1] 31)) (blk_alloc R3.out (.cells #[.int .i64 y.f0, .int .i64 y.f1] 31)) (by decide)))
        refine ⟨(keepsFrom_of_below HW.out).trans (HK2.out.from _), ?_, ⟨⟨⟨blk_far G0.out (by show _ ≠ w.heap.size + 1 + 1; omega) _, blk_far G3.out (by show _ ≠ w.heap.size + 1 + 1; omega) _⟩, G1.out.other (by omega) _, _, HV2.out, ?_, trivial⟩, RB.out.trans HB2'.out⟩⟩
        · exact (blk_far G3.out (by show _ ≠ w.heap.size + 1 + 1; omega) _).trans H3.out.symm
        · rw [HP.out, segCells_snoc, List.length_append]
          exact HR2.out
  case done =>
    rintro D ys W hD rfl ⟨⟨⟨hb0, hb3⟩, hb1, v, hb2, hrow, _⟩, hB⟩ hK
    have hc := hb2.cell
    have HR := Lib.hid (ownsRow_putObj hrow (.deferred none) hK rfl)
    have HB2 := Lib.hid (hB.trans (belowK_b (w := w) (Nat.le_refl _) W D _ (.deferred none) (by omega) hK rfl rfl))
    clear b0 b1 b2 b3 c31 c34 hb0 hb3 hb1 hrow hB
    gi_wp2
    refine ⟨by simp, .inl ⟨_, _, rfl, run_takeDeferred hK, ?_⟩⟩
    obtain ⟨A, c, rfl, hle, hC⟩ := segs_gives HR.out
    exact ⟨_, results_tmp rfl _ _ _, A, c, rfl, hle, hC, HB2.out⟩
  case stop =>
    rintro D c pre W _ _ h _
    exact h.elim
end Go.Proofs.Ytnaaaldeadjohaa.Cat
