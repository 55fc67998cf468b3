import Derived.Test.YtnaaaldeadjohaaTr
set_option linter.unusedVariables false
set_option linter.unusedSimpArgs false
namespace Go.Proofs.Ytnaaaldeadjohaa.Cat
open Go.RowKit Go.Shelf Go.Proofs Go.Proofs.YtnaaaldeadjohaaW.PrintWords Go.Proofs.Ytnaaaldeadjohaa.PCatalogLies
attribute [local go_sem] Oper.semAt_some
theorem fn_nil0 (d : Nat) (f : Fn) (a c : Array Value) (w : World) : (Op.equalIn (d + 1) 88 (.func f a c) .nilFunc).run Try.prog w = .ok false w := by
  simp [Op.equalIn, run_underlying Try.underlying88]
theorem fn_nil (f : Fn) (a c : Array Value) (w : World) : (binOp .eql 88 (.func f a c) .nilFunc).run Try.prog w = .ok (.bool false) w := by
  simp only [binOp]
  simp [show (Op.equal 88 (.func f a c) .nilFunc).run Try.prog w = .ok false w from fn_nil0 9999 f a c w]
attribute [local go_sem] fn_nil
/-- All of some segments. (A name that the walk does not open.) -/
def keepAll (l : List S31) : List S31 := l
set_option maxRecDepth 100000 in
set_option maxHeartbeats 4000000 in
theorem segments_calls (n s k : Int) (T : List S79) (P : List S66) (A3 : Option Addr) (c3 : Nat) (A4 : Option Addr) (c4 : Nat) (w : World) (g : Good n s k P) (h : CatR w T P A3 c3 A4 c4) :
    Calls Try.prog 12 #[catV n s k T P A3 c3 A4 c4] w (fun e w' => ∃ A c, e = .returned (.tuple #[.slice A (segsL s P).length c, .bool true]) ∧ (segsL s P).length ≤ c ∧ k31.C w' A (segsL s P).length (segsL s P) ∧ Below w.heap.size w w') := by
  refine (callsIn_wide (n := 5)).1 ?_
  refine callsIn_of_wp_marks Try.func12 rfl trivial ?_ rfl
  simp only [Try.ntmps12, List.size_toArray, List.length_cons, List.length_nil, Nat.reduceAdd, Nat.reduceSub, Array.replicate_succ, Array.replicate_zero, List.push_toArray, List.append_toArray, List.nil_append, List.cons_append]
  have HC := Lib.hid h
  have HG := Lib.hid g
  have hB0 : Below w.heap.size w ((w.alloc (.cells #[.int .i64 n, .int .i64 s, .int .i64 k, .slice A3 T.length c3, .slice A4 P.length c4] 25)).alloc (.cells #[.int .i64 n, .int .i64 s, .int .i64 k, .slice A3 T.length c3, .slice A4 P.length c4] 25)) := ((Below.refl _ w).alloc (Nat.le_refl _) _).alloc (by simp) _
  have bA := heap_alloc_new (w.alloc (.cells #[.int .i64 n, .int .i64 s, .int .i64 k, .slice A3 T.length c3, .slice A4 P.length c4] 25)) (.cells #[.int .i64 n, .int .i64 s, .int .i64 k, .slice A3 T.length c3, .slice A4 P.length c4] 25)
  have hsz0 : ((w.alloc (.cells #[.int .i64 n, .int .i64 s, .int .i64 k, .slice A3 T.length c3, .slice A4 P.length c4] 25)).alloc (.cells #[.int .i64 n, .int .i64 s, .int .i64 k, .slice A3 T.length c3, .slice A4 P.length c4] 25)).heap.size = w.heap.size + 2 := by simp
  simp only [World.size_alloc] at bA
  have HBA := Lib.hid bA
  have HB0 := Lib.hid hB0
  have HSZ0 := Lib.hid hsz0
  clear h g hB0 bA hsz0
  gi_wp2_with (first
    | (refine ⟨trivial, ?_⟩; gi_at_call 37; refine (segsFn_in Fence.wide _ trivial rfl n s k T P A3 c3 A4 c4 _).mono ?_; rintro e w' ⟨rfl, rfl⟩)
    | (refine ⟨trivial, ?_⟩; gi_at_call 9; refine (callsIn_wide.2 (alive_calls _)).mono ?_; rintro e w1 ⟨rfl, hb⟩; have HB1 := Lib.hid hb; clear hb))
  generalize ((w.alloc (.cells #[.int .i64 n, .int .i64 s, .int .i64 k, .slice A3 T.length c3, .slice A4 P.length c4] 25)).alloc (.cells #[.int .i64 n, .int .i64 s, .int .i64 k, .slice A3 T.length c3, .slice A4 P.length c4] 25)) = W9 at *
  obtain ⟨i0, hi, hz0, hz1, hz2⟩ := info_parts info31
  have b3 := blk_alloc (blk_below HBA.out HB1.out) (.cells #[.slice none 0 0] 33)
  have b2 := Boxed.new w1 33 (.slice none 0 0)
  have hszR : w.heap.size + 2 ≤ w1.heap.size := by have := HB1.out.size; have := HSZ0.out; omega
  have hB0 : Below w.heap.size w (w1.alloc (.cells #[.slice none 0 0] 33)) := (HB0.out.trans (HB1.out.mono HB0.out.size)).alloc (by omega) _
  have hsz : (w1.alloc (.cells #[.slice none 0 0] 33)).heap.size = w1.heap.size + 1 := by simp
  generalize w1.heap.size = R at *
  generalize w1.alloc (.cells #[.slice none 0 0] 33) = W0 at *
  clear HBA HB1 HB0 HSZ0
  have c31 := (blk_cell b3 1).trans rfl
  have c34 := (blk_cell b3 4).trans rfl
  refine wpIn_rangeFunc_ownH rfl (by omega) (gf := 62) (lb := #[.pointer (some ⟨w.heap.size + 1, 0, none⟩)]) rfl trivial (enters_of Try.func62 (by kernel_rfl) rfl)
    (segs_stops Fence.wide _ trivial rfl (by omega) (w.heap.size + 1) s P A4 c4 W0 (by have := HG.out.hs; omega) HG.out.hP (by omega) c31 c34) SameAt.trans (sameAt_b (by omega)) (Below.refl _ _) (fun _ => rfl)
    (fun pre W => (W.heap[w.heap.size + 1]? = some (.cells #[.int .i64 n, .int .i64 s, .int .i64 k, .slice A3 T.length c3, .slice A4 P.length c4] 25 (0, 0)) ∧
      (∃ v, Boxed W R 33 v ∧ W.ownsRow w.heap.size 31 2 v (keepAll pre).length (segCells (keepAll pre)) ∧ True)) ∧ Below w.heap.size w W)
    (fun _ _ _ => False)
    (OwnFrom.and (OwnFrom.and (Own.from (blk_own _ _ _) _) (Own.from (holdsRow_own w.heap.size R 33 31 2 (fun pre => (keepAll pre).length) (fun pre => segCells (keepAll pre)) (fun _ _ => True)) _)) (ownFrom_below (Nat.le_refl _) (by omega)))
    (fun _ _ _ _ _ hs _ _ => hs)
    ⟨⟨b3, _, b2, own_nil _ _ _ _, trivial⟩, hB0⟩
    (fun y a' W => ∃ Bx, R < Bx ∧ W.heap[Bx]? = some (.cells #[.int .i64 y.f0, .int .i64 y.f1] 31 (0, 0)) ∧ a' = { tmps := #[catV n s k T P A3 c3 A4 c4, .pointer (some ⟨w.heap.size, 0, none⟩), .slice none 0 0, .bool false, .func (.func 62) #[] #[.pointer (some ⟨w.heap.size + 1, 0, none⟩)], .pointer (some ⟨R, 0, none⟩), .pointer (some ⟨Bx, 0, none⟩), catV n s k T P A3 c3 A4 c4, .func (.func 62) #[] #[.pointer (some ⟨w.heap.size + 1, 0, none⟩)], .func (.func 62) #[] #[.pointer (some ⟨w.heap.size + 1, 0, none⟩)], .bool false, .bool false, .bool true, .bool false, .bool false, .func (.func 62) #[] #[.pointer (some ⟨w.heap.size + 1, 0, none⟩)], segV y, undef, undef, undef, undef, undef], defers := [] })
    (fun y a' _ X Y row hs hg hr => by obtain ⟨Bx, h1, h2, h3⟩ := hs; exact ⟨Bx, h1, blk_own Bx _ _ () X Y row h2 hg (fun r e => (hr r e).2), h3⟩)
    ?assign ?body ?done ?stop
  case assign =>
    rintro l pre y W K ⟨⟨hb3, v, hb2, hrow, _⟩, hB⟩ hK
    gi_wp2
    exact hK _ _ ((KeepsOthers.alloc _ _).from _) (Below.heap_alloc _ _ _ (blk_lt hb3)) ⟨⟨blk_alloc hb3 _, v, hb2.alloc _, hrow.alloc _, trivial⟩, hB.alloc hB.size _⟩ ⟨W.heap.size, blk_lt hb2, heap_alloc_new W _, rfl⟩
  case body =>
    rintro l pre y a' W hl ⟨r, hr⟩ ⟨⟨hb3, v, hb2, hrow, _⟩, hB⟩ ⟨Bx, hBx, bX, rfl⟩ hlt
    have hlen : (keepAll pre).length ≤ 64 := by
      have h2 := Nat.mul_le_mul HG.out.hP (show s.toNat ≤ 8 by have := HG.out.hs; omega)
      have h3 : (keepAll pre).length = pre.length := rfl
      omega
    have RR := Lib.hid hrow
    have RB := Lib.hid hB
    have R2 := Lib.hid hb2
    have R3 := Lib.hid hb3
    have RX := Lib.hid bX
    have l0 := hb2.cell
    have e0 := (blk_cell bX 0).trans rfl
    have e1 := (blk_cell bX 1).trans rfl
    clear hrow hB hb2 hb3 bX b2 b3 c31 c34
    gi_wp2_with (gi_at_builtin; refine wpListIn_append_own _ rfl _ _ 33 rfl w.heap.size 31 i0 (.agg #[.int .i64 0, .int .i64 0]) 2 16 Try.underlying33 hi hz0 hz1 hz2 rfl (by decide) v _ _ rfl (RR.out.alloc _) ⟨W.heap.size, 0, none⟩ 1 1 [.int .i64 y.f0, .int .i64 y.f1] rfl rfl (World.news_of_block (cs := #[.int .i64 y.f0, .int .i64 y.f1]) (t := 31) (fr := (0, 0)) (heap_alloc_new W _)) (by simp [Value.oneCell']) (by simp only [maxLen]; omega) (by omega) (by have := RB.out.size; simp; omega) ?_; intro v' w3 hown' hgrow _; obtain ⟨g', cap', rfl⟩ := ownsRow_succ hown'; obtain ⟨hv1, hv2, hr2, hk2, hb2'⟩ := R2.out.appended (by decide) RR.out RB.out.size (by omega) hown' hgrow; have hc1 := hv1.cell; have hf1 := hv1.frozen; have HV2 := Lib.hid hv2; have HR2 := Lib.hid hr2; have HK2 := Lib.hid hk2; have HB2' := Lib.hid hb2'; have HGR := Lib.hid hgrow; clear hv1 hv2 hr2 hk2 hb2' hown' hgrow)
    have G3 := Lib.hid (blk_grown (blk_alloc R3.out (.cells #[.int .i64 y.f0, .int .i64 y.f1] 31)) HGR.out (own_ne (RR.out.alloc (.cells #[.int .i64 y.f0, .int .i64 y.f1] 31)) (blk_alloc R3.out (.cells #[.int .i64 y.f0, .int .i64 y.f1] 31)) (by decide)))
    refine ⟨HK2.out.from _, ?_, ⟨⟨blk_far G3.out (by show _ ≠ R; omega) _, _, HV2.out, ?_, trivial⟩, RB.out.trans HB2'.out⟩⟩
    · exact (blk_far G3.out (by show _ ≠ R; omega) _).trans R3.out.symm
    · show World.ownsRow _ _ _ _ _ (keepAll (pre ++ [y])).length (segCells (keepAll (pre ++ [y])))
      rw [show keepAll (pre ++ [y]) = keepAll pre ++ [y] from rfl, segCells_snoc, List.length_append]
      exact HR2.out
  case done =>
    rintro D ys W hD rfl ⟨⟨hb3, v, hb2, hrow, _⟩, hB⟩ hK
    have hc := hb2.cell
    have HR := Lib.hid (ownsRow_putObj hrow (.deferred none) hK rfl)
    have HB2 := Lib.hid (hB.trans (belowK_b (w := w) (Nat.le_refl _) W D _ (.deferred none) (by omega) hK rfl rfl))
    clear b2 b3 c31 c34 hb3 hrow hB
    gi_wp2
    refine ⟨by simp, .inl ⟨_, _, rfl, run_takeDeferred hK, ?_⟩⟩
    obtain ⟨A, c, rfl, hle, hC⟩ := segs_gives HR.out
    refine ⟨.tuple #[.slice A (segsL s P).length c, .bool true], ?_, A, c, rfl, hle, hC, HB2.out⟩
    change Sem.run Try.prog (results Try.f12 _) _ = _
    simp [results, Try.f12, go_sem, keepAll]
  case stop =>
    rintro D c pre W _ _ h _
    exact h.elim
end Go.Proofs.Ytnaaaldeadjohaa.Cat
