import Derived.Test.YtnaaaldeadjohaaTm
set_option linter.unusedVariables false
set_option linter.unusedSimpArgs false
namespace Go.Proofs.Ytnaaaldeadjohaa.Cat
open Go.RowKit Go.Shelf Go.Proofs Go.Proofs.YtnaaaldeadjohaaW.PrintWords Go.Proofs.Ytnaaaldeadjohaa.PCatalogLies
attribute [local go_sem] Oper.semAt_some
theorem bool_at {w : World} {A : Option Addr} {xs : List Bool} (h : Kd.C Kd.bool w A xs.length xs) (k : Nat) (hk : k < xs.length) : ∃ ad, A = some ad ∧ w.cell? (ad.add k) = some (.bool (rdOf false xs k)) := by
  obtain ⟨ad, e, hc⟩ := Kd.at_bool h k (by omega) (by omega)
  exact ⟨ad, e, by simpa using hc⟩
set_option maxHeartbeats 2000000 in
theorem live_calls (m : Int) (b : Nat) (B : Option Addr) (d : Nat) (live : List Bool) (w : World) (hm : 0 ≤ m) (hc : w.cell? ⟨b, 0, none⟩ = some (.slice B live.length d)) (hr : Kd.bool.C w B live.length live) :
    Calls Try.prog 40 #[.int .i64 m, .pointer (some ⟨b, 0, none⟩)] w fun e w' => e = .returned (.bool (liveB live m)) ∧ Below w.heap.size w w' := by
  have HR := Lib.hid hr
  clear hr
  by_cases hlt : m < live.length
  · obtain ⟨j, rfl⟩ := Int.eq_ofNat_of_zero_le hm
    obtain ⟨ad, e, hcell⟩ := bool_at HR.out j (by omega)
    cases e
    have HF := Lib.hid (show liveB live (j : Int) = rdOf false live (j : Int) by unfold liveB; rw [decide_eq_true hlt]; rfl)
    generalize rdOf false live (j : Int) = v at *
    go_enter Try.func40, Try.ntmps40
    go_wp2
    go_ret
    exact ⟨by rw [HF.out]; rfl, Below.refl _ _⟩
  · have HF := Lib.hid (show liveB live m = false by unfold liveB; rw [decide_eq_false hlt]; rfl)
    go_enter Try.func40, Try.ntmps40
    go_wp2
    go_ret
    exact ⟨by rw [HF.out]; rfl, Below.refl _ _⟩
/-- What is held of some segments: each has a copy that is live. -/
def heldB (n s k : Int) (P : List S66) (live : List Bool) (y : S31) : Bool := (nodesL n s k P y.f0 y.f1).any (liveB live)
theorem held_calls (n s k : Int) (P : List S66) (g : Good n s k P) (y : S31) (Av : Option Addr) (cv b : Nat) (B : Option Addr) (d : Nat) (live : List Bool) (w : World) (hv : (Kd.int .i64).C w Av (nodesL n s k P y.f0 y.f1).length (nodesL n s k P y.f0 y.f1)) (hc : w.cell? ⟨b, 0, none⟩ = some (.slice B live.length d)) (hr : Kd.bool.C w B live.length live) :
    Calls Try.prog 39 #[.slice Av (nodesL n s k P y.f0 y.f1).length cv, .func (.func 40) #[] #[.pointer (some ⟨b, 0, none⟩)]] w fun e w' => e = .returned (.bool (heldB n s k P live y)) ∧ Below w.heap.size w w' :=
  ContainsFunc_int 40 #[.pointer (some ⟨b, 0, none⟩)] (enters_of Try.func40 (by kernel_rfl) rfl) Av (nodesL n s k P y.f0 y.f1) cv (liveB live) w hv (fun m hm X hX => live_calls m b B d live X (nodesL_nonneg n s k P g y.f0 y.f1 m hm).1 (pw_cell_below hX hc) (Kd.C_below hr hX))
theorem covered_no {n s k : Int} {P : List S66} {live : List Bool} {pre : List S31} (h : pre <+: segsL s P) {y : S31} (hy : y ∈ pre) (hn : heldB n s k P live y = false) : covered n s k P live = false := by
  cases e : covered n s k P live
  · rfl
  · unfold covered at e
    rw [List.all_eq_true] at e
    have := e y (h.subset hy)
    rw [show (nodesL n s k P y.f0 y.f1).any (liveB live) = heldB n s k P live y from rfl, hn] at this
    cases this
theorem covered_yes {n s k : Int} {P : List S66} {live : List Bool} (h : ∀ y ∈ segsL s P, heldB n s k P live y = true) : covered n s k P live = true := by
  unfold covered
  rw [List.all_eq_true]
  exact h
set_option maxRecDepth 100000 in
set_option maxHeartbeats 4000000 in
theorem cov_calls (n s k : Int) (T : List S79) (P : List S66) (A3 : Option Addr) (c3 : Nat) (A4 : Option Addr) (c4 : Nat) (B : Option Addr) (d : Nat) (live : List Bool) (w : World) (g : Good n s k P) (h : CatR w T P A3 c3 A4 c4) (hl : Kd.bool.C w B live.length live) (hd : live.length ≤ d) :
    Calls Try.prog 20 #[catV n s k T P A3 c3 A4 c4, .slice B live.length d] w fun e w' => e = .returned (.bool (covered n s k P live)) ∧ Below w.heap.size w w' := by
  refine (callsIn_wide (n := 5)).1 ?_
  refine callsIn_of_wp_marks Try.func20 rfl trivial ?_ rfl
  simp only [Try.ntmps20, List.size_toArray, List.length_cons, List.length_nil, Nat.reduceAdd, Nat.reduceSub, Array.replicate_succ, Array.replicate_zero, List.push_toArray, List.append_toArray, List.nil_append, List.cons_append]
  gi_wp2_with (refine ⟨trivial, ?_⟩; gi_at_call 37; refine (segsFn_in Fence.wide _ trivial rfl n s k T P A3 c3 A4 c4 _).mono ?_; rintro e w' ⟨rfl, rfl⟩)
  have HC := Lib.hid h
  have HG := Lib.hid g
  have HL := Lib.hid hl
  clear h g hl
  have hB0 : Below w.heap.size w ((((w.alloc (.cells #[.int .i64 n, .int .i64 s, .int .i64 k, .slice A3 T.length c3, .slice A4 P.length c4] 25)).alloc (.cells #[.slice B live.length d] 32)).alloc (.cells #[.bool false] 4)).alloc (.cells #[.int .i64 n, .int .i64 s, .int .i64 k, .slice A3 T.length c3, .slice A4 P.length c4] 25)) :=
    ((((Below.refl _ w).alloc (Nat.le_refl _) _).alloc (by simp) _).alloc (by simp; omega) _).alloc (by simp; omega) _
  have b0 := blk_alloc (blk_alloc (blk_alloc (heap_alloc_new w (.cells #[.int .i64 n, .int .i64 s, .int .i64 k, .slice A3 T.length c3, .slice A4 P.length c4] 25)) (.cells #[.slice B live.length d] 32)) (.cells #[.bool false] 4)) (.cells #[.int .i64 n, .int .i64 s, .int .i64 k, .slice A3 T.length c3, .slice A4 P.length c4] 25)
  have b1 := ((Boxed.new (w.alloc (.cells #[.int .i64 n, .int .i64 s, .int .i64 k, .slice A3 T.length c3, .slice A4 P.length c4] 25)) 32 (.slice B live.length d)).alloc (.cells #[.bool false] 4)).alloc (.cells #[.int .i64 n, .int .i64 s, .int .i64 k, .slice A3 T.length c3, .slice A4 P.length c4] 25)
  have b2 := (Boxed.new ((w.alloc (.cells #[.int .i64 n, .int .i64 s, .int .i64 k, .slice A3 T.length c3, .slice A4 P.length c4] 25)).alloc (.cells #[.slice B live.length d] 32)) 4 (.bool false)).alloc (.cells #[.int .i64 n, .int .i64 s, .int .i64 k, .slice A3 T.length c3, .slice A4 P.length c4] 25)
  have b3 := heap_alloc_new (((w.alloc (.cells #[.int .i64 n, .int .i64 s, .int .i64 k, .slice A3 T.length c3, .slice A4 P.length c4] 25)).alloc (.cells #[.slice B live.length d] 32)).alloc (.cells #[.bool false] 4)) (.cells #[.int .i64 n, .int .i64 s, .int .i64 k, .slice A3 T.length c3, .slice A4 P.length c4] 25)
  have hsz : ((((w.alloc (.cells #[.int .i64 n, .int .i64 s, .int .i64 k, .slice A3 T.length c3, .slice A4 P.length c4] 25)).alloc (.cells #[.slice B live.length d] 32)).alloc (.cells #[.bool false] 4)).alloc (.cells #[.int .i64 n, .int .i64 s, .int .i64 k, .slice A3 T.length c3, .slice A4 P.length c4] 25)).heap.size = w.heap.size + 4 := by simp
  simp only [World.size_alloc] at b0 b1 b2 b3
  generalize ((((w.alloc (.cells #[.int .i64 n, .int .i64 s, .int .i64 k, .slice A3 T.length c3, .slice A4 P.length c4] 25)).alloc (.cells #[.slice B live.length d] 32)).alloc (.cells #[.bool false] 4)).alloc (.cells #[.int .i64 n, .int .i64 s, .int .i64 k, .slice A3 T.length c3, .slice A4 P.length c4] 25)) = W0 at *
  have c31 := (blk_cell b3 1).trans rfl
  have c34 := (blk_cell b3 4).trans rfl
  refine wpIn_rangeFunc_ownH rfl (by omega) (gf := 62) (lb := #[.pointer (some ⟨w.heap.size + 1 + 1 + 1, 0, none⟩)]) rfl trivial (enters_of Try.func62 (by kernel_rfl) rfl)
    (segs_stops Fence.wide _ trivial rfl (by omega) (w.heap.size + 1 + 1 + 1) s P A4 c4 W0 (by have := HG.out.hs; omega) HG.out.hP (by omega) c31 c34) SameAt.trans (sameAt_b (by omega)) (Below.refl _ _) (fun _ => rfl)
    (fun pre W => ((W.heap[w.heap.size]? = some (.cells #[.int .i64 n, .int .i64 s, .int .i64 k, .slice A3 T.length c3, .slice A4 P.length c4] 25 (0, 0)) ∧ W.heap[w.heap.size + 1 + 1 + 1]? = some (.cells #[.int .i64 n, .int .i64 s, .int .i64 k, .slice A3 T.length c3, .slice A4 P.length c4] 25 (0, 0))) ∧
      (Boxed W (w.heap.size + 1) 32 (.slice B live.length d) ∧ Boxed W (w.heap.size + 1 + 1) 4 (.bool false)) ∧ ∀ y ∈ pre, heldB n s k P live y = true) ∧ Below w.heap.size w W)
    (fun c pre W => (Boxed W (w.heap.size + 1 + 1) 4 (.bool false) ∧ c = .ret ∧ ∃ y ∈ pre, heldB n s k P live y = false) ∧ Below w.heap.size w W)
    (OwnFrom.and (OwnFrom.and (OwnFrom.and (Own.from (blk_own _ _ _) _) (Own.from (blk_own _ _ _) _)) (OwnFrom.and (OwnFrom.and (Own.from (boxed_own _ _ (fun _ => _)) _) (Own.from (boxed_own _ _ (fun _ => _)) _)) (ownFrom_pure _ _))) (ownFrom_below (Nat.le_refl _) (by omega)))
    (fun c => OwnFrom.and (OwnFrom.and (Own.from (boxed_own _ _ (fun _ => _)) _) (ownFrom_pure _ _)) (ownFrom_below (Nat.le_refl _) (by omega)))
    ⟨⟨⟨b0, b3⟩, ⟨b1, b2⟩, by simp⟩, hB0⟩
    (fun y a' W => ∃ Bx, w.heap.size + 3 < Bx ∧ W.heap[Bx]? = some (.cells #[.int .i64 y.f0, .int .i64 y.f1] 31 (0, 0)) ∧ a' = { tmps := #[catV n s k T P A3 c3 A4 c4, .slice B live.length d, .pointer (some ⟨w.heap.size, 0, none⟩), .pointer (some ⟨w.heap.size + 1, 0, none⟩), .pointer (some ⟨w.heap.size + 1 + 1, 0, none⟩), .pointer (some ⟨Bx, 0, none⟩), catV n s k T P A3 c3 A4 c4, .func (.func 62) #[] #[.pointer (some ⟨w.heap.size + 1 + 1 + 1, 0, none⟩)], segV y, undef, undef, undef, undef, undef, undef], defers := [] })
    (fun y a' _ X Y row hs hg hr => by obtain ⟨Bx, h1, h2, h3⟩ := hs; exact ⟨Bx, h1, blk_own Bx _ _ () X Y row h2 hg (fun r e => (hr r e).2), h3⟩)
    ?assign ?body ?done ?stop
  case assign =>
    rintro l pre y W K ⟨⟨⟨hb0, hb3⟩, ⟨hb1, hb2⟩, hall⟩, hB⟩ hK
    gi_wp2
    exact hK _ _ ((KeepsOthers.alloc _ _).from _) (Below.heap_alloc _ _ _ (blk_lt hb3)) ⟨⟨⟨blk_alloc hb0 _, blk_alloc hb3 _⟩, ⟨hb1.alloc _, hb2.alloc _⟩, hall⟩, hB.alloc hB.size _⟩ ⟨W.heap.size, by have := blk_lt hb3; omega, heap_alloc_new W _, rfl⟩
  case body =>
    rintro l pre y a' W hl ⟨r, hr⟩ ⟨⟨⟨hb0, hb3⟩, ⟨hb1, hb2⟩, hall⟩, hB⟩ ⟨Bx, hBx, bX, rfl⟩ hlt
    have HBel := Lib.hid hB
    have H0 := Lib.hid hb0
    have H1 := Lib.hid hb1
    have H2 := Lib.hid hb2
    have H3 := Lib.hid hb3
    have HA := Lib.hid hall
    have z0 := (blk_cell hb0 0).trans rfl
    have z1 := (blk_cell hb0 1).trans rfl
    have z2 := (blk_cell hb0 2).trans rfl
    have z3 := (blk_cell hb0 3).trans rfl
    have z4 := (blk_cell hb0 4).trans rfl
    have x0 := (blk_cell bX 0).trans rfl
    have x1 := (blk_cell bX 1).trans rfl
    clear hB hb0 hb1 hb2 hb3 bX hall b0 b1 b2 b3 c31 c34
    have hd : 1 ≤ 5 - 1 - 1 := by omega
    gi_wp2_with (refine ⟨trivial, ?_⟩; gi_at_call 18; refine (CallsIn.inRound l (callsIn_wide.2 (nodes_calls (n := n) (s := s) (k := k) (T := T) (P := P) (w := W) HG.out (HC.out.below HBel.out) y.f0 y.f1))).mono ?_; rintro e w1 ⟨Av, cv, rfl, hle, hCv, hb⟩; have n1 := pw_cell_below hb H1.out.cell; have Hb := Lib.hid hb; have HCv := Lib.hid hCv; have HN1 := Lib.hid n1; clear hb hCv n1)
    refine ⟨trivial, ?_⟩
    refine (CallsIn.inRound l (callsIn_wide.2 (held_calls n s k P HG.out y Av cv (w.heap.size + 1) B d live w1 HCv.out HN1.out (Kd.C_below (Kd.C_below HL.out HBel.out) Hb.out)))).mono ?_
    rintro e w2 ⟨rfl, hb2⟩
    have HW := Lib.hid (Hb.out.trans (hb2.mono Hb.out.size))
    clear hb2
    have R0 := Lib.hid (blk_below H0.out HW.out)
    have R1 := Lib.hid (show Boxed w2 (w.heap.size + 1) 32 (.slice B live.length d) from blk_below H1.out HW.out)
    have R2 := Lib.hid (show Boxed w2 (w.heap.size + 1 + 1) 4 (.bool false) from blk_below H2.out HW.out)
    have R3 := Lib.hid (blk_below H3.out HW.out)
    have RB := Lib.hid (HBel.out.trans (HW.out.mono HBel.out.size))
    have f2 := R2.out.cell
    have g2 := R2.out.frozen
    clear z0 z1 z2 z3 z4 x0 x1
    cases hh : heldB n s k P live y
    · have HH := Lib.hid hh
      clear hh
      gi_wp2
      exact ⟨(keepsFrom_of_below HW.out).trans ((KeepsOthers.setCell _ _ _).from _), ⟨R2.out.set _, rfl, y, List.mem_append_right _ (List.mem_singleton.2 rfl), HH.out⟩, RB.out.setCell (p := ⟨w.heap.size + 1 + 1, 0, none⟩) (by show w.heap.size ≤ w.heap.size + 1 + 1; omega) _⟩
    · have HH := Lib.hid hh
      clear hh
      gi_wp2
      exact ⟨keepsFrom_of_below HW.out, HW.out.block _ (blk_lt H3.out), ⟨⟨⟨R0.out, R3.out⟩, ⟨R1.out, R2.out⟩, fun z hz => (List.mem_append.1 hz).elim (HA.out z) (fun h => by rw [List.mem_singleton.1 h]; exact HH.out)⟩, RB.out⟩⟩
  case done =>
    rintro D ys W hD rfl ⟨⟨⟨hb0, hb3⟩, ⟨hb1, hb2⟩, hall⟩, hB⟩ hK
    have HF := Lib.hid (covered_yes (live := live) hall)
    have f2 := hb2.cell
    have g2 := hb2.frozen
    have HB := Lib.hid hB
    have H2 := Lib.hid hb2
    have HK := Lib.hid hK
    clear b0 b1 b2 b3 c31 c34 hb0 hb3 hb1 hall hb2 hB hK
    gi_wp2
    have hK' := (KeepsOthers.setCell W ⟨w.heap.size + 1 + 1, 0, none⟩ (.bool true)).same D _ HK.out rfl
    refine ⟨by simp, .inl ⟨_, _, rfl, run_takeDeferred hK', ?_⟩⟩
    have hc5 := cell_kept ((H2.out.set (.bool true)).cell) (grownBy_putObj' _ D (.deferred none)) (fun r e => by cases e; exact ⟨_, hK', rfl⟩)
    refine ⟨.bool true, ?_, by rw [HF.out], (HB.out.setCell (p := ⟨w.heap.size + 1 + 1, 0, none⟩) (by show w.heap.size ≤ w.heap.size + 1 + 1; omega) _).trans (belowK_b (w := w) (Nat.le_refl _) _ D _ _ (by omega) hK' rfl rfl)⟩
    simp [results, Try.f20, go_sem, hc5]
  case stop =>
    rintro D c pre W hD hpre ⟨⟨hb2, rfl, y, hy, hn⟩, hB⟩ hK
    have HF := Lib.hid (covered_no hpre hy hn)
    clear b0 b1 b2 b3 c31 c34
    gi_wp2
    refine ⟨by simp, .inl ⟨_, _, rfl, run_takeDeferred hK, ?_⟩⟩
    have hc5 := cell_kept hb2.cell (grownBy_putObj' _ D (.deferred none)) (fun r e => by cases e; exact ⟨_, hK, rfl⟩)
    refine ⟨.bool false, ?_, by rw [HF.out], hB.trans (belowK_b (w := w) (Nat.le_refl _) W D _ _ (by omega) hK rfl rfl)⟩
    simp [results, Try.f20, go_sem, hc5]
end Go.Proofs.Ytnaaaldeadjohaa.Cat
