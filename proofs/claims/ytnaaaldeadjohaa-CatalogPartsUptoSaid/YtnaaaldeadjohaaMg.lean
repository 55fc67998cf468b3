import Derived.Test.YtnaaaldeadjohaaMf
import Derived.Deep.RegionLaw
import Derived.Deep.AppendLies
import Derived.Test.YtnaaaldeadjohaaMc
set_option linter.unusedVariables false
set_option linter.unusedSimpArgs false
namespace Go.Proofs.Ytnaaaldeadjohaa.Cat
open Go.RowKit Go.Shelf Go.Proofs Go.Proofs.YtnaaaldeadjohaaW.PrintWords Go.Proofs.Ytnaaaldeadjohaa.PCatalogLies
/-! ### What Parts does at one node: an insert -/
theorem own_lower {w : World} {b b' e z n : Nat} {v : Value} {xs : List Value} (h : w.ownsRow b e z v n xs) (hb : b' ≤ b) : w.ownsRow b' e z v n xs := by
  refine ⟨h.1, ?_⟩
  rcases h.2 with h2 | ⟨g, cap, cur, e1, e2, r⟩
  · exact .inl h2
  · exact .inr ⟨g, cap, cur, e1, Nat.le_trans hb e2, r⟩
theorem own_form {w : World} {b e z n : Nat} {v : Value} {xs : List Value} (h : w.ownsRow b e z v n xs) : ∃ A c, v = .slice A n c := by
  rcases h.2 with ⟨rfl, rfl⟩ | ⟨g, cap, cur, rfl, _⟩
  · exact ⟨none, 0, rfl⟩
  · exact ⟨_, _, rfl⟩
def insOf (P : List S66) (at_ : S31) (x : S57) : S70 := ⟨at_, ⟨x.f1, rowL (rd_T66 P at_.f0).f2 x.f2, 0⟩⟩
set_option maxHeartbeats 16000000 in
set_option maxRecDepth 100000 in
theorem ins_calls (w0 : World) (C Pv G nn : Nat) (n s k : Int) (T : List S79) (P : List S66) (A3 : Option Addr) (c3 : Nat) (A4 : Option Addr) (c4 : Nat) (LI : Nat → List S70) (LE : Nat → List S72) (vI vE : Nat → Value) (xI : Nat → List Value) (W : World)
    (h : PS W w0 C Pv G nn n s k T P A3 c3 A4 c4 LI LE vI vE xI) (hR : CatR w0 T P A3 c3 A4 c4) (node : Nat) (hn : node < nn) (hlen : (LI node).length ≤ 1000000000) (at_ : S31) (x : S57) (AR : Option Addr) (cr : Nat) (hnn : nn ≤ 8)
    (p0 : 0 ≤ at_.f0) (p1 : at_.f0 < P.length) (h8 : (rd_T66 P at_.f0).f2.length ≤ 8) (hrow : k97.C w0 AR x.f2.length x.f2) (hcr : x.f2.length ≤ cr) :
    Calls Try.prog 42 (#[.int .i64 node, segV at_, fullV x AR cr] ++ #[.pointer (some ⟨C, 0, none⟩), .pointer (some ⟨Pv, 0, none⟩)]) W fun e w' => e = .returned (.tuple #[]) ∧ ∃ vI' xI', PS w' w0 C Pv G nn n s k T P A3 c3 A4 c4 (upd LI node (LI node ++ [insOf P at_ x])) LE vI' vE xI' ∧ KeepT W w' := by
  obtain ⟨i0, hi, hz0, hz1, hz2⟩ := info_parts info70
  have hA := ((Below.refl W.heap.size W).alloc (Nat.le_refl _) (.cells #[.int .i64 at_.f0, .int .i64 at_.f1] 31)).alloc (by simp) (.cells #[.int .i64 x.f0, .int .u64 x.f1.f0, .int .u32 x.f1.f1, .slice AR x.f2.length cr] 56)
  have H2 := Lib.hid (h.below hA)
  have b31 := blk_alloc (heap_alloc_new W (.cells #[.int .i64 at_.f0, .int .i64 at_.f1] 31)) (.cells #[.int .i64 x.f0, .int .u64 x.f1.f0, .int .u32 x.f1.f1, .slice AR x.f2.length cr] 56)
  have b56 := heap_alloc_new (W.alloc (.cells #[.int .i64 at_.f0, .int .i64 at_.f1] 31)) (.cells #[.int .i64 x.f0, .int .u64 x.f1.f0, .int .u32 x.f1.f1, .slice AR x.f2.length cr] 56)
  rw [World.size_alloc] at b56
  have HKA := Lib.hid (KeepT.below hA)
  have HRow := Lib.hid hrow
  have hmr := hrow.2.1
  have hmP := hR.rP.2.1
  have HR := Lib.hid hR
  clear hA h hrow hR
  go_enter Try.func42, Try.ntmps42
  go_upto_region 1 with (fail)
  generalize (W.alloc (.cells #[.int .i64 at_.f0, .int .i64 at_.f1] 31)).alloc (.cells #[.int .i64 x.f0, .int .u64 x.f1.f0, .int .u32 x.f1.f1, .slice AR x.f2.length cr] 56) = W2 at *
  have hb0 := H2.out.hB
  obtain ⟨ad, B2, d2, B3, d3, e1, hc0, hc1, hc2, hc3, hc4, hc5, hl2, hC2, hl3, hC3⟩ := at_T66 (Kd.C_below HR.out.rP hb0) at_.f0 p0 p1
  cases e1
  have HPR := Lib.hid (show ProjR W2 (rd_T66 P at_.f0) B2 d2 B3 d3 from ⟨hC2, hl2, hC3, hl3⟩)
  have HRW := Lib.hid (Kd.C_below HRow.out hb0)
  have s0 := (blk_cell b31 0).trans rfl
  have s1 := (blk_cell b31 1).trans rfl
  have f1 := (blk_cell b56 1).trans rfl
  have f2 := (blk_cell b56 2).trans rfl
  have f3 := (blk_cell b56 3).trans rfl
  have t4 := (blk_cell H2.out.hC 4).trans rfl
  have hsz := H2.out.hB.size
  have HINS := Lib.hid (show insOf P at_ x = ⟨at_, ⟨x.f1, rowL (rd_T66 P at_.f0).f2 x.f2, 0⟩⟩ from rfl)
  generalize rd_T66 P at_.f0 = pj at *
  have hpn : at_.f0.toNat * 6 = at_.f0.toNat * 6 := rfl
  have B31 := Lib.hid b31
  have B56 := Lib.hid b56
  clear hC2 hC3 b31 b56 hpn hb0
  go_cut [8] from 9 to 20 (fun s8 wx => ∃ (B : Nat) (v : Value), s8 = .pointer (some ⟨B, 0, none⟩) ∧ Hid (wx.heap[B]? = some (.cells #[.int .u64 x.f1.f0, .int .u32 x.f1.f1, v, .int .u64 0] 68 (0, 0))) ∧ Hid (wx.ownsRow w0.heap.size 97 4 v pj.f2.length (valCells (rowL pj.f2 x.f2))) ∧ Hid (Below W2.heap.size W2 wx))
  case first =>
    have HS := Lib.hid (fun (w' : World) (hb : Below W2.heap.size W2 w') => (show w'.cell? ⟨W.heap.size, 0, none⟩ = some (.int .i64 at_.f0) ∧ w'.cell? ⟨W.heap.size, 1, none⟩ = some (.int .i64 at_.f1) ∧ w'.cell? ⟨W.heap.size + 1, 1, none⟩ = some (.int .u64 x.f1.f0) ∧ w'.cell? ⟨W.heap.size + 1, 2, none⟩ = some (.int .u32 x.f1.f1) ∧ w'.cell? ⟨W.heap.size + 1, 3, none⟩ = some (.slice AR x.f2.length cr) ∧ w'.cell? ⟨C, 4, none⟩ = some (.slice (some ad) P.length c4) ∧ w'.cell? (ad.add (at_.f0.toNat * 6)) = some (.string pj.f0) ∧ w'.cell? ⟨(ad.add (at_.f0.toNat * 6)).block, (ad.add (at_.f0.toNat * 6)).off + 1, none⟩ = some (.int .i64 pj.f1) ∧ w'.cell? ⟨(ad.add (at_.f0.toNat * 6)).block, (ad.add (at_.f0.toNat * 6)).off + 2, none⟩ = some (.slice B2 pj.f2.length d2) ∧ w'.cell? ⟨(ad.add (at_.f0.toNat * 6)).block, (ad.add (at_.f0.toNat * 6)).off + 3, none⟩ = some (.slice B3 pj.f3.length d3) ∧ w'.cell? ⟨(ad.add (at_.f0.toNat * 6)).block, (ad.add (at_.f0.toNat * 6)).off + 4, none⟩ = some (.int .i64 pj.f4) ∧ w'.cell? ⟨(ad.add (at_.f0.toNat * 6)).block, (ad.add (at_.f0.toNat * 6)).off + 5, none⟩ = some (.int .i64 pj.f5) from ⟨pw_cell_below hb s0, pw_cell_below hb s1, pw_cell_below hb f1, pw_cell_below hb f2, pw_cell_below hb f3, pw_cell_below hb t4, pw_cell_below hb hc0, pw_cell_below hb hc1, pw_cell_below hb hc2, pw_cell_below hb hc3, pw_cell_below hb hc4, pw_cell_below hb hc5⟩))
    have HBD := Lib.hid (show Below W2.heap.size W2 W2.drew from (Below.refl _ W2).drew)
    have HBA := Lib.hid (show Below W2.heap.size W2 (W2.alloc (.cells #[.int .u64 0, .int .u32 0, .slice none 0 0, .int .u64 0] 68)).drew from ((Below.refl W2.heap.size W2).alloc (Nat.le_refl _) _).drew)
    clear s0 s1 f1 f2 f3 t4 hc0 hc1 hc2 hc3 hc4 hc5
    go_region_held3 (fun w' => w'.cell? ⟨W.heap.size, 0, none⟩ = some (.int .i64 at_.f0) ∧ w'.cell? ⟨W.heap.size, 1, none⟩ = some (.int .i64 at_.f1) ∧ w'.cell? ⟨W.heap.size + 1, 1, none⟩ = some (.int .u64 x.f1.f0) ∧ w'.cell? ⟨W.heap.size + 1, 2, none⟩ = some (.int .u32 x.f1.f1) ∧ w'.cell? ⟨W.heap.size + 1, 3, none⟩ = some (.slice AR x.f2.length cr) ∧ w'.cell? ⟨C, 4, none⟩ = some (.slice (some ad) P.length c4) ∧ w'.cell? (ad.add (at_.f0.toNat * 6)) = some (.string pj.f0) ∧ w'.cell? ⟨(ad.add (at_.f0.toNat * 6)).block, (ad.add (at_.f0.toNat * 6)).off + 1, none⟩ = some (.int .i64 pj.f1) ∧ w'.cell? ⟨(ad.add (at_.f0.toNat * 6)).block, (ad.add (at_.f0.toNat * 6)).off + 2, none⟩ = some (.slice B2 pj.f2.length d2) ∧ w'.cell? ⟨(ad.add (at_.f0.toNat * 6)).block, (ad.add (at_.f0.toNat * 6)).off + 3, none⟩ = some (.slice B3 pj.f3.length d3) ∧ w'.cell? ⟨(ad.add (at_.f0.toNat * 6)).block, (ad.add (at_.f0.toNat * 6)).off + 4, none⟩ = some (.int .i64 pj.f4) ∧ w'.cell? ⟨(ad.add (at_.f0.toNat * 6)).block, (ad.add (at_.f0.toNat * 6)).off + 5, none⟩ = some (.int .i64 pj.f5))
      (first | exact HS.out _ HBD.out | exact HS.out _ HBA.out | exact HS.out _ HBN.out | exact HS.out _ (HBN.out.alloc HBN.out.size _) | exact HS.out _ ((((HBN.out.setCell (p := ⟨W2.heap.size, 0, none⟩) (Nat.le_refl _) _).setCell (p := ⟨W2.heap.size, 1, none⟩) (Nat.le_refl _) _).setCell (p := ⟨W2.heap.size, 2, none⟩) (Nat.le_refl _) _).setCell (p := ⟨W2.heap.size, 3, none⟩) (Nat.le_refl _) _))
      (first
        | (go_at_call 43; refine (row_calls pj B2 d2 B3 d3 AR cr x.f2 W2.drew (HPR.out.below HBD.out) h8 (Kd.C_below HRW.out HBD.out) hcr).mono ?_; rintro e w3 ⟨v, rfl, hown, hb⟩; obtain ⟨Av, cv, rfl⟩ := own_form hown; have HOW := Lib.hid hown; have HBN := Lib.hid (HBD.out.trans (hb.mono HBD.out.size)); clear hown hb)
        | (go_at_call 43; refine (row_calls pj B2 d2 B3 d3 AR cr x.f2 (W2.alloc (.cells #[.int .u64 0, .int .u32 0, .slice none 0 0, .int .u64 0] 68)).drew (HPR.out.below HBA.out) h8 (Kd.C_below HRW.out HBA.out) hcr).mono ?_; rintro e w3 ⟨v, rfl, hown, hb⟩; obtain ⟨Av, cv, rfl⟩ := own_form hown; have HOW := Lib.hid hown; have HBN := Lib.hid (HBA.out.trans (hb.mono HBA.out.size)); have bz := blk_below (show (W2.alloc (.cells #[.int .u64 0, .int .u32 0, .slice none 0 0, .int .u64 0] 68)).drew.heap[W2.heap.size]? = some (.cells #[.int .u64 0, .int .u32 0, .slice none 0 0, .int .u64 0] 68 (0, 0)) from heap_alloc_new W2 _) hb; have BZ := Lib.hid bz; have g0 := (blk_cell bz 0).trans rfl; have g1 := (blk_cell bz 1).trans rfl; have g2 := (blk_cell bz 2).trans rfl; have g3 := (blk_cell bz 3).trans rfl; have k0 := blk_frozen bz 0; have k1 := blk_frozen bz 1; have k2 := blk_frozen bz 2; have k3 := blk_frozen bz 3; clear hown hb bz))
    · go_wp2_with (fail)
      go_meet
      case rel => exact ⟨_, _, rfl, Lib.hid (heap_alloc_new _ _), Lib.hid ((own_lower HOW.out hsz).alloc _), Lib.hid (HBN.out.alloc HBN.out.size _)⟩
    · have HLO := Lib.hid (own_lower (b' := w0.heap.size) HOW.out (Nat.le_trans hsz (by simp)))
      have hne := own_ne HOW.out BZ.out (by decide)
      go_wp2_with (fail)
      go_meet
      case rel => exact ⟨_, _, rfl, Lib.hid (blk_set (blk_set (blk_set (blk_set BZ.out 0 _) 1 _) 2 _) 3 _), Lib.hid (own_setCell (p := ⟨W2.heap.size, 3, none⟩) (own_setCell (p := ⟨W2.heap.size, 2, none⟩) (own_setCell (p := ⟨W2.heap.size, 1, none⟩) (own_setCell (p := ⟨W2.heap.size, 0, none⟩) HLO.out hne _) hne _) hne _) hne _), Lib.hid ((((HBN.out.setCell (p := ⟨W2.heap.size, 0, none⟩) (Nat.le_refl _) _).setCell (p := ⟨W2.heap.size, 1, none⟩) (Nat.le_refl _) _).setCell (p := ⟨W2.heap.size, 2, none⟩) (Nat.le_refl _) _).setCell (p := ⟨W2.heap.size, 3, none⟩) (Nat.le_refl _) _)⟩
  case rest =>
    obtain ⟨B, vr, rfl, HBB, HOW, HBX⟩ := hcut
    obtain ⟨Av, cv, rfl⟩ := own_form HOW.out
    have H3 := Lib.hid (H2.out.below HBX.out)
    have HK3 := Lib.hid (HKA.out.trans (KeepT.below HBX.out))
    have B31' := Lib.hid (blk_below B31.out HBX.out)
    clear s0 s1 f1 f2 f3 t4 hc0 hc1 hc2 hc3 hc4 hc5
    have p0 := (blk_cell H3.out.hP 0).trans rfl
    have gI := H3.out.cellI hn
    have s0 := (blk_cell B31'.out 0).trans rfl
    have s1 := (blk_cell B31'.out 1).trans rfl
    have g0 := (blk_cell HBB.out 0).trans rfl
    have g1 := (blk_cell HBB.out 1).trans rfl
    have g2 := (blk_cell HBB.out 2).trans rfl
    have g3 := (blk_cell HBB.out 3).trans rfl
    have HO := Lib.hid (H3.out.pm.fI.own node hn)
    have hsz3 := H3.out.hB.size
    have pG := H3.out.gP
    go_upto_region 1 with (fail)
    generalize hv : vI node = v at *
    have HA3 := Lib.hid (show Below wc.heap.size wc (wc.alloc (.cells #[.int .i64 at_.f0, .int .i64 at_.f1, .int .u64 x.f1.f0, .int .u32 x.f1.f1, .slice Av pj.f2.length cv, .int .u64 0] 70)).drew from ((Below.refl wc.heap.size wc).alloc (Nat.le_refl _) (.cells #[.int .i64 at_.f0, .int .i64 at_.f1, .int .u64 x.f1.f0, .int .u32 x.f1.f1, .slice Av pj.f2.length cv, .int .u64 0] 70)).drew)
    have HX := Lib.hid (H3.out.below HA3.out)
    have HKX := Lib.hid (KeepT.below HA3.out)
    have HS := Lib.hid (fun (w' : World) (hb : Below wc.heap.size wc w') => (show w'.cell? ⟨Pv, 0, none⟩ = some (.slice (some ⟨G, 0, none⟩) nn nn) ∧ w'.cell? ⟨W.heap.size, 0, none⟩ = some (.int .i64 at_.f0) ∧ w'.cell? ⟨W.heap.size, 1, none⟩ = some (.int .i64 at_.f1) ∧ w'.cell? ⟨B, 0, none⟩ = some (.int .u64 x.f1.f0) ∧ w'.cell? ⟨B, 1, none⟩ = some (.int .u32 x.f1.f1) ∧ w'.cell? ⟨B, 2, none⟩ = some (.slice Av pj.f2.length cv) ∧ w'.cell? ⟨B, 3, none⟩ = some (.int .u64 0) ∧ w'.cell? ⟨G, node * 2, none⟩ = some v from ⟨pw_cell_below hb p0, pw_cell_below hb s0, pw_cell_below hb s1, pw_cell_below hb g0, pw_cell_below hb g1, pw_cell_below hb g2, pw_cell_below hb g3, pw_cell_below hb gI⟩))
    have HBD := Lib.hid (show Below wc.heap.size wc wc.drew from (Below.refl _ wc).drew)
    refine wp_region_sinkB 14 (fun w' => w'.cell? ⟨Pv, 0, none⟩ = some (.slice (some ⟨G, 0, none⟩) nn nn) ∧ w'.cell? ⟨W.heap.size, 0, none⟩ = some (.int .i64 at_.f0) ∧ w'.cell? ⟨W.heap.size, 1, none⟩ = some (.int .i64 at_.f1) ∧ w'.cell? ⟨B, 0, none⟩ = some (.int .u64 x.f1.f0) ∧ w'.cell? ⟨B, 1, none⟩ = some (.int .u32 x.f1.f1) ∧ w'.cell? ⟨B, 2, none⟩ = some (.slice Av pj.f2.length cv) ∧ w'.cell? ⟨B, 3, none⟩ = some (.int .u64 0) ∧ w'.cell? ⟨G, node * 2, none⟩ = some v) (by kernel_rfl) rfl rfl rfl rfl (by kernel_rfl) (by kernel_rfl) (by kernel_rfl) ?_
    refine wpAnyH_take (i := 0) (v := ?_) rfl (by kernel_rfl) (by kernel_rfl) (by kernel_rfl) (fun _ _ _ h => ⟨(fun e => by cases e), fun e => h.2 e⟩) (Or.inl ⟨by rfl, fun w' hS => ?_⟩) (HS.out _ HBD.out) ?_
    rotate_left
    · obtain ⟨a1, a2, a3, a4, a5, a6, a7, a8⟩ := hS
      go_simp
      try rfl
    refine wpAnyH_take (i := 1) (v := ?_) rfl (by kernel_rfl) (by kernel_rfl) (by kernel_rfl) (fun _ _ _ h => ⟨(fun e => by cases e), fun e => h.2 e⟩) (Or.inl ⟨by rfl, fun w' hS => ?_⟩) (HS.out _ HBD.out) ?_
    rotate_left
    · obtain ⟨a1, a2, a3, a4, a5, a6, a7, a8⟩ := hS
      go_simp
      try rfl
    refine wpAnyH_take (i := 2) (v := ?_) rfl (by kernel_rfl) (by kernel_rfl) (by kernel_rfl) (fun _ _ _ h => ⟨(fun e => by cases e), fun e => h.2 e⟩) (Or.inl ⟨by rfl, fun w' hS => ?_⟩) (HS.out _ HBD.out) ?_
    rotate_left
    · obtain ⟨a1, a2, a3, a4, a5, a6, a7, a8⟩ := hS
      go_simp
      try rfl
    refine wpAnyH_take (i := 3) (v := ?_) rfl (by kernel_rfl) (by kernel_rfl) (by kernel_rfl) (fun _ _ _ h => ⟨(fun e => by cases e), fun e => h.2 e⟩) (Or.inl ⟨by rfl, fun w' hS => ?_⟩) (HS.out _ HBD.out) ?_
    rotate_left
    · obtain ⟨a1, a2, a3, a4, a5, a6, a7, a8⟩ := hS
      go_simp
      try rfl
    refine wpAnyH_take (i := 4) (v := ?_) rfl (by kernel_rfl) (by kernel_rfl) (by kernel_rfl) (fun _ _ _ h => ⟨(fun e => by cases e), fun e => h.2 e⟩) (Or.inl ⟨by rfl, fun w' hS => ?_⟩) (HS.out _ HBD.out) ?_
    rotate_left
    · obtain ⟨a1, a2, a3, a4, a5, a6, a7, a8⟩ := hS
      go_simp
      try rfl
    refine wpAnyH_take (i := 5) (v := ?_) rfl (by kernel_rfl) (by kernel_rfl) (by kernel_rfl) (fun _ _ _ h => ⟨(fun e => by cases e), fun e => h.2 e⟩) (Or.inl ⟨by rfl, fun w' hS => ?_⟩) (HS.out _ HBD.out) ?_
    rotate_left
    · obtain ⟨a1, a2, a3, a4, a5, a6, a7, a8⟩ := hS
      go_simp
      try rfl
    refine wpAnyH_take (i := 6) (v := ?_) rfl (by kernel_rfl) (by kernel_rfl) (by kernel_rfl) (fun _ _ _ h => ⟨(fun e => by cases e), fun e => h.2 e⟩) (Or.inl ⟨by rfl, fun w' hS => ?_⟩) (HS.out _ HBD.out) ?_
    rotate_left
    · obtain ⟨a1, a2, a3, a4, a5, a6, a7, a8⟩ := hS
      go_simp
      try rfl
    refine wpAnyH_take (i := 7) (v := ?_) rfl (by kernel_rfl) (by kernel_rfl) (by kernel_rfl) (fun _ _ _ h => ⟨(fun e => by cases e), fun e => h.2 e⟩) (Or.inl ⟨by rfl, fun w' hS => ?_⟩) (HS.out _ HBD.out) ?_
    rotate_left
    · obtain ⟨a1, a2, a3, a4, a5, a6, a7, a8⟩ := hS
      go_simp
      try rfl
    refine wpAnyH_take (i := 8) (v := ?_) rfl (by kernel_rfl) (by kernel_rfl) (by kernel_rfl) (fun _ _ _ h => ⟨(fun e => by cases e), fun e => h.2 e⟩) (Or.inl ⟨by rfl, fun w' hS => ?_⟩) (HS.out _ HBD.out) ?_
    rotate_left
    · obtain ⟨a1, a2, a3, a4, a5, a6, a7, a8⟩ := hS
      go_simp
      try rfl
    refine wpAnyH_take (i := 9) (v := ?_) rfl (by kernel_rfl) (by kernel_rfl) (by kernel_rfl) (fun _ _ _ h => ⟨(fun e => by cases e), fun e => h.2 e⟩) (Or.inl ⟨by rfl, fun w' hS => ?_⟩) (HS.out _ HBD.out) ?_
    rotate_left
    · obtain ⟨a1, a2, a3, a4, a5, a6, a7, a8⟩ := hS
      go_simp
      try rfl
    refine wpAnyH_ready (rs := [10]) (by kernel_rfl) (by simp) ?_
    refine AllReadyH.cons rfl (fun K hK => ?_) AllReadyH.nil
    go_simp
    refine hK.out _ _ (HS.out _ HA3.out) (fun hHeld => ?_)
    clear hK K
    refine wpAnyH_ready (rs := [11]) (by kernel_rfl) (by simp) ?_
    refine AllReadyH.cons rfl (fun K hK => ?_) AllReadyH.nil
    refine step_append_lies _ (by rfl) _ _ 59 (by rfl) w0.heap.size 70 i0 _ 6 64 Try.underlying59 hi hz0 hz1 hz2 rfl (by decide) v _ _ (by rfl) ((HO.out.alloc _).drew)
          ⟨wc.heap.size, 0, none⟩ 1 1 [.int .i64 at_.f0, .int .i64 at_.f1, .int .u64 x.f1.f0, .int .u32 x.f1.f1, .slice Av pj.f2.length cv, .int .u64 0] (by rfl) (by rfl) (World.news_of_block (cs := #[.int .i64 at_.f0, .int .i64 at_.f1, .int .u64 x.f1.f0, .int .u32 x.f1.f1, .slice Av pj.f2.length cv, .int .u64 0]) (t := 70) (fr := (0, 0)) (heap_alloc_new wc _)) (by simp [Value.oneCell'])
          (by decide) (by simp only [maxLen]; omega) (by omega) (by simp; omega) (wc.heap.size + 1) (by simp) ?_
    intro gg cap w1 hown1 hgrow hat hlt
    have hG1 := blk_grown HX.out.pm.blk (by rw [hv]; exact hgrow) (own_ne (HX.out.pm.fI.own node hn) HX.out.pm.blk (by decide))
    have hP1 := blk_grown HX.out.hP (by rw [hv]; exact hgrow) (own_ne (HX.out.pm.fI.own node hn) HX.out.hP (by decide))
    have h31 := blk_grown (w := (wc.alloc (.cells #[.int .i64 at_.f0, .int .i64 at_.f1, .int .u64 x.f1.f0, .int .u32 x.f1.f1, .slice Av pj.f2.length cv, .int .u64 0] 70)).drew) (blk_alloc B31'.out (.cells #[.int .i64 at_.f0, .int .i64 at_.f1, .int .u64 x.f1.f0, .int .u32 x.f1.f1, .slice Av pj.f2.length cv, .int .u64 0] 70)) hgrow (own_ne (w := (wc.alloc (.cells #[.int .i64 at_.f0, .int .i64 at_.f1, .int .u64 x.f1.f0, .int .u32 x.f1.f1, .slice Av pj.f2.length cv, .int .u64 0] 70)).drew) ((HO.out.alloc (.cells #[.int .i64 at_.f0, .int .i64 at_.f1, .int .u64 x.f1.f0, .int .u32 x.f1.f1, .slice Av pj.f2.length cv, .int .u64 0] 70)).drew) (blk_alloc B31'.out (.cells #[.int .i64 at_.f0, .int .i64 at_.f1, .int .u64 x.f1.f0, .int .u32 x.f1.f1, .slice Av pj.f2.length cv, .int .u64 0] 70)) (by decide))
    have h68 := blk_grown (w := (wc.alloc (.cells #[.int .i64 at_.f0, .int .i64 at_.f1, .int .u64 x.f1.f0, .int .u32 x.f1.f1, .slice Av pj.f2.length cv, .int .u64 0] 70)).drew) (blk_alloc HBB.out (.cells #[.int .i64 at_.f0, .int .i64 at_.f1, .int .u64 x.f1.f0, .int .u32 x.f1.f1, .slice Av pj.f2.length cv, .int .u64 0] 70)) hgrow (own_ne (w := (wc.alloc (.cells #[.int .i64 at_.f0, .int .i64 at_.f1, .int .u64 x.f1.f0, .int .u32 x.f1.f1, .slice Av pj.f2.length cv, .int .u64 0] 70)).drew) ((HO.out.alloc (.cells #[.int .i64 at_.f0, .int .i64 at_.f1, .int .u64 x.f1.f0, .int .u32 x.f1.f1, .slice Av pj.f2.length cv, .int .u64 0] 70)).drew) (blk_alloc HBB.out (.cells #[.int .i64 at_.f0, .int .i64 at_.f1, .int .u64 x.f1.f0, .int .u32 x.f1.f1, .slice Av pj.f2.length cv, .int .u64 0] 70)) (by decide))
    have c1 : w1.cell? ⟨G, node * 2, none⟩ = some v := (blk_cell hG1 _).trans (by rw [pc_cell, if_pos (by omega), if_pos (by omega), show node * 2 / 2 = node by omega, hv])
    have f1' := blk_frozen hG1 (node * 2)
    have HS1 := Lib.hid (show w1.cell? ⟨Pv, 0, none⟩ = some (.slice (some ⟨G, 0, none⟩) nn nn) ∧ w1.cell? ⟨W.heap.size, 0, none⟩ = some (.int .i64 at_.f0) ∧ w1.cell? ⟨W.heap.size, 1, none⟩ = some (.int .i64 at_.f1) ∧ w1.cell? ⟨B, 0, none⟩ = some (.int .u64 x.f1.f0) ∧ w1.cell? ⟨B, 1, none⟩ = some (.int .u32 x.f1.f1) ∧ w1.cell? ⟨B, 2, none⟩ = some (.slice Av pj.f2.length cv) ∧ w1.cell? ⟨B, 3, none⟩ = some (.int .u64 0) ∧ w1.cell? ⟨G, node * 2, none⟩ = some v from ⟨(blk_cell hP1 0).trans rfl, (blk_cell h31 0).trans rfl, (blk_cell h31 1).trans rfl, (blk_cell h68 0).trans rfl, (blk_cell h68 1).trans rfl, (blk_cell h68 2).trans rfl, (blk_cell h68 3).trans rfl, c1⟩)
    have HKG := Lib.hid (fun (u : Value) => (KeepT.grown (HX.out.pm.fI.own node hn) ne70 (by rw [hv]; exact hgrow)).trans (KeepT.set hG1 ne62 (node * 2) u))
    have HOWN := Lib.hid (show w1.ownsRow w0.heap.size 97 4 (.slice Av pj.f2.length cv) pj.f2.length (valCells (rowL pj.f2 x.f2)) from own_other (pw_own_below HOW.out HA3.out) hgrow (apart_types (pw_own_below HOW.out HA3.out) ((HO.out.alloc (.cells #[.int .i64 at_.f0, .int .i64 at_.f1, .int .u64 x.f1.f0, .int .u32 x.f1.f1, .slice Av pj.f2.length cv, .int .u64 0] 70)).drew) (by decide)))
    have HG1 := Lib.hid hgrow
    have HO1 := Lib.hid hown1
    have HAT := Lib.hid hat
    clear hP1 h31 h68 hgrow hown1 hat hG1
    refine hK.out _ _ HS1.out (fun hHeld => ?_)
    clear hK K
    refine wpAnyH_take (i := 12) (v := ?_) rfl (by kernel_rfl) (by kernel_rfl) (by kernel_rfl) (fun _ _ _ h => ⟨(fun e => by cases e), fun e => h.2 e⟩) (Or.inl ⟨by rfl, fun w' hS => ?_⟩) HS1.out ?_
    rotate_left
    · obtain ⟨a1, a2, a3, a4, a5, a6, a7, a8⟩ := hS
      go_simp
      try rfl
    refine wpAnyH_take (i := 13) (v := ?_) rfl (by kernel_rfl) (by kernel_rfl) (by kernel_rfl) (fun _ _ _ h => ⟨(fun e => by cases e), fun e => h.2 e⟩) (Or.inl ⟨by rfl, fun w' hS => ?_⟩) HS1.out ?_
    rotate_left
    · obtain ⟨a1, a2, a3, a4, a5, a6, a7, a8⟩ := hS
      go_simp
      try rfl
    refine wpAnyH_take (i := 14) (v := ?_) rfl (by kernel_rfl) (by kernel_rfl) (by kernel_rfl) (fun _ _ _ h => ⟨(fun e => by cases e), fun e => h.2 e⟩) (Or.inl ⟨by rfl, fun w' hS => ?_⟩) HS1.out ?_
    rotate_left
    · obtain ⟨a1, a2, a3, a4, a5, a6, a7, a8⟩ := hS
      go_simp
      try rfl
    refine wpAnyH_done (by kernel_rfl) ?_ _
    refine ⟨fun _ => ?_, fun h => absurd rfl h⟩
    unfold wpOp
    simp only [List.getElem?_toArray, List.getElem?_cons_succ, List.getElem?_cons_zero]
    rw [if_pos (by rfl)]
    left
    go_simp
    go_wp2
    all_goals go_end0
    all_goals
      rw [HINS.out]
      refine ⟨rfl, _, _, HX.out.ins hn (x := ⟨at_, ⟨x.f1, rowL pj.f2 x.f2, 0⟩⟩) HO1.out (by rw [hv]; exact HG1.out) ?_ ⟨_, rfl, ?_⟩ rfl, (HK3.out.trans HKX.out).trans (HKG.out _)⟩
    · rw [hv]
      rcases HAT.out with h | h
      · exact .inl h.symm
      · exact .inr ⟨_, congrArg some h, by simp⟩
    · rw [show (rowL pj.f2 x.f2).length = pj.f2.length by simp [rowL]]
      exact HOWN.out
end Go.Proofs.Ytnaaaldeadjohaa.Cat

set_option linter.unusedVariables false
set_option linter.unusedSimpArgs false
namespace Go.Proofs.Ytnaaaldeadjohaa.Cat
open Go.RowKit Go.Shelf Go.Proofs Go.Proofs.YtnaaaldeadjohaaW.PrintWords Go.Proofs.Ytnaaaldeadjohaa.PCatalogLies
/-! ### What is done at each node -/
def atNode (l : List Do) (j : Nat) : List Do := l.filter fun d => d.node == j
def insL (P : List S66) (l : List Do) (j : Nat) : List S70 := (atNode l j).map fun d => insOf P d.at_ d.x
def eraL (l : List Do) (j : Nat) : List S72 := (atNode l j).map fun d => ⟨d.at_, d.x.f1⟩
theorem insL_snoc (P : List S66) (l : List Do) (d : Do) : insL P (l ++ [d]) = upd (insL P l) d.node (insL P l d.node ++ [insOf P d.at_ d.x]) := by
  funext j
  unfold insL atNode upd
  rw [List.filter_append, List.map_append]
  by_cases e : d.node = j
  · subst e; simp
  · rw [if_neg (Ne.symm e)]; simp [e]
theorem eraL_snoc (l : List Do) (d : Do) : eraL (l ++ [d]) = upd (eraL l) d.node (eraL l d.node ++ [⟨d.at_, d.x.f1⟩]) := by
  funext j
  unfold eraL atNode upd
  rw [List.filter_append, List.map_append]
  by_cases e : d.node = j
  · subst e; simp
  · rw [if_neg (Ne.symm e)]; simp [e]
theorem insL_len (P : List S66) (l : List Do) (j : Nat) : (insL P l j).length ≤ l.length := by
  unfold insL atNode; rw [List.length_map]; exact List.length_filter_le _ _
theorem eraL_len (l : List Do) (j : Nat) : (eraL l j).length ≤ l.length := by
  unfold eraL atNode; rw [List.length_map]; exact List.length_filter_le _ _
/-! ### How many there are -/
section
variable {n s k : Int} {P : List S66}
theorem eachOne_le (g : Good n s k P) (x : S57) (p : Nat) : (eachOne n s k P x p).length ≤ 8 := by
  unfold eachOne
  split
  · rw [List.length_map]; exact nodesL_length n s k P g _ _
  · exact Nat.zero_le _
theorem eachX_le (g : Good n s k P) (x : S57) : ∀ p, (eachX n s k P x p).length ≤ 8 * p
  | 0 => by simp [eachX]
  | p + 1 => by rw [eachX_succ, List.length_append]; have := eachX_le g x p; have := eachOne_le g x p; omega
theorem eachAll_le (g : Good n s k P) : ∀ xs : List S57, (eachAll n s k P xs).length ≤ 64 * xs.length
  | [] => by simp [eachAll]
  | x :: xs => by
    have h := eachAll_le g xs
    have e : eachAll n s k P (x :: xs) = eachX n s k P x P.length ++ eachAll n s k P xs := by unfold eachAll; rw [List.flatMap_cons]
    have h1 := eachX_le g x P.length
    have h2 := g.hP
    rw [e, List.length_append, List.length_cons]; omega
end
/-- A catalog's projections have at most eight columns. -/
theorem Taken.cols8 {n s k : Int} {T : List S79} {P : List S66} (h : Taken n s k T P) (a : Int) (h0 : 0 ≤ a) (h1 : a < P.length) : (rd_T66 P a).f2.length ≤ 8 := by
  obtain ⟨i, rfl⟩ := Int.eq_ofNat_of_zero_le h0
  have hp := allB_iff.1 h.projs i (by omega)
  simp only [Bool.and_eq_true] at hp
  have hq := hp.1
  unfold projOk at hq
  simp only [Bool.and_eq_true, decide_eq_true_eq] at hq
  obtain ⟨⟨⟨⟨⟨⟨⟨⟨⟨_, t0⟩, t1⟩, _⟩, _⟩, _⟩, hc⟩, _⟩, _⟩, _⟩ := hq
  obtain ⟨t, ht⟩ := Int.eq_ofNat_of_zero_le t0
  have htab := allB_iff.1 h.tabs t (by rw [ht] at t1; omega)
  simp only [Bool.and_eq_true] at htab
  have h3 := htab.1
  unfold tabOk at h3
  simp only [Bool.and_eq_true, decide_eq_true_eq] at h3
  have h4 := plOk_len hc
  rw [ht] at h4
  exact Nat.le_trans h4 h3.1.2
/-! ### Empty parts -/
theorem made2 (a b : Value) (nn : Nat) : madeCells #[a, b] (nn * 2) = partCells nn (fun _ => a) (fun _ => b) := by
  apply Array.ext_getElem?
  intro m
  rw [pc_cell]
  by_cases h : m < 2 * nn
  · rw [if_pos h]
    have hs : m < (madeCells #[a, b] (nn * 2)).size := by rw [size_madeCells]; omega
    rw [Array.getElem?_eq_getElem hs]
    simp only [madeCells, Array.getElem_map, Array.getElem_range]
    rcases Nat.mod_two_eq_zero_or_one m with e | e
    · rw [if_pos e]; simp [e]
    · rw [if_neg (by omega)]; simp [e]
  · rw [if_neg h, Array.getElem?_eq_none (by rw [size_madeCells]; omega)]
theorem fam_nil (w : World) (base e z nn : Nat) : Fam w base e z nn (fun _ => .slice none 0 0) (fun _ => 0) (fun _ => []) :=
  ⟨fun _ _ => own_nil _ _ _ _, fun _ _ _ _ _ => .inl rfl⟩
theorem pm_nil (w : World) (base G nn : Nat) (h : w.heap[G]? = some (.cells (madeCells #[.slice none 0 0, .slice none 0 0] (nn * 2)) 62 (0, 0))) : PM w base G nn (fun _ => []) (fun _ => []) (fun _ => .slice none 0 0) (fun _ => .slice none 0 0) (fun _ => []) :=
  ⟨by rw [← made2]; exact h, fam_nil _ _ _ _ _, fun _ _ => ⟨rfl, fun i p h => by cases h⟩, fam_nil _ _ _ _ _⟩
theorem info62 : (Try.prog.info? 62).map (fun i => (i.zero, i.size, i.bytes)) = some (some (.agg #[.slice none 0 0, .slice none 0 0]), 2, 48) := by kernel_rfl
theorem make62 (nn : Nat) (hn : nn ≤ 8) (W : World) : (Instr.makeSlice 47 (.int .i64 (nn : Int)) (.int .i64 (nn : Int))).run Try.prog W = .ok (.slice (some ⟨W.heap.size, 0, none⟩) nn nn) (W.alloc (.cells (madeCells #[.slice none 0 0, .slice none 0 0] (nn * 2)) 62)) := by
  obtain ⟨i, hi, hz0, hz1, hz2⟩ := info_parts info62
  have h := run_make (P := Try.prog) W 47 62 i _ Try.underlying47 hi hz0 .i64 .i64 (nn : Int) (nn : Int) (by omega) (Int.le_refl _) (by rw [hz2]; omega) (by omega)
  rw [hz1] at h
  exact h
end Go.Proofs.Ytnaaaldeadjohaa.Cat

set_option linter.unusedVariables false
set_option linter.unusedSimpArgs false
namespace Go.Proofs.Ytnaaaldeadjohaa.Cat
open Go.RowKit Go.Shelf Go.Proofs Go.Proofs.YtnaaaldeadjohaaW.PrintWords Go.Proofs.Ytnaaaldeadjohaa.PCatalogLies
/-! ### catalog.Parts -/
theorem ent42 : ∀ args w, (callFunc 42 args).run Try.prog w = .ok (.enter 42 args) w := fun _ _ => rfl
theorem ent44 : ∀ args w, (callFunc 44 args).run Try.prog w = .ok (.enter 44 args) w := fun _ _ => rfl
section
variable {w0 W : World} {C Pv G nn : Nat} {s k : Int} {T : List S79} {P : List S66} {A3 : Option Addr} {c3 : Nat} {A4 : Option Addr} {c4 : Nat}
/-- What holds when some inserts and some erases are done. -/
def Stp (w0 : World) (C Pv G nn : Nat) (s k : Int) (T : List S79) (P : List S66) (A3 : Option Addr) (c3 : Nat) (A4 : Option Addr) (c4 : Nat) (li le : List Do) (W : World) : Prop :=
  ∃ vI vE xI, PS W w0 C Pv G nn nn s k T P A3 c3 A4 c4 (insL P li) (eraL le) vI vE xI
theorem Stp.below {li le : List Do} {W1 : World} (h : Stp w0 C Pv G nn s k T P A3 c3 A4 c4 li le W) (hb : Below W.heap.size W W1) : Stp w0 C Pv G nn s k T P A3 c3 A4 c4 li le W1 := by
  obtain ⟨vI, vE, xI, h⟩ := h; exact ⟨vI, vE, xI, h.below hb⟩
theorem Stp.box {li le : List Do} (h : Stp w0 C Pv G nn s k T P A3 c3 A4 c4 li le W) : Below w0.heap.size w0 W ∧ CatBox W C nn s k T P A3 c3 A4 c4 := by
  obtain ⟨vI, vE, xI, h⟩ := h
  exact ⟨h.hB, (blk_cell h.hC 0).trans rfl, (blk_cell h.hC 1).trans rfl, (blk_cell h.hC 2).trans rfl, (blk_cell h.hC 3).trans rfl, (blk_cell h.hC 4).trans rfl⟩
theorem eachI_calls (hR : CatR w0 T P A3 c3 A4 c4) (gd : Good nn s k P) (h8 : ∀ a : Int, 0 ≤ a → a < P.length → (rd_T66 P a).f2.length ≤ 8) (A : Option Addr) (c : Nat) (xs : List S57) (hx : k57.C w0 A xs.length xs) (bx : xs.length ≤ 10000000) (W : World) (le : List Do) (hW : Stp w0 C Pv G nn s k T P A3 c3 A4 c4 [] le W) :
    Calls Try.prog 41 #[.slice A xs.length c, .func (.func 42) #[] #[.pointer (some ⟨C, 0, none⟩), .pointer (some ⟨Pv, 0, none⟩)], .pointer (some ⟨C, 0, none⟩)] W fun e w' => e = .returned (.tuple #[]) ∧ Stp w0 C Pv G nn s k T P A3 c3 A4 c4 (eachAll nn s k P xs) le w' := by
  refine (each_calls 42 #[.pointer (some ⟨C, 0, none⟩), .pointer (some ⟨Pv, 0, none⟩)] ent42 w0 C nn s k T P A3 c3 A4 c4 (fun l W => Stp w0 C Pv G nn s k T P A3 c3 A4 c4 l le W) xs [] (fun l W W' h hb => h.below hb) (fun l W h => h.box) ?_ hR gd A c hx W hW).mono ?_
  · rintro l W ⟨node, y, x⟩ AR cr ⟨vI, vE, xI, h⟩ hn p0 p1 hrow hcr hlen
    have e1 := eachAll_le gd xs
    have e2 := insL_len P l node
    have hn8 := gd.hn
    rw [List.nil_append, List.length_append, List.length_singleton] at hlen
    refine (ins_calls w0 C Pv G nn nn s k T P A3 c3 A4 c4 (insL P l) (eraL le) vI vE xI W h hR node hn (by omega) y x AR cr (by omega) p0 p1 (h8 _ p0 p1) hrow hcr).mono ?_
    rintro e w' ⟨rfl, vI', xI', h', hk⟩
    exact ⟨rfl, ⟨vI', vE, xI', by rw [insL_snoc]; exact h'⟩, hk⟩
  · rintro e w' ⟨rfl, h, _⟩
    exact ⟨rfl, by simpa using h⟩
theorem eachE_calls (hR : CatR w0 T P A3 c3 A4 c4) (gd : Good nn s k P) (A : Option Addr) (c : Nat) (xs : List S57) (hx : k57.C w0 A xs.length xs) (bx : xs.length ≤ 10000000) (W : World) (li : List Do) (hW : Stp w0 C Pv G nn s k T P A3 c3 A4 c4 li [] W) :
    Calls Try.prog 41 #[.slice A xs.length c, .func (.func 44) #[] #[.pointer (some ⟨Pv, 0, none⟩)], .pointer (some ⟨C, 0, none⟩)] W fun e w' => e = .returned (.tuple #[]) ∧ Stp w0 C Pv G nn s k T P A3 c3 A4 c4 li (eachAll nn s k P xs) w' := by
  refine (each_calls 44 #[.pointer (some ⟨Pv, 0, none⟩)] ent44 w0 C nn s k T P A3 c3 A4 c4 (fun l W => Stp w0 C Pv G nn s k T P A3 c3 A4 c4 li l W) xs [] (fun l W W' h hb => h.below hb) (fun l W h => h.box) ?_ hR gd A c hx W hW).mono ?_
  · rintro l W ⟨node, y, x⟩ AR cr ⟨vI, vE, xI, h⟩ hn p0 p1 hrow hcr hlen
    have e1 := eachAll_le gd xs
    have e2 := eraL_len l node
    have hn8 := gd.hn
    rw [List.nil_append, List.length_append, List.length_singleton] at hlen
    refine (era_calls w0 C Pv G nn nn s k T P A3 c3 A4 c4 (insL P li) (eraL l) vI vE xI W h node hn (by omega) y x AR cr (by omega)).mono ?_
    rintro e w' ⟨rfl, vE', h', hk⟩
    exact ⟨rfl, ⟨vI, vE', xI, by rw [eraL_snoc]; exact h'⟩, hk⟩
  · rintro e w' ⟨rfl, h, _⟩
    exact ⟨rfl, by simpa using h⟩
end
set_option maxHeartbeats 8000000 in
set_option maxRecDepth 100000 in
theorem parts_calls (nn : Nat) (s k : Int) (T : List S79) (P : List S66) (A3 : Option Addr) (c3 : Nat) (A4 : Option Addr) (c4 : Nat) (w : World) (h : CatR w T P A3 c3 A4 c4) (gd : Good nn s k P) (h8 : ∀ a : Int, 0 ≤ a → a < P.length → (rd_T66 P a).f2.length ≤ 8)
    (X Y : Option Addr) (cx cy : Nat) (xs ys : List S57) (hx : k57.C w X xs.length xs) (hy : k57.C w Y ys.length ys) (bx : xs.length ≤ 10000000) (by_ : ys.length ≤ 10000000) :
    Calls Try.prog 23 #[catV nn s k T P A3 c3 A4 c4, .slice X xs.length cx, .slice Y ys.length cy] w fun e w' => ∃ G vI vE xI, e = .returned (.slice (some ⟨G, 0, none⟩) nn nn) ∧ PM w' w.heap.size G nn (insL P (eachAll nn s k P xs)) (eraL (eachAll nn s k P ys)) vI vE xI ∧ Below w.heap.size w w' := by
  have hA := (Below.refl w.heap.size w).alloc (Nat.le_refl _) (.cells #[.int .i64 nn, .int .i64 s, .int .i64 k, .slice A3 T.length c3, .slice A4 P.length c4] 25)
  have HA := Lib.hid hA
  have bC := heap_alloc_new w (.cells #[.int .i64 nn, .int .i64 s, .int .i64 k, .slice A3 T.length c3, .slice A4 P.length c4] 25)
  have hq := CatBox.new w nn s k T P A3 c3 A4 c4
  have HI := Lib.hid (fun (C Pv G : Nat) (le : List Do) (W : World) (hW : Stp w C Pv G nn s k T P A3 c3 A4 c4 [] le W) => eachI_calls h gd h8 X cx xs hx bx W le hW)
  have HE := Lib.hid (fun (C Pv G : Nat) (li : List Do) (W : World) (hW : Stp w C Pv G nn s k T P A3 c3 A4 c4 li [] W) => eachE_calls h gd Y cy ys hy by_ W li hW)
  obtain ⟨q0, q1, q2, q3, q4⟩ := hq
  have hn8 := gd.hn
  have hn8' : nn ≤ 8 := by omega
  have HMK := make62 nn hn8'
  have hz : (w.alloc (.cells #[.int .i64 nn, .int .i64 s, .int .i64 k, .slice A3 T.length c3, .slice A4 P.length c4] 25)).heap.size = w.heap.size + 1 := by simp
  clear hA
  go_enter Try.func23, Try.ntmps23
  go_wp2_with (fail)
  have hS0 : Stp w w.heap.size (w.heap.size + 1 + 1) (w.heap.size + 1) nn s k T P A3 c3 A4 c4 [] [] (((w.alloc (.cells #[.int .i64 nn, .int .i64 s, .int .i64 k, .slice A3 T.length c3, .slice A4 P.length c4] 25)).alloc (.cells (madeCells #[.slice none 0 0, .slice none 0 0] (nn * 2)) 62)).alloc (.cells #[.slice (some ⟨w.heap.size + 1, 0, none⟩) nn nn] 47)) := by
    generalize w.alloc (.cells #[.int .i64 nn, .int .i64 s, .int .i64 k, .slice A3 T.length c3, .slice A4 P.length c4] 25) = W1 at *
    have b1 := heap_alloc_new W1 (.cells (madeCells #[.slice none 0 0, .slice none 0 0] (nn * 2)) 62)
    rw [hz] at b1
    have b2 := heap_alloc_new (W1.alloc (.cells (madeCells #[.slice none 0 0, .slice none 0 0] (nn * 2)) 62)) (.cells #[.slice (some ⟨w.heap.size + 1, 0, none⟩) nn nn] 47)
    rw [World.size_alloc, hz] at b2
    exact ⟨fun _ => .slice none 0 0, fun _ => .slice none 0 0, fun _ => [], blk_alloc (blk_alloc bC _) _, b2, pm_nil _ _ _ _ (blk_alloc b1 _), (HA.out.alloc HA.out.size _).alloc (by rw [World.size_alloc]; omega) _, Nat.le_refl _, by omega, by omega⟩
  refine (HI.out _ _ _ _ _ hS0).mono ?_
  rintro e w1 ⟨rfl, h1⟩
  have H1 := Lib.hid h1
  clear hS0 h1 q0 q1 q2 q3 q4 bC
  go_wp2_with (fail)
  refine (HE.out _ _ _ _ _ H1.out).mono ?_
  rintro e w2 ⟨rfl, vI, vE, xI, h2⟩
  have g0 := (blk_cell h2.hP 0).trans rfl
  have H2 := Lib.hid h2
  clear h2
  go_wp2
  go_ret
  exact ⟨_, vI, vE, xI, rfl, H2.out.pm, H2.out.hB⟩
end Go.Proofs.Ytnaaaldeadjohaa.Cat
