import Derived.Test.YtnaaaldeadjohaaMd
set_option linter.unusedVariables false
set_option linter.unusedSimpArgs false
namespace Go.Proofs.Ytnaaaldeadjohaa.Cat
open Go.RowKit Go.Shelf Go.Proofs Go.Proofs.YtnaaaldeadjohaaW.PrintWords Go.Proofs.Ytnaaaldeadjohaa.PCatalogLies
/-! ### rows.Hash, rows.Segment, catalog.Where -/
def stepH (h c : Int) : Int := IntKind.u64.wrap (bits BinOp.xor IntKind.u64 h (IntKind.u64.wrap c) * 1099511628211)
def hashN (l : List Int) : Nat → Int
  | 0 => 14695981039346656037
  | i + 1 => stepH (hashN l i) (rd l i)
def hashV (v : S97) : Int := if rightB v = true then hashN (oneL v) (oneL v).length else 0
theorem byte_gives {w : World} {base n : Nat} {v : Value} {xs : List Int} (h : w.ownsRow base 5 1 v n (nums .u8 xs)) : ∃ A c, v = .slice A n c ∧ n ≤ c ∧ (Kd.int .u8).C w A n xs := by
  have hl : xs.length = n := by have := h.1; simp [nums] at this; exact this
  subst hl
  have hR := Kd.R_of_own (enc := Value.int .u8) (h1 := fun _ => rfl) (ok := fun _ => True) (e := 5) (base := base) (v := v) (xs := xs) (w := w) h (fun _ _ => trivial)
  obtain ⟨A, c, he, hle, hc⟩ := Kd.R_reads hR
  exact ⟨A, c, he, hle, hc⟩
set_option maxHeartbeats 8000000 in
set_option maxRecDepth 100000 in
theorem hash_calls (v : S97) (w : World) : Calls Try.prog 68 #[vV v] w fun e w' => e = .returned (.int .u64 (hashV v)) ∧ Below w.heap.size w w' := by
  obtain ⟨x0, x1, x2, x3⟩ := v
  have HA := Lib.hid ((Below.refl w.heap.size w).alloc (Nat.le_refl _) (.cells #[.int .i64 x0, .bool x1, .int .i64 x2, .string x3] 97))
  have HX := Lib.hid (valBox w x0 x1 x2 x3)
  have hz : (w.alloc (.cells #[.int .i64 x0, .bool x1, .int .i64 x2, .string x3] 97)).heap.size = w.heap.size + 1 := by simp
  obtain ⟨q0, q1, q2, q3⟩ := HX.out _ (Below.refl _ _)
  go_enter Try.func68, Try.ntmps68
  go_wp2_with (fail)
  generalize w.alloc (.cells #[.int .i64 x0, .bool x1, .int .i64 x2, .string x3] 97) = W0 at *
  refine (right_calls ⟨x0, x1, x2, x3⟩ _).mono ?_
  rintro e w1 ⟨rfl, hb⟩
  obtain ⟨r0, r1, r2, r3⟩ := HX.out _ (hb.mono (by omega))
  have HB1 := Lib.hid (HA.out.trans (hb.mono HA.out.size))
  clear hb q0 q1 q2 q3
  cases hr : rightB ⟨x0, x1, x2, x3⟩
  · have HF := Lib.hid (show hashV ⟨x0, x1, x2, x3⟩ = 0 by unfold hashV; rw [hr]; rfl)
    clear hr
    go_wp2
    go_ret
    exact ⟨by rw [HF.out]; rfl, HB1.out⟩
  · go_wp2_with (fail)
    refine (one_calls ⟨x0, x1, x2, x3⟩ hr (.slice none 0 0) w1 w1 (own_nil _ _ _ _) (Below.refl _ _)).mono ?_
    rintro e w2 ⟨v1, rfl, hown, hB⟩
    obtain ⟨AA, cc, rfl, hle, hC⟩ := byte_gives hown
    have HC := Lib.hid hC
    have hm := hC.2.1
    have HB2 := Lib.hid (HB1.out.trans (hB.mono HB1.out.size))
    have HF := Lib.hid (show hashV ⟨x0, x1, x2, x3⟩ = hashN (oneL ⟨x0, x1, x2, x3⟩) (oneL ⟨x0, x1, x2, x3⟩).length by unfold hashV; rw [hr]; rfl)
    clear hown hB hC r0 r1 r2 r3 hr
    go_wp2
    generalize oneL ⟨x0, x1, x2, x3⟩ = L at *
    go_loopw [3, 12] (fun vh v wr => ∃ i : Nat, v = .int .i64 i ∧ vh = .int .u64 (hashN L i) ∧ i ≤ L.length ∧ Hid (Below w2.heap.size w2 wr)) (fun _ v _ => L.length - (intOf v).toNat)
    case atStart => exact ⟨0, rfl, rfl, Nat.zero_le _, Lib.hid (Below.refl _ _)⟩
    case round =>
      obtain ⟨i, rfl, rfl, hi, HW⟩ := hrel
      by_cases hlt : i < L.length
      · obtain ⟨ad, e1, x0'⟩ := Kd.at_int (Kd.C_below HC.out HW.out) (i : Int) (by omega) (by omega)
        cases e1
        simp only [Int.toNat_natCast] at x0'
        generalize hy : rd L (i : Int) = y at *
        go_wp2
        go_roundw
        case rel => exact ⟨i + 1, by go_num, by rw [hashN, hy]; rfl, hlt, HW⟩
        case measure => simp [intOf]; omega
      · obtain rfl : i = L.length := by omega
        go_wp2
        go_ret
        exact ⟨by rw [HF.out]; rfl, HB2.out.trans (HW.out.mono HB2.out.size)⟩
theorem stepH_range (h c : Int) : 0 ≤ stepH h c ∧ stepH h c < 18446744073709551616 := by
  unfold stepH
  simp [IntKind.wrap, IntKind.signed, IntKind.bits]
  omega
theorem hashV_range (v : S97) : 0 ≤ hashV v ∧ hashV v < 18446744073709551616 := by
  unfold hashV
  split
  · cases (oneL v).length with
    | zero => exact ⟨by simp [hashN], by simp [hashN]⟩
    | succ n => exact stepH_range _ _
  · exact ⟨by decide, by decide⟩
def segN (v : S97) (s : Int) : Int := hashV v % s
set_option maxHeartbeats 4000000 in
theorem segment_calls (v : S97) (s : Int) (h1 : 1 ≤ s) (h8 : s ≤ 8) (w : World) : Calls Try.prog 49 #[vV v, .int .i64 s] w fun e w' => e = .returned (.int .i64 (segN v s)) ∧ Below w.heap.size w w' := by
  obtain ⟨x0, x1, x2, x3⟩ := v
  have HA := Lib.hid ((Below.refl w.heap.size w).alloc (Nat.le_refl _) (.cells #[.int .i64 x0, .bool x1, .int .i64 x2, .string x3] 97))
  have HX := Lib.hid (valBox w x0 x1 x2 x3)
  obtain ⟨q0, q1, q2, q3⟩ := HX.out _ (by rw [← World.size_alloc w (.cells #[.int .i64 x0, .bool x1, .int .i64 x2, .string x3] 97)]; exact Below.refl _ _)
  have d1 : decide (s < 1) = false := decide_eq_false (by omega)
  go_enter Try.func49, Try.ntmps49
  go_wp2_with (fail)
  refine (hash_calls ⟨x0, x1, x2, x3⟩ _).mono ?_
  rintro e w1 ⟨rfl, hb⟩
  have HB1 := Lib.hid (HA.out.trans (hb.mono HA.out.size))
  have hr := hashV_range ⟨x0, x1, x2, x3⟩
  have HF := Lib.hid (show segN ⟨x0, x1, x2, x3⟩ s = hashV ⟨x0, x1, x2, x3⟩ % s from rfl)
  generalize hashV ⟨x0, x1, x2, x3⟩ = h at *
  clear hb q0 q1 q2 q3
  go_wp2
  go_ret
  refine ⟨?_, HB1.out⟩
  rw [HF.out]
  have h2 := Int.emod_nonneg h (show s ≠ 0 by omega)
  have h3 := Int.emod_lt_of_pos h (show 0 < s by omega)
  have : wrap64 (h % s) = h % s := by unfold wrap64; omega
  simp [this]
def valAt (row : List S97) (b : Int) : S97 := if 0 ≤ b ∧ b < row.length then rd_T97 row b else ⟨0, false, 0, ⟨#[]⟩⟩
/-- Where a row belongs, in a projection. -/
def whereS (s : Int) (P : List S66) (row : List S97) (p : Int) : S31 := ⟨p, segN (valAt row (rd_T66 P p).f4) s⟩
set_option maxHeartbeats 8000000 in
set_option maxRecDepth 100000 in
theorem where_calls (n s k : Int) (T : List S79) (P : List S66) (A3 : Option Addr) (c3 : Nat) (A4 : Option Addr) (c4 : Nat) (p : Int) (AR : Option Addr) (cr : Nat) (row : List S97) (w : World) (h : CatR w T P A3 c3 A4 c4) (h1 : 1 ≤ s) (h8 : s ≤ 8) (p0 : 0 ≤ p) (p1 : p < P.length) (hrow : k97.C w AR row.length row) (hcr : row.length ≤ cr) :
    Calls Try.prog 26 #[catV n s k T P A3 c3 A4 c4, .int .i64 p, .slice AR row.length cr] w fun e w' => e = .returned (segV (whereS s P row p)) ∧ Below w.heap.size w w' := by
  have hA := ((Below.refl w.heap.size w).alloc (Nat.le_refl _) (.cells #[.int .i64 n, .int .i64 s, .int .i64 k, .slice A3 T.length c3, .slice A4 P.length c4] 25)).alloc (by simp) (.cells #[.int .i64 0, .int .i64 0] 31)
  have HA := Lib.hid hA
  have HC := Lib.hid (h.below hA)
  have HRow := Lib.hid (Kd.C_below hrow hA)
  have hq := CatBox.below (CatBox.new w n s k T P A3 c3 A4 c4) ((Below.refl _ (w.alloc (.cells #[.int .i64 n, .int .i64 s, .int .i64 k, .slice A3 T.length c3, .slice A4 P.length c4] 25))).alloc (Nat.le_refl _) (.cells #[.int .i64 0, .int .i64 0] 31))
  have HQ := Lib.hid hq
  obtain ⟨q0, q1, q2, q3, q4⟩ := hq
  have b6 : ((w.alloc (.cells #[.int .i64 n, .int .i64 s, .int .i64 k, .slice A3 T.length c3, .slice A4 P.length c4] 25)).alloc (.cells #[.int .i64 0, .int .i64 0] 31)).heap[w.heap.size + 1]? = some (.cells #[.int .i64 0, .int .i64 0] 31 (0, 0)) := by
    have := heap_alloc_new (w.alloc (.cells #[.int .i64 n, .int .i64 s, .int .i64 k, .slice A3 T.length c3, .slice A4 P.length c4] 25)) (.cells #[.int .i64 0, .int .i64 0] 31)
    rwa [World.size_alloc] at this
  have hR := hrow.2.1
  clear hA h hrow
  have d1 : decide (p < 0) = false := decide_eq_false (by omega)
  have d2 : decide ((P.length : Int) ≤ p) = false := decide_eq_false (by omega)
  go_enter Try.func26, Try.ntmps26
  go_wp2_with (fail)
  generalize (w.alloc (.cells #[.int .i64 n, .int .i64 s, .int .i64 k, .slice A3 T.length c3, .slice A4 P.length c4] 25)).alloc (.cells #[.int .i64 0, .int .i64 0] 31) = W0 at *
  refine (null_calls _).mono ?_
  rintro e w1 ⟨rfl, hb⟩
  have HB1 := Lib.hid hb
  have hA2 := (Below.refl w1.heap.size w1).alloc (Nat.le_refl _) (.cells #[.int .i64 0, .bool false, .int .i64 0, .string ⟨#[]⟩] 97)
  have HB2 := Lib.hid (HB1.out.trans (hA2.mono HB1.out.size))
  obtain ⟨r0, r1, r2, r3, r4⟩ := HQ.out.below HB2.out
  have b7 := heap_alloc_new w1 (.cells #[.int .i64 0, .bool false, .int .i64 0, .string ⟨#[]⟩] 97)
  have hb6 := blk_below b6 HB1.out
  have hs1 := HB1.out.size
  have hlt6 := blk_lt b6
  obtain ⟨ad, B2, e2, B3, e3, e1, _, _, _, _, f4, _⟩ := at_T66 (Kd.C_below HC.out.rP HB2.out) p p0 p1
  cases e1
  have HRw := Lib.hid (Kd.C_below HRow.out HB2.out)
  have t0 := (blk_cell b7 0).trans rfl
  have t1 := (blk_cell b7 1).trans rfl
  have t2 := (blk_cell b7 2).trans rfl
  have t3 := (blk_cell b7 3).trans rfl
  have B6 := Lib.hid hb6
  have B62 := Lib.hid (blk_below hb6 hA2)
  have HB7 := Lib.hid b7
  clear hb q0 q1 q2 q3 q4 b6 hb6 hA2 b7
  have HF := Lib.hid (show whereS s P row p = ⟨p, segN (valAt row (rd_T66 P p).f4) s⟩ from rfl)
  generalize (rd_T66 P p).f4 = b at *
  by_cases hb : 0 ≤ b ∧ b < row.length
  · obtain ⟨hb0, hb1⟩ := hb
    obtain ⟨ad2, e2', x0, x1, x2, x3⟩ := at_T97 HRw.out b hb0 hb1
    cases e2'
    have HV := Lib.hid (show valAt row b = rd_T97 row b from if_pos ⟨hb0, hb1⟩)
    generalize rd_T97 row b = v at *
    have hA3 := (Below.refl w1.heap.size w1).alloc (Nat.le_refl _) (.cells #[.int .i64 v.f0, .bool v.f1, .int .i64 v.f2, .string v.f3] 97)
    have HB3 := Lib.hid (HB1.out.trans (hA3.mono HB1.out.size))
    obtain ⟨m0, m1, m2, m3, m4⟩ := HQ.out.below HB3.out
    have HB6' := Lib.hid (blk_below B6.out hA3)
    clear hA3
    go_wp2_with (fail)
    generalize w1.alloc (.cells #[.int .i64 v.f0, .bool v.f1, .int .i64 v.f2, .string v.f3] 97) = W3 at *
    refine (segment_calls v s h1 h8 _).mono ?_
    rintro e w4 ⟨rfl, hb⟩
    have HB4 := Lib.hid (HB3.out.trans (hb.mono HB3.out.size))
    have b6 := blk_below HB6'.out hb
    have B6F := Lib.hid b6
    have u0 := (blk_cell b6 0).trans rfl
    have u1 := (blk_cell b6 1).trans rfl
    have v0 := blk_frozen b6 0
    have v1 := blk_frozen b6 1
    clear hb m0 m1 m2 m3 m4 x0 x1 x2 x3 r0 r1 r2 r3 r4 t0 t1 t2 t3 f4 b6
    go_wp2
    refine bodyPost_ret (results_cell_row rfl _ _ (w.heap.size + 1) 31 _ (0, 0) _ rfl (blk_set (blk_set B6F.out 0 _) 1 _) Try.underlying31 rfl (by kernel_rfl)) rfl ⟨by rw [HF.out, HV.out]; rfl, ?_⟩
    exact ((HA.out.trans (HB4.out.mono HA.out.size)).setCell (p := ⟨w.heap.size + 1, 0, none⟩) (by show w.heap.size ≤ w.heap.size + 1; omega) _).setCell (p := ⟨w.heap.size + 1, 1, none⟩) (by show w.heap.size ≤ w.heap.size + 1; omega) _
  · have HV := Lib.hid (show valAt row b = ⟨0, false, 0, ⟨#[]⟩⟩ from if_neg hb)
    by_cases hneg : 0 ≤ b
    · have dn : decide (b < (row.length : Int)) = false := decide_eq_false (by omega)
      clear hb
      go_wp2_with (fail)
      generalize w1.alloc (.cells #[.int .i64 0, .bool false, .int .i64 0, .string ⟨#[]⟩] 97) = W3 at *
      refine (segment_calls ⟨0, false, 0, ⟨#[]⟩⟩ s h1 h8 _).mono ?_
      rintro e w4 ⟨rfl, hb⟩
      have HB4 := Lib.hid (HB2.out.trans (hb.mono HB2.out.size))
      have b6 := blk_below B62.out hb
      have B6F := Lib.hid b6
      have u0 := (blk_cell b6 0).trans rfl
      have u1 := (blk_cell b6 1).trans rfl
      have v0 := blk_frozen b6 0
      have v1 := blk_frozen b6 1
      clear hb r0 r1 r2 r3 r4 t0 t1 t2 t3 f4 b6
      go_wp2
      refine bodyPost_ret (results_cell_row rfl _ _ (w.heap.size + 1) 31 _ (0, 0) _ rfl (blk_set (blk_set B6F.out 0 _) 1 _) Try.underlying31 rfl (by kernel_rfl)) rfl ⟨by rw [HF.out, HV.out]; rfl, ?_⟩
      exact ((HA.out.trans (HB4.out.mono HA.out.size)).setCell (p := ⟨w.heap.size + 1, 0, none⟩) (by show w.heap.size ≤ w.heap.size + 1; omega) _).setCell (p := ⟨w.heap.size + 1, 1, none⟩) (by show w.heap.size ≤ w.heap.size + 1; omega) _
    · have dn : decide (0 ≤ b) = false := decide_eq_false hneg
      clear hb
      go_wp2_with (fail)
      generalize w1.alloc (.cells #[.int .i64 0, .bool false, .int .i64 0, .string ⟨#[]⟩] 97) = W3 at *
      refine (segment_calls ⟨0, false, 0, ⟨#[]⟩⟩ s h1 h8 _).mono ?_
      rintro e w4 ⟨rfl, hb⟩
      have HB4 := Lib.hid (HB2.out.trans (hb.mono HB2.out.size))
      have b6 := blk_below B62.out hb
      have B6F := Lib.hid b6
      have u0 := (blk_cell b6 0).trans rfl
      have u1 := (blk_cell b6 1).trans rfl
      have v0 := blk_frozen b6 0
      have v1 := blk_frozen b6 1
      clear hb r0 r1 r2 r3 r4 t0 t1 t2 t3 f4 b6
      go_wp2
      refine bodyPost_ret (results_cell_row rfl _ _ (w.heap.size + 1) 31 _ (0, 0) _ rfl (blk_set (blk_set B6F.out 0 _) 1 _) Try.underlying31 rfl (by kernel_rfl)) rfl ⟨by rw [HF.out, HV.out]; rfl, ?_⟩
      exact ((HA.out.trans (HB4.out.mono HA.out.size)).setCell (p := ⟨w.heap.size + 1, 0, none⟩) (by show w.heap.size ≤ w.heap.size + 1; omega) _).setCell (p := ⟨w.heap.size + 1, 1, none⟩) (by show w.heap.size ≤ w.heap.size + 1; omega) _
end Go.Proofs.Ytnaaaldeadjohaa.Cat

set_option linter.unusedVariables false
set_option linter.unusedSimpArgs false
namespace Go.Proofs.Ytnaaaldeadjohaa.Cat
open Go.RowKit Go.Shelf Go.Proofs Go.Proofs.YtnaaaldeadjohaaW.PrintWords Go.Proofs.Ytnaaaldeadjohaa.PCatalogLies
/-! ### catalog.Row -/
theorem info97 : (Try.prog.info? 97).map (fun i => (i.zero, i.size, i.bytes)) = some (some (.agg #[.int .i64 0, .bool false, .int .i64 0, .string ⟨#[]⟩]), 4, 40) := by kernel_rfl
def valCells (l : List S97) : List Value := l.flatMap fun v => [.int .i64 v.f0, .bool v.f1, .int .i64 v.f2, .string v.f3]
theorem valCells_snoc (l : List S97) (v : S97) : valCells (l ++ [v]) = valCells l ++ [.int .i64 v.f0, .bool v.f1, .int .i64 v.f2, .string v.f3] := by simp [valCells]
def rowL (cols : List Int) (row : List S97) : List S97 := cols.map (valAt row)
theorem rowL_succ {cols : List Int} {row : List S97} {i : Nat} (hi : i < cols.length) : rowL (cols.take (i + 1)) row = rowL (cols.take i) row ++ [valAt row cols[i]] := by
  unfold rowL; rw [List.take_succ_eq_append_getElem hi, List.map_append]; rfl
set_option maxHeartbeats 8000000 in
set_option maxRecDepth 100000 in
theorem row_calls (p : S66) (B2 : Option Addr) (d2 : Nat) (B3 : Option Addr) (d3 : Nat) (AR : Option Addr) (cr : Nat) (row : List S97) (w : World) (hp : ProjR w p B2 d2 B3 d3) (h8 : p.f2.length ≤ 8) (hrow : k97.C w AR row.length row) (hcr : row.length ≤ cr) :
    Calls Try.prog 43 #[projV p B2 d2 B3 d3, .slice AR row.length cr] w fun e w' => ∃ v1, e = .returned v1 ∧ w'.ownsRow w.heap.size 97 4 v1 p.f2.length (valCells (rowL p.f2 row)) ∧ Below w.heap.size w w' := by
  have hA := (Below.refl w.heap.size w).alloc (Nat.le_refl _) (.cells #[.string p.f0, .int .i64 p.f1, .slice B2 p.f2.length d2, .slice B3 p.f3.length d3, .int .i64 p.f4, .int .i64 p.f5] 66)
  have HA := Lib.hid hA
  have H2 := Lib.hid hp.r2
  have HR := Lib.hid hrow
  have hR := hrow.2.1
  have q2 : (w.alloc (.cells #[.string p.f0, .int .i64 p.f1, .slice B2 p.f2.length d2, .slice B3 p.f3.length d3, .int .i64 p.f4, .int .i64 p.f5] 66)).cell? ⟨w.heap.size, 2, none⟩ = some (.slice B2 p.f2.length d2) := by simp [go_sem]
  clear hA hp hrow
  go_enter Try.func43, Try.ntmps43
  go_wp2
  generalize w.alloc (.cells #[.string p.f0, .int .i64 p.f1, .slice B2 p.f2.length d2, .slice B3 p.f3.length d3, .int .i64 p.f4, .int .i64 p.f5] 66) = W0 at *
  go_loopw [5, 12] (fun vo v wr => ∃ i : Nat, v = .int .i64 i ∧ i ≤ p.f2.length ∧ Hid (wr.ownsRow w.heap.size 97 4 vo i (valCells (rowL (p.f2.take i) row))) ∧ Hid (Below w.heap.size w wr)) (fun _ v _ => p.f2.length - (intOf v).toNat)
  case atStart => exact ⟨0, rfl, Nat.zero_le _, Lib.hid (own_nil _ _ _ _), HA⟩
  case round =>
    obtain ⟨i, rfl, hi, HO, HW⟩ := hrel
    obtain ⟨wo, rfl⟩ : ∃ wo : World, wo = wr := ⟨_, rfl⟩
    by_cases hlt : i < p.f2.length
    · obtain ⟨ad, e1, x0⟩ := int_at (Kd.C_below H2.out HW.out) i hlt
      cases e1
      have HX := Lib.hid (show p.f2[i] = p.f2[i] from rfl)
      generalize hx : p.f2[i] = b at *
      clear HX
      have HX := Lib.hid hx
      clear hx
      go_wp2_with (fail)
      refine (null_calls _).mono ?_
      rintro e w1 ⟨rfl, hb⟩
      have HB1 := Lib.hid (HW.out.trans (hb.mono HW.out.size))
      have HO1 := Lib.hid (pw_own_below HO.out hb)
      clear hb
      by_cases hb : 0 ≤ b ∧ b < row.length
      · obtain ⟨hb0, hb1⟩ := hb
        have HBA := Lib.hid (HB1.out.alloc HB1.out.size (.cells #[.int .i64 0, .bool false, .int .i64 0, .string ⟨#[]⟩] 97))
        obtain ⟨ad2, e2', x1, x2, x3, x4⟩ := at_T97 (Kd.C_below HR.out HBA.out) b hb0 hb1
        cases e2'
        have HV := Lib.hid (show valAt row b = rd_T97 row b from if_pos ⟨hb0, hb1⟩)
        generalize rd_T97 row b = v at *
        have hA3 := (Below.refl w1.heap.size w1).alloc (Nat.le_refl _) (.cells #[.int .i64 v.f0, .bool v.f1, .int .i64 v.f2, .string v.f3] 97)
        have HB3 := Lib.hid (HB1.out.alloc HB1.out.size (.cells #[.int .i64 v.f0, .bool v.f1, .int .i64 v.f2, .string v.f3] 97))
        have HO3 := Lib.hid (HO1.out.alloc (.cells #[.int .i64 v.f0, .bool v.f1, .int .i64 v.f2, .string v.f3] 97))
        have HS := Lib.hid (show valCells (rowL (p.f2.take (i + 1)) row) = valCells (rowL (p.f2.take i) row) ++ [.int .i64 v.f0, .bool v.f1, .int .i64 v.f2, .string v.f3] by rw [rowL_succ hlt, HX.out, HV.out, valCells_snoc])
        clear hA3
        go_wp2_with (at_builtin; refine print_append_cells (w0 := w) w.heap.size rfl (.tmp 29) (.tmp 31) 54 97 (.agg #[.int .i64 0, .bool false, .int .i64 0, .string ⟨#[]⟩]) 4 40 rfl Try.underlying54 info97 rfl (by decide) (by decide) u5 i (valCells (rowL (p.f2.take i) row)) [.int .i64 v.f0, .bool v.f1, .int .i64 v.f2, .string v.f3] rfl (by rw [World.size_alloc]; rfl) rfl (by simp [Value.oneCell']) HO3.out HB3.out HB3.out.size ?hl ?_; (case hl => omega); intro v9 w9 hown hB hg hat; have HO9 := Lib.hid hown; have HB9 := Lib.hid hB; clear hown hB hg hat)
        go_roundw
        case rel => exact ⟨i + 1, by go_num, hlt, Lib.hid (by rw [HS.out]; exact HO9.out), HB9⟩
        case measure => simp [intOf]; omega
      · have HV := Lib.hid (show valAt row b = ⟨0, false, 0, ⟨#[]⟩⟩ from if_neg hb)
        by_cases hneg : 0 ≤ b
        · have dn : decide (b < (row.length : Int)) = false := decide_eq_false (by omega)
          clear hb
          have hA3 := (Below.refl w1.heap.size w1).alloc (Nat.le_refl _) (.cells #[.int .i64 0, .bool false, .int .i64 0, .string ⟨#[]⟩] 97)
          have HB3 := Lib.hid (HB1.out.alloc HB1.out.size (.cells #[.int .i64 0, .bool false, .int .i64 0, .string ⟨#[]⟩] 97))
          have HO3 := Lib.hid (HO1.out.alloc (.cells #[.int .i64 0, .bool false, .int .i64 0, .string ⟨#[]⟩] 97))
          have HS := Lib.hid (show valCells (rowL (p.f2.take (i + 1)) row) = valCells (rowL (p.f2.take i) row) ++ [.int .i64 0, .bool false, .int .i64 0, .string ⟨#[]⟩] by rw [rowL_succ hlt, HX.out, HV.out, valCells_snoc])
          clear hA3
          go_wp2_with (at_builtin; refine print_append_cells (w0 := w) w.heap.size rfl (.tmp 29) (.tmp 31) 54 97 (.agg #[.int .i64 0, .bool false, .int .i64 0, .string ⟨#[]⟩]) 4 40 rfl Try.underlying54 info97 rfl (by decide) (by decide) u5 i (valCells (rowL (p.f2.take i) row)) [.int .i64 0, .bool false, .int .i64 0, .string ⟨#[]⟩] rfl (by rw [World.size_alloc]; rfl) rfl (by simp [Value.oneCell']) HO3.out HB3.out HB3.out.size ?hl ?_; (case hl => omega); intro v9 w9 hown hB hg hat; have HO9 := Lib.hid hown; have HB9 := Lib.hid hB; clear hown hB hg hat)
          go_roundw
          case rel => exact ⟨i + 1, by go_num, hlt, Lib.hid (by rw [HS.out]; exact HO9.out), HB9⟩
          case measure => simp [intOf]; omega
        · have dn : decide (0 ≤ b) = false := decide_eq_false hneg
          clear hb
          have hA3 := (Below.refl w1.heap.size w1).alloc (Nat.le_refl _) (.cells #[.int .i64 0, .bool false, .int .i64 0, .string ⟨#[]⟩] 97)
          have HB3 := Lib.hid (HB1.out.alloc HB1.out.size (.cells #[.int .i64 0, .bool false, .int .i64 0, .string ⟨#[]⟩] 97))
          have HO3 := Lib.hid (HO1.out.alloc (.cells #[.int .i64 0, .bool false, .int .i64 0, .string ⟨#[]⟩] 97))
          have HS := Lib.hid (show valCells (rowL (p.f2.take (i + 1)) row) = valCells (rowL (p.f2.take i) row) ++ [.int .i64 0, .bool false, .int .i64 0, .string ⟨#[]⟩] by rw [rowL_succ hlt, HX.out, HV.out, valCells_snoc])
          clear hA3
          go_wp2_with (at_builtin; refine print_append_cells (w0 := w) w.heap.size rfl (.tmp 29) (.tmp 31) 54 97 (.agg #[.int .i64 0, .bool false, .int .i64 0, .string ⟨#[]⟩]) 4 40 rfl Try.underlying54 info97 rfl (by decide) (by decide) u5 i (valCells (rowL (p.f2.take i) row)) [.int .i64 0, .bool false, .int .i64 0, .string ⟨#[]⟩] rfl (by rw [World.size_alloc]; rfl) rfl (by simp [Value.oneCell']) HO3.out HB3.out HB3.out.size ?hl ?_; (case hl => omega); intro v9 w9 hown hB hg hat; have HO9 := Lib.hid hown; have HB9 := Lib.hid hB; clear hown hB hg hat)
          go_roundw
          case rel => exact ⟨i + 1, by go_num, hlt, Lib.hid (by rw [HS.out]; exact HO9.out), HB9⟩
          case measure => simp [intOf]; omega
    · obtain rfl : i = p.f2.length := by omega
      have HOF := Lib.hid (show wo.ownsRow w.heap.size 97 4 u5 p.f2.length (valCells (rowL p.f2 row)) by have := HO.out; rwa [List.take_length] at this)
      go_wp2
      go_ret
      exact ⟨_, rfl, HOF.out, HW.out⟩
end Go.Proofs.Ytnaaaldeadjohaa.Cat

set_option linter.unusedVariables false
set_option linter.unusedSimpArgs false
namespace Go.Proofs.Ytnaaaldeadjohaa.Cat
open Go.RowKit Go.Shelf Go.Proofs Go.Proofs.YtnaaaldeadjohaaW.PrintWords Go.Proofs.Ytnaaaldeadjohaa.PCatalogLies
/-! ### Several rows side by side -/
def Apart (v u : Value) : Prop := v.ownBlock = none ∨ v.ownBlock ≠ u.ownBlock
theorem apart_types {w : World} {b b' e e' z z' n n' : Nat} {v v' : Value} {xs xs' : List Value} (h : w.ownsRow b e z v n xs) (h' : w.ownsRow b' e' z' v' n' xs') (hne : e ≠ e') : Apart v v' := by
  rcases h.2 with ⟨rfl, _⟩ | ⟨g, cap, cur, rfl, _, hg, _⟩
  · exact .inl rfl
  · rcases h'.2 with ⟨rfl, _⟩ | ⟨g', cap', cur', rfl, _, hg', _⟩
    · exact .inr (by simp [Value.ownBlock])
    · refine .inr fun e => ?_
      simp only [Value.ownBlock, Option.some.injEq] at e
      rw [e, hg'] at hg
      injection hg with hg
      injection hg with _ ht
      exact hne ht.symm
theorem own_lt {w : World} {b e z n g : Nat} {v : Value} {xs : List Value} (h : w.ownsRow b e z v n xs) (hg : v.ownBlock = some g) : g < w.heap.size := by
  rcases h.2 with ⟨rfl, _⟩ | ⟨g', cap, cur, rfl, _, hh, _⟩
  · cases hg
  · simp only [Value.ownBlock, Option.some.injEq] at hg
    subst hg
    exact blk_lt hh
/-- nn rows, each its own block. -/
structure Fam (W : World) (base e z nn : Nat) (v : Nat → Value) (cnt : Nat → Nat) (xs : Nat → List Value) : Prop where
  own : ∀ j, j < nn → W.ownsRow base e z (v j) (cnt j) (xs j)
  ap : ∀ i j, i < nn → j < nn → i ≠ j → Apart (v i) (v j)
def upd {α : Type} (f : Nat → α) (k : Nat) (x : α) : Nat → α := fun j => if j = k then x else f j
theorem upd_same {α : Type} (f : Nat → α) (k : Nat) (x : α) : upd f k x k = x := if_pos rfl
theorem upd_other {α : Type} (f : Nat → α) {j k : Nat} (x : α) (h : j ≠ k) : upd f k x j = f j := if_neg h
section
variable {W w1 : World} {base e z nn : Nat} {v : Nat → Value} {cnt : Nat → Nat} {xs : Nat → List Value}
theorem Fam.below (h : Fam W base e z nn v cnt xs) (hb : Below W.heap.size W w1) : Fam w1 base e z nn v cnt xs := ⟨fun j hj => pw_own_below (h.own j hj) hb, h.ap⟩
theorem Fam.other (h : Fam W base e z nn v cnt xs) {b' e' z' n' : Nat} {v' : Value} {xs' : List Value} (ho : W.ownsRow b' e' z' v' n' xs') (hne : e ≠ e') (hg : W.grownBy w1 v'.ownBlock) : Fam w1 base e z nn v cnt xs :=
  ⟨fun j hj => own_other (h.own j hj) hg (apart_types (h.own j hj) ho hne), h.ap⟩
theorem Fam.set (h : Fam W base e z nn v cnt xs) {G t : Nat} {cs : Array Value} (hG : W.heap[G]? = some (.cells cs t (0, 0))) (hne : e ≠ t) (i : Nat) (u : Value) : Fam (W.setCell ⟨G, i, none⟩ u) base e z nn v cnt xs :=
  ⟨fun j hj => own_setCell (h.own j hj) (p := ⟨G, i, none⟩) (own_ne (h.own j hj) hG hne) u, h.ap⟩
theorem Fam.append (h : Fam W base e z nn v cnt xs) {k : Nat} (hk : k < nn) {v1 : Value} {n1 : Nat} {ys : List Value} (ho : w1.ownsRow base e z v1 n1 ys) (hg : W.grownBy w1 (v k).ownBlock) (hat : v1.ownBlock = (v k).ownBlock ∨ ∃ b, v1.ownBlock = some b ∧ W.heap.size ≤ b) :
    Fam w1 base e z nn (upd v k v1) (upd cnt k n1) (upd xs k ys) := by
  refine ⟨fun j hj => ?_, fun i j hi hj hij => ?_⟩
  · by_cases e : j = k
    · subst e; rw [upd_same, upd_same, upd_same]; exact ho
    · rw [upd_other _ _ e, upd_other _ _ e, upd_other _ _ e]; exact own_other (h.own j hj) hg (h.ap j k hj hk e)
  · by_cases e1 : i = k
    · subst e1
      rw [upd_same, upd_other _ _ (Ne.symm hij)]
      rcases hat with ha | ⟨b, hb, hbs⟩
      · unfold Apart; rw [ha]; exact h.ap i j hi hj hij
      · right
        rw [hb]
        intro e2
        have := own_lt (h.own j hj) e2.symm
        omega
    · rw [upd_other _ _ e1]
      by_cases e2 : j = k
      · subst e2
        rw [upd_same]
        rcases hat with ha | ⟨b, hb, hbs⟩
        · unfold Apart; rw [ha]; exact h.ap i j hi hj hij
        · cases hq : (v i).ownBlock with
          | none => exact .inl hq
          | some g =>
            right
            rw [hb, hq]
            intro e3
            have := own_lt (h.own i hi) hq
            simp only [Option.some.injEq] at e3
            omega
      · rw [upd_other _ _ e2]; exact h.ap i j hi hj hij
end
/-! ### The parts of all nodes -/
/-- An insert's six cells; its row lies in its own block. -/
def IsIns (W : World) (base : Nat) (x : S70) (cs : List Value) : Prop := ∃ v, cs = [.int .i64 x.f0.f0, .int .i64 x.f0.f1, .int .u64 x.f1.f0.f0, .int .u32 x.f1.f0.f1, v, .int .u64 x.f1.f2] ∧ W.ownsRow base 97 4 v x.f1.f1.length (valCells x.f1.f1)
theorem IsIns.one {W : World} {base : Nat} {x : S70} {cs : List Value} (h : IsIns W base x cs) : ∀ u ∈ cs, u.oneCell' = true := by
  obtain ⟨v, rfl, ho⟩ := h
  rcases ho.2 with ⟨rfl, _⟩ | ⟨g, cap, cur, rfl, _⟩ <;> simp [Value.oneCell']
theorem IsIns.below {W w1 : World} {base : Nat} {x : S70} {cs : List Value} (h : IsIns W base x cs) (hb : Below W.heap.size W w1) : IsIns w1 base x cs := by
  obtain ⟨v, e, ho⟩ := h; exact ⟨v, e, pw_own_below ho hb⟩
theorem IsIns.other {W w1 : World} {base : Nat} {x : S70} {cs : List Value} (h : IsIns W base x cs) {b' e' z' n' : Nat} {v' : Value} {xs' : List Value} (ho : W.ownsRow b' e' z' v' n' xs') (hne : 97 ≠ e') (hg : W.grownBy w1 v'.ownBlock) : IsIns w1 base x cs := by
  obtain ⟨v, e, h1⟩ := h; exact ⟨v, e, own_other h1 hg (apart_types h1 ho hne)⟩
theorem IsIns.set {W : World} {base : Nat} {x : S70} {cs : List Value} (h : IsIns W base x cs) {G t : Nat} {cells : Array Value} (hG : W.heap[G]? = some (.cells cells t (0, 0))) (hne : 97 ≠ t) (i : Nat) (u : Value) : IsIns (W.setCell ⟨G, i, none⟩ u) base x cs := by
  obtain ⟨v, e, h1⟩ := h; exact ⟨v, e, own_setCell h1 (p := ⟨G, i, none⟩) (own_ne h1 hG hne) u⟩
def eraCells (l : List S72) : List Value := l.flatMap fun x => [.int .i64 x.f0.f0, .int .i64 x.f0.f1, .int .u64 x.f1.f0, .int .u32 x.f1.f1]
theorem eraCells_snoc (l : List S72) (x : S72) : eraCells (l ++ [x]) = eraCells l ++ [.int .i64 x.f0.f0, .int .i64 x.f0.f1, .int .u64 x.f1.f0, .int .u32 x.f1.f1] := by simp [eraCells]
/-- Two cells for each node. -/
def partCells (nn : Nat) (vI vE : Nat → Value) : Array Value := ((List.range nn).flatMap fun j => [vI j, vE j]).toArray
structure PM (W : World) (base G nn : Nat) (LI : Nat → List S70) (LE : Nat → List S72) (vI vE : Nat → Value) (xI : Nat → List Value) : Prop where
  blk : W.heap[G]? = some (.cells (partCells nn vI vE) 62 (0, 0))
  fI : Fam W base 70 6 nn vI (fun j => (LI j).length) xI
  rI : ∀ j, j < nn → Reps (IsIns W base) 6 (LI j) (xI j)
  fE : Fam W base 72 4 nn vE (fun j => (LE j).length) (fun j => eraCells (LE j))
theorem upd_map {α β : Type} (g : α → β) (f : Nat → α) (k : Nat) (x : α) : (fun j => g (upd f k x j)) = upd (fun j => g (f j)) k (g x) := by
  funext j; unfold upd; split <;> rfl
theorem pc_get (vI vE : Nat → Value) : ∀ (nn m : Nat), ((List.range nn).flatMap fun j => [vI j, vE j])[m]? = if m < 2 * nn then some (if m % 2 = 0 then vI (m / 2) else vE (m / 2)) else none
  | 0, m => by simp
  | nn + 1, m => by
    have hl : ((List.range nn).flatMap fun j => [vI j, vE j]).length = 2 * nn := by
      induction nn with
      | zero => rfl
      | succ n ih => rw [List.range_succ, List.flatMap_append, List.length_append, ih]; simp; omega
    rw [List.range_succ, List.flatMap_append]
    by_cases h1 : m < 2 * nn
    · rw [List.getElem?_append_left (by omega), pc_get vI vE nn m, if_pos h1, if_pos (show m < 2 * (nn + 1) by omega)]
    · rw [List.getElem?_append_right (by omega), hl]
      by_cases h2 : m = 2 * nn
      · subst h2; simp
      · by_cases h3 : m = 2 * nn + 1
        · subst h3
          rw [if_pos (show 2 * nn + 1 < 2 * (nn + 1) by omega), if_neg (show ¬ (2 * nn + 1) % 2 = 0 by omega), show 2 * nn + 1 - 2 * nn = 1 by omega, show (2 * nn + 1) / 2 = nn by omega]; simp
        · rw [if_neg (by omega)]
          simp; omega
theorem pc_cell (nn : Nat) (vI vE : Nat → Value) (m : Nat) : (partCells nn vI vE)[m]? = if m < 2 * nn then some (if m % 2 = 0 then vI (m / 2) else vE (m / 2)) else none := by
  unfold partCells; rw [List.getElem?_toArray]; exact pc_get vI vE nn m
theorem pc_ins (nn : Nat) (vI vE : Nat → Value) (k : Nat) (u : Value) : (partCells nn vI vE).setIfInBounds (2 * k) u = partCells nn (upd vI k u) vE := by
  apply Array.ext_getElem?
  intro m
  rw [Array.getElem?_setIfInBounds, pc_cell, pc_cell]
  by_cases e : 2 * k = m
  · subst e
    have hs : (partCells nn vI vE).size = 2 * nn := by
      have h1 := pc_cell nn vI vE (2 * nn)
      have h2 := fun m => pc_cell nn vI vE m
      rcases Nat.lt_trichotomy (partCells nn vI vE).size (2 * nn) with h | h | h
      · have := h2 (partCells nn vI vE).size; rw [if_pos h] at this; simp at this
      · exact h
      · have := h2 (2 * nn); rw [if_neg (by omega)] at this; simp at this; omega
    rw [if_pos rfl, hs]
    by_cases h : 2 * k < 2 * nn
    · rw [if_pos h, if_pos h, if_pos (by omega), show 2 * k / 2 = k by omega, upd_same]
    · rw [if_neg h, if_neg h]
  · rw [if_neg e]
    by_cases h : m < 2 * nn
    · rw [if_pos h, if_pos h]
      by_cases h2 : m % 2 = 0
      · rw [if_pos h2, if_pos h2, upd_other _ _ (by omega)]
      · rw [if_neg h2, if_neg h2]
    · rw [if_neg h, if_neg h]
theorem pc_era (nn : Nat) (vI vE : Nat → Value) (k : Nat) (u : Value) : (partCells nn vI vE).setIfInBounds (2 * k + 1) u = partCells nn vI (upd vE k u) := by
  apply Array.ext_getElem?
  intro m
  rw [Array.getElem?_setIfInBounds, pc_cell, pc_cell]
  by_cases e : 2 * k + 1 = m
  · subst e
    have hs : (partCells nn vI vE).size = 2 * nn := by
      have h2 := fun m => pc_cell nn vI vE m
      rcases Nat.lt_trichotomy (partCells nn vI vE).size (2 * nn) with h | h | h
      · have := h2 (partCells nn vI vE).size; rw [if_pos h] at this; simp at this
      · exact h
      · have := h2 (2 * nn); rw [if_neg (by omega)] at this; simp at this; omega
    rw [if_pos rfl, hs]
    by_cases h : 2 * k + 1 < 2 * nn
    · rw [if_pos h, if_pos h, if_neg (by omega), show (2 * k + 1) / 2 = k by omega, upd_same]
    · rw [if_neg h, if_neg h]
  · rw [if_neg e]
    by_cases h : m < 2 * nn
    · rw [if_pos h, if_pos h]
      by_cases h2 : m % 2 = 0
      · rw [if_pos h2, if_pos h2]
      · rw [if_neg h2, if_neg h2, upd_other _ _ (by omega)]
    · rw [if_neg h, if_neg h]
section
variable {W w1 : World} {base G nn : Nat} {LI : Nat → List S70} {LE : Nat → List S72} {vI vE : Nat → Value} {xI : Nat → List Value}
theorem PM.below (h : PM W base G nn LI LE vI vE xI) (hb : Below W.heap.size W w1) : PM w1 base G nn LI LE vI vE xI :=
  ⟨blk_below h.blk hb, h.fI.below hb, fun j hj => (h.rI j hj).imp_ fun _ _ r => r.below hb, h.fE.below hb⟩
theorem PM.ins (h : PM W base G nn LI LE vI vE xI) {k : Nat} (hk : k < nn) {v1 : Value} {x : S70} {ys : List Value} (ho : w1.ownsRow base 70 6 v1 ((LI k).length + 1) (xI k ++ ys)) (hg : W.grownBy w1 (vI k).ownBlock)
    (hat : v1.ownBlock = (vI k).ownBlock ∨ ∃ b, v1.ownBlock = some b ∧ W.heap.size ≤ b) (hx : IsIns w1 base x ys) (hy : ys.length = 6) :
    PM (w1.setCell ⟨G, 2 * k, none⟩ v1) base G nn (upd LI k (LI k ++ [x])) LE (upd vI k v1) vE (upd xI k (xI k ++ ys)) := by
  have hG1 : w1.heap[G]? = some (.cells (partCells nn vI vE) 62 (0, 0)) := blk_grown h.blk hg (own_ne (h.fI.own k hk) h.blk (by decide))
  have hE1 := h.fE.other (h.fI.own k hk) (by decide) hg
  refine ⟨?_, ?_, fun j hj => ?_, hE1.set hG1 (by decide) _ _⟩
  · have := blk_set hG1 (2 * k) v1
    rwa [pc_ins] at this
  · have := (h.fI.append hk ho hg hat).set hG1 (by decide) (2 * k) v1
    rw [upd_map List.length LI k (LI k ++ [x]), List.length_append, List.length_singleton]
    exact this
  · by_cases e : j = k
    · subst e
      rw [upd_same, upd_same]
      exact (((h.rI j hj).imp_ fun _ _ r => r.other (h.fI.own j hj) (by decide) hg).snoc hx hy).imp_ fun _ _ r => r.set hG1 (by decide) _ _
    · rw [upd_other _ _ e, upd_other _ _ e]
      exact ((h.rI j hj).imp_ fun _ _ r => r.other (h.fI.own k hk) (by decide) hg).imp_ fun _ _ r => r.set hG1 (by decide) _ _
theorem PM.era (h : PM W base G nn LI LE vI vE xI) {k : Nat} (hk : k < nn) {v1 : Value} {x : S72} (ho : w1.ownsRow base 72 4 v1 ((LE k).length + 1) (eraCells (LE k ++ [x]))) (hg : W.grownBy w1 (vE k).ownBlock)
    (hat : v1.ownBlock = (vE k).ownBlock ∨ ∃ b, v1.ownBlock = some b ∧ W.heap.size ≤ b) :
    PM (w1.setCell ⟨G, 2 * k + 1, none⟩ v1) base G nn LI (upd LE k (LE k ++ [x])) vI (upd vE k v1) xI := by
  have hG1 : w1.heap[G]? = some (.cells (partCells nn vI vE) 62 (0, 0)) := blk_grown h.blk hg (own_ne (h.fE.own k hk) h.blk (by decide))
  have hI1 := h.fI.other (h.fE.own k hk) (by decide) hg
  refine ⟨?_, hI1.set hG1 (by decide) _ _, fun j hj => ?_, ?_⟩
  · have := blk_set hG1 (2 * k + 1) v1
    rwa [pc_era] at this
  · exact ((h.rI j hj).imp_ fun _ _ r => r.other (h.fE.own k hk) (by decide) hg).imp_ fun _ _ r => r.set hG1 (by decide) _ _
  · have := (h.fE.append hk ho hg hat).set hG1 (by decide) (2 * k + 1) v1
    rw [upd_map List.length LE k (LE k ++ [x]), upd_map eraCells LE k (LE k ++ [x]), List.length_append, List.length_singleton]
    exact this
end
end Go.Proofs.Ytnaaaldeadjohaa.Cat

set_option linter.unusedVariables false
set_option linter.unusedSimpArgs false
namespace Go.Proofs.Ytnaaaldeadjohaa.Cat
open Go.RowKit Go.Shelf Go.Proofs Go.Proofs.YtnaaaldeadjohaaW.PrintWords Go.Proofs.Ytnaaaldeadjohaa.PCatalogLies
/-! ### What Parts does at one node -/
theorem info72 : (Try.prog.info? 72).map (fun i => (i.zero, i.size, i.bytes)) = some (some (.agg #[.int .i64 0, .int .i64 0, .int .u64 0, .int .u32 0]), 4, 32) := by kernel_rfl
theorem info70 : (Try.prog.info? 70).map (fun i => (i.zero, i.size, i.bytes)) = some (some (.agg #[.int .i64 0, .int .i64 0, .int .u64 0, .int .u32 0, .slice none 0 0, .int .u64 0]), 6, 64) := by kernel_rfl
@[reducible] def fullV (x : S57) (AR : Option Addr) (cr : Nat) : Value := .agg #[.int .i64 x.f0, .int .u64 x.f1.f0, .int .u32 x.f1.f1, .slice AR x.f2.length cr]
structure PS (W w0 : World) (C Pv G nn : Nat) (n s k : Int) (T : List S79) (P : List S66) (A3 : Option Addr) (c3 : Nat) (A4 : Option Addr) (c4 : Nat) (LI : Nat → List S70) (LE : Nat → List S72) (vI vE : Nat → Value) (xI : Nat → List Value) : Prop where
  hC : W.heap[C]? = some (.cells #[.int .i64 n, .int .i64 s, .int .i64 k, .slice A3 T.length c3, .slice A4 P.length c4] 25 (0, 0))
  hP : W.heap[Pv]? = some (.cells #[.slice (some ⟨G, 0, none⟩) nn nn] 47 (0, 0))
  pm : PM W w0.heap.size G nn LI LE vI vE xI
  hB : Below w0.heap.size w0 W
  gC : w0.heap.size ≤ C
  gP : w0.heap.size ≤ Pv
  gG : w0.heap.size ≤ G
section
variable {W w0 : World} {C Pv G nn : Nat} {n s k : Int} {T : List S79} {P : List S66} {A3 : Option Addr} {c3 : Nat} {A4 : Option Addr} {c4 : Nat} {LI : Nat → List S70} {LE : Nat → List S72} {vI vE : Nat → Value} {xI : Nat → List Value}
theorem PS.below (h : PS W w0 C Pv G nn n s k T P A3 c3 A4 c4 LI LE vI vE xI) {w1 : World} (hb : Below W.heap.size W w1) : PS w1 w0 C Pv G nn n s k T P A3 c3 A4 c4 LI LE vI vE xI :=
  ⟨blk_below h.hC hb, blk_below h.hP hb, h.pm.below hb, h.hB.trans (hb.mono h.hB.size), h.gC, h.gP, h.gG⟩
theorem PS.cellE (h : PS W w0 C Pv G nn n s k T P A3 c3 A4 c4 LI LE vI vE xI) {j : Nat} (hj : j < nn) : W.cell? ⟨G, j * 2 + 1, none⟩ = some (vE j) := by
  rw [blk_cell h.pm.blk, pc_cell, if_pos (by omega), if_neg (by omega), show (j * 2 + 1) / 2 = j by omega]
theorem PS.cellI (h : PS W w0 C Pv G nn n s k T P A3 c3 A4 c4 LI LE vI vE xI) {j : Nat} (hj : j < nn) : W.cell? ⟨G, j * 2, none⟩ = some (vI j) := by
  rw [blk_cell h.pm.blk, pc_cell, if_pos (by omega), if_pos (by omega), show j * 2 / 2 = j by omega]
theorem blk_ne {w : World} {a b t u : Nat} {cs ds : Array Value} (h : w.heap[a]? = some (.cells cs t (0, 0))) (h2 : w.heap[b]? = some (.cells ds u (0, 0))) (hne : t ≠ u) : a ≠ b := by
  rintro rfl
  rw [h] at h2
  injection h2 with h3
  injection h3 with _ h4
  exact hne h4
theorem PS.era (h : PS W w0 C Pv G nn n s k T P A3 c3 A4 c4 LI LE vI vE xI) {j : Nat} (hj : j < nn) {w1 : World} {v1 : Value} {x : S72} (ho : w1.ownsRow w0.heap.size 72 4 v1 ((LE j).length + 1) (eraCells (LE j ++ [x]))) (hg : W.grownBy w1 (vE j).ownBlock)
    (hat : v1.ownBlock = (vE j).ownBlock ∨ ∃ b, v1.ownBlock = some b ∧ W.heap.size ≤ b) :
    PS (w1.setCell ⟨G, j * 2 + 1, none⟩ v1) w0 C Pv G nn n s k T P A3 c3 A4 c4 LI (upd LE j (LE j ++ [x])) vI (upd vE j v1) xI := by
  have hG1 := blk_grown h.pm.blk hg (own_ne (h.pm.fE.own j hj) h.pm.blk (by decide))
  have hC1 := blk_grown h.hC hg (own_ne (h.pm.fE.own j hj) h.hC (by decide))
  have hP1 := blk_grown h.hP hg (own_ne (h.pm.fE.own j hj) h.hP (by decide))
  have hp := h.pm.era hj ho hg hat
  rw [Nat.mul_comm 2 j] at hp
  exact ⟨blk_far hC1 (blk_ne hC1 hG1 (by decide)) _, blk_far hP1 (blk_ne hP1 hG1 (by decide)) _, hp, (h.hB.grown hg h.hB.size (own_base (h.pm.fE.own j hj))).setCell (p := ⟨G, j * 2 + 1, none⟩) h.gG _, h.gC, h.gP, h.gG⟩
theorem PS.ins (h : PS W w0 C Pv G nn n s k T P A3 c3 A4 c4 LI LE vI vE xI) {j : Nat} (hj : j < nn) {w1 : World} {v1 : Value} {x : S70} {ys : List Value} (ho : w1.ownsRow w0.heap.size 70 6 v1 ((LI j).length + 1) (xI j ++ ys)) (hg : W.grownBy w1 (vI j).ownBlock)
    (hat : v1.ownBlock = (vI j).ownBlock ∨ ∃ b, v1.ownBlock = some b ∧ W.heap.size ≤ b) (hx : IsIns w1 w0.heap.size x ys) (hy : ys.length = 6) :
    PS (w1.setCell ⟨G, j * 2, none⟩ v1) w0 C Pv G nn n s k T P A3 c3 A4 c4 (upd LI j (LI j ++ [x])) LE (upd vI j v1) vE (upd xI j (xI j ++ ys)) := by
  have hG1 := blk_grown h.pm.blk hg (own_ne (h.pm.fI.own j hj) h.pm.blk (by decide))
  have hC1 := blk_grown h.hC hg (own_ne (h.pm.fI.own j hj) h.hC (by decide))
  have hP1 := blk_grown h.hP hg (own_ne (h.pm.fI.own j hj) h.hP (by decide))
  have hp := h.pm.ins hj ho hg hat hx hy
  rw [Nat.mul_comm 2 j] at hp
  exact ⟨blk_far hC1 (blk_ne hC1 hG1 (by decide)) _, blk_far hP1 (blk_ne hP1 hG1 (by decide)) _, hp, (h.hB.grown hg h.hB.size (own_base (h.pm.fI.own j hj))).setCell (p := ⟨G, j * 2, none⟩) h.gG _, h.gC, h.gP, h.gG⟩
end
end Go.Proofs.Ytnaaaldeadjohaa.Cat
