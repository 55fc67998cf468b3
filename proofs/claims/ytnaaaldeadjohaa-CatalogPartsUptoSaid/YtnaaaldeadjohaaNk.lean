import Derived.Test.YtnaaaldeadjohaaNj
import Derived.Test.YtnaaaldeadjohaaNh
set_option linter.unusedVariables false
set_option linter.unusedSimpArgs false
namespace Go.Proofs.Ytnaaaldeadjohaa.Cat
open Go.RowKit Go.Shelf Go.Proofs Go.Proofs.YtnaaaldeadjohaaW.PrintWords Go.Proofs.Ytnaaaldeadjohaa.PCatalogLies
/-! ### The walk of CatalogParts -/
theorem info57 : (Try.prog.info? 57).map (fun i => (i.zero, i.size, i.bytes)) = some (some (.agg #[.int .i64 0, .int .u64 0, .int .u32 0, .slice none 0 0]), 4, 48) := by kernel_rfl
/-- Rows that are told anew: their own row, the elements' rows where they were. -/
def Told (w W : World) (base : Nat) (v : Value) (xs : List S57) : Prop := ∃ inner, W.ownsRow base 57 4 v xs.length inner ∧ Reps (k57.K w) 4 xs inner
theorem Told.reads {w W : World} {base : Nat} {v : Value} {xs : List S57} (h : Told w W base v xs) (hb : Below w.heap.size w W) : ∃ A c, v = .slice A xs.length c ∧ xs.length ≤ c ∧ k57.C W A xs.length xs := by
  obtain ⟨inner, ho, hr⟩ := h
  obtain ⟨A, c, he, hl, hr⟩ := OwnRow.reads (show OwnRow (k57.K w) 57 4 W base v xs from ⟨_, ho, hr⟩)
  exact ⟨A, c, he, hl, hr.imp_ (Below.refl _ _) (fun _ _ hp => k57.K_below hb hp)⟩
theorem Told.below {w W W1 : World} {base : Nat} {v : Value} {xs : List S57} (h : Told w W base v xs) (hb : Below W.heap.size W W1) : Told w W1 base v xs := by
  obtain ⟨inner, ho, hr⟩ := h; exact ⟨inner, pw_own_below ho hb, hr⟩
set_option maxHeartbeats 8000000 in
set_option maxRecDepth 100000 in
theorem CatalogParts_calls (n s k : Int) (T : List S79) (P : List S66) (A3 : Option Addr) (c3 : Nat) (A4 : Option Addr) (c4 : Nat) (X : Option Addr) (cx : Nat) (xs : List S57) (Y : Option Addr) (cy : Nat) (ys : List S57) (w : World) (h : CatR w T P A3 c3 A4 c4)
    (hlx : xs.length ≤ cx) (hx : k57.C w X xs.length xs) (hly : ys.length ≤ cy) (hy : k57.C w Y ys.length ys) (bx : xs.length ≤ 10000000) (by_ : ys.length ≤ 10000000) :
    Calls Try.prog 7 #[catV n s k T P A3 c3 A4 c4, .slice X xs.length cx, .slice Y ys.length cy] w fun e w' => e = .returned (.bool true) ∧ Below w.heap.size w w' := by
  have hA := (Below.refl w.heap.size w).alloc (Nat.le_refl _) (.cells #[.int .i64 n, .int .i64 s, .int .i64 k, .slice A3 T.length c3, .slice A4 P.length c4] 25)
  have HA := Lib.hid hA
  have HCW := Lib.hid (h.below hA)
  have hq := CatBox.new w n s k T P A3 c3 A4 c4
  have HQ := Lib.hid hq
  have HX := Lib.hid (Kd.C_below hx hA)
  have HY := Lib.hid (Kd.C_below hy hA)
  have hmx := hx.2.1
  have hmy := hy.2.1
  have hmP := h.rP.2.1
  obtain ⟨q0, q1, q2, q3, q4⟩ := hq
  clear hA h hx hy
  go_enter Try.func7, Try.ntmps7
  go_wp2_with (fail)
  generalize w.alloc (.cells #[.int .i64 n, .int .i64 s, .int .i64 k, .slice A3 T.length c3, .slice A4 P.length c4] 25) = W0 at *
  refine (check2_calls n s k T P _ c3 _ c4 _ HCW.out).mono ?_
  rintro e w1 ⟨rfl, hb⟩
  have HB1 := Lib.hid hb
  replace q0 := pw_cell_below hb q0
  replace q1 := pw_cell_below hb q1
  replace q2 := pw_cell_below hb q2
  replace q3 := pw_cell_below hb q3
  replace q4 := pw_cell_below hb q4
  clear hb
  by_cases hz : ¬ chk n s k T P = 0
  · have dz : (chk n s k T P == 0) = false := beq_eq_false_iff_ne.2 hz
    go_wp2_with (fail)
    refine (alive_calls _).mono ?_
    rintro e w2 ⟨rfl, hb⟩
    have HB2 := Lib.hid (HA.out.trans ((HB1.out.trans (hb.mono HB1.out.size)).mono HA.out.size))
    clear hb
    go_wp2
    go_ret
    exact ⟨rfl, HB2.out⟩
  replace hz := Decidable.not_not.1 hz
  have HT := Lib.hid (taken_of hz)
  have HG := Lib.hid HT.out.good
  rw [hz]
  clear hz
  have hnn := HG.out.hn
  obtain ⟨nn, rfl⟩ := Int.eq_ofNat_of_zero_le (show 0 ≤ n by omega)
  have hn8 : nn ≤ 8 := by omega
  clear hnn
  go_wp2_with (fail)
  refine (parts_calls nn s k T P _ c3 _ c4 _ (HCW.out.below HB1.out) HG.out HT.out.cols8 _ _ cx cy xs ys (Kd.C_below HX.out HB1.out) (Kd.C_below HY.out HB1.out) bx by_).mono ?_
  rintro e w3 ⟨G, vI, vE, xI, rfl, hpm, hb⟩
  have HPM := Lib.hid hpm
  have HB3 := Lib.hid (HB1.out.trans (hb.mono HB1.out.size))
  clear hpm hb q0 q1 q2 q3 q4
  go_wp2
  go_loopw [8, 25] (fun va v wr => ∃ i : Nat, v = .int .i64 i ∧ i ≤ xs.length ∧ Hid (Told W0 wr w3.heap.size va (xs.take i)) ∧ Hid (Below w3.heap.size w3 wr)) (fun _ v _ => xs.length - (intOf v).toNat)
  case atStart => exact ⟨0, rfl, Nat.zero_le _, Lib.hid ⟨[], own_nil _ _ _ _, Reps.none _ _⟩, Lib.hid (Below.refl _ _)⟩
  case round =>
    obtain ⟨i, rfl, hi, HTO, HW⟩ := hrel
    obtain ⟨wo, rfl⟩ : ∃ wo : World, wo = wr := ⟨_, rfl⟩
    have HB4 := Lib.hid (HB3.out.trans (HW.out.mono HB3.out.size))
    by_cases hlt : i < xs.length
    · obtain ⟨ad, AR, cr, e1, x0, x1, x2, x3, hle, hRow⟩ := at_T57 HX.out i (by omega) (by omega)
      simp only [Int.toNat_natCast] at x0 x1 x2 x3
      cases e1
      have HIX := Lib.hid (show xs.take (i + 1) = xs.take i ++ [rd_T57 xs i] by rw [List.take_succ_eq_append_getElem hlt]; simp [rd_T57, List.getD_eq_getElem?_getD, hlt])
      have HK := Lib.hid (k57_mk W0 (rd_T57 xs i) hle hRow)
      generalize rd_T57 xs i = x at *
      replace x0 := pw_cell_below HB4.out x0
      replace x1 := pw_cell_below HB4.out x1
      replace x2 := pw_cell_below HB4.out x2
      replace x3 := pw_cell_below HB4.out x3
      have HW1 := Lib.hid (HW.out.alloc HW.out.size (.cells #[.int .i64 x.f0, .int .u64 x.f1.f0, .int .u32 x.f1.f1, .slice AR x.f2.length cr] 56))
      obtain ⟨inner, ho, hr⟩ := HTO.out
      have HO := Lib.hid (ho.alloc (.cells #[.int .i64 x.f0, .int .u64 x.f1.f0, .int .u32 x.f1.f1, .slice AR x.f2.length cr] 56))
      have HR := Lib.hid hr
      have hl : (xs.take i).length ≤ 10000000 := by rw [List.length_take]; omega
      clear ho hr hRow
      go_wp2_with (at_builtin; refine print_append_cells (w0 := w3) w3.heap.size rfl (.tmp 29) (.tmp 37) 49 57 (.agg #[.int .i64 0, .int .u64 0, .int .u32 0, .slice none 0 0]) 4 48 rfl Try.underlying49 info57 rfl (by decide) (by decide) u8 _ inner [.int .i64 x.f0, .int .u64 x.f1.f0, .int .u32 x.f1.f1, .slice AR x.f2.length cr] rfl (by rw [World.size_alloc]; rfl) rfl (by simp [Value.oneCell']) HO.out HW1.out HW1.out.size ?hl ?_; (case hl => omega); intro v9 w9 hown hB hg hat; have HO9 := Lib.hid hown; have HB9 := Lib.hid hB; clear hown hB hg hat)
      go_roundw
      case rel => exact ⟨i + 1, by go_num, hlt, Lib.hid (by rw [HIX.out]; exact ⟨_, by rw [List.length_append]; exact HO9.out, HR.out.snoc HK.out rfl⟩), HB9⟩
      case measure => simp [intOf]; omega
    · obtain rfl : i = xs.length := by omega
      rw [List.take_length] at HTO
      obtain ⟨AX, cX, rfl, leX, hCX⟩ := HTO.out.reads HB4.out
      have HCX := Lib.hid hCX
      have hmX := hCX.2.1
      have HPM4 := Lib.hid (HPM.out.below HW.out)
      clear hCX
      generalize hw5 : wo = w5 at *
      clear hw5
      have HB5 := HB4
      go_wp2
      go_loopw [9, 42] (fun va v wr => ∃ i : Nat, v = .int .i64 i ∧ i ≤ ys.length ∧ Hid (Told W0 wr w5.heap.size va (ys.take i)) ∧ Hid (Below w5.heap.size w5 wr)) (fun _ v _ => ys.length - (intOf v).toNat)
      case atStart => exact ⟨0, rfl, Nat.zero_le _, Lib.hid ⟨[], own_nil _ _ _ _, Reps.none _ _⟩, Lib.hid (Below.refl _ _)⟩
      case round =>
        obtain ⟨i, rfl, hi, HTO, HW⟩ := hrel
        obtain ⟨wo, rfl⟩ : ∃ wo : World, wo = wr := ⟨_, rfl⟩
        have HB4 := Lib.hid (HB5.out.trans (HW.out.mono HB5.out.size))
        by_cases hlt : i < ys.length
        · obtain ⟨ad, AR, cr, e1, x0, x1, x2, x3, hle, hRow⟩ := at_T57 HY.out i (by omega) (by omega)
          simp only [Int.toNat_natCast] at x0 x1 x2 x3
          cases e1
          have HIX := Lib.hid (show ys.take (i + 1) = ys.take i ++ [rd_T57 ys i] by rw [List.take_succ_eq_append_getElem hlt]; simp [rd_T57, List.getD_eq_getElem?_getD, hlt])
          have HK := Lib.hid (k57_mk W0 (rd_T57 ys i) hle hRow)
          generalize rd_T57 ys i = x at *
          replace x0 := pw_cell_below HB4.out x0
          replace x1 := pw_cell_below HB4.out x1
          replace x2 := pw_cell_below HB4.out x2
          replace x3 := pw_cell_below HB4.out x3
          have HW1 := Lib.hid (HW.out.alloc HW.out.size (.cells #[.int .i64 x.f0, .int .u64 x.f1.f0, .int .u32 x.f1.f1, .slice AR x.f2.length cr] 56))
          obtain ⟨inner, ho, hr⟩ := HTO.out
          have HO := Lib.hid (ho.alloc (.cells #[.int .i64 x.f0, .int .u64 x.f1.f0, .int .u32 x.f1.f1, .slice AR x.f2.length cr] 56))
          have HR := Lib.hid hr
          have hl : (ys.take i).length ≤ 10000000 := by rw [List.length_take]; omega
          clear ho hr hRow
          go_wp2_with (at_builtin; refine print_append_cells (w0 := w5) w5.heap.size rfl (.tmp 46) (.tmp 54) 49 57 (.agg #[.int .i64 0, .int .u64 0, .int .u32 0, .slice none 0 0]) 4 48 rfl Try.underlying49 info57 rfl (by decide) (by decide) u9 _ inner [.int .i64 x.f0, .int .u64 x.f1.f0, .int .u32 x.f1.f1, .slice AR x.f2.length cr] rfl (by rw [World.size_alloc]; rfl) rfl (by simp [Value.oneCell']) HO.out HW1.out HW1.out.size ?hl ?_; (case hl => omega); intro v9 w9 hown hB hg hat; have HO9 := Lib.hid hown; have HB9 := Lib.hid hB; clear hown hB hg hat)
          go_roundw
          case rel => exact ⟨i + 1, by go_num, hlt, Lib.hid (by rw [HIX.out]; exact ⟨_, by rw [List.length_append]; exact HO9.out, HR.out.snoc HK.out rfl⟩), HB9⟩
          case measure => simp [intOf]; omega
        · obtain rfl : i = ys.length := by omega
          rw [List.take_length] at HTO
          obtain ⟨AY, cY, rfl, leY, hCY⟩ := HTO.out.reads HB4.out
          have HCY := Lib.hid hCY
          have hmY := hCY.2.1
          have HPM5 := Lib.hid (HPM4.out.below HW.out)
          have HCX5 := Lib.hid (Kd.C_below HCX.out HW.out)
          have HB6 := Lib.hid (HB5.out.trans (HW.out.mono HB5.out.size))
          clear hCY
          generalize hw6 : wo = w6 at *
          clear hw6
          go_wp2_with (fail)
          refine (alive_calls _).mono ?_
          rintro e w7 ⟨rfl, hb⟩
          have HPM7 := Lib.hid (HPM5.out.below hb)
          have HCX7 := Lib.hid (Kd.C_below HCX5.out hb)
          have HCY7 := Lib.hid (Kd.C_below HCY.out hb)
          have HB7 := Lib.hid (HB6.out.trans (hb.mono HB6.out.size))
          clear hb
          obtain ⟨q0, q1, q2, q3, q4⟩ := HQ.out.below HB7.out
          go_wp2
          clear q0 q1 q2 q3 q4
          go_loopw [68] (fun v wr => ∃ j : Nat, v = .int .i64 j ∧ j ≤ nn ∧ Hid (Below w7.heap.size w7 wr)) (fun v _ => nn - (intOf v).toNat)
          case atStart => exact ⟨0, rfl, Nat.zero_le _, Lib.hid (Below.refl _ _)⟩
          case round =>
            obtain ⟨j, rfl, hj, HV⟩ := hrel
            obtain ⟨wp, rfl⟩ : ∃ wp : World, wp = wr := ⟨_, rfl⟩
            have HB8 := Lib.hid (HB7.out.trans (HV.out.mono HB7.out.size))
            by_cases hlj : j < nn
            · have HP2 := Lib.hid (HPM7.out.below HV.out)
              obtain ⟨AI, cI, eI, leI, hCI⟩ := HP2.out.readI hlj
              obtain ⟨AE, cE, eE, leE, hCE⟩ := HP2.out.readE hlj
              have g0 := HP2.out.cellI hlj
              have g1 := HP2.out.cellE hlj
              rw [eI] at g0
              rw [eE] at g1
              have HPT := Lib.hid (fun (W : World) (hb : Below wp.heap.size wp W) => part_calls nn s k T P A3 c3 A4 c4 W ((HCW.out.below HB8.out).below hb) HG.out HT.out.cols8 AX AY cX cY xs ys (Kd.C_below (Kd.C_below HCX7.out HV.out) hb) (Kd.C_below (Kd.C_below HCY7.out HV.out) hb) bx by_ j)
              have HCI := Lib.hid hCI
              have HCE := Lib.hid hCE
              obtain ⟨q0, q1, q2, q3, q4⟩ := HQ.out.below HB8.out
              clear hCI hCE eI eE
              generalize insL P (eachAll nn s k P xs) j = LI at *
              generalize eraL (eachAll nn s k P ys) j = LE at *
              have HBD := Lib.hid (show Below wp.heap.size wp wp from Below.refl _ wp)
              have HBN := Lib.hid (show Below wp.heap.size wp wp.drew from (Below.refl _ wp).drew)
              have HS := Lib.hid (fun (w' : World) (hb : Below wp.heap.size wp w') => (show w'.cell? ⟨G, j * 2, none⟩ = some (.slice AI LI.length cI) ∧ w'.cell? ⟨G, j * 2 + 1, none⟩ = some (.slice AE LE.length cE) ∧ w'.cell? ⟨w.heap.size, 0, none⟩ = some (.int .i64 nn) ∧ w'.cell? ⟨w.heap.size, 1, none⟩ = some (.int .i64 s) ∧ w'.cell? ⟨w.heap.size, 2, none⟩ = some (.int .i64 k) ∧ w'.cell? ⟨w.heap.size, 3, none⟩ = some (.slice A3 T.length c3) ∧ w'.cell? ⟨w.heap.size, 4, none⟩ = some (.slice A4 P.length c4) from ⟨pw_cell_below hb g0, pw_cell_below hb g1, pw_cell_below hb q0, pw_cell_below hb q1, pw_cell_below hb q2, pw_cell_below hb q3, pw_cell_below hb q4⟩))
              clear g0 g1 q0 q1 q2 q3 q4
              go_wp2_with (fail)
              go_region_held3 (fun w' => w'.cell? ⟨G, j * 2, none⟩ = some (.slice AI LI.length cI) ∧ w'.cell? ⟨G, j * 2 + 1, none⟩ = some (.slice AE LE.length cE) ∧ w'.cell? ⟨w.heap.size, 0, none⟩ = some (.int .i64 nn) ∧ w'.cell? ⟨w.heap.size, 1, none⟩ = some (.int .i64 s) ∧ w'.cell? ⟨w.heap.size, 2, none⟩ = some (.int .i64 k) ∧ w'.cell? ⟨w.heap.size, 3, none⟩ = some (.slice A3 T.length c3) ∧ w'.cell? ⟨w.heap.size, 4, none⟩ = some (.slice A4 P.length c4))
                (first | exact HS.out _ HBN.out | exact HS.out _ HBD.out)
                (first | (go_at_call 25; refine (HPT.out _ HBN.out).mono ?_; rintro e w8 ⟨A5, c5, B5, d5, rfl, hI, hE, hb⟩; have HI5 := Lib.hid hI; have HE5 := Lib.hid hE; have HBN2 := Lib.hid (HBN.out.trans (hb.mono HBN.out.size)); clear HBN; have HBN := HBN2; clear HBN2 hb hI hE)
                       | (go_at_call 24; refine (samePart_calls LI LE AI cI AE cE A5 c5 B5 d5 _ (Kd.C_below HCI.out HBN.out) (Kd.C_below HCE.out HBN.out) HI5.out HE5.out).mono ?_; rintro e w9 ⟨rfl, hb⟩; have HBN2 := Lib.hid (HBN.out.trans (hb.mono HBN.out.size)); clear HBN; have HBN := HBN2; clear HBN2 hb))
              go_wp2
              go_roundw
              case rel => exact ⟨j + 1, by go_num, hlj, Lib.hid (HV.out.trans (HBN.out.mono HV.out.size))⟩
              case measure => simp [intOf]; omega
            · obtain rfl : j = nn := by omega
              go_wp2
              go_ret
              exact ⟨rfl, HA.out.trans (HB8.out.mono HA.out.size)⟩
end Go.Proofs.Ytnaaaldeadjohaa.Cat

set_option linter.unusedVariables false
set_option linter.unusedSimpArgs false
namespace Go.Proofs.Ytnaaaldeadjohaa.Cat
open Go.RowKit Go.Shelf Go.Proofs Go.Proofs.YtnaaaldeadjohaaW.PrintWords Go.Proofs.Ytnaaaldeadjohaa.PCatalogLies Go.Deep Go.WideShapes Go.ChangeShapes
section
variable {H : Type} {enc : TypeId × Value → H} {w : World} {base : Nat} {sp : Nat → Bool} {held : Bool}
set_option maxRecDepth 100000 in
/-- Tables' rows that came in, and how long their reading is. -/
theorem opens46L {r : Reach} {b0 : Nat} {v : Value} {dd : DataW H} {p : List MemPlace} (hv : Value.okWide Try.prog w r b0 46 v) (h : DataW.Trod enc Try.prog w base sp held 46 v dd p) :
    ∃ A c l, v = .slice A (l : List S57).length c ∧ l.length ≤ c ∧ k57.C w A l.length l ∧ (l.length = 0 ∨ ∃ el sl, dd = .slice el sl ∧ el.length = l.length) := by
  obtain ⟨A, c, l, rfl, hle, hC⟩ := opens46 hv h
  refine ⟨A, c, l, rfl, hle, hC, ?_⟩
  obtain ⟨fuel, hf0⟩ := h
  rcases open_slice Try.underlying46 hf0 with ⟨h1, _⟩ | ⟨a, len, cap, m, n, D, Pl, h1, _, hl, hm, hmm, hx, _⟩
  · simp [Value.cells] at h1
    exact .inl (by rw [h1.2.1]; rfl)
  · simp [Value.cells] at h1
    simp only [Prod.mk.injEq] at hx
    exact .inr ⟨_, _, hx.1, by simp [h1.2.1]⟩
end
end Go.Proofs.Ytnaaaldeadjohaa.Cat
