import Derived.Test.YtnaaaldeadjohaaTj
set_option linter.unusedVariables false
set_option linter.unusedSimpArgs false
namespace Go.Proofs.Ytnaaaldeadjohaa.Cat
open Go.RowKit Go.Proofs.YtnaaaldeadjohaaW.PrintWords Go.Proofs.Ytnaaaldeadjohaa.PCatalogLies
/-- The printed functions, with what they come to. -/
theorem covers_calls (nm : ByteArray) (A : Option Addr) (c : Nat) (cs : List S76) (B : Option Addr) (m d : Nat) (l : List Int) (w : World) (hr : k76.C w A cs.length cs) (hc : cs.length ≤ c) (hm : l.length = m) (hl : (Kd.int .i64).C w B m l) (hd : m ≤ d) :
    Calls Try.prog 57 #[.agg #[.string nm, .slice A cs.length c], .slice B m d] w fun e w' => e = .returned (.bool (coversB cs l)) ∧ Below w.heap.size w w' := by
  subst hm
  obtain ⟨k, hk⟩ := Ev.rounds (covers_ev nm cs l hl.2.1 hr.2.1)
  exact catalog_covers.calls k nm A c cs B d l _ w hr hc hl hd hk
section
variable {n s k : Int} {T : List S79} {P : List S66} {A3 : Option Addr} {c3 : Nat} {A4 : Option Addr} {c4 : Nat} {w : World}
/-- A list of numbers that a call hands back. -/
def GivesInts (l : List Int) (w : World) (e : Ending) (w' : World) : Prop := ∃ A c, e = .returned (.slice A l.length c) ∧ l.length ≤ c ∧ (Kd.int .i64).C w' A l.length l ∧ Below w.heap.size w w'
def GivesSegs (l : List S31) (w : World) (e : Ending) (w' : World) : Prop := ∃ A c, e = .returned (.slice A l.length c) ∧ l.length ≤ c ∧ k31.C w' A l.length l ∧ Below w.heap.size w w'
theorem nodes_calls (g : Good n s k P) (h : CatR w T P A3 c3 A4 c4) (a b : Int) : Calls Try.prog 18 #[catV n s k T P A3 c3 A4 c4, .agg #[.int .i64 a, .int .i64 b]] w (GivesInts (nodesL n s k P a b) w) := by
  obtain ⟨q, hq⟩ := Ev.rounds (nodes_ev n s k T P g a b)
  refine (catalog_Nodes.calls q n s k A3 c3 T A4 c4 P a b _ w h.rT h.cT h.rP h.cP hq).mono ?_
  rintro e w' ⟨v, rfl, hr, hb⟩
  obtain ⟨A, c, rfl, hl, hc⟩ := Kd.R_reads hr
  exact ⟨A, c, rfl, hl, hc, hb⟩
theorem nodes2_calls (g : Good n s k P) (h : CatR w T P A3 c3 A4 c4) (a b : Int) : Calls Try.prog 19 #[catV n s k T P A3 c3 A4 c4, .agg #[.int .i64 a, .int .i64 b]] w (GivesInts (nodesL n s k P a b) w) := by
  obtain ⟨q, hq⟩ := Ev.rounds (nodes13_ev n s k T P g a b)
  refine (hayloftref13_Nodes.calls q n s k A3 c3 T A4 c4 P a b _ w h.rT h.cT h.rP h.cP hq).mono ?_
  rintro e w' ⟨v, rfl, hr, hb⟩
  obtain ⟨A, c, rfl, hl, hc⟩ := Kd.R_reads hr
  exact ⟨A, c, rfl, hl, hc, hb⟩
theorem of2_calls (g : Good n s k P) (h : CatR w T P A3 c3 A4 c4) (x : Int) : Calls Try.prog 15 #[catV n s k T P A3 c3 A4 c4, .int .i64 x] w (GivesSegs (ofL n s k P x) w) := by
  obtain ⟨q, hq⟩ := Ev.rounds (of13_ev n s k T P g x)
  refine (hayloftref13_Of.calls q n s k A3 c3 T A4 c4 P x _ w h.rT h.cT h.rP h.cP hq).mono ?_
  rintro e w' ⟨v, rfl, hr, hb⟩
  obtain ⟨A, c, rfl, hl, hc⟩ := Kd.R_reads hr
  exact ⟨A, c, rfl, hl, hc, hb⟩
theorem segs2_calls (g : Good n s k P) (h : CatR w T P A3 c3 A4 c4) : Calls Try.prog 16 #[catV n s k T P A3 c3 A4 c4] w (GivesSegs (segsL s P) w) := by
  obtain ⟨q, hq⟩ := Ev.rounds (segments_ev n s k T P g)
  refine (hayloftref13_Segments.calls q n s k A3 c3 T A4 c4 P _ w h.rT h.cT h.rP h.cP hq).mono ?_
  rintro e w' ⟨v, rfl, hr, hb⟩
  obtain ⟨A, c, rfl, hl, hc⟩ := Kd.R_reads hr
  exact ⟨A, c, rfl, hl, hc, hb⟩
theorem cov2_calls (g : Good n s k P) (h : CatR w T P A3 c3 A4 c4) (B : Option Addr) (d : Nat) (live : List Bool) (hl : Kd.bool.C w B live.length live) (hd : live.length ≤ d) :
    Calls Try.prog 21 #[catV n s k T P A3 c3 A4 c4, .slice B live.length d] w fun e w' => e = .returned (.bool (covered n s k P live)) ∧ Below w.heap.size w w' := by
  obtain ⟨q, hq⟩ := Ev.rounds (covered_ev n s k T P g live)
  exact hayloftref13_Covered.calls q n s k A3 c3 T A4 c4 P B d live _ w h.rT h.cT h.rP h.cP hl hd hq
theorem tab_len (h : CatR w T P A3 c3 A4 c4) (i : Int) (h0 : 0 ≤ i) (h1 : i < T.length) : (rd_T79 T i).f1.length ≤ 9223372036854775807 := by
  obtain ⟨ad, A1, e1, E1, _, _, hl1, hC1⟩ := at_T79 h.rT i h0 h1
  exact hC1.2.1
theorem proj_len (h : CatR w T P A3 c3 A4 c4) (i : Nat) (h1 : i < P.length) : (rd_T66 P i).f2.length ≤ 9223372036854775807 := by
  obtain ⟨ad, A2, e2, A3, e3, E1, _, _, _, _, _, _, _, hC1, _, _⟩ := at_T66 h.rP i (by omega) (by omega)
  exact hC1.2.1
theorem covB2_calls (h : CatR w T P A3 c3 A4 c4) (i : Int) (h0 : 0 ≤ i) (h1 : i < T.length) :
    Calls Try.prog 36 #[catV n s k T P A3 c3 A4 c4, .int .i64 i] w fun e w' => e = .returned (.bool (covB T P i)) ∧ Below w.heap.size w w' := by
  obtain ⟨q, hq⟩ := Ev.rounds (covered13_ev n s k T P i h.rP.2.1 h0 h1 (tab_len h i h0 h1) (fun a ha => proj_len h a ha))
  exact hayloftref13_covered.calls q n s k A3 c3 T A4 c4 P i _ w h.rT h.cT h.rP h.cP hq
end
theorem sameSegs_calls (A : Option Addr) (c : Nat) (l : List S31) (B : Option Addr) (m d : Nat) (w : World) (hm : l.length = m) (h1 : k31.C w A m l) (hc : m ≤ c) (h2 : k31.C w B m l) (hd : m ≤ d) :
    Calls Try.prog 13 #[.slice A m c, .slice B m d] w fun e w' => e = .returned (.bool true) ∧ Drawn0 w w' := by
  subst hm
  obtain ⟨q, hq⟩ := Ev.rounds (sameSegs_ev l l h1.2.1 rfl)
  exact hayloftref13_SameSegments.calls q A c l B d l _ w h1 hc h2 hd hq
theorem sameInts_calls (A : Option Addr) (c : Nat) (l : List Int) (B : Option Addr) (m d : Nat) (w : World) (hm : l.length = m) (h1 : (Kd.int .i64).C w A m l) (hc : m ≤ c) (h2 : (Kd.int .i64).C w B m l) (hd : m ≤ d) :
    Calls Try.prog 17 #[.slice A m c, .slice B m d] w fun e w' => e = .returned (.bool true) ∧ Drawn0 w w' := by
  subst hm
  obtain ⟨q, hq⟩ := Ev.rounds (sameInts_ev l l h1.2.1 rfl)
  exact hayloftref13_SameInts.calls q A c l B d l _ w h1 hc h2 hd hq
theorem own_gives {w : World} {base n : Nat} {v : Value} {xs : List Int} (h : w.ownsRow base 3 1 v n (nums .i64 xs)) : ∃ A c, v = .slice A n c ∧ n ≤ c ∧ (Kd.int .i64).C w A n xs := by
  have hl : xs.length = n := by have := h.1; simp [nums] at this; exact this
  subst hl
  have hR := Kd.R_of_own (enc := Value.int .i64) (h1 := fun _ => rfl) (ok := fun _ => True) (e := 3) (base := base) (v := v) (xs := xs) (w := w) h (fun _ _ => trivial)
  obtain ⟨A, c, he, hle, hc⟩ := Kd.R_reads hR
  exact ⟨A, c, he, hle, hc⟩
theorem two_lists {w : World} {g : Nat} {l m : List Int} {A : Option Addr} {c : Nat} {B : Option Addr} {d : Nat} (h0 : w.cell? ⟨g, 0, none⟩ = some (.slice A l.length c)) (h1 : w.cell? ⟨g, 1, none⟩ = some (.slice B m.length d))
    (hc : l.length ≤ c) (hA : (Kd.int .i64).C w A l.length l) (hd : m.length ≤ d) (hB : (Kd.int .i64).C w B m.length m) : (Kd.slice 3 (Kd.int .i64)).C w (some ⟨g, 0, none⟩) 2 [l, m] := by
  refine ⟨rfl, by omega, fun _ => ⟨_, rfl, fun j p hj => ?_⟩⟩
  rcases j with _ | _ | j
  · obtain rfl : l = p := by simpa using hj
    refine ⟨[.slice A l.length c], rfl, ⟨A, c, rfl, hc, hA⟩, fun i u hu => ?_⟩
    rcases i with _ | i
    · obtain rfl : _ = u := by simpa using hu
      rw [add_plain]; exact h0
    · simp at hu
  · obtain rfl : m = p := by simpa using hj
    refine ⟨[.slice B m.length d], rfl, ⟨B, d, rfl, hd, hB⟩, fun i u hu => ?_⟩
    rcases i with _ | i
    · obtain rfl : _ = u := by simpa using hu
      rw [add_plain]; exact h1
    · simp at hu
  · simp at hj
set_option maxHeartbeats 4000000 in
set_option maxRecDepth 100000 in
/-- catalog.covered, at lists that have at most eight numbers each. -/
theorem covB_calls (n s k : Int) (T : List S79) (P : List S66) (A3 : Option Addr) (c3 : Nat) (A4 : Option Addr) (c4 : Nat) (i : Int) (w : World) (h : CatR w T P A3 c3 A4 c4) (h0 : 0 ≤ i) (h1 : i < T.length) (h8 : ∀ a : Nat, a < P.length → (rd_T66 P a).f2.length ≤ 8) :
    Calls Try.prog 33 #[catV n s k T P A3 c3 A4 c4, .int .i64 i] w fun e w' => e = .returned (.bool (covB T P i)) ∧ Below w.heap.size w w' := by
  have HC := Lib.hid h
  have H8 := Lib.hid h8
  have hm : P.length ≤ 9223372036854775807 := h.rP.2.1
  clear h h8
  have hA := (Below.refl w.heap.size w).alloc (Nat.le_refl _) (.cells #[.int .i64 n, .int .i64 s, .int .i64 k, .slice A3 T.length c3, .slice A4 P.length c4] 25)
  have HA := Lib.hid hA
  have q3 : (w.alloc (.cells #[.int .i64 n, .int .i64 s, .int .i64 k, .slice A3 T.length c3, .slice A4 P.length c4] 25)).cell? ⟨w.heap.size, 3, none⟩ = some (.slice A3 T.length c3) := by simp [go_sem]
  have q4 : (w.alloc (.cells #[.int .i64 n, .int .i64 s, .int .i64 k, .slice A3 T.length c3, .slice A4 P.length c4] 25)).cell? ⟨w.heap.size, 4, none⟩ = some (.slice A4 P.length c4) := by simp [go_sem]
  clear hA
  go_enter Try.func33, Try.ntmps33
  go_wp2
  generalize w.alloc (.cells #[.int .i64 n, .int .i64 s, .int .i64 k, .slice A3 T.length c3, .slice A4 P.length c4] 25) = W0 at *
  go_loopw [12] (fun v wr => ∃ a : Nat, v = .int .i64 a ∧ a ≤ P.length ∧ Hid (∀ j, j < a → anyB (fun b => decide ((rd_T66 P j).f1 = i) && decide ((rd_T66 P b).f1 = i) && coversB (rd_T79 T i).f1 ((rd_T66 P j).f2 ++ (rd_T66 P b).f2)) P.length = false) ∧ Hid (Below W0.heap.size W0 wr)) (fun v _ => P.length - (intOf v).toNat)
  case atStart => exact ⟨0, rfl, Nat.zero_le _, Lib.hid (fun j hj => by omega), Lib.hid (Below.refl _ _)⟩
  case round =>
    obtain ⟨a, rfl, ha, HI, HW⟩ := hrel
    obtain ⟨wo, rfl⟩ : ∃ wo : World, wo = wr := ⟨_, rfl⟩
    by_cases hlt : a < P.length
    · have hbw : Below w.heap.size w wo := HA.out.trans (HW.out.mono HA.out.size)
      obtain ⟨ad, B2, d2, B3, d3, e1, hc0, hc1, hc2, hc3, hc4, hc5, hl2, hC2, hl3, hC3⟩ := at_T66 (Kd.C_below HC.out.rP hbw) a (by omega) (by omega)
      simp only [Int.toNat_natCast] at hc0 hc1 hc2 hc3 hc4 hc5
      cases e1
      generalize hx : rd_T66 P a = x at *
      have HX := Lib.hid hx
      have hA1 := (Below.refl wo.heap.size wo).alloc (Nat.le_refl _) (.cells #[.string x.f0, .int .i64 x.f1, .slice B2 x.f2.length d2, .slice B3 x.f3.length d3, .int .i64 x.f4, .int .i64 x.f5] 66)
      have HA1 := Lib.hid (HW.out.trans (hA1.mono HW.out.size))
      have q4' := pw_cell_below hA1 (pw_cell_below HW.out q4)
      have q3' := pw_cell_below hA1 (pw_cell_below HW.out q3)
      have x1 : (wo.alloc (.cells #[.string x.f0, .int .i64 x.f1, .slice B2 x.f2.length d2, .slice B3 x.f3.length d3, .int .i64 x.f4, .int .i64 x.f5] 66)).cell? ⟨wo.heap.size, 1, none⟩ = some (.int .i64 x.f1) := by simp [go_sem]
      have x2 : (wo.alloc (.cells #[.string x.f0, .int .i64 x.f1, .slice B2 x.f2.length d2, .slice B3 x.f3.length d3, .int .i64 x.f4, .int .i64 x.f5] 66)).cell? ⟨wo.heap.size, 2, none⟩ = some (.slice B2 x.f2.length d2) := by simp [go_sem]
      have HC2 := Lib.hid (Kd.C_below hC2 hA1)
      clear hA1 hx hC2 hC3 hbw
      go_wp2
      generalize wo.alloc (.cells #[.string x.f0, .int .i64 x.f1, .slice B2 x.f2.length d2, .slice B3 x.f3.length d3, .int .i64 x.f4, .int .i64 x.f5] 66) = W1 at *
      clear hc0 hc1 hc2 hc3 hc4 hc5
      go_loopw [19] (fun v wr => ∃ b : Nat, v = .int .i64 b ∧ b ≤ P.length ∧ Hid (∀ j, j < b → (decide ((rd_T66 P a).f1 = i) && decide ((rd_T66 P j).f1 = i) && coversB (rd_T79 T i).f1 ((rd_T66 P a).f2 ++ (rd_T66 P j).f2)) = false) ∧ Hid (Below W1.heap.size W1 wr)) (fun v _ => P.length - (intOf v).toNat)
      case atStart => exact ⟨0, rfl, Nat.zero_le _, Lib.hid (fun j hj => by omega), Lib.hid (Below.refl _ _)⟩
      case round =>
        obtain ⟨b, rfl, hb, HJ, HV⟩ := hrel
        obtain ⟨wp, rfl⟩ : ∃ wp : World, wp = wr := ⟨_, rfl⟩
        by_cases hlb : b < P.length
        · have hbw : Below w.heap.size w wp := HA.out.trans ((HA1.out.trans (HV.out.mono HA1.out.size)).mono HA.out.size)
          obtain ⟨ad', C2, e2, C3, e3, e1, hc0, hc1, hc2, hc3, hc4, hc5, hl2', hD2, hl3', hD3⟩ := at_T66 (Kd.C_below HC.out.rP hbw) b (by omega) (by omega)
          simp only [Int.toNat_natCast] at hc0 hc1 hc2 hc3 hc4 hc5
          cases e1
          have h8x := H8.out a hlt
          have h8y := H8.out b hlb
          rw [HX.out] at h8x
          generalize hy : rd_T66 P b = y at *
          have HY := Lib.hid hy
          have hA2 := (Below.refl wp.heap.size wp).alloc (Nat.le_refl _) (.cells #[.string y.f0, .int .i64 y.f1, .slice C2 y.f2.length e2, .slice C3 y.f3.length e3, .int .i64 y.f4, .int .i64 y.f5] 66)
          have HA2 := Lib.hid (HV.out.trans (hA2.mono HV.out.size))
          have z3 := pw_cell_below hA2 (pw_cell_below HV.out q3')
          have z1 := pw_cell_below hA2 (pw_cell_below HV.out x1)
          have z2 := pw_cell_below hA2 (pw_cell_below HV.out x2)
          have y1 : (wp.alloc (.cells #[.string y.f0, .int .i64 y.f1, .slice C2 y.f2.length e2, .slice C3 y.f3.length e3, .int .i64 y.f4, .int .i64 y.f5] 66)).cell? ⟨wp.heap.size, 1, none⟩ = some (.int .i64 y.f1) := by simp [go_sem]
          have y2 : (wp.alloc (.cells #[.string y.f0, .int .i64 y.f1, .slice C2 y.f2.length e2, .slice C3 y.f3.length e3, .int .i64 y.f4, .int .i64 y.f5] 66)).cell? ⟨wp.heap.size, 2, none⟩ = some (.slice C2 y.f2.length e2) := by simp [go_sem]
          have HD2 := Lib.hid (Kd.C_below hD2 hA2)
          have HBW := Lib.hid (hbw.trans (hA2.mono hbw.size))
          clear hA2 hy hD2 hD3 hbw
          go_wp2_with (fail)
          generalize wp.alloc (.cells #[.string y.f0, .int .i64 y.f1, .slice C2 y.f2.length e2, .slice C3 y.f3.length e3, .int .i64 y.f4, .int .i64 y.f5] 66) = W2 at *
          clear hc0 hc1 hc2 hc3 hc4 hc5
          have hn1 : ∀ hne : (decide (x.f1 = i) && decide (y.f1 = i) && coversB (rd_T79 T i).f1 (x.f2 ++ y.f2)) = false, Hid (∀ j, j < b + 1 → (decide ((rd_T66 P a).f1 = i) && decide ((rd_T66 P j).f1 = i) && coversB (rd_T79 T i).f1 ((rd_T66 P a).f2 ++ (rd_T66 P j).f2)) = false) := fun hne j hj => by
            rcases Nat.lt_or_ge j b with h | h
            · exact HJ.out j h
            · obtain rfl : j = b := by omega
              rw [HX.out, HY.out]; exact hne
          have HN1 := Lib.hid hn1
          clear hn1
          by_cases k1 : x.f1 = i
          · have b1 : (x.f1 == i) = true := beq_iff_eq.2 k1
            by_cases k2 : y.f1 = i
            · have b2 : (y.f1 == i) = true := beq_iff_eq.2 k2
              have K1 := Lib.hid k1
              have K2 := Lib.hid k2
              clear k1 k2
              obtain ⟨adT, AT, eT, E3, t0, t1, hlT, hCT⟩ := at_T79 (Kd.C_below HC.out.rT HBW.out) i h0 h1
              cases E3
              have HX2 := Lib.hid (Kd.C_below HC2.out HA2.out)
              have HCT := Lib.hid hCT
              have HS := Lib.hid (show ∀ w', Below W2.heap.size W2 w' → (w'.cell? ⟨w.heap.size, 3, none⟩ = some (.slice (some adT) T.length c3) ∧ w'.cell? ⟨wo.heap.size, 1, none⟩ = some (.int .i64 x.f1) ∧ w'.cell? ⟨wo.heap.size, 2, none⟩ = some (.slice B2 x.f2.length d2) ∧
                w'.cell? ⟨wp.heap.size, 1, none⟩ = some (.int .i64 y.f1) ∧ w'.cell? ⟨wp.heap.size, 2, none⟩ = some (.slice C2 y.f2.length e2) ∧ w'.cell? (adT.add (i.toNat * 2)) = some (.string (rd_T79 T i).f0) ∧ w'.cell? ⟨(adT.add (i.toNat * 2)).block, (adT.add (i.toNat * 2)).off + 1, none⟩ = some (.slice AT (rd_T79 T i).f1.length eT)) from
                fun w' hb => ⟨pw_cell_below hb z3, pw_cell_below hb z1, pw_cell_below hb z2, pw_cell_below hb y1, pw_cell_below hb y2, pw_cell_below hb t0, pw_cell_below hb t1⟩)
              have HBN := Lib.hid (Below.refl W2.heap.size W2)
              have hB3 : Below W2.heap.size W2 ((W2.alloc (.cells #[.slice B2 x.f2.length d2, .slice C2 y.f2.length e2] 40)).drew) := ((Below.refl _ W2).alloc (Nat.le_refl _) _).drew
              have HB3 := Lib.hid hB3
              have HCall := Lib.hid (Concat_calls (some ⟨W2.heap.size, 0, none⟩) [x.f2, y.f2] 2 ((W2.alloc (.cells #[.slice B2 x.f2.length d2, .slice C2 y.f2.length e2] 40)).drew)
                (two_lists (by simp [go_sem]) (by simp [go_sem]) hl2 (Kd.C_below HX2.out hB3) hl2' (Kd.C_below HD2.out hB3)) (Nat.le_refl _) (by simp [lenK, flatK]; omega))
              clear hCT hB3
              go_region_held3 (fun w' => w'.cell? ⟨w.heap.size, 3, none⟩ = some (.slice (some adT) T.length c3) ∧ w'.cell? ⟨wo.heap.size, 1, none⟩ = some (.int .i64 x.f1) ∧ w'.cell? ⟨wo.heap.size, 2, none⟩ = some (.slice B2 x.f2.length d2) ∧
                w'.cell? ⟨wp.heap.size, 1, none⟩ = some (.int .i64 y.f1) ∧ w'.cell? ⟨wp.heap.size, 2, none⟩ = some (.slice C2 y.f2.length e2) ∧ w'.cell? (adT.add (i.toNat * 2)) = some (.string (rd_T79 T i).f0) ∧ w'.cell? ⟨(adT.add (i.toNat * 2)).block, (adT.add (i.toNat * 2)).off + 1, none⟩ = some (.slice AT (rd_T79 T i).f1.length eT))
                (first | exact HS.out _ HBN.out | exact HS.out _ (pw_below_drewN HBN.out 1) | exact HS.out _ HB3.out)
                (first
                  | (go_at_call 58; refine HCall.out.mono ?_; rintro e w4 ⟨v4, rfl, hown, hb⟩; obtain ⟨A4', c4', rfl, hle4, hC4⟩ := own_gives hown; have HBN4 := Lib.hid (HB3.out.trans (hb.mono HB3.out.size)); have HC4 := Lib.hid hC4; clear HBN; have HBN := HBN4; clear HBN4 hown hb hC4)
                  | (go_at_call 57; refine (covers_calls (rd_T79 T i).f0 AT eT (rd_T79 T i).f1 A4' _ c4' (x.f2 ++ y.f2) w4 (Kd.C_below HCT.out HBN.out) hlT (by simp [lenK, flatK]) (by simpa [flatK] using HC4.out) hle4).mono ?_; rintro e w5 ⟨rfl, hb⟩; have HBN5 := Lib.hid (HBN.out.trans (hb.mono HBN.out.size)); clear HBN; have HBN := HBN5; clear HBN5 hb))
              cases hz : coversB (rd_T79 T i).f1 (x.f2 ++ y.f2)
              · have HN2 := HN1.out (by rw [hz, Bool.and_false])
                clear hz
                go_wp2
                go_roundw
                case rel => exact ⟨b + 1, by go_num, hlb, HN2, Lib.hid (HA2.out.trans (HBN.out.mono HA2.out.size))⟩
                case measure => simp [intOf]; omega
              · have HF := Lib.hid (show covB T P i = true from anyB_yes hlt (anyB_yes hlb (by rw [HX.out, HY.out, hz, decide_eq_true K1.out, decide_eq_true K2.out]; rfl)))
                clear hz
                go_wp2
                go_ret
                exact ⟨by rw [HF.out]; rfl, HBW.out.trans (HBN.out.mono HBW.out.size)⟩
            · have b2 : (y.f1 == i) = false := beq_eq_false_iff_ne.2 k2
              have HN2 := HN1.out (by rw [decide_eq_false k2, Bool.and_false]; rfl)
              clear k1 k2
              go_quiet (fail)
              go_wp2
              go_roundw
              case rel => exact ⟨b + 1, by go_num, hlb, HN2, Lib.hid (pw_below_drewN HA2.out nq)⟩
              case measure => simp [intOf]; omega
          · have b1 : (x.f1 == i) = false := beq_eq_false_iff_ne.2 k1
            have HN2 := HN1.out (by rw [decide_eq_false k1]; rfl)
            clear k1
            go_quiet (fail)
            go_wp2
            go_roundw
            case rel => exact ⟨b + 1, by go_num, hlb, HN2, Lib.hid (pw_below_drewN HA2.out nq)⟩
            case measure => simp [intOf]; omega
        · obtain rfl : b = P.length := by omega
          have HN2 : Hid (∀ j, j < a + 1 → anyB (fun b => decide ((rd_T66 P j).f1 = i) && decide ((rd_T66 P b).f1 = i) && coversB (rd_T79 T i).f1 ((rd_T66 P j).f2 ++ (rd_T66 P b).f2)) P.length = false) := Lib.hid (fun j hj => by
            rcases Nat.lt_or_ge j a with h | h
            · exact HI.out j h
            · obtain rfl : j = a := by omega
              exact anyB_no HJ.out)
          go_wp2
          go_roundw
          case rel => exact ⟨a + 1, by go_num, hlt, HN2, Lib.hid (HA1.out.trans (HV.out.mono HA1.out.size))⟩
          case measure => simp [intOf]; omega
    · obtain rfl : a = P.length := by omega
      have HF := Lib.hid (show covB T P i = false from anyB_no HI.out)
      go_wp2
      go_ret
      exact ⟨by rw [HF.out]; rfl, HA.out.trans (HW.out.mono HA.out.size)⟩
end Go.Proofs.Ytnaaaldeadjohaa.Cat
