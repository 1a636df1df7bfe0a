/- FnExactStripOrder, part 5 of 6: the plain functions of the Go text that the law reaches, what the calls come to, and plain lemmas on them; no condition -/
import Derived.Test.YtpdmimlkgmhepaaYXOrder0
import Derived.Test.YtpdmimlkgmhepaaYXOrder1
import Derived.Test.YtpdmimlkgmhepaaYXOrder2
import Derived.Test.YtpdmimlkgmhepaaYXOrder3
import Derived.Test.YtpdmimlkgmhepaaYXOrder4
/- The plain functions of this seat's Go text and, for each, that the call comes to what its plain function says: written for this claim by a program of the session (drv.py) over the kit's print.py. -/
namespace Go.Proofs.Ytpdmimlkgmhepaa.G
open Go.RowKit Go.Proofs.YtpdmimlkgmhepaaW.PrintWords Go.Proofs.YtpdmimlkgmhepaaW.PrintLast Go.Proofs.YtpdmimlkgmhepaaW.PrintMore
attribute [local go_sem] max2_int min2_int max_two min_two max_three min_three max_four min_four   -- for this text's walks alone
set_option linter.unusedVariables false
set_option linter.unusedSimpArgs false

/-! ### impl_StripFits: function 21 -/
mutual
def impl_StripFits.j0 : Nat → List (S54) → List Int → Bool → Option (Bool)
 | 0, _, _, _ => none
 | k + 1, x0, x1, x18 => if x18 = true then (some false) else (impl_StripFits.l0 k x0 x1 x0 (x0.length : Int) 0)
def impl_StripFits.l0 : Nat → List (S54) → List Int → List (S54) → Int → Int → Option (Bool)
 | 0, _, _, _, _, _ => none
 | k + 1, x0, x1, x19, x20, x21 => if x21 < x20 then (if 0 ≤ x21 then (if x21 < (x19.length : Int) then (if x21 < (x1.length : Int) then ((impl_in.f (rd x1 x21) ((rd_T54 x19 x21).f3) ((rd_T54 x19 x21).f4)).bind fun t105 => (if t105 = true then (if ((rd_T54 x19 x21).f5) ≥ 0 then (impl_StripFits.j2 k x0 x1 x21 x19 x20 x21 ((rd x1 x21) != ((rd_T54 x19 x21).f5)) ((rd_T54 x19 x21).f0) ((rd_T54 x19 x21).f1) ((rd_T54 x19 x21).f2) ((rd_T54 x19 x21).f3) ((rd_T54 x19 x21).f4) ((rd_T54 x19 x21).f5)) else (impl_StripFits.j2 k x0 x1 x21 x19 x20 x21 false ((rd_T54 x19 x21).f0) ((rd_T54 x19 x21).f1) ((rd_T54 x19 x21).f2) ((rd_T54 x19 x21).f3) ((rd_T54 x19 x21).f4) ((rd_T54 x19 x21).f5))) else (impl_StripFits.j2 k x0 x1 x21 x19 x20 x21 true ((rd_T54 x19 x21).f0) ((rd_T54 x19 x21).f1) ((rd_T54 x19 x21).f2) ((rd_T54 x19 x21).f3) ((rd_T54 x19 x21).f4) ((rd_T54 x19 x21).f5)))) else (none)) else (none)) else (none)) else (some true)
def impl_StripFits.j2 : Nat → List (S54) → List Int → Int → List (S54) → Int → Int → Bool → ByteArray → Bool → Int → Int → Int → Int → Option (Bool)
 | 0, _, _, _, _, _, _, _, _, _, _, _, _, _ => none
 | k + 1, x0, x1, x5, x19, x20, x21, x49, x104000, x104001, x104002, x104003, x104004, x104005 => if x49 = true then (some false) else (impl_StripFits.l1 k x0 x1 x5 x19 x20 x21 x0 (x0.length : Int) 0 x104000 x104001 x104002 x104003 x104004 x104005)
def impl_StripFits.l1 : Nat → List (S54) → List Int → Int → List (S54) → Int → Int → List (S54) → Int → Int → ByteArray → Bool → Int → Int → Int → Int → Option (Bool)
 | 0, _, _, _, _, _, _, _, _, _, _, _, _, _, _, _ => none
 | k + 1, x0, x1, x5, x19, x20, x21, x50, x51, x52, x104000, x104001, x104002, x104003, x104004, x104005 => if x52 < x51 then (if 0 ≤ x52 then (if x52 < (x50.length : Int) then (if x52 = x5 then (impl_StripFits.l1 k x0 x1 x5 x19 x20 x21 x50 x51 (wrap64 (x52 + 1)) x104000 x104001 x104002 x104003 x104004 x104005) else (if 0 ≤ x5 then (if x5 < (x1.length : Int) then (if x52 < (x1.length : Int) then (if (rd x1 x5) = (rd x1 x52) then (some false) else (if (rd x1 x5) < (rd x1 x52) then ((impl_StripGap.f k x104000 x104001 x104002 x104003 x104004 x104005 ((rd_T54 x50 x52).f0) ((rd_T54 x50 x52).f1) ((rd_T54 x50 x52).f2) ((rd_T54 x50 x52).f3) ((rd_T54 x50 x52).f4) ((rd_T54 x50 x52).f5)).bind fun t115 => (if (wrap64 ((rd x1 x52) - (rd x1 x5))) < t115 then (some false) else (impl_StripFits.l1 k x0 x1 x5 x19 x20 x21 x50 x51 (wrap64 (x52 + 1)) x104000 x104001 x104002 x104003 x104004 x104005))) else (impl_StripFits.l1 k x0 x1 x5 x19 x20 x21 x50 x51 (wrap64 (x52 + 1)) x104000 x104001 x104002 x104003 x104004 x104005))) else (none)) else (none)) else (none))) else (none)) else (none)) else (impl_StripFits.l0 k x0 x1 x19 x20 (wrap64 (x21 + 1)))
end
def impl_StripFits.f (k : Nat) (l0 : List (S54)) (l1 : List Int) : Option (Bool) := (impl_StripMovesOk.f k l0).bind fun t101 => (if t101 = true then (impl_StripFits.j0 k l0 l1 ((l1.length : Int) != (l0.length : Int))) else (impl_StripFits.j0 k l0 l1 true))
theorem impl_StripFits.mono_l : ∀ k, (∀ y0 y1 y2, LeO (impl_StripFits.j0 k y0 y1 y2) (impl_StripFits.j0 (k + 1) y0 y1 y2)) ∧ (∀ y0 y1 y2 y3 y4, LeO (impl_StripFits.l0 k y0 y1 y2 y3 y4) (impl_StripFits.l0 (k + 1) y0 y1 y2 y3 y4)) ∧ (∀ y0 y1 y2 y3 y4 y5 y6 y7 y8 y9 y10 y11 y12, LeO (impl_StripFits.j2 k y0 y1 y2 y3 y4 y5 y6 y7 y8 y9 y10 y11 y12) (impl_StripFits.j2 (k + 1) y0 y1 y2 y3 y4 y5 y6 y7 y8 y9 y10 y11 y12)) ∧ (∀ y0 y1 y2 y3 y4 y5 y6 y7 y8 y9 y10 y11 y12 y13 y14, LeO (impl_StripFits.l1 k y0 y1 y2 y3 y4 y5 y6 y7 y8 y9 y10 y11 y12 y13 y14) (impl_StripFits.l1 (k + 1) y0 y1 y2 y3 y4 y5 y6 y7 y8 y9 y10 y11 y12 y13 y14))
 | 0 => ⟨fun _ _ _ r h => by simp [impl_StripFits.j0] at h, fun _ _ _ _ _ r h => by simp [impl_StripFits.l0] at h, fun _ _ _ _ _ _ _ _ _ _ _ _ _ r h => by simp [impl_StripFits.j2] at h, fun _ _ _ _ _ _ _ _ _ _ _ _ _ _ _ r h => by simp [impl_StripFits.l1] at h⟩
 | k + 1 => by
  obtain ⟨ih0, ih1, ih2, ih3⟩ := impl_StripFits.mono_l k
  refine ⟨?_, ?_, ?_, ?_⟩
  ·intro y0 y1 y2
   unfold impl_StripFits.j0
   repeat' first
   | (with_reducible exact ih0 _ _ _)
   | (with_reducible exact ih1 _ _ _ _ _)
   | (with_reducible exact ih2 _ _ _ _ _ _ _ _ _ _ _ _ _)
   | (with_reducible exact ih3 _ _ _ _ _ _ _ _ _ _ _ _ _ _ _)
   | (with_reducible exact impl_StripGap.mono _ _ _ _ _ _ _ _ _ _ _ _ _)
   | (with_reducible exact impl_StripMovesOk.mono _ _)
   | (with_reducible exact LeO.refl _)
   | (with_reducible exact LeO.none _)
   | (with_reducible refine LeO.ite ?_ ?_)
   | (with_reducible refine LeO.bind ?_ (fun _ => ?_))
   | exact ih0 _ _ _
   | exact ih1 _ _ _ _ _
   | exact ih2 _ _ _ _ _ _ _ _ _ _ _ _ _
   | exact ih3 _ _ _ _ _ _ _ _ _ _ _ _ _ _ _
   | exact impl_StripGap.mono _ _ _ _ _ _ _ _ _ _ _ _ _
   | exact impl_StripMovesOk.mono _ _
   | exact LeO.none _
   | refine LeO.ite ?_ ?_
   | refine LeO.bind ?_ (fun _ => ?_)
  ·intro y0 y1 y2 y3 y4
   unfold impl_StripFits.l0
   repeat' first
   | (with_reducible exact ih0 _ _ _)
   | (with_reducible exact ih1 _ _ _ _ _)
   | (with_reducible exact ih2 _ _ _ _ _ _ _ _ _ _ _ _ _)
   | (with_reducible exact ih3 _ _ _ _ _ _ _ _ _ _ _ _ _ _ _)
   | (with_reducible exact impl_StripGap.mono _ _ _ _ _ _ _ _ _ _ _ _ _)
   | (with_reducible exact impl_StripMovesOk.mono _ _)
   | (with_reducible exact LeO.refl _)
   | (with_reducible exact LeO.none _)
   | (with_reducible refine LeO.ite ?_ ?_)
   | (with_reducible refine LeO.bind ?_ (fun _ => ?_))
   | exact ih0 _ _ _
   | exact ih1 _ _ _ _ _
   | exact ih2 _ _ _ _ _ _ _ _ _ _ _ _ _
   | exact ih3 _ _ _ _ _ _ _ _ _ _ _ _ _ _ _
   | exact impl_StripGap.mono _ _ _ _ _ _ _ _ _ _ _ _ _
   | exact impl_StripMovesOk.mono _ _
   | exact LeO.none _
   | refine LeO.ite ?_ ?_
   | refine LeO.bind ?_ (fun _ => ?_)
  ·intro y0 y1 y2 y3 y4 y5 y6 y7 y8 y9 y10 y11 y12
   unfold impl_StripFits.j2
   repeat' first
   | (with_reducible exact ih0 _ _ _)
   | (with_reducible exact ih1 _ _ _ _ _)
   | (with_reducible exact ih2 _ _ _ _ _ _ _ _ _ _ _ _ _)
   | (with_reducible exact ih3 _ _ _ _ _ _ _ _ _ _ _ _ _ _ _)
   | (with_reducible exact impl_StripGap.mono _ _ _ _ _ _ _ _ _ _ _ _ _)
   | (with_reducible exact impl_StripMovesOk.mono _ _)
   | (with_reducible exact LeO.refl _)
   | (with_reducible exact LeO.none _)
   | (with_reducible refine LeO.ite ?_ ?_)
   | (with_reducible refine LeO.bind ?_ (fun _ => ?_))
   | exact ih0 _ _ _
   | exact ih1 _ _ _ _ _
   | exact ih2 _ _ _ _ _ _ _ _ _ _ _ _ _
   | exact ih3 _ _ _ _ _ _ _ _ _ _ _ _ _ _ _
   | exact impl_StripGap.mono _ _ _ _ _ _ _ _ _ _ _ _ _
   | exact impl_StripMovesOk.mono _ _
   | exact LeO.none _
   | refine LeO.ite ?_ ?_
   | refine LeO.bind ?_ (fun _ => ?_)
  ·intro y0 y1 y2 y3 y4 y5 y6 y7 y8 y9 y10 y11 y12 y13 y14
   unfold impl_StripFits.l1
   repeat' first
   | (with_reducible exact ih0 _ _ _)
   | (with_reducible exact ih1 _ _ _ _ _)
   | (with_reducible exact ih2 _ _ _ _ _ _ _ _ _ _ _ _ _)
   | (with_reducible exact ih3 _ _ _ _ _ _ _ _ _ _ _ _ _ _ _)
   | (with_reducible exact impl_StripGap.mono _ _ _ _ _ _ _ _ _ _ _ _ _)
   | (with_reducible exact impl_StripMovesOk.mono _ _)
   | (with_reducible exact LeO.refl _)
   | (with_reducible exact LeO.none _)
   | (with_reducible refine LeO.ite ?_ ?_)
   | (with_reducible refine LeO.bind ?_ (fun _ => ?_))
   | exact ih0 _ _ _
   | exact ih1 _ _ _ _ _
   | exact ih2 _ _ _ _ _ _ _ _ _ _ _ _ _
   | exact ih3 _ _ _ _ _ _ _ _ _ _ _ _ _ _ _
   | exact impl_StripGap.mono _ _ _ _ _ _ _ _ _ _ _ _ _
   | exact impl_StripMovesOk.mono _ _
   | exact LeO.none _
   | refine LeO.ite ?_ ?_
   | refine LeO.bind ?_ (fun _ => ?_)
theorem impl_StripFits.mono : ∀ a0 a1 k, LeO (impl_StripFits.f k a0 a1) (impl_StripFits.f (k + 1) a0 a1) := by
 intro a0 a1 k
 obtain ⟨ih0, ih1, ih2, ih3⟩ := impl_StripFits.mono_l k
 unfold impl_StripFits.f
 repeat' first
   | (with_reducible exact ih0 _ _ _)
   | (with_reducible exact ih1 _ _ _ _ _)
   | (with_reducible exact ih2 _ _ _ _ _ _ _ _ _ _ _ _ _)
   | (with_reducible exact ih3 _ _ _ _ _ _ _ _ _ _ _ _ _ _ _)
   | (with_reducible exact impl_StripGap.mono _ _ _ _ _ _ _ _ _ _ _ _ _)
   | (with_reducible exact impl_StripMovesOk.mono _ _)
   | (with_reducible exact LeO.refl _)
   | (with_reducible exact LeO.none _)
   | (with_reducible refine LeO.ite ?_ ?_)
   | (with_reducible refine LeO.bind ?_ (fun _ => ?_))
   | exact ih0 _ _ _
   | exact ih1 _ _ _ _ _
   | exact ih2 _ _ _ _ _ _ _ _ _ _ _ _ _
   | exact ih3 _ _ _ _ _ _ _ _ _ _ _ _ _ _ _
   | exact impl_StripGap.mono _ _ _ _ _ _ _ _ _ _ _ _ _
   | exact impl_StripMovesOk.mono _ _
   | exact LeO.none _
   | refine LeO.ite ?_ ?_
   | refine LeO.bind ?_ (fun _ => ?_)
def impl_StripFits.T6 : Bool × List (List Nat × List Nat) := (true, [([], []), ([], []), ([0, 1], [0, 1]), ([2], [2]), ([], []), ([4], [4]), ([], []), ([6], [6]), ([3, 5, 7], [3, 5, 7]), ([8], [8]), ([9, 8], [9]), ([10], [10]), ([11, 10], [10, 11]), ([12, 10], [10, 12]), ([13, 10, 10], [10, 13]), ([14], [14]), ([14], [14]), ([15, 16, 14], [14, 15, 16]), ([17, 14], [14, 17]), ([14], [14]), ([19, 14], [14, 19]), ([18, 20, 14], [14, 18, 20]), ([14, 21, 10], [10, 14, 21]), ([10, 22], [10, 22])])
def impl_StripFits.B6 : List Nat := [0, 0, 3, 7, 0, 16, 0, 64, 255, 511, 1023, 2047, 4095, 8191, 16383, 32767, 32767, 131071, 262143, 32767, 557055, 2097151, 4194303, 8388607]
theorem impl_StripFits.tab6 : rtab .any (opsOf Try.f21 6) = impl_StripFits.T6 := by kernel_rfl
theorem impl_StripFits.bits6 : waitsOk impl_StripFits.T6.2 impl_StripFits.B6 = true := by kernel_rfl
def impl_StripFits.T11 : Bool × List (List Nat × List Nat) := (true, [([], []), ([], []), ([0, 1], [0, 1]), ([2], [2]), ([3], [3]), ([3], [3]), ([4, 5, 3], [3, 4, 5]), ([6, 3], [3, 6]), ([3], [3]), ([3], [3]), ([8, 9, 3], [3, 8, 9]), ([10, 3], [3, 10]), ([7, 11, 3], [3, 7, 11]), ([12, 3, 3], [3, 12]), ([13], [13]), ([13], [13]), ([14, 15, 13], [13, 14, 15]), ([16, 13], [13, 16]), ([13], [13]), ([13], [13]), ([18, 19, 13], [13, 18, 19]), ([20, 13], [13, 20]), ([17, 21, 13], [13, 17, 21]), ([22, 13, 13], [13, 22]), ([23], [23]), ([23], [23]), ([24, 25, 23], [23, 24, 25]), ([26, 23], [23, 26]), ([23], [23]), ([23], [23]), ([28, 29, 23], [23, 28, 29]), ([30, 23], [23, 30]), ([27, 31, 23], [23, 27, 31]), ([23], [23]), ([23], [23]), ([33, 34, 23, 23], [23, 33, 34]), ([32, 35, 23], [23, 32, 35]), ([23, 36, 13], [13, 23, 36]), ([13, 37, 3], [3, 13, 37]), ([3, 38], [3, 38])])
def impl_StripFits.B11 : List Nat := [0, 0, 3, 7, 15, 15, 63, 127, 15, 15, 783, 1807, 4095, 8191, 16383, 16383, 65535, 131071, 16383, 16383, 802815, 1851391, 4194303, 8388607, 16777215, 16777215, 67108863, 134217727, 16777215, 16777215, 822083583, 1895825407, 4294967295, 16777215, 16777215, 25786580991, 68719476735, 137438953471, 274877906943, 549755813887]
theorem impl_StripFits.tab11 : rtab .any (opsOf Try.f21 11) = impl_StripFits.T11 := by kernel_rfl
theorem impl_StripFits.bits11 : waitsOk impl_StripFits.T11.2 impl_StripFits.B11 = true := by kernel_rfl
set_option maxHeartbeats 8000000 in
set_option maxRecDepth 100000 in
theorem impl_StripFits.calls (k : Nat) (A0 : Option Addr) (c0 : Nat) (l0 : List (S54)) (A1 : Option Addr) (c1 : Nat) (l1 : List Int) (r : Bool) (w : World) (hr0 : Kd.C k54 w A0 l0.length l0) (hc0 : l0.length ≤ c0) (hr1 : Kd.C (Kd.int .i64) w A1 l1.length l1) (hc1 : l1.length ≤ c1) (h : impl_StripFits.f k l0 l1 = some r) :
  Calls Try.prog 21 #[.slice A0 l0.length c0, .slice A1 l1.length c1] w fun e w' => e = .returned (.bool r) ∧ Below w.heap.size w w' := by
 have hu54 := Try.underlying54
 have HR0 := Aside0.mk hr0
 have HC0 := Aside0.mk hc0
 clear hr0 hc0
 have HR1 := Aside0.mk hr1
 have HC1 := Aside0.mk hc1
 clear hr1 hc1
 have HB := Aside0.mk (Below.refl w.heap.size w)
 have H : ((impl_StripMovesOk.f k l0).bind fun t101 => (if t101 = true then (impl_StripFits.j0 k l0 l1 ((l1.length : Int) != (l0.length : Int))) else (impl_StripFits.j0 k l0 l1 true))) = some r := h
 clear h
 have HC3 := Aside0.mk H
 clear H
 go_enter Try.func21, Try.ntmps21
 go_upto_region 1 with (fail)
 go_cut [18] (fun v18 wc => ∃ (kq : Nat) (x18_2 : Bool), v18 = .bool x18_2 ∧ Aside0 (impl_StripFits.j0 kq l0 l1 x18_2 = some r) ∧ Aside0 (kq ≤ k) ∧ Aside0 (Below w.heap.size w wc))
 case first =>
  have H := HC3.out
  clear HC3
  replace H := Option.bind_eq_some_iff.mp H
  obtain ⟨t101, A40, H⟩ := H
  replace H : (if t101 = true then (impl_StripFits.j0 k l0 l1 ((l1.length : Int) != (l0.length : Int))) else (impl_StripFits.j0 k l0 l1 true)) = some r := H
  have A4 := Aside0.mk A40
  clear A40
  by_cases c5 : t101 = true
  ·subst c5
   have H1 : (impl_StripFits.j0 k l0 l1 ((l1.length : Int) != (l0.length : Int))) = some r := by rw [if_pos rfl] at H; exact H
   clear H
   have H := H1
   clear H1
   have H' := Aside0.mk H
   clear H
   go_wp2_with (first | ((with_reducible refine gate_callee (f := 18) rfl ?_); refine goesL_ (some 10) rfl rfl Try.func18 (by kernel_rfl) rfl #[.slice A0 l0.length c0] rfl (by (try simp only [List.map_toArray, List.map_cons, List.map_nil]); first | done | rfl | (simp only [List.length_drop, List.length_take]; rfl)) ?_; (with_reducible refine (impl_StripMovesOk.calls k _ _ l0 true _ ?side1 ?side2 A4.out).mono ?_); (case side1 => repeat (first | exact (Kd.C_below HR0.out HB.out) | (with_reducible refine Kd.C_alloc ?_ _) | (with_reducible refine Kd.C_drewN ?_ _) | (with_reducible refine Kd.C_drew ?_))); (case side2 => exact HC0.out); rintro e w6 ⟨rfl, hb⟩; refine ⟨_, rfl, ?_⟩; have n0_ := Aside0.mk (below_step (eb HB.out) hb); clear HB; have HB := n0_; clear n0_; (try clear hb); (try clear hb2); (try clear hk); (try clear hi)))
   go_meet
   case rel => exact ⟨_, (((l1.length : Int) != (l0.length : Int))), (by first | rfl | (simp; done) | (simp [*]; done)), H', ⟨by first | omega | exact Nat.le_refl _⟩, ⟨eb HB.out⟩⟩
  ·replace c5 := Bool.eq_false_iff.mpr c5
   subst c5
   have H1 : (impl_StripFits.j0 k l0 l1 true) = some r := by rw [if_neg (show ¬ (false = true) by decide)] at H; exact H
   clear H
   have H := H1
   clear H1
   have H' := Aside0.mk H
   clear H
   go_wp2_with (first | ((with_reducible refine gate_callee (f := 18) rfl ?_); refine goesL_ (some 10) rfl rfl Try.func18 (by kernel_rfl) rfl #[.slice A0 l0.length c0] rfl (by (try simp only [List.map_toArray, List.map_cons, List.map_nil]); first | done | rfl | (simp only [List.length_drop, List.length_take]; rfl)) ?_; (with_reducible refine (impl_StripMovesOk.calls k _ _ l0 false _ ?side1 ?side2 A4.out).mono ?_); (case side1 => repeat (first | exact (Kd.C_below HR0.out HB.out) | (with_reducible refine Kd.C_alloc ?_ _) | (with_reducible refine Kd.C_drewN ?_ _) | (with_reducible refine Kd.C_drew ?_))); (case side2 => exact HC0.out); rintro e w7 ⟨rfl, hb⟩; refine ⟨_, rfl, ?_⟩; have n0_ := Aside0.mk (below_step (eb HB.out) hb); clear HB; have HB := n0_; clear n0_; (try clear hb); (try clear hb2); (try clear hk); (try clear hi)))
   go_meet
   case rel => exact ⟨_, (true), (by first | rfl | (simp; done) | (simp [*]; done)), H', ⟨by first | omega | exact Nat.le_refl _⟩, ⟨eb HB.out⟩⟩
 case rest =>
  clear HC3
  try clear c1
  try clear c2
  try clear p2
  try clear c5
  obtain ⟨kq, x18_2, rfl, HA, HJ2, HB⟩ := hcut
  cases kq with
  | zero => exact absurd HA.out (by simp [impl_StripFits.j0])
  | succ kj2 =>
   have H := HA.out
   clear HA
   simp only [impl_StripFits.j0] at H
   by_cases c8 : x18_2 = true
   ·subst c8
    have H1 : (some false) = some r := by rw [if_pos rfl] at H; exact H
    clear H
    have H := H1
    clear H1
    obtain rfl := Option.some.inj H
    go_wp2
    go_ret
    exact ⟨by first | rfl | (simp [errW_none, errW_some] <;> rfl) | (simp [*, errW_none, errW_some] <;> rfl), eb HB.out⟩
   ·replace c8 := Bool.eq_false_iff.mpr c8
    subst c8
    have H1 : (impl_StripFits.l0 kj2 l0 l1 l0 (l0.length : Int) 0) = some r := by rw [if_neg (show ¬ (false = true) by decide)] at H; exact H
    clear H
    have H := H1
    clear H1
    have H' := Aside0.mk H
    clear H
    go_wp2
    go_loopg [21] kj2 (fun kq v21 w' => ∃ (x21_2 : Int), v21 = .int .i64 x21_2 ∧ Aside0 (impl_StripFits.l0 kq l0 l1 l0 (l0.length : Int) x21_2 = some r) ∧ Aside0 (kq ≤ kj2) ∧ Aside0 (Below w.heap.size w w'))
    case atStart => exact ⟨(0), (by first | rfl | (simp; done) | (simp [*]; done)), H', ⟨Nat.le_refl _⟩, ⟨eb HB.out⟩⟩
    case round =>
     clear H'
     try clear c1
     try clear c2
     try clear p2
     try clear c5
     try clear c8
     try clear p2
     obtain ⟨x21_2, rfl, HA, HK2, HB⟩ := hrel
     cases gk with
     | zero => exact absurd HA.out (by simp [impl_StripFits.l0])
     | succ k2 =>
      have H := HA.out
      clear HA
      simp only [impl_StripFits.l0] at H
      by_cases c9 : x21_2 < (l0.length : Int)
      ·rw [if_pos c9] at H
       have c9b0 : decide (x21_2 < (l0.length : Int)) = true := decide_eq_true c9
       clear c9
       by_cases c10 : 0 ≤ x21_2
       ·rw [if_pos c10] at H
        have c10b0 : decide (0 ≤ x21_2) = true := decide_eq_true c10
        clear c10
        by_cases c11 : x21_2 < (l0.length : Int)
        ·rw [if_pos c11] at H
         have c11b0 : decide (x21_2 < (l0.length : Int)) = true := decide_eq_true c11
         clear c11
         have HC12 := Aside0.mk H
         clear H
         have p102 : 0 ≤ (x21_2 : Int) := of_decide_eq_true (by first | (with_reducible assumption) | assumption)
         have q102 : x21_2 < (l0.length : Int) := of_decide_eq_true (by first | (with_reducible assumption) | assumption)
         obtain ⟨ad102, e102, hx102_0, hx102_1, hx102_2, hx102_3, hx102_4, hx102_5⟩ := at_T54 HR0.out x21_2 p102 q102
         cases e102
         replace hx102_0 := pw_cell_below HB.out hx102_0
         replace hx102_1 := pw_cell_below HB.out hx102_1
         replace hx102_2 := pw_cell_below HB.out hx102_2
         replace hx102_3 := pw_cell_below HB.out hx102_3
         replace hx102_4 := pw_cell_below HB.out hx102_4
         replace hx102_5 := pw_cell_below HB.out hx102_5
         replace p102 := eq_true p102
         replace q102 := eq_true q102
         go_upto_region 6 with (first | ((with_reducible refine gate_dst (N := 6) rfl ?_); (try (refine gate_guard (by rfl) ?_; dsimp only)); refine box_event ?hg (N := 6) ?hd (cs := #[.string (⟨#[]⟩ : ByteArray), .bool false, .int .i64 0, .int .i64 0, .int .i64 0, .int .i64 0]) (t := 54) ?hr ?_; (case hd => rfl); (case hg => rfl); (case hr => first | (go_simp; done) | (go_simp; rfl)); intro gb103 hg w13 hbox hb; have n0_ := Aside0.mk (below_step (eb HB.out) hb); have n1_ := Aside0.mk (hbox); have n2_ := Aside0.mk ((by rw [hg]; exact (below_size (eb HB.out)) : w.heap.size ≤ gb103)); have n3_ := Aside0.mk ((by rw [hg]; exact (below_size (eb HB.out)) : w.heap.size ≤ gb103)); clear HB; have HB := n0_; have BK103 := n1_; have GW103 := n2_; have GE103 := n3_; clear n0_ n1_ n2_ n3_; clear hb hbox hg; obtain ⟨hcz14_0, hcz14_1, hcz14_2, hcz14_3, hcz14_4, hcz14_5⟩ := bc6 BK103.out; obtain ⟨hfz14_0, hfz14_1, hfz14_2, hfz14_3, hfz14_4, hfz14_5⟩ := bf6 BK103.out))
         (try simp only [Act.put, List.setIfInBounds_toArray, List.set_cons_zero, List.set_cons_succ])
         go_cut [49] (fun v49 wc => ∃ (kq : Nat) (x49_11 : Bool), v49 = .bool x49_11 ∧ Aside0 (impl_StripFits.j2 kq l0 l1 x21_2 l0 (l0.length : Int) x21_2 x49_11 ((rd_T54 l0 x21_2).f0) ((rd_T54 l0 x21_2).f1) ((rd_T54 l0 x21_2).f2) ((rd_T54 l0 x21_2).f3) ((rd_T54 l0 x21_2).f4) ((rd_T54 l0 x21_2).f5) = some r) ∧ Aside0 (kq ≤ k2) ∧ Aside0 (wc.heap[gb103]? = some (.cells #[.string ((rd_T54 l0 x21_2).f0), .bool ((rd_T54 l0 x21_2).f1), .int .i64 ((rd_T54 l0 x21_2).f2), .int .i64 ((rd_T54 l0 x21_2).f3), .int .i64 ((rd_T54 l0 x21_2).f4), .int .i64 ((rd_T54 l0 x21_2).f5)] 54 (0, 0))) ∧ Aside0 (Below w.heap.size w wc))
         case first =>
          have H := HC12.out
          clear HC12
          by_cases c15 : x21_2 < (l1.length : Int)
          ·rw [if_pos c15] at H
           have c15b0 : decide (x21_2 < (l1.length : Int)) = true := decide_eq_true c15
           clear c15
           (first | rw [c15b0] | (simp only [i64_w, i32_w]; rw [c15b0]) | skip)
           replace H := Option.bind_eq_some_iff.mp H
           obtain ⟨t105, A160, H⟩ := H
           replace H : (if t105 = true then (if ((rd_T54 l0 x21_2).f5) ≥ 0 then (impl_StripFits.j2 k2 l0 l1 x21_2 l0 (l0.length : Int) x21_2 ((rd l1 x21_2) != ((rd_T54 l0 x21_2).f5)) ((rd_T54 l0 x21_2).f0) ((rd_T54 l0 x21_2).f1) ((rd_T54 l0 x21_2).f2) ((rd_T54 l0 x21_2).f3) ((rd_T54 l0 x21_2).f4) ((rd_T54 l0 x21_2).f5)) else (impl_StripFits.j2 k2 l0 l1 x21_2 l0 (l0.length : Int) x21_2 false ((rd_T54 l0 x21_2).f0) ((rd_T54 l0 x21_2).f1) ((rd_T54 l0 x21_2).f2) ((rd_T54 l0 x21_2).f3) ((rd_T54 l0 x21_2).f4) ((rd_T54 l0 x21_2).f5))) else (impl_StripFits.j2 k2 l0 l1 x21_2 l0 (l0.length : Int) x21_2 true ((rd_T54 l0 x21_2).f0) ((rd_T54 l0 x21_2).f1) ((rd_T54 l0 x21_2).f2) ((rd_T54 l0 x21_2).f3) ((rd_T54 l0 x21_2).f4) ((rd_T54 l0 x21_2).f5))) = some r := H
           have A16 := Aside0.mk A160
           clear A160
           by_cases c17 : t105 = true
           ·subst c17
            have H1 : (if ((rd_T54 l0 x21_2).f5) ≥ 0 then (impl_StripFits.j2 k2 l0 l1 x21_2 l0 (l0.length : Int) x21_2 ((rd l1 x21_2) != ((rd_T54 l0 x21_2).f5)) ((rd_T54 l0 x21_2).f0) ((rd_T54 l0 x21_2).f1) ((rd_T54 l0 x21_2).f2) ((rd_T54 l0 x21_2).f3) ((rd_T54 l0 x21_2).f4) ((rd_T54 l0 x21_2).f5)) else (impl_StripFits.j2 k2 l0 l1 x21_2 l0 (l0.length : Int) x21_2 false ((rd_T54 l0 x21_2).f0) ((rd_T54 l0 x21_2).f1) ((rd_T54 l0 x21_2).f2) ((rd_T54 l0 x21_2).f3) ((rd_T54 l0 x21_2).f4) ((rd_T54 l0 x21_2).f5))) = some r := by rw [if_pos rfl] at H; exact H
            clear H
            have H := H1
            clear H1
            by_cases c18 : ((rd_T54 l0 x21_2).f5) ≥ 0
            ·rw [if_pos c18] at H
             have c18b0 : decide (0 ≤ ((rd_T54 l0 x21_2).f5)) = true := decide_eq_true c18
             clear c18
             have H' := Aside0.mk H
             clear H
             try go_wp2
             have n0_ : Aside0 (((((((w13.setCell ⟨gb103, 0, none⟩ (.string ((rd_T54 l0 x21_2).f0))).setCell ⟨gb103, 1, none⟩ (.bool ((rd_T54 l0 x21_2).f1))).setCell ⟨gb103, 2, none⟩ (.int .i64 ((rd_T54 l0 x21_2).f2))).setCell ⟨gb103, 3, none⟩ (.int .i64 ((rd_T54 l0 x21_2).f3))).setCell ⟨gb103, 4, none⟩ (.int .i64 ((rd_T54 l0 x21_2).f4))).setCell ⟨gb103, 5, none⟩ (.int .i64 ((rd_T54 l0 x21_2).f5))).heap[gb103]? = some (.cells #[.string ((rd_T54 l0 x21_2).f0), .bool ((rd_T54 l0 x21_2).f1), .int .i64 ((rd_T54 l0 x21_2).f2), .int .i64 ((rd_T54 l0 x21_2).f3), .int .i64 ((rd_T54 l0 x21_2).f4), .int .i64 ((rd_T54 l0 x21_2).f5)] 54 (0, 0))) := ⟨by refine px ?_; refine blk_put (cs := #[.string ((rd_T54 l0 x21_2).f0), .bool ((rd_T54 l0 x21_2).f1), .int .i64 ((rd_T54 l0 x21_2).f2), .int .i64 ((rd_T54 l0 x21_2).f3), .int .i64 ((rd_T54 l0 x21_2).f4), .int .i64 0]) ?_ 5 _ rfl; refine px ?_; refine blk_put (cs := #[.string ((rd_T54 l0 x21_2).f0), .bool ((rd_T54 l0 x21_2).f1), .int .i64 ((rd_T54 l0 x21_2).f2), .int .i64 ((rd_T54 l0 x21_2).f3), .int .i64 0, .int .i64 0]) ?_ 4 _ rfl; refine px ?_; refine blk_put (cs := #[.string ((rd_T54 l0 x21_2).f0), .bool ((rd_T54 l0 x21_2).f1), .int .i64 ((rd_T54 l0 x21_2).f2), .int .i64 0, .int .i64 0, .int .i64 0]) ?_ 3 _ rfl; refine px ?_; refine blk_put (cs := #[.string ((rd_T54 l0 x21_2).f0), .bool ((rd_T54 l0 x21_2).f1), .int .i64 0, .int .i64 0, .int .i64 0, .int .i64 0]) ?_ 2 _ rfl; refine px ?_; refine blk_put (cs := #[.string ((rd_T54 l0 x21_2).f0), .bool false, .int .i64 0, .int .i64 0, .int .i64 0, .int .i64 0]) ?_ 1 _ rfl; refine px ?_; refine blk_put (cs := #[.string (⟨#[]⟩ : ByteArray), .bool false, .int .i64 0, .int .i64 0, .int .i64 0, .int .i64 0]) ?_ 0 _ rfl; refine px ?_; exact BK103.out⟩
             have n1_ : Aside0 (Below w.heap.size w ((((((w13.setCell ⟨gb103, 0, none⟩ (.string ((rd_T54 l0 x21_2).f0))).setCell ⟨gb103, 1, none⟩ (.bool ((rd_T54 l0 x21_2).f1))).setCell ⟨gb103, 2, none⟩ (.int .i64 ((rd_T54 l0 x21_2).f2))).setCell ⟨gb103, 3, none⟩ (.int .i64 ((rd_T54 l0 x21_2).f3))).setCell ⟨gb103, 4, none⟩ (.int .i64 ((rd_T54 l0 x21_2).f4))).setCell ⟨gb103, 5, none⟩ (.int .i64 ((rd_T54 l0 x21_2).f5)))) := ⟨by repeat (first | (with_reducible first | exact HB.out | apply below_alloc | apply pw_below_drewN | apply below_drew1 | refine below_set ?_ GE103.out) | exact HB.out)⟩
             (try clear BK103)
             (try clear HB)
             generalize ((((((w13.setCell ⟨gb103, 0, none⟩ (.string ((rd_T54 l0 x21_2).f0))).setCell ⟨gb103, 1, none⟩ (.bool ((rd_T54 l0 x21_2).f1))).setCell ⟨gb103, 2, none⟩ (.int .i64 ((rd_T54 l0 x21_2).f2))).setCell ⟨gb103, 3, none⟩ (.int .i64 ((rd_T54 l0 x21_2).f3))).setCell ⟨gb103, 4, none⟩ (.int .i64 ((rd_T54 l0 x21_2).f4))).setCell ⟨gb103, 5, none⟩ (.int .i64 ((rd_T54 l0 x21_2).f5))) = w19 at n0_ n1_ ⊢
             have BK103 := n0_
             have HB := n1_
             clear n0_ n1_
             have n0_ := Aside0.mk (blk_drew BK103.out)
             have n1_ := Aside0.mk (below_drew1 HB.out)
             clear BK103
             clear HB
             have BK103 := n0_
             have HB := n1_
             clear n0_ n1_
             have p104 : 0 ≤ (x21_2 : Int) := of_decide_eq_true (by first | (with_reducible assumption) | assumption)
             have q104 : x21_2 < (l1.length : Int) := of_decide_eq_true (by first | (with_reducible assumption) | assumption)
             obtain ⟨ad104, e104, hx104_0⟩ := Kd.at_int HR1.out x21_2 p104 q104
             have hw104_0 := hx104_0
             cases e104
             replace hx104_0 := pw_cell_below HB.out hx104_0
             replace p104 := eq_true p104
             replace q104 := eq_true q104
             have p106 : 0 ≤ (x21_2 : Int) := of_decide_eq_true (by first | (with_reducible assumption) | assumption)
             have q106 : x21_2 < (l1.length : Int) := of_decide_eq_true (by first | (with_reducible assumption) | assumption)
             obtain ⟨ad106, e106, hx106_0⟩ := Kd.at_int HR1.out x21_2 p106 q106
             have hw106_0 := hx106_0
             obtain rfl : ad104 = ad106 := (by injection e106)
             replace hx106_0 := pw_cell_below HB.out hx106_0
             replace p106 := eq_true p106
             replace q106 := eq_true q106
             refine start_ (n := 24) (S := fun w' => w'.cell? ⟨gb103, 0, none⟩ = some (.string ((rd_T54 l0 x21_2).f0)) ∧ w'.cell? ⟨gb103, 1, none⟩ = some (.bool ((rd_T54 l0 x21_2).f1)) ∧ w'.cell? ⟨gb103, 2, none⟩ = some (.int .i64 ((rd_T54 l0 x21_2).f2)) ∧ w'.cell? ⟨gb103, 3, none⟩ = some (.int .i64 ((rd_T54 l0 x21_2).f3)) ∧ w'.cell? ⟨gb103, 4, none⟩ = some (.int .i64 ((rd_T54 l0 x21_2).f4)) ∧ w'.cell? ⟨gb103, 5, none⟩ = some (.int .i64 ((rd_T54 l0 x21_2).f5)) ∧ w'.cell? (ad104.add (x21_2).toNat) = some (.int .i64 (rd l1 x21_2)) ∧ w'.cell? (ad104.add (x21_2).toNat) = some (.int .i64 (rd l1 x21_2))) (ds := []) #[F, F, F, F, F, F, F, F, F, F, F, F, F, F, F, F, F, F, F, F, F, F, F, F] (by kernel_rfl) rfl rfl ⟨(blk_cell BK103.out 0).trans rfl, (blk_cell BK103.out 1).trans rfl, (blk_cell BK103.out 2).trans rfl, (blk_cell BK103.out 3).trans rfl, (blk_cell BK103.out 4).trans rfl, (blk_cell BK103.out 5).trans rfl, (pw_cell_below HB.out hw104_0), (pw_cell_below HB.out hw106_0)⟩ (fun hHeld => ?_); refine with_tabW impl_StripFits.tab6 impl_StripFits.bits6 (fun HT_ HW_ => ?_)
             generalize w19.drew = w20 at BK103 HB hx104_0 hx106_0 hHeld ⊢
             refine pu (i := 0) (N := some 26) (v := ?_) (a' := ?_) HT_.out rfl rfl (by kernel_rfl) (fun _ _ _ h => h) (Or.inl ⟨by rfl, ?_⟩) ?_ ?_
             rotate_left; (intro w'; go_simp; with_reducible rfl); rotate_left; (simp only [P0, P0n, P2, P3, P4, P5, P6]; rfl)
             refine pu (i := 1) (N := some 27) (v := ?_) (a' := ?_) HT_.out rfl rfl (by kernel_rfl) (fun _ _ _ h => h) (Or.inl ⟨by rfl, ?_⟩) ?_ ?_
             rotate_left; (intro w'; go_simp; with_reducible rfl); rotate_left; (simp only [P0, P0n, P2, P3, P4, P5, P6]; rfl)
             refine pu (i := 2) (N := some 28) (v := ?_) (a' := ?_) HT_.out rfl rfl (by kernel_rfl) (fun _ _ _ h => h) (Or.inl ⟨by rfl, ?_⟩) ?_ ?_
             rotate_left; (intro w'; go_simp; with_reducible rfl); rotate_left; (simp only [P0, P0n, P2, P3, P4, P5, P6]; rfl)
             refine pu (i := 4) (N := some 30) (v := ?_) (a' := ?_) HT_.out rfl rfl (by kernel_rfl) (fun _ _ _ h => h) (Or.inl ⟨by rfl, ?_⟩) ?_ ?_
             rotate_left; (intro w'; go_simp; with_reducible rfl); rotate_left; (simp only [P0, P0n, P2, P3, P4, P5, P6]; rfl)
             refine pu (i := 6) (N := some 32) (v := ?_) (a' := ?_) HT_.out rfl rfl (by kernel_rfl) (fun _ _ _ h => h) (Or.inl ⟨by rfl, ?_⟩) ?_ ?_
             rotate_left; (intro w'; go_simp; with_reducible rfl); rotate_left; (simp only [P0, P0n, P2, P3, P4, P5, P6]; rfl)
             refine tw (i := 3) (N := some 29) (v := ?_) (a' := ?_) HT_.out HW_.out rfl rfl (by kernel_rfl) (fun _ _ _ h => h) (Or.inl ⟨by rfl, ?_⟩) hHeld ?_ ?_
             rotate_left
             ·rintro w' ⟨s0, s1, s2, s3, s4, s5, s6, s7⟩
              go_simp
              with_reducible rfl
             rotate_left
             ·simp only [P0, P0n, P2, P3, P4, P5, P6]
              rfl
             refine tw (i := 5) (N := some 31) (v := ?_) (a' := ?_) HT_.out HW_.out rfl rfl (by kernel_rfl) (fun _ _ _ h => h) (Or.inl ⟨by rfl, ?_⟩) hHeld ?_ ?_
             rotate_left
             ·rintro w' ⟨s0, s1, s2, s3, s4, s5, s6, s7⟩
              go_simp
              with_reducible rfl
             rotate_left
             ·simp only [P0, P0n, P2, P3, P4, P5, P6]
              rfl
             refine tw (i := 7) (N := some 33) (v := ?_) (a' := ?_) HT_.out HW_.out rfl rfl (by kernel_rfl) (fun _ _ _ h => h) (Or.inl ⟨by rfl, ?_⟩) hHeld ?_ ?_
             rotate_left
             ·rintro w' ⟨s0, s1, s2, s3, s4, s5, s6, s7⟩
              go_simp
              with_reducible rfl
             rotate_left
             ·simp only [P0, P0n, P2, P3, P4, P5, P6]
              rfl
             refine one_ (i := 8) (N := some 34) #[T, T, T, T, T, T, T, T, T, F, F, F, F, F, F, F, F, F, F, F, F, F, F, F] rfl rfl (one_of HT_.out (by kernel_rfl)) (by decide) (fun K hK => ?_)
             refine goes_ Try.func58 (by kernel_rfl) rfl #[.int .i64 (rd l1 x21_2), .int .i64 ((rd_T54 l0 x21_2).f3), .int .i64 ((rd_T54 l0 x21_2).f4)] (by rfl) rfl rfl (by (try simp only [List.map_toArray, List.map_cons, List.map_nil]); first | done | rfl | (simp only [List.length_drop, List.length_take]; rfl)) ?_
             with_reducible refine (impl_in.calls (rd l1 x21_2) ((rd_T54 l0 x21_2).f3) ((rd_T54 l0 x21_2).f4) true _ A16.out).mono ?_
             rintro e w' ⟨rfl, ⟨nd, rfl⟩⟩
             refine ⟨_, rfl, ?_⟩
             refine hK.out _ _ ⟨(blk_cell BK103.out 0).trans rfl, (blk_cell BK103.out 1).trans rfl, (blk_cell BK103.out 2).trans rfl, (blk_cell BK103.out 3).trans rfl, (blk_cell BK103.out 4).trans rfl, (blk_cell BK103.out 5).trans rfl, (pw_cell_below HB.out hw104_0), (pw_cell_below HB.out hw106_0)⟩ (fun hHeld => ?_)
             clear hK K
             refine norm_ (a' := ?_) ?_ ?_
             rotate_left
             ·show Act.put _ (some 34) _ = _
              simp only [P0, P0n, P2, P3, P4, P5, P6]
              rfl
             refine pu (i := 9) (N := some 35) (v := ?_) (a' := ?_) HT_.out rfl rfl (by kernel_rfl) (fun _ _ _ h => h) (Or.inl ⟨by rfl, ?_⟩) ?_ ?_
             rotate_left; (intro w'; go_simp; with_reducible rfl); rotate_left; (simp only [P0, P0n, P2, P3, P4, P5, P6]; rfl)
             refine pu (i := 10) (N := some 36) (v := ?_) (a' := ?_) HT_.out rfl rfl (by kernel_rfl) (fun _ _ _ h => h) (Or.inl ⟨by rfl, ?_⟩) ?_ ?_
             rotate_left; (intro w'; go_simp; with_reducible rfl); rotate_left; (simp only [P0, P0n, P2, P3, P4, P5, P6]; rfl)
             refine pu (i := 11) (N := some 37) (v := ?_) (a' := ?_) HT_.out rfl rfl (by kernel_rfl) (fun _ _ _ h => h) (Or.inl ⟨by rfl, ?_⟩) ?_ ?_
             rotate_left; (intro w'; go_simp; with_reducible rfl); rotate_left; (simp only [P0, P0n, P2, P3, P4, P5, P6]; rfl)
             refine tw (i := 12) (N := some 38) (v := ?_) (a' := ?_) HT_.out HW_.out rfl rfl (by kernel_rfl) (fun _ _ _ h => h) (Or.inl ⟨by rfl, ?_⟩) hHeld ?_ ?_
             rotate_left
             ·rintro w' ⟨s0, s1, s2, s3, s4, s5, s6, s7⟩
              go_simp
              with_reducible rfl
             rotate_left
             ·simp only [P0, P0n, P2, P3, P4, P5, P6]
              rfl
             refine pu (i := 13) (N := some 39) (v := ?_) (a' := ?_) HT_.out rfl rfl (by kernel_rfl) (fun _ _ _ h => h) (Or.inl ⟨by rfl, ?_⟩) ?_ ?_
             rotate_left; (intro w'; go_simp; with_reducible rfl); rotate_left; (simp only [P0, P0n, P2, P3, P4, P5, P6]; rfl)
             refine pu (i := 14) (N := some 40) (v := ?_) (a' := ?_) HT_.out rfl rfl (by kernel_rfl) (fun _ _ _ h => h) (Or.inl ⟨by rfl, ?_⟩) ?_ ?_
             rotate_left; (intro w'; go_simp; with_reducible rfl); rotate_left; (simp only [P0, P0n, P2, P3, P4, P5, P6]; rfl)
             refine pu (i := 15) (N := some 41) (v := ?_) (a' := ?_) HT_.out rfl rfl (by kernel_rfl) (fun _ _ _ h => h) (Or.inl ⟨by rfl, ?_⟩) ?_ ?_
             rotate_left; (intro w'; go_simp; with_reducible rfl); rotate_left; (simp only [P0, P0n, P2, P3, P4, P5, P6]; rfl)
             refine pu (i := 16) (N := some 42) (v := ?_) (a' := ?_) HT_.out rfl rfl (by kernel_rfl) (fun _ _ _ h => h) (Or.inl ⟨by rfl, ?_⟩) ?_ ?_
             rotate_left; (intro w'; go_simp; with_reducible rfl); rotate_left; (simp only [P0, P0n, P2, P3, P4, P5, P6]; rfl)
             refine pu (i := 17) (N := some 43) (v := ?_) (a' := ?_) HT_.out rfl rfl (by kernel_rfl) (fun _ _ _ h => h) (Or.inl ⟨by rfl, ?_⟩) ?_ ?_
             rotate_left; (intro w'; go_simp; with_reducible rfl); rotate_left; (simp only [P0, P0n, P2, P3, P4, P5, P6]; rfl)
             refine pu (i := 19) (N := some 45) (v := ?_) (a' := ?_) HT_.out rfl rfl (by kernel_rfl) (fun _ _ _ h => h) (Or.inl ⟨by rfl, ?_⟩) ?_ ?_
             rotate_left; (intro w'; go_simp; with_reducible rfl); rotate_left; (simp only [P0, P0n, P2, P3, P4, P5, P6]; rfl)
             refine tw (i := 18) (N := some 44) (v := ?_) (a' := ?_) HT_.out HW_.out rfl rfl (by kernel_rfl) (fun _ _ _ h => h) (Or.inl ⟨by rfl, ?_⟩) hHeld ?_ ?_
             rotate_left
             ·rintro w' ⟨s0, s1, s2, s3, s4, s5, s6, s7⟩
              go_simp
              with_reducible rfl
             rotate_left
             ·simp only [P0, P0n, P2, P3, P4, P5, P6]
              rfl
             refine tw (i := 20) (N := some 46) (v := ?_) (a' := ?_) HT_.out HW_.out rfl rfl (by kernel_rfl) (fun _ _ _ h => h) (Or.inl ⟨by rfl, ?_⟩) hHeld ?_ ?_
             rotate_left
             ·rintro w' ⟨s0, s1, s2, s3, s4, s5, s6, s7⟩
              go_simp
              with_reducible rfl
             rotate_left
             ·simp only [P0, P0n, P2, P3, P4, P5, P6]
              rfl
             refine pu (i := 21) (N := some 47) (v := ?_) (a' := ?_) HT_.out rfl rfl (by kernel_rfl) (fun _ _ _ h => h) (Or.inl ⟨by rfl, ?_⟩) ?_ ?_
             rotate_left; (intro w'; go_simp; with_reducible rfl); rotate_left; (simp only [P0, P0n, P2, P3, P4, P5, P6]; rfl)
             refine pu (i := 22) (N := some 48) (v := ?_) (a' := ?_) HT_.out rfl rfl (by kernel_rfl) (fun _ _ _ h => h) (Or.inl ⟨by rfl, ?_⟩) ?_ ?_
             rotate_left; (intro w'; go_simp; with_reducible rfl); rotate_left; (simp only [P0, P0n, P2, P3, P4, P5, P6]; rfl)
             refine pu (i := 23) (N := some 49) (v := ?_) (a' := ?_) HT_.out rfl rfl (by kernel_rfl) (fun _ _ _ h => h) (Or.inl ⟨by rfl, ?_⟩) ?_ ?_
             rotate_left; (intro w'; go_simp; with_reducible rfl); rotate_left; (simp only [P0, P0n, P2, P3, P4, P5, P6]; rfl)
             refine done_ (done_of HT_.out (by kernel_rfl)) ?_
             try go_wp2
             go_meet
             case rel => exact ⟨_, (((rd l1 x21_2) != ((rd_T54 l0 x21_2).f5))), (by first | rfl | (simp; done) | (simp [*]; done)), H', ⟨by have := HJ2.out; have := HK2.out; first | omega | exact Nat.le_refl _⟩, ⟨ex BK103.out⟩, ⟨by repeat (first | (with_reducible first | exact HB.out | apply below_alloc | apply pw_below_drewN | apply below_drew1 | refine below_set ?_ GE103.out) | exact HB.out)⟩⟩
            ·rw [if_neg c18] at H
             have c18b0 : decide (0 ≤ ((rd_T54 l0 x21_2).f5)) = false := decide_eq_false c18
             clear c18
             have H' := Aside0.mk H
             clear H
             try go_wp2
             have n0_ : Aside0 (((((((w13.setCell ⟨gb103, 0, none⟩ (.string ((rd_T54 l0 x21_2).f0))).setCell ⟨gb103, 1, none⟩ (.bool ((rd_T54 l0 x21_2).f1))).setCell ⟨gb103, 2, none⟩ (.int .i64 ((rd_T54 l0 x21_2).f2))).setCell ⟨gb103, 3, none⟩ (.int .i64 ((rd_T54 l0 x21_2).f3))).setCell ⟨gb103, 4, none⟩ (.int .i64 ((rd_T54 l0 x21_2).f4))).setCell ⟨gb103, 5, none⟩ (.int .i64 ((rd_T54 l0 x21_2).f5))).heap[gb103]? = some (.cells #[.string ((rd_T54 l0 x21_2).f0), .bool ((rd_T54 l0 x21_2).f1), .int .i64 ((rd_T54 l0 x21_2).f2), .int .i64 ((rd_T54 l0 x21_2).f3), .int .i64 ((rd_T54 l0 x21_2).f4), .int .i64 ((rd_T54 l0 x21_2).f5)] 54 (0, 0))) := ⟨by refine px ?_; refine blk_put (cs := #[.string ((rd_T54 l0 x21_2).f0), .bool ((rd_T54 l0 x21_2).f1), .int .i64 ((rd_T54 l0 x21_2).f2), .int .i64 ((rd_T54 l0 x21_2).f3), .int .i64 ((rd_T54 l0 x21_2).f4), .int .i64 0]) ?_ 5 _ rfl; refine px ?_; refine blk_put (cs := #[.string ((rd_T54 l0 x21_2).f0), .bool ((rd_T54 l0 x21_2).f1), .int .i64 ((rd_T54 l0 x21_2).f2), .int .i64 ((rd_T54 l0 x21_2).f3), .int .i64 0, .int .i64 0]) ?_ 4 _ rfl; refine px ?_; refine blk_put (cs := #[.string ((rd_T54 l0 x21_2).f0), .bool ((rd_T54 l0 x21_2).f1), .int .i64 ((rd_T54 l0 x21_2).f2), .int .i64 0, .int .i64 0, .int .i64 0]) ?_ 3 _ rfl; refine px ?_; refine blk_put (cs := #[.string ((rd_T54 l0 x21_2).f0), .bool ((rd_T54 l0 x21_2).f1), .int .i64 0, .int .i64 0, .int .i64 0, .int .i64 0]) ?_ 2 _ rfl; refine px ?_; refine blk_put (cs := #[.string ((rd_T54 l0 x21_2).f0), .bool false, .int .i64 0, .int .i64 0, .int .i64 0, .int .i64 0]) ?_ 1 _ rfl; refine px ?_; refine blk_put (cs := #[.string (⟨#[]⟩ : ByteArray), .bool false, .int .i64 0, .int .i64 0, .int .i64 0, .int .i64 0]) ?_ 0 _ rfl; refine px ?_; exact BK103.out⟩
             have n1_ : Aside0 (Below w.heap.size w ((((((w13.setCell ⟨gb103, 0, none⟩ (.string ((rd_T54 l0 x21_2).f0))).setCell ⟨gb103, 1, none⟩ (.bool ((rd_T54 l0 x21_2).f1))).setCell ⟨gb103, 2, none⟩ (.int .i64 ((rd_T54 l0 x21_2).f2))).setCell ⟨gb103, 3, none⟩ (.int .i64 ((rd_T54 l0 x21_2).f3))).setCell ⟨gb103, 4, none⟩ (.int .i64 ((rd_T54 l0 x21_2).f4))).setCell ⟨gb103, 5, none⟩ (.int .i64 ((rd_T54 l0 x21_2).f5)))) := ⟨by repeat (first | (with_reducible first | exact HB.out | apply below_alloc | apply pw_below_drewN | apply below_drew1 | refine below_set ?_ GE103.out) | exact HB.out)⟩
             (try clear BK103)
             (try clear HB)
             generalize ((((((w13.setCell ⟨gb103, 0, none⟩ (.string ((rd_T54 l0 x21_2).f0))).setCell ⟨gb103, 1, none⟩ (.bool ((rd_T54 l0 x21_2).f1))).setCell ⟨gb103, 2, none⟩ (.int .i64 ((rd_T54 l0 x21_2).f2))).setCell ⟨gb103, 3, none⟩ (.int .i64 ((rd_T54 l0 x21_2).f3))).setCell ⟨gb103, 4, none⟩ (.int .i64 ((rd_T54 l0 x21_2).f4))).setCell ⟨gb103, 5, none⟩ (.int .i64 ((rd_T54 l0 x21_2).f5))) = w21 at n0_ n1_ ⊢
             have BK103 := n0_
             have HB := n1_
             clear n0_ n1_
             have n0_ := Aside0.mk (blk_drew BK103.out)
             have n1_ := Aside0.mk (below_drew1 HB.out)
             clear BK103
             clear HB
             have BK103 := n0_
             have HB := n1_
             clear n0_ n1_
             have p104 : 0 ≤ (x21_2 : Int) := of_decide_eq_true (by first | (with_reducible assumption) | assumption)
             have q104 : x21_2 < (l1.length : Int) := of_decide_eq_true (by first | (with_reducible assumption) | assumption)
             obtain ⟨ad104, e104, hx104_0⟩ := Kd.at_int HR1.out x21_2 p104 q104
             have hw104_0 := hx104_0
             cases e104
             replace hx104_0 := pw_cell_below HB.out hx104_0
             replace p104 := eq_true p104
             replace q104 := eq_true q104
             refine start_ (n := 24) (S := fun w' => w'.cell? ⟨gb103, 0, none⟩ = some (.string ((rd_T54 l0 x21_2).f0)) ∧ w'.cell? ⟨gb103, 1, none⟩ = some (.bool ((rd_T54 l0 x21_2).f1)) ∧ w'.cell? ⟨gb103, 2, none⟩ = some (.int .i64 ((rd_T54 l0 x21_2).f2)) ∧ w'.cell? ⟨gb103, 3, none⟩ = some (.int .i64 ((rd_T54 l0 x21_2).f3)) ∧ w'.cell? ⟨gb103, 4, none⟩ = some (.int .i64 ((rd_T54 l0 x21_2).f4)) ∧ w'.cell? ⟨gb103, 5, none⟩ = some (.int .i64 ((rd_T54 l0 x21_2).f5)) ∧ w'.cell? (ad104.add (x21_2).toNat) = some (.int .i64 (rd l1 x21_2))) (ds := []) #[F, F, F, F, F, F, F, F, F, F, F, F, F, F, F, F, F, F, F, F, F, F, F, F] (by kernel_rfl) rfl rfl ⟨(blk_cell BK103.out 0).trans rfl, (blk_cell BK103.out 1).trans rfl, (blk_cell BK103.out 2).trans rfl, (blk_cell BK103.out 3).trans rfl, (blk_cell BK103.out 4).trans rfl, (blk_cell BK103.out 5).trans rfl, (pw_cell_below HB.out hw104_0)⟩ (fun hHeld => ?_); refine with_tabW impl_StripFits.tab6 impl_StripFits.bits6 (fun HT_ HW_ => ?_)
             generalize w21.drew = w22 at BK103 HB hx104_0 hHeld ⊢
             refine pu (i := 0) (N := some 26) (v := ?_) (a' := ?_) HT_.out rfl rfl (by kernel_rfl) (fun _ _ _ h => h) (Or.inl ⟨by rfl, ?_⟩) ?_ ?_
             rotate_left; (intro w'; go_simp; with_reducible rfl); rotate_left; (simp only [P0, P0n, P2, P3, P4, P5, P6]; rfl)
             refine pu (i := 1) (N := some 27) (v := ?_) (a' := ?_) HT_.out rfl rfl (by kernel_rfl) (fun _ _ _ h => h) (Or.inl ⟨by rfl, ?_⟩) ?_ ?_
             rotate_left; (intro w'; go_simp; with_reducible rfl); rotate_left; (simp only [P0, P0n, P2, P3, P4, P5, P6]; rfl)
             refine pu (i := 2) (N := some 28) (v := ?_) (a' := ?_) HT_.out rfl rfl (by kernel_rfl) (fun _ _ _ h => h) (Or.inl ⟨by rfl, ?_⟩) ?_ ?_
             rotate_left; (intro w'; go_simp; with_reducible rfl); rotate_left; (simp only [P0, P0n, P2, P3, P4, P5, P6]; rfl)
             refine pu (i := 4) (N := some 30) (v := ?_) (a' := ?_) HT_.out rfl rfl (by kernel_rfl) (fun _ _ _ h => h) (Or.inl ⟨by rfl, ?_⟩) ?_ ?_
             rotate_left; (intro w'; go_simp; with_reducible rfl); rotate_left; (simp only [P0, P0n, P2, P3, P4, P5, P6]; rfl)
             refine pu (i := 6) (N := some 32) (v := ?_) (a' := ?_) HT_.out rfl rfl (by kernel_rfl) (fun _ _ _ h => h) (Or.inl ⟨by rfl, ?_⟩) ?_ ?_
             rotate_left; (intro w'; go_simp; with_reducible rfl); rotate_left; (simp only [P0, P0n, P2, P3, P4, P5, P6]; rfl)
             refine tw (i := 3) (N := some 29) (v := ?_) (a' := ?_) HT_.out HW_.out rfl rfl (by kernel_rfl) (fun _ _ _ h => h) (Or.inl ⟨by rfl, ?_⟩) hHeld ?_ ?_
             rotate_left
             ·rintro w' ⟨s0, s1, s2, s3, s4, s5, s6⟩
              go_simp
              with_reducible rfl
             rotate_left
             ·simp only [P0, P0n, P2, P3, P4, P5, P6]
              rfl
             refine tw (i := 5) (N := some 31) (v := ?_) (a' := ?_) HT_.out HW_.out rfl rfl (by kernel_rfl) (fun _ _ _ h => h) (Or.inl ⟨by rfl, ?_⟩) hHeld ?_ ?_
             rotate_left
             ·rintro w' ⟨s0, s1, s2, s3, s4, s5, s6⟩
              go_simp
              with_reducible rfl
             rotate_left
             ·simp only [P0, P0n, P2, P3, P4, P5, P6]
              rfl
             refine tw (i := 7) (N := some 33) (v := ?_) (a' := ?_) HT_.out HW_.out rfl rfl (by kernel_rfl) (fun _ _ _ h => h) (Or.inl ⟨by rfl, ?_⟩) hHeld ?_ ?_
             rotate_left
             ·rintro w' ⟨s0, s1, s2, s3, s4, s5, s6⟩
              go_simp
              with_reducible rfl
             rotate_left
             ·simp only [P0, P0n, P2, P3, P4, P5, P6]
              rfl
             refine one_ (i := 8) (N := some 34) #[T, T, T, T, T, T, T, T, T, F, F, F, F, F, F, F, F, F, F, F, F, F, F, F] rfl rfl (one_of HT_.out (by kernel_rfl)) (by decide) (fun K hK => ?_)
             refine goes_ Try.func58 (by kernel_rfl) rfl #[.int .i64 (rd l1 x21_2), .int .i64 ((rd_T54 l0 x21_2).f3), .int .i64 ((rd_T54 l0 x21_2).f4)] (by rfl) rfl rfl (by (try simp only [List.map_toArray, List.map_cons, List.map_nil]); first | done | rfl | (simp only [List.length_drop, List.length_take]; rfl)) ?_
             with_reducible refine (impl_in.calls (rd l1 x21_2) ((rd_T54 l0 x21_2).f3) ((rd_T54 l0 x21_2).f4) true _ A16.out).mono ?_
             rintro e w' ⟨rfl, ⟨nd, rfl⟩⟩
             refine ⟨_, rfl, ?_⟩
             refine hK.out _ _ ⟨(blk_cell BK103.out 0).trans rfl, (blk_cell BK103.out 1).trans rfl, (blk_cell BK103.out 2).trans rfl, (blk_cell BK103.out 3).trans rfl, (blk_cell BK103.out 4).trans rfl, (blk_cell BK103.out 5).trans rfl, (pw_cell_below HB.out hw104_0)⟩ (fun hHeld => ?_)
             clear hK K
             refine norm_ (a' := ?_) ?_ ?_
             rotate_left
             ·show Act.put _ (some 34) _ = _
              simp only [P0, P0n, P2, P3, P4, P5, P6]
              rfl
             refine pu (i := 9) (N := some 35) (v := ?_) (a' := ?_) HT_.out rfl rfl (by kernel_rfl) (fun _ _ _ h => h) (Or.inl ⟨by rfl, ?_⟩) ?_ ?_
             rotate_left; (intro w'; go_simp; with_reducible rfl); rotate_left; (simp only [P0, P0n, P2, P3, P4, P5, P6]; rfl)
             refine pu (i := 10) (N := some 36) (v := ?_) (a' := ?_) HT_.out rfl rfl (by kernel_rfl) (fun _ _ _ h => h) (Or.inl ⟨by rfl, ?_⟩) ?_ ?_
             rotate_left; (intro w'; go_simp; with_reducible rfl); rotate_left; (simp only [P0, P0n, P2, P3, P4, P5, P6]; rfl)
             refine pu (i := 11) (N := some 37) (v := ?_) (a' := ?_) HT_.out rfl rfl (by kernel_rfl) (fun _ _ _ h => h) (Or.inl ⟨by rfl, ?_⟩) ?_ ?_
             rotate_left; (intro w'; go_simp; with_reducible rfl); rotate_left; (simp only [P0, P0n, P2, P3, P4, P5, P6]; rfl)
             refine tw (i := 12) (N := some 38) (v := ?_) (a' := ?_) HT_.out HW_.out rfl rfl (by kernel_rfl) (fun _ _ _ h => h) (Or.inl ⟨by rfl, ?_⟩) hHeld ?_ ?_
             rotate_left
             ·rintro w' ⟨s0, s1, s2, s3, s4, s5, s6⟩
              go_simp
              with_reducible rfl
             rotate_left
             ·simp only [P0, P0n, P2, P3, P4, P5, P6]
              rfl
             refine pu (i := 13) (N := some 39) (v := ?_) (a' := ?_) HT_.out rfl rfl (by kernel_rfl) (fun _ _ _ h => h) (Or.inl ⟨by rfl, ?_⟩) ?_ ?_
             rotate_left; (intro w'; go_simp; with_reducible rfl); rotate_left; (simp only [P0, P0n, P2, P3, P4, P5, P6]; rfl)
             refine pu (i := 14) (N := some 40) (v := ?_) (a' := ?_) HT_.out rfl rfl (by kernel_rfl) (fun _ _ _ h => h) (Or.inl ⟨by rfl, ?_⟩) ?_ ?_
             rotate_left; (intro w'; go_simp; with_reducible rfl); rotate_left; (simp only [P0, P0n, P2, P3, P4, P5, P6]; rfl)
             refine pure_ (i := 15) (N := some 41) (v := undef) (a' := ?_) #[T, T, T, T, T, T, T, T, T, T, T, T, T, T, T, T, F, F, F, F, F, F, F, F] rfl rfl (any_of HT_.out (by kernel_rfl)) (fun _ _ _ h => h) (Or.inr ⟨by rfl, rfl⟩) ?_ ?_
             rotate_left
             ·simp only [P0, P0n, P2, P3, P4, P5, P6]
              rfl
             refine pure_ (i := 16) (N := some 42) (v := undef) (a' := ?_) #[T, T, T, T, T, T, T, T, T, T, T, T, T, T, T, T, T, F, F, F, F, F, F, F] rfl rfl (any_of HT_.out (by kernel_rfl)) (fun _ _ _ h => h) (Or.inr ⟨by rfl, rfl⟩) ?_ ?_
             rotate_left
             ·simp only [P0, P0n, P2, P3, P4, P5, P6]
              rfl
             refine pure_ (i := 17) (N := some 43) (v := undef) (a' := ?_) #[T, T, T, T, T, T, T, T, T, T, T, T, T, T, T, T, T, T, F, F, F, F, F, F] rfl rfl (any_of HT_.out (by kernel_rfl)) (fun _ _ _ h => h) (Or.inr ⟨by rfl, rfl⟩) ?_ ?_
             rotate_left
             ·simp only [P0, P0n, P2, P3, P4, P5, P6]
              rfl
             refine pure_ (i := 18) (N := some 44) (v := undef) (a' := ?_) #[T, T, T, T, T, T, T, T, T, T, T, T, T, T, T, T, T, T, T, F, F, F, F, F] rfl rfl (any_of HT_.out (by kernel_rfl)) (fun _ _ _ h => h) (Or.inr ⟨by rfl, rfl⟩) ?_ ?_
             rotate_left
             ·simp only [P0, P0n, P2, P3, P4, P5, P6]
              rfl
             refine pure_ (i := 19) (N := some 45) (v := undef) (a' := ?_) #[T, T, T, T, T, T, T, T, T, T, T, T, T, T, T, T, T, T, T, T, F, F, F, F] rfl rfl (any_of HT_.out (by kernel_rfl)) (fun _ _ _ h => h) (Or.inr ⟨by rfl, rfl⟩) ?_ ?_
             rotate_left
             ·simp only [P0, P0n, P2, P3, P4, P5, P6]
              rfl
             refine pure_ (i := 20) (N := some 46) (v := undef) (a' := ?_) #[T, T, T, T, T, T, T, T, T, T, T, T, T, T, T, T, T, T, T, T, T, F, F, F] rfl rfl (any_of HT_.out (by kernel_rfl)) (fun _ _ _ h => h) (Or.inr ⟨by rfl, rfl⟩) ?_ ?_
             rotate_left
             ·simp only [P0, P0n, P2, P3, P4, P5, P6]
              rfl
             refine pure_ (i := 21) (N := some 47) (v := undef) (a' := ?_) #[T, T, T, T, T, T, T, T, T, T, T, T, T, T, T, T, T, T, T, T, T, T, F, F] rfl rfl (any_of HT_.out (by kernel_rfl)) (fun _ _ _ h => h) (Or.inr ⟨by rfl, rfl⟩) ?_ ?_
             rotate_left
             ·simp only [P0, P0n, P2, P3, P4, P5, P6]
              rfl
             refine pu (i := 22) (N := some 48) (v := ?_) (a' := ?_) HT_.out rfl rfl (by kernel_rfl) (fun _ _ _ h => h) (Or.inl ⟨by rfl, ?_⟩) ?_ ?_
             rotate_left; (intro w'; go_simp; with_reducible rfl); rotate_left; (simp only [P0, P0n, P2, P3, P4, P5, P6]; rfl)
             refine pu (i := 23) (N := some 49) (v := ?_) (a' := ?_) HT_.out rfl rfl (by kernel_rfl) (fun _ _ _ h => h) (Or.inl ⟨by rfl, ?_⟩) ?_ ?_
             rotate_left; (intro w'; go_simp; with_reducible rfl); rotate_left; (simp only [P0, P0n, P2, P3, P4, P5, P6]; rfl)
             refine done_ (done_of HT_.out (by kernel_rfl)) ?_
             try go_wp2
             go_meet
             case rel => exact ⟨_, (false), (by first | rfl | (simp; done) | (simp [*]; done)), H', ⟨by have := HJ2.out; have := HK2.out; first | omega | exact Nat.le_refl _⟩, ⟨ex BK103.out⟩, ⟨by repeat (first | (with_reducible first | exact HB.out | apply below_alloc | apply pw_below_drewN | apply below_drew1 | refine below_set ?_ GE103.out) | exact HB.out)⟩⟩
           ·replace c17 := Bool.eq_false_iff.mpr c17
            subst c17
            have H1 : (impl_StripFits.j2 k2 l0 l1 x21_2 l0 (l0.length : Int) x21_2 true ((rd_T54 l0 x21_2).f0) ((rd_T54 l0 x21_2).f1) ((rd_T54 l0 x21_2).f2) ((rd_T54 l0 x21_2).f3) ((rd_T54 l0 x21_2).f4) ((rd_T54 l0 x21_2).f5)) = some r := by rw [if_neg (show ¬ (false = true) by decide)] at H; exact H
            clear H
            have H := H1
            clear H1
            have H' := Aside0.mk H
            clear H
            try go_wp2
            have n0_ : Aside0 (((((((w13.setCell ⟨gb103, 0, none⟩ (.string ((rd_T54 l0 x21_2).f0))).setCell ⟨gb103, 1, none⟩ (.bool ((rd_T54 l0 x21_2).f1))).setCell ⟨gb103, 2, none⟩ (.int .i64 ((rd_T54 l0 x21_2).f2))).setCell ⟨gb103, 3, none⟩ (.int .i64 ((rd_T54 l0 x21_2).f3))).setCell ⟨gb103, 4, none⟩ (.int .i64 ((rd_T54 l0 x21_2).f4))).setCell ⟨gb103, 5, none⟩ (.int .i64 ((rd_T54 l0 x21_2).f5))).heap[gb103]? = some (.cells #[.string ((rd_T54 l0 x21_2).f0), .bool ((rd_T54 l0 x21_2).f1), .int .i64 ((rd_T54 l0 x21_2).f2), .int .i64 ((rd_T54 l0 x21_2).f3), .int .i64 ((rd_T54 l0 x21_2).f4), .int .i64 ((rd_T54 l0 x21_2).f5)] 54 (0, 0))) := ⟨by refine px ?_; refine blk_put (cs := #[.string ((rd_T54 l0 x21_2).f0), .bool ((rd_T54 l0 x21_2).f1), .int .i64 ((rd_T54 l0 x21_2).f2), .int .i64 ((rd_T54 l0 x21_2).f3), .int .i64 ((rd_T54 l0 x21_2).f4), .int .i64 0]) ?_ 5 _ rfl; refine px ?_; refine blk_put (cs := #[.string ((rd_T54 l0 x21_2).f0), .bool ((rd_T54 l0 x21_2).f1), .int .i64 ((rd_T54 l0 x21_2).f2), .int .i64 ((rd_T54 l0 x21_2).f3), .int .i64 0, .int .i64 0]) ?_ 4 _ rfl; refine px ?_; refine blk_put (cs := #[.string ((rd_T54 l0 x21_2).f0), .bool ((rd_T54 l0 x21_2).f1), .int .i64 ((rd_T54 l0 x21_2).f2), .int .i64 0, .int .i64 0, .int .i64 0]) ?_ 3 _ rfl; refine px ?_; refine blk_put (cs := #[.string ((rd_T54 l0 x21_2).f0), .bool ((rd_T54 l0 x21_2).f1), .int .i64 0, .int .i64 0, .int .i64 0, .int .i64 0]) ?_ 2 _ rfl; refine px ?_; refine blk_put (cs := #[.string ((rd_T54 l0 x21_2).f0), .bool false, .int .i64 0, .int .i64 0, .int .i64 0, .int .i64 0]) ?_ 1 _ rfl; refine px ?_; refine blk_put (cs := #[.string (⟨#[]⟩ : ByteArray), .bool false, .int .i64 0, .int .i64 0, .int .i64 0, .int .i64 0]) ?_ 0 _ rfl; refine px ?_; exact BK103.out⟩
            have n1_ : Aside0 (Below w.heap.size w ((((((w13.setCell ⟨gb103, 0, none⟩ (.string ((rd_T54 l0 x21_2).f0))).setCell ⟨gb103, 1, none⟩ (.bool ((rd_T54 l0 x21_2).f1))).setCell ⟨gb103, 2, none⟩ (.int .i64 ((rd_T54 l0 x21_2).f2))).setCell ⟨gb103, 3, none⟩ (.int .i64 ((rd_T54 l0 x21_2).f3))).setCell ⟨gb103, 4, none⟩ (.int .i64 ((rd_T54 l0 x21_2).f4))).setCell ⟨gb103, 5, none⟩ (.int .i64 ((rd_T54 l0 x21_2).f5)))) := ⟨by repeat (first | (with_reducible first | exact HB.out | apply below_alloc | apply pw_below_drewN | apply below_drew1 | refine below_set ?_ GE103.out) | exact HB.out)⟩
            (try clear BK103)
            (try clear HB)
            generalize ((((((w13.setCell ⟨gb103, 0, none⟩ (.string ((rd_T54 l0 x21_2).f0))).setCell ⟨gb103, 1, none⟩ (.bool ((rd_T54 l0 x21_2).f1))).setCell ⟨gb103, 2, none⟩ (.int .i64 ((rd_T54 l0 x21_2).f2))).setCell ⟨gb103, 3, none⟩ (.int .i64 ((rd_T54 l0 x21_2).f3))).setCell ⟨gb103, 4, none⟩ (.int .i64 ((rd_T54 l0 x21_2).f4))).setCell ⟨gb103, 5, none⟩ (.int .i64 ((rd_T54 l0 x21_2).f5))) = w23 at n0_ n1_ ⊢
            have BK103 := n0_
            have HB := n1_
            clear n0_ n1_
            have n0_ := Aside0.mk (blk_drew BK103.out)
            have n1_ := Aside0.mk (below_drew1 HB.out)
            clear BK103
            clear HB
            have BK103 := n0_
            have HB := n1_
            clear n0_ n1_
            have p104 : 0 ≤ (x21_2 : Int) := of_decide_eq_true (by first | (with_reducible assumption) | assumption)
            have q104 : x21_2 < (l1.length : Int) := of_decide_eq_true (by first | (with_reducible assumption) | assumption)
            obtain ⟨ad104, e104, hx104_0⟩ := Kd.at_int HR1.out x21_2 p104 q104
            have hw104_0 := hx104_0
            cases e104
            replace hx104_0 := pw_cell_below HB.out hx104_0
            replace p104 := eq_true p104
            replace q104 := eq_true q104
            refine start_ (n := 24) (S := fun w' => w'.cell? ⟨gb103, 0, none⟩ = some (.string ((rd_T54 l0 x21_2).f0)) ∧ w'.cell? ⟨gb103, 1, none⟩ = some (.bool ((rd_T54 l0 x21_2).f1)) ∧ w'.cell? ⟨gb103, 2, none⟩ = some (.int .i64 ((rd_T54 l0 x21_2).f2)) ∧ w'.cell? ⟨gb103, 3, none⟩ = some (.int .i64 ((rd_T54 l0 x21_2).f3)) ∧ w'.cell? ⟨gb103, 4, none⟩ = some (.int .i64 ((rd_T54 l0 x21_2).f4)) ∧ w'.cell? ⟨gb103, 5, none⟩ = some (.int .i64 ((rd_T54 l0 x21_2).f5)) ∧ w'.cell? (ad104.add (x21_2).toNat) = some (.int .i64 (rd l1 x21_2))) (ds := []) #[F, F, F, F, F, F, F, F, F, F, F, F, F, F, F, F, F, F, F, F, F, F, F, F] (by kernel_rfl) rfl rfl ⟨(blk_cell BK103.out 0).trans rfl, (blk_cell BK103.out 1).trans rfl, (blk_cell BK103.out 2).trans rfl, (blk_cell BK103.out 3).trans rfl, (blk_cell BK103.out 4).trans rfl, (blk_cell BK103.out 5).trans rfl, (pw_cell_below HB.out hw104_0)⟩ (fun hHeld => ?_); refine with_tabW impl_StripFits.tab6 impl_StripFits.bits6 (fun HT_ HW_ => ?_)
            generalize w23.drew = w24 at BK103 HB hx104_0 hHeld ⊢
            refine pu (i := 0) (N := some 26) (v := ?_) (a' := ?_) HT_.out rfl rfl (by kernel_rfl) (fun _ _ _ h => h) (Or.inl ⟨by rfl, ?_⟩) ?_ ?_
            rotate_left; (intro w'; go_simp; with_reducible rfl); rotate_left; (simp only [P0, P0n, P2, P3, P4, P5, P6]; rfl)
            refine pu (i := 1) (N := some 27) (v := ?_) (a' := ?_) HT_.out rfl rfl (by kernel_rfl) (fun _ _ _ h => h) (Or.inl ⟨by rfl, ?_⟩) ?_ ?_
            rotate_left; (intro w'; go_simp; with_reducible rfl); rotate_left; (simp only [P0, P0n, P2, P3, P4, P5, P6]; rfl)
            refine pu (i := 2) (N := some 28) (v := ?_) (a' := ?_) HT_.out rfl rfl (by kernel_rfl) (fun _ _ _ h => h) (Or.inl ⟨by rfl, ?_⟩) ?_ ?_
            rotate_left; (intro w'; go_simp; with_reducible rfl); rotate_left; (simp only [P0, P0n, P2, P3, P4, P5, P6]; rfl)
            refine pu (i := 4) (N := some 30) (v := ?_) (a' := ?_) HT_.out rfl rfl (by kernel_rfl) (fun _ _ _ h => h) (Or.inl ⟨by rfl, ?_⟩) ?_ ?_
            rotate_left; (intro w'; go_simp; with_reducible rfl); rotate_left; (simp only [P0, P0n, P2, P3, P4, P5, P6]; rfl)
            refine pu (i := 6) (N := some 32) (v := ?_) (a' := ?_) HT_.out rfl rfl (by kernel_rfl) (fun _ _ _ h => h) (Or.inl ⟨by rfl, ?_⟩) ?_ ?_
            rotate_left; (intro w'; go_simp; with_reducible rfl); rotate_left; (simp only [P0, P0n, P2, P3, P4, P5, P6]; rfl)
            refine tw (i := 3) (N := some 29) (v := ?_) (a' := ?_) HT_.out HW_.out rfl rfl (by kernel_rfl) (fun _ _ _ h => h) (Or.inl ⟨by rfl, ?_⟩) hHeld ?_ ?_
            rotate_left
            ·rintro w' ⟨s0, s1, s2, s3, s4, s5, s6⟩
             go_simp
             with_reducible rfl
            rotate_left
            ·simp only [P0, P0n, P2, P3, P4, P5, P6]
             rfl
            refine tw (i := 5) (N := some 31) (v := ?_) (a' := ?_) HT_.out HW_.out rfl rfl (by kernel_rfl) (fun _ _ _ h => h) (Or.inl ⟨by rfl, ?_⟩) hHeld ?_ ?_
            rotate_left
            ·rintro w' ⟨s0, s1, s2, s3, s4, s5, s6⟩
             go_simp
             with_reducible rfl
            rotate_left
            ·simp only [P0, P0n, P2, P3, P4, P5, P6]
             rfl
            refine tw (i := 7) (N := some 33) (v := ?_) (a' := ?_) HT_.out HW_.out rfl rfl (by kernel_rfl) (fun _ _ _ h => h) (Or.inl ⟨by rfl, ?_⟩) hHeld ?_ ?_
            rotate_left
            ·rintro w' ⟨s0, s1, s2, s3, s4, s5, s6⟩
             go_simp
             with_reducible rfl
            rotate_left
            ·simp only [P0, P0n, P2, P3, P4, P5, P6]
             rfl
            refine one_ (i := 8) (N := some 34) #[T, T, T, T, T, T, T, T, T, F, F, F, F, F, F, F, F, F, F, F, F, F, F, F] rfl rfl (one_of HT_.out (by kernel_rfl)) (by decide) (fun K hK => ?_)
            refine goes_ Try.func58 (by kernel_rfl) rfl #[.int .i64 (rd l1 x21_2), .int .i64 ((rd_T54 l0 x21_2).f3), .int .i64 ((rd_T54 l0 x21_2).f4)] (by rfl) rfl rfl (by (try simp only [List.map_toArray, List.map_cons, List.map_nil]); first | done | rfl | (simp only [List.length_drop, List.length_take]; rfl)) ?_
            with_reducible refine (impl_in.calls (rd l1 x21_2) ((rd_T54 l0 x21_2).f3) ((rd_T54 l0 x21_2).f4) false _ A16.out).mono ?_
            rintro e w' ⟨rfl, ⟨nd, rfl⟩⟩
            refine ⟨_, rfl, ?_⟩
            refine hK.out _ _ ⟨(blk_cell BK103.out 0).trans rfl, (blk_cell BK103.out 1).trans rfl, (blk_cell BK103.out 2).trans rfl, (blk_cell BK103.out 3).trans rfl, (blk_cell BK103.out 4).trans rfl, (blk_cell BK103.out 5).trans rfl, (pw_cell_below HB.out hw104_0)⟩ (fun hHeld => ?_)
            clear hK K
            refine norm_ (a' := ?_) ?_ ?_
            rotate_left
            ·show Act.put _ (some 34) _ = _
             simp only [P0, P0n, P2, P3, P4, P5, P6]
             rfl
            refine pu (i := 9) (N := some 35) (v := ?_) (a' := ?_) HT_.out rfl rfl (by kernel_rfl) (fun _ _ _ h => h) (Or.inl ⟨by rfl, ?_⟩) ?_ ?_
            rotate_left; (intro w'; go_simp; with_reducible rfl); rotate_left; (simp only [P0, P0n, P2, P3, P4, P5, P6]; rfl)
            refine pu (i := 10) (N := some 36) (v := ?_) (a' := ?_) HT_.out rfl rfl (by kernel_rfl) (fun _ _ _ h => h) (Or.inl ⟨by rfl, ?_⟩) ?_ ?_
            rotate_left; (intro w'; go_simp; with_reducible rfl); rotate_left; (simp only [P0, P0n, P2, P3, P4, P5, P6]; rfl)
            refine pure_ (i := 11) (N := some 37) (v := undef) (a' := ?_) #[T, T, T, T, T, T, T, T, T, T, T, T, F, F, F, F, F, F, F, F, F, F, F, F] rfl rfl (any_of HT_.out (by kernel_rfl)) (fun _ _ _ h => h) (Or.inr ⟨by rfl, rfl⟩) ?_ ?_
            rotate_left
            ·simp only [P0, P0n, P2, P3, P4, P5, P6]
             rfl
            refine pure_ (i := 12) (N := some 38) (v := undef) (a' := ?_) #[T, T, T, T, T, T, T, T, T, T, T, T, T, F, F, F, F, F, F, F, F, F, F, F] rfl rfl (any_of HT_.out (by kernel_rfl)) (fun _ _ _ h => h) (Or.inr ⟨by rfl, rfl⟩) ?_ ?_
            rotate_left
            ·simp only [P0, P0n, P2, P3, P4, P5, P6]
             rfl
            refine pure_ (i := 13) (N := some 39) (v := undef) (a' := ?_) #[T, T, T, T, T, T, T, T, T, T, T, T, T, T, F, F, F, F, F, F, F, F, F, F] rfl rfl (any_of HT_.out (by kernel_rfl)) (fun _ _ _ h => h) (Or.inr ⟨by rfl, rfl⟩) ?_ ?_
            rotate_left
            ·simp only [P0, P0n, P2, P3, P4, P5, P6]
             rfl
            refine pure_ (i := 14) (N := some 40) (v := undef) (a' := ?_) #[T, T, T, T, T, T, T, T, T, T, T, T, T, T, T, F, F, F, F, F, F, F, F, F] rfl rfl (any_of HT_.out (by kernel_rfl)) (fun _ _ _ h => h) (Or.inr ⟨by rfl, rfl⟩) ?_ ?_
            rotate_left
            ·simp only [P0, P0n, P2, P3, P4, P5, P6]
             rfl
            refine pure_ (i := 15) (N := some 41) (v := undef) (a' := ?_) #[T, T, T, T, T, T, T, T, T, T, T, T, T, T, T, T, F, F, F, F, F, F, F, F] rfl rfl (any_of HT_.out (by kernel_rfl)) (fun _ _ _ h => h) (Or.inr ⟨by rfl, rfl⟩) ?_ ?_
            rotate_left
            ·simp only [P0, P0n, P2, P3, P4, P5, P6]
             rfl
            refine pure_ (i := 16) (N := some 42) (v := undef) (a' := ?_) #[T, T, T, T, T, T, T, T, T, T, T, T, T, T, T, T, T, F, F, F, F, F, F, F] rfl rfl (any_of HT_.out (by kernel_rfl)) (fun _ _ _ h => h) (Or.inr ⟨by rfl, rfl⟩) ?_ ?_
            rotate_left
            ·simp only [P0, P0n, P2, P3, P4, P5, P6]
             rfl
            refine pure_ (i := 17) (N := some 43) (v := undef) (a' := ?_) #[T, T, T, T, T, T, T, T, T, T, T, T, T, T, T, T, T, T, F, F, F, F, F, F] rfl rfl (any_of HT_.out (by kernel_rfl)) (fun _ _ _ h => h) (Or.inr ⟨by rfl, rfl⟩) ?_ ?_
            rotate_left
            ·simp only [P0, P0n, P2, P3, P4, P5, P6]
             rfl
            refine pure_ (i := 18) (N := some 44) (v := undef) (a' := ?_) #[T, T, T, T, T, T, T, T, T, T, T, T, T, T, T, T, T, T, T, F, F, F, F, F] rfl rfl (any_of HT_.out (by kernel_rfl)) (fun _ _ _ h => h) (Or.inr ⟨by rfl, rfl⟩) ?_ ?_
            rotate_left
            ·simp only [P0, P0n, P2, P3, P4, P5, P6]
             rfl
            refine pure_ (i := 19) (N := some 45) (v := undef) (a' := ?_) #[T, T, T, T, T, T, T, T, T, T, T, T, T, T, T, T, T, T, T, T, F, F, F, F] rfl rfl (any_of HT_.out (by kernel_rfl)) (fun _ _ _ h => h) (Or.inr ⟨by rfl, rfl⟩) ?_ ?_
            rotate_left
            ·simp only [P0, P0n, P2, P3, P4, P5, P6]
             rfl
            refine pure_ (i := 20) (N := some 46) (v := undef) (a' := ?_) #[T, T, T, T, T, T, T, T, T, T, T, T, T, T, T, T, T, T, T, T, T, F, F, F] rfl rfl (any_of HT_.out (by kernel_rfl)) (fun _ _ _ h => h) (Or.inr ⟨by rfl, rfl⟩) ?_ ?_
            rotate_left
            ·simp only [P0, P0n, P2, P3, P4, P5, P6]
             rfl
            refine pure_ (i := 21) (N := some 47) (v := undef) (a' := ?_) #[T, T, T, T, T, T, T, T, T, T, T, T, T, T, T, T, T, T, T, T, T, T, F, F] rfl rfl (any_of HT_.out (by kernel_rfl)) (fun _ _ _ h => h) (Or.inr ⟨by rfl, rfl⟩) ?_ ?_
            rotate_left
            ·simp only [P0, P0n, P2, P3, P4, P5, P6]
             rfl
            refine pure_ (i := 22) (N := some 48) (v := undef) (a' := ?_) #[T, T, T, T, T, T, T, T, T, T, T, T, T, T, T, T, T, T, T, T, T, T, T, F] rfl rfl (any_of HT_.out (by kernel_rfl)) (fun _ _ _ h => h) (Or.inr ⟨by rfl, rfl⟩) ?_ ?_
            rotate_left
            ·simp only [P0, P0n, P2, P3, P4, P5, P6]
             rfl
            refine pu (i := 23) (N := some 49) (v := ?_) (a' := ?_) HT_.out rfl rfl (by kernel_rfl) (fun _ _ _ h => h) (Or.inl ⟨by rfl, ?_⟩) ?_ ?_
            rotate_left; (intro w'; go_simp; with_reducible rfl); rotate_left; (simp only [P0, P0n, P2, P3, P4, P5, P6]; rfl)
            refine done_ (done_of HT_.out (by kernel_rfl)) ?_
            try go_wp2
            go_meet
            case rel => exact ⟨_, (true), (by first | rfl | (simp; done) | (simp [*]; done)), H', ⟨by have := HJ2.out; have := HK2.out; first | omega | exact Nat.le_refl _⟩, ⟨ex BK103.out⟩, ⟨by repeat (first | (with_reducible first | exact HB.out | apply below_alloc | apply pw_below_drewN | apply below_drew1 | refine below_set ?_ GE103.out) | exact HB.out)⟩⟩
          ·rw [if_neg c15] at H
           exact absurd H (by simp)
         case rest =>
          clear HC12
          try clear c1
          try clear p1
          try clear q1
          try clear hx1
          try clear p2
          try clear c5
          try clear p10
          try clear q10
          try clear hx10
          try clear c15
          try clear c17
          try clear c18
          try clear c18b0
          try clear hx104_0
          try clear hx106_0
          try clear p104
          try clear p106
          try clear q104
          try clear q106
          obtain ⟨kq, x49_11, rfl, HA, HJ11, BK103, HB⟩ := hcut
          cases kq with
          | zero => exact absurd HA.out (by simp [impl_StripFits.j2])
          | succ kj11 =>
           have H := HA.out
           clear HA
           simp only [impl_StripFits.j2] at H
           by_cases c25 : x49_11 = true
           ·subst c25
            have H1 : (some false) = some r := by rw [if_pos rfl] at H; exact H
            clear H
            have H := H1
            clear H1
            obtain rfl := Option.some.inj H
            go_wp2
            go_ret
            exact ⟨by first | rfl | (simp [errW_none, errW_some] <;> rfl) | (simp [*, errW_none, errW_some] <;> rfl), by repeat (first | (with_reducible first | exact HB.out | apply below_alloc | apply pw_below_drewN | apply below_drew1 | refine below_set ?_ GE103.out) | exact HB.out)⟩
           ·replace c25 := Bool.eq_false_iff.mpr c25
            subst c25
            have H1 : (impl_StripFits.l1 kj11 l0 l1 x21_2 l0 (l0.length : Int) x21_2 l0 (l0.length : Int) 0 ((rd_T54 l0 x21_2).f0) ((rd_T54 l0 x21_2).f1) ((rd_T54 l0 x21_2).f2) ((rd_T54 l0 x21_2).f3) ((rd_T54 l0 x21_2).f4) ((rd_T54 l0 x21_2).f5)) = some r := by rw [if_neg (show ¬ (false = true) by decide)] at H; exact H
            clear H
            have H := H1
            clear H1
            have H' := Aside0.mk H
            clear H
            go_wp2
            go_loopg [52] kj11 (fun kq v52 w' => ∃ (x52_4 : Int), v52 = .int .i64 x52_4 ∧ Aside0 (impl_StripFits.l1 kq l0 l1 x21_2 l0 (l0.length : Int) x21_2 l0 (l0.length : Int) x52_4 ((rd_T54 l0 x21_2).f0) ((rd_T54 l0 x21_2).f1) ((rd_T54 l0 x21_2).f2) ((rd_T54 l0 x21_2).f3) ((rd_T54 l0 x21_2).f4) ((rd_T54 l0 x21_2).f5) = some r) ∧ Aside0 (kq ≤ kj11) ∧ Aside0 (w'.heap[gb103]? = some (.cells #[.string ((rd_T54 l0 x21_2).f0), .bool ((rd_T54 l0 x21_2).f1), .int .i64 ((rd_T54 l0 x21_2).f2), .int .i64 ((rd_T54 l0 x21_2).f3), .int .i64 ((rd_T54 l0 x21_2).f4), .int .i64 ((rd_T54 l0 x21_2).f5)] 54 (0, 0))) ∧ Aside0 (Below w.heap.size w w'))
            case atStart => exact ⟨(0), (by first | rfl | (simp; done) | (simp [*]; done)), H', ⟨Nat.le_refl _⟩, ⟨ex BK103.out⟩, ⟨by repeat (first | (with_reducible first | exact HB.out | apply below_alloc | apply pw_below_drewN | apply below_drew1 | refine below_set ?_ GE103.out) | exact HB.out)⟩⟩
            case round =>
             clear H'
             try clear c1
             try clear p1
             try clear q1
             try clear hx1
             try clear c2
             try clear p2
             try clear c5
             try clear p10
             try clear q10
             try clear hx10
             try clear c15
             try clear c17
             try clear c18
             try clear c18b0
             try clear c25
             try clear hx104_0
             try clear hx106_0
             try clear p1
             try clear p10
             try clear p104
             try clear p106
             try clear p2
             try clear q1
             try clear q10
             try clear q104
             try clear q106
             obtain ⟨x52_4, rfl, HA, HK4, BK103, HB⟩ := hrel
             cases gk with
             | zero => exact absurd HA.out (by simp [impl_StripFits.l1])
             | succ k4 =>
              have H := HA.out
              clear HA
              simp only [impl_StripFits.l1] at H
              by_cases c26 : x52_4 < (l0.length : Int)
              ·rw [if_pos c26] at H
               have c26b0 : decide (x52_4 < (l0.length : Int)) = true := decide_eq_true c26
               clear c26
               by_cases c27 : 0 ≤ x52_4
               ·rw [if_pos c27] at H
                have c27b0 : decide (0 ≤ x52_4) = true := decide_eq_true c27
                clear c27
                by_cases c28 : x52_4 < (l0.length : Int)
                ·rw [if_pos c28] at H
                 have c28b0 : decide (x52_4 < (l0.length : Int)) = true := decide_eq_true c28
                 clear c28
                 by_cases c29 : x52_4 = x21_2
                 ·rw [if_pos c29] at H
                  have c29b0 : (x52_4 == x21_2) = true := beq_iff_eq.mpr c29
                  have c29b1 : (x52_4 != x21_2) = false := bne_eq_false_iff_eq.mpr c29
                  clear c29
                  have H' := Aside0.mk H
                  clear H
                  have p107 : 0 ≤ (x52_4 : Int) := of_decide_eq_true (by first | (with_reducible assumption) | assumption)
                  have q107 : x52_4 < (l0.length : Int) := of_decide_eq_true (by first | (with_reducible assumption) | assumption)
                  obtain ⟨ad107, e107, hx107_0, hx107_1, hx107_2, hx107_3, hx107_4, hx107_5⟩ := at_T54 HR0.out x52_4 p107 q107
                  obtain rfl : ad102 = ad107 := (by injection e107)
                  replace hx107_0 := pw_cell_below HB.out hx107_0
                  replace hx107_1 := pw_cell_below HB.out hx107_1
                  replace hx107_2 := pw_cell_below HB.out hx107_2
                  replace hx107_3 := pw_cell_below HB.out hx107_3
                  replace hx107_4 := pw_cell_below HB.out hx107_4
                  replace hx107_5 := pw_cell_below HB.out hx107_5
                  replace p107 := eq_true p107
                  replace q107 := eq_true q107
                  try go_wp2_with (first | ((with_reducible refine gate_dst (N := 8) rfl ?_); (try (refine gate_guard (by rfl) ?_; dsimp only)); refine box_event ?hg (N := 8) ?hd (cs := #[.string (⟨#[]⟩ : ByteArray), .bool false, .int .i64 0, .int .i64 0, .int .i64 0, .int .i64 0]) (t := 54) ?hr ?_; (case hd => rfl); (case hg => rfl); (case hr => first | (go_simp; done) | (go_simp; rfl)); intro gb108 hg w30 hbox hb; have n0_ := Aside0.mk (blk_below (g := gb103) (o := .cells #[.string ((rd_T54 l0 x21_2).f0), .bool ((rd_T54 l0 x21_2).f1), .int .i64 ((rd_T54 l0 x21_2).f2), .int .i64 ((rd_T54 l0 x21_2).f3), .int .i64 ((rd_T54 l0 x21_2).f4), .int .i64 ((rd_T54 l0 x21_2).f5)] 54 (0, 0)) (ex BK103.out) hb); have n1_ := Aside0.mk (below_step (by repeat (first | (with_reducible first | exact HB.out | apply below_alloc | apply pw_below_drewN | apply below_drew1 | refine below_set ?_ GE103.out) | exact HB.out)) hb); have n2_ := Aside0.mk (hbox); have n3_ := Aside0.mk ((by rw [hg]; exact (below_size (by repeat (first | (with_reducible first | exact HB.out | apply below_alloc | apply pw_below_drewN | apply below_drew1 | refine below_set ?_ GE103.out) | exact HB.out))) : w.heap.size ≤ gb108)); have n4_ := Aside0.mk ((by rw [hg]; exact (below_size (by repeat (first | (with_reducible first | exact HB.out | apply below_alloc | apply pw_below_drewN | apply below_drew1 | refine below_set ?_ GE103.out) | exact HB.out))) : w.heap.size ≤ gb108)); have n5_ := Aside0.mk ((by rw [hg]; exact Nat.ne_of_lt (blk_lt (g := gb103) (o := .cells #[.string ((rd_T54 l0 x21_2).f0), .bool ((rd_T54 l0 x21_2).f1), .int .i64 ((rd_T54 l0 x21_2).f2), .int .i64 ((rd_T54 l0 x21_2).f3), .int .i64 ((rd_T54 l0 x21_2).f4), .int .i64 ((rd_T54 l0 x21_2).f5)] 54 (0, 0)) (ex BK103.out)) : gb103 ≠ gb108)); have n6_ := Aside0.mk ((by rw [hg]; exact Nat.ne_of_gt (blk_lt (g := gb103) (o := .cells #[.string ((rd_T54 l0 x21_2).f0), .bool ((rd_T54 l0 x21_2).f1), .int .i64 ((rd_T54 l0 x21_2).f2), .int .i64 ((rd_T54 l0 x21_2).f3), .int .i64 ((rd_T54 l0 x21_2).f4), .int .i64 ((rd_T54 l0 x21_2).f5)] 54 (0, 0)) (ex BK103.out)) : gb108 ≠ gb103)); clear BK103; clear HB; have BK103 := n0_; have HB := n1_; have BK108 := n2_; have GW108 := n3_; have GE108 := n4_; have NB103_108 := n5_; have NB108_103 := n6_; clear n0_ n1_ n2_ n3_ n4_ n5_ n6_; clear hb hbox hg; have hnb31 := NB108_103.out; have hnc31 := NB103_108.out; obtain ⟨hcz32_0, hcz32_1, hcz32_2, hcz32_3, hcz32_4, hcz32_5⟩ := bc6 BK108.out; obtain ⟨hfz32_0, hfz32_1, hfz32_2, hfz32_3, hfz32_4, hfz32_5⟩ := bf6 BK108.out))
                  have n0_ : Aside0 (((((((w30.setCell ⟨gb108, 0, none⟩ (.string ((rd_T54 l0 x52_4).f0))).setCell ⟨gb108, 1, none⟩ (.bool ((rd_T54 l0 x52_4).f1))).setCell ⟨gb108, 2, none⟩ (.int .i64 ((rd_T54 l0 x52_4).f2))).setCell ⟨gb108, 3, none⟩ (.int .i64 ((rd_T54 l0 x52_4).f3))).setCell ⟨gb108, 4, none⟩ (.int .i64 ((rd_T54 l0 x52_4).f4))).setCell ⟨gb108, 5, none⟩ (.int .i64 ((rd_T54 l0 x52_4).f5))).heap[gb103]? = some (.cells #[.string ((rd_T54 l0 x21_2).f0), .bool ((rd_T54 l0 x21_2).f1), .int .i64 ((rd_T54 l0 x21_2).f2), .int .i64 ((rd_T54 l0 x21_2).f3), .int .i64 ((rd_T54 l0 x21_2).f4), .int .i64 ((rd_T54 l0 x21_2).f5)] 54 (0, 0))) := ⟨by refine px ?_; refine blk_far ?_ NB103_108.out _; refine px ?_; refine blk_far ?_ NB103_108.out _; refine px ?_; refine blk_far ?_ NB103_108.out _; refine px ?_; refine blk_far ?_ NB103_108.out _; refine px ?_; refine blk_far ?_ NB103_108.out _; refine px ?_; refine blk_far ?_ NB103_108.out _; refine px ?_; exact BK103.out⟩
                  have n1_ : Aside0 (((((((w30.setCell ⟨gb108, 0, none⟩ (.string ((rd_T54 l0 x52_4).f0))).setCell ⟨gb108, 1, none⟩ (.bool ((rd_T54 l0 x52_4).f1))).setCell ⟨gb108, 2, none⟩ (.int .i64 ((rd_T54 l0 x52_4).f2))).setCell ⟨gb108, 3, none⟩ (.int .i64 ((rd_T54 l0 x52_4).f3))).setCell ⟨gb108, 4, none⟩ (.int .i64 ((rd_T54 l0 x52_4).f4))).setCell ⟨gb108, 5, none⟩ (.int .i64 ((rd_T54 l0 x52_4).f5))).heap[gb108]? = some (.cells #[.string ((rd_T54 l0 x52_4).f0), .bool ((rd_T54 l0 x52_4).f1), .int .i64 ((rd_T54 l0 x52_4).f2), .int .i64 ((rd_T54 l0 x52_4).f3), .int .i64 ((rd_T54 l0 x52_4).f4), .int .i64 ((rd_T54 l0 x52_4).f5)] 54 (0, 0))) := ⟨by refine px ?_; refine blk_put (cs := #[.string ((rd_T54 l0 x52_4).f0), .bool ((rd_T54 l0 x52_4).f1), .int .i64 ((rd_T54 l0 x52_4).f2), .int .i64 ((rd_T54 l0 x52_4).f3), .int .i64 ((rd_T54 l0 x52_4).f4), .int .i64 0]) ?_ 5 _ rfl; refine px ?_; refine blk_put (cs := #[.string ((rd_T54 l0 x52_4).f0), .bool ((rd_T54 l0 x52_4).f1), .int .i64 ((rd_T54 l0 x52_4).f2), .int .i64 ((rd_T54 l0 x52_4).f3), .int .i64 0, .int .i64 0]) ?_ 4 _ rfl; refine px ?_; refine blk_put (cs := #[.string ((rd_T54 l0 x52_4).f0), .bool ((rd_T54 l0 x52_4).f1), .int .i64 ((rd_T54 l0 x52_4).f2), .int .i64 0, .int .i64 0, .int .i64 0]) ?_ 3 _ rfl; refine px ?_; refine blk_put (cs := #[.string ((rd_T54 l0 x52_4).f0), .bool ((rd_T54 l0 x52_4).f1), .int .i64 0, .int .i64 0, .int .i64 0, .int .i64 0]) ?_ 2 _ rfl; refine px ?_; refine blk_put (cs := #[.string ((rd_T54 l0 x52_4).f0), .bool false, .int .i64 0, .int .i64 0, .int .i64 0, .int .i64 0]) ?_ 1 _ rfl; refine px ?_; refine blk_put (cs := #[.string (⟨#[]⟩ : ByteArray), .bool false, .int .i64 0, .int .i64 0, .int .i64 0, .int .i64 0]) ?_ 0 _ rfl; refine px ?_; exact BK108.out⟩
                  have n2_ : Aside0 (Below w.heap.size w ((((((w30.setCell ⟨gb108, 0, none⟩ (.string ((rd_T54 l0 x52_4).f0))).setCell ⟨gb108, 1, none⟩ (.bool ((rd_T54 l0 x52_4).f1))).setCell ⟨gb108, 2, none⟩ (.int .i64 ((rd_T54 l0 x52_4).f2))).setCell ⟨gb108, 3, none⟩ (.int .i64 ((rd_T54 l0 x52_4).f3))).setCell ⟨gb108, 4, none⟩ (.int .i64 ((rd_T54 l0 x52_4).f4))).setCell ⟨gb108, 5, none⟩ (.int .i64 ((rd_T54 l0 x52_4).f5)))) := ⟨by repeat (first | (with_reducible first | exact HB.out | apply below_alloc | apply pw_below_drewN | apply below_drew1 | refine below_set ?_ GE103.out | refine below_set ?_ GE108.out) | exact HB.out)⟩
                  (try clear BK103)
                  (try clear BK108)
                  (try clear HB)
                  generalize ((((((w30.setCell ⟨gb108, 0, none⟩ (.string ((rd_T54 l0 x52_4).f0))).setCell ⟨gb108, 1, none⟩ (.bool ((rd_T54 l0 x52_4).f1))).setCell ⟨gb108, 2, none⟩ (.int .i64 ((rd_T54 l0 x52_4).f2))).setCell ⟨gb108, 3, none⟩ (.int .i64 ((rd_T54 l0 x52_4).f3))).setCell ⟨gb108, 4, none⟩ (.int .i64 ((rd_T54 l0 x52_4).f4))).setCell ⟨gb108, 5, none⟩ (.int .i64 ((rd_T54 l0 x52_4).f5))) = w33 at n0_ n1_ n2_ ⊢
                  have BK103 := n0_
                  have BK108 := n1_
                  have HB := n2_
                  clear n0_ n1_ n2_
                  have n0_ := Aside0.mk (blk_drew BK103.out)
                  have n1_ := Aside0.mk (blk_drew BK108.out)
                  have n2_ := Aside0.mk (below_drew1 HB.out)
                  clear BK103
                  clear BK108
                  clear HB
                  have BK103 := n0_
                  have BK108 := n1_
                  have HB := n2_
                  clear n0_ n1_ n2_
                  refine start_ (n := 40) (S := fun w' => True) (ds := []) #[F, F, F, F, F, F, F, F, F, F, F, F, F, F, F, F, F, F, F, F, F, F, F, F, F, F, F, F, F, F, F, F, F, F, F, F, F, F, F, F] (by kernel_rfl) rfl rfl trivial (fun hHeld => ?_); refine with_tabW impl_StripFits.tab11 impl_StripFits.bits11 (fun HT_ HW_ => ?_)
                  generalize w33.drew = w34 at BK103 BK108 HB hHeld ⊢
                  refine pu (i := 0) (N := some 57) (v := ?_) (a' := ?_) HT_.out rfl rfl (by kernel_rfl) (fun _ _ _ h => h) (Or.inl ⟨by rfl, ?_⟩) ?_ ?_
                  rotate_left; (intro w'; go_simp; with_reducible rfl); rotate_left; (simp only [P0, P0n, P2, P3, P4, P5, P6]; rfl)
                  refine pu (i := 1) (N := some 58) (v := ?_) (a' := ?_) HT_.out rfl rfl (by kernel_rfl) (fun _ _ _ h => h) (Or.inl ⟨by rfl, ?_⟩) ?_ ?_
                  rotate_left; (intro w'; go_simp; with_reducible rfl); rotate_left; (simp only [P0, P0n, P2, P3, P4, P5, P6]; rfl)
                  refine pu (i := 2) (N := some 59) (v := ?_) (a' := ?_) HT_.out rfl rfl (by kernel_rfl) (fun _ _ _ h => h) (Or.inl ⟨by rfl, ?_⟩) ?_ ?_
                  rotate_left; (intro w'; go_simp; with_reducible rfl); rotate_left; (simp only [P0, P0n, P2, P3, P4, P5, P6]; rfl)
                  refine pu (i := 3) (N := some 60) (v := ?_) (a' := ?_) HT_.out rfl rfl (by kernel_rfl) (fun _ _ _ h => h) (Or.inl ⟨by rfl, ?_⟩) ?_ ?_
                  rotate_left; (intro w'; go_simp; with_reducible rfl); rotate_left; (simp only [P0, P0n, P2, P3, P4, P5, P6]; rfl)
                  refine pure_ (i := 4) (N := some 61) (v := undef) (a' := ?_) #[T, T, T, T, T, F, F, F, F, F, F, F, F, F, F, F, F, F, F, F, F, F, F, F, F, F, F, F, F, F, F, F, F, F, F, F, F, F, F, F] rfl rfl (any_of HT_.out (by kernel_rfl)) (fun _ _ _ h => h) (Or.inr ⟨by rfl, rfl⟩) ?_ ?_
                  rotate_left
                  ·simp only [P0, P0n, P2, P3, P4, P5, P6]
                   rfl
                  refine pure_ (i := 5) (N := some 62) (v := undef) (a' := ?_) #[T, T, T, T, T, T, F, F, F, F, F, F, F, F, F, F, F, F, F, F, F, F, F, F, F, F, F, F, F, F, F, F, F, F, F, F, F, F, F, F] rfl rfl (any_of HT_.out (by kernel_rfl)) (fun _ _ _ h => h) (Or.inr ⟨by rfl, rfl⟩) ?_ ?_
                  rotate_left
                  ·simp only [P0, P0n, P2, P3, P4, P5, P6]
                   rfl
                  refine pure_ (i := 6) (N := some 63) (v := undef) (a' := ?_) #[T, T, T, T, T, T, T, F, F, F, F, F, F, F, F, F, F, F, F, F, F, F, F, F, F, F, F, F, F, F, F, F, F, F, F, F, F, F, F, F] rfl rfl (any_of HT_.out (by kernel_rfl)) (fun _ _ _ h => h) (Or.inr ⟨by rfl, rfl⟩) ?_ ?_
                  rotate_left
                  ·simp only [P0, P0n, P2, P3, P4, P5, P6]
                   rfl
                  refine pure_ (i := 7) (N := some 64) (v := undef) (a' := ?_) #[T, T, T, T, T, T, T, T, F, F, F, F, F, F, F, F, F, F, F, F, F, F, F, F, F, F, F, F, F, F, F, F, F, F, F, F, F, F, F, F] rfl rfl (any_of HT_.out (by kernel_rfl)) (fun _ _ _ h => h) (Or.inr ⟨by rfl, rfl⟩) ?_ ?_
                  rotate_left
                  ·simp only [P0, P0n, P2, P3, P4, P5, P6]
                   rfl
                  refine pure_ (i := 8) (N := some 65) (v := undef) (a' := ?_) #[T, T, T, T, T, T, T, T, T, F, F, F, F, F, F, F, F, F, F, F, F, F, F, F, F, F, F, F, F, F, F, F, F, F, F, F, F, F, F, F] rfl rfl (any_of HT_.out (by kernel_rfl)) (fun _ _ _ h => h) (Or.inr ⟨by rfl, rfl⟩) ?_ ?_
                  rotate_left
                  ·simp only [P0, P0n, P2, P3, P4, P5, P6]
                   rfl
                  refine pure_ (i := 9) (N := some 66) (v := undef) (a' := ?_) #[T, T, T, T, T, T, T, T, T, T, F, F, F, F, F, F, F, F, F, F, F, F, F, F, F, F, F, F, F, F, F, F, F, F, F, F, F, F, F, F] rfl rfl (any_of HT_.out (by kernel_rfl)) (fun _ _ _ h => h) (Or.inr ⟨by rfl, rfl⟩) ?_ ?_
                  rotate_left
                  ·simp only [P0, P0n, P2, P3, P4, P5, P6]
                   rfl
                  refine pure_ (i := 10) (N := some 67) (v := undef) (a' := ?_) #[T, T, T, T, T, T, T, T, T, T, T, F, F, F, F, F, F, F, F, F, F, F, F, F, F, F, F, F, F, F, F, F, F, F, F, F, F, F, F, F] rfl rfl (any_of HT_.out (by kernel_rfl)) (fun _ _ _ h => h) (Or.inr ⟨by rfl, rfl⟩) ?_ ?_
                  rotate_left
                  ·simp only [P0, P0n, P2, P3, P4, P5, P6]
                   rfl
                  refine pure_ (i := 11) (N := some 68) (v := undef) (a' := ?_) #[T, T, T, T, T, T, T, T, T, T, T, T, F, F, F, F, F, F, F, F, F, F, F, F, F, F, F, F, F, F, F, F, F, F, F, F, F, F, F, F] rfl rfl (any_of HT_.out (by kernel_rfl)) (fun _ _ _ h => h) (Or.inr ⟨by rfl, rfl⟩) ?_ ?_
                  rotate_left
                  ·simp only [P0, P0n, P2, P3, P4, P5, P6]
                   rfl
                  refine pure_ (i := 12) (N := some 69) (v := undef) (a' := ?_) #[T, T, T, T, T, T, T, T, T, T, T, T, T, F, F, F, F, F, F, F, F, F, F, F, F, F, F, F, F, F, F, F, F, F, F, F, F, F, F, F] rfl rfl (any_of HT_.out (by kernel_rfl)) (fun _ _ _ h => h) (Or.inr ⟨by rfl, rfl⟩) ?_ ?_
                  rotate_left
                  ·simp only [P0, P0n, P2, P3, P4, P5, P6]
                   rfl
                  refine pure_ (i := 13) (N := some 70) (v := undef) (a' := ?_) #[T, T, T, T, T, T, T, T, T, T, T, T, T, T, F, F, F, F, F, F, F, F, F, F, F, F, F, F, F, F, F, F, F, F, F, F, F, F, F, F] rfl rfl (any_of HT_.out (by kernel_rfl)) (fun _ _ _ h => h) (Or.inr ⟨by rfl, rfl⟩) ?_ ?_
                  rotate_left
                  ·simp only [P0, P0n, P2, P3, P4, P5, P6]
                   rfl
                  refine pure_ (i := 14) (N := some 71) (v := undef) (a' := ?_) #[T, T, T, T, T, T, T, T, T, T, T, T, T, T, T, F, F, F, F, F, F, F, F, F, F, F, F, F, F, F, F, F, F, F, F, F, F, F, F, F] rfl rfl (any_of HT_.out (by kernel_rfl)) (fun _ _ _ h => h) (Or.inr ⟨by rfl, rfl⟩) ?_ ?_
                  rotate_left
                  ·simp only [P0, P0n, P2, P3, P4, P5, P6]
                   rfl
                  refine pure_ (i := 15) (N := some 72) (v := undef) (a' := ?_) #[T, T, T, T, T, T, T, T, T, T, T, T, T, T, T, T, F, F, F, F, F, F, F, F, F, F, F, F, F, F, F, F, F, F, F, F, F, F, F, F] rfl rfl (any_of HT_.out (by kernel_rfl)) (fun _ _ _ h => h) (Or.inr ⟨by rfl, rfl⟩) ?_ ?_
                  rotate_left
                  ·simp only [P0, P0n, P2, P3, P4, P5, P6]
                   rfl
                  refine pure_ (i := 16) (N := some 73) (v := undef) (a' := ?_) #[T, T, T, T, T, T, T, T, T, T, T, T, T, T, T, T, T, F, F, F, F, F, F, F, F, F, F, F, F, F, F, F, F, F, F, F, F, F, F, F] rfl rfl (any_of HT_.out (by kernel_rfl)) (fun _ _ _ h => h) (Or.inr ⟨by rfl, rfl⟩) ?_ ?_
                  rotate_left
                  ·simp only [P0, P0n, P2, P3, P4, P5, P6]
                   rfl
                  refine pure_ (i := 17) (N := some 74) (v := undef) (a' := ?_) #[T, T, T, T, T, T, T, T, T, T, T, T, T, T, T, T, T, T, F, F, F, F, F, F, F, F, F, F, F, F, F, F, F, F, F, F, F, F, F, F] rfl rfl (any_of HT_.out (by kernel_rfl)) (fun _ _ _ h => h) (Or.inr ⟨by rfl, rfl⟩) ?_ ?_
                  rotate_left
                  ·simp only [P0, P0n, P2, P3, P4, P5, P6]
                   rfl
                  refine pure_ (i := 18) (N := some 75) (v := undef) (a' := ?_) #[T, T, T, T, T, T, T, T, T, T, T, T, T, T, T, T, T, T, T, F, F, F, F, F, F, F, F, F, F, F, F, F, F, F, F, F, F, F, F, F] rfl rfl (any_of HT_.out (by kernel_rfl)) (fun _ _ _ h => h) (Or.inr ⟨by rfl, rfl⟩) ?_ ?_
                  rotate_left
                  ·simp only [P0, P0n, P2, P3, P4, P5, P6]
                   rfl
                  refine pure_ (i := 19) (N := some 76) (v := undef) (a' := ?_) #[T, T, T, T, T, T, T, T, T, T, T, T, T, T, T, T, T, T, T, T, F, F, F, F, F, F, F, F, F, F, F, F, F, F, F, F, F, F, F, F] rfl rfl (any_of HT_.out (by kernel_rfl)) (fun _ _ _ h => h) (Or.inr ⟨by rfl, rfl⟩) ?_ ?_
                  rotate_left
                  ·simp only [P0, P0n, P2, P3, P4, P5, P6]
                   rfl
                  refine pure_ (i := 20) (N := some 77) (v := undef) (a' := ?_) #[T, T, T, T, T, T, T, T, T, T, T, T, T, T, T, T, T, T, T, T, T, F, F, F, F, F, F, F, F, F, F, F, F, F, F, F, F, F, F, F] rfl rfl (any_of HT_.out (by kernel_rfl)) (fun _ _ _ h => h) (Or.inr ⟨by rfl, rfl⟩) ?_ ?_
                  rotate_left
                  ·simp only [P0, P0n, P2, P3, P4, P5, P6]
                   rfl
                  refine pure_ (i := 21) (N := some 78) (v := undef) (a' := ?_) #[T, T, T, T, T, T, T, T, T, T, T, T, T, T, T, T, T, T, T, T, T, T, F, F, F, F, F, F, F, F, F, F, F, F, F, F, F, F, F, F] rfl rfl (any_of HT_.out (by kernel_rfl)) (fun _ _ _ h => h) (Or.inr ⟨by rfl, rfl⟩) ?_ ?_
                  rotate_left
                  ·simp only [P0, P0n, P2, P3, P4, P5, P6]
                   rfl
                  refine pure_ (i := 22) (N := some 79) (v := undef) (a' := ?_) #[T, T, T, T, T, T, T, T, T, T, T, T, T, T, T, T, T, T, T, T, T, T, T, F, F, F, F, F, F, F, F, F, F, F, F, F, F, F, F, F] rfl rfl (any_of HT_.out (by kernel_rfl)) (fun _ _ _ h => h) (Or.inr ⟨by rfl, rfl⟩) ?_ ?_
                  rotate_left
                  ·simp only [P0, P0n, P2, P3, P4, P5, P6]
                   rfl
                  refine pure_ (i := 23) (N := some 80) (v := undef) (a' := ?_) #[T, T, T, T, T, T, T, T, T, T, T, T, T, T, T, T, T, T, T, T, T, T, T, T, F, F, F, F, F, F, F, F, F, F, F, F, F, F, F, F] rfl rfl (any_of HT_.out (by kernel_rfl)) (fun _ _ _ h => h) (Or.inr ⟨by rfl, rfl⟩) ?_ ?_
                  rotate_left
                  ·simp only [P0, P0n, P2, P3, P4, P5, P6]
                   rfl
                  refine pure_ (i := 24) (N := some 81) (v := undef) (a' := ?_) #[T, T, T, T, T, T, T, T, T, T, T, T, T, T, T, T, T, T, T, T, T, T, T, T, T, F, F, F, F, F, F, F, F, F, F, F, F, F, F, F] rfl rfl (any_of HT_.out (by kernel_rfl)) (fun _ _ _ h => h) (Or.inr ⟨by rfl, rfl⟩) ?_ ?_
                  rotate_left
                  ·simp only [P0, P0n, P2, P3, P4, P5, P6]
                   rfl
                  refine pure_ (i := 25) (N := some 82) (v := undef) (a' := ?_) #[T, T, T, T, T, T, T, T, T, T, T, T, T, T, T, T, T, T, T, T, T, T, T, T, T, T, F, F, F, F, F, F, F, F, F, F, F, F, F, F] rfl rfl (any_of HT_.out (by kernel_rfl)) (fun _ _ _ h => h) (Or.inr ⟨by rfl, rfl⟩) ?_ ?_
                  rotate_left
                  ·simp only [P0, P0n, P2, P3, P4, P5, P6]
                   rfl
                  refine pure_ (i := 26) (N := some 83) (v := undef) (a' := ?_) #[T, T, T, T, T, T, T, T, T, T, T, T, T, T, T, T, T, T, T, T, T, T, T, T, T, T, T, F, F, F, F, F, F, F, F, F, F, F, F, F] rfl rfl (any_of HT_.out (by kernel_rfl)) (fun _ _ _ h => h) (Or.inr ⟨by rfl, rfl⟩) ?_ ?_
                  rotate_left
                  ·simp only [P0, P0n, P2, P3, P4, P5, P6]
                   rfl
                  refine pure_ (i := 27) (N := some 84) (v := undef) (a' := ?_) #[T, T, T, T, T, T, T, T, T, T, T, T, T, T, T, T, T, T, T, T, T, T, T, T, T, T, T, T, F, F, F, F, F, F, F, F, F, F, F, F] rfl rfl (any_of HT_.out (by kernel_rfl)) (fun _ _ _ h => h) (Or.inr ⟨by rfl, rfl⟩) ?_ ?_
                  rotate_left
                  ·simp only [P0, P0n, P2, P3, P4, P5, P6]
                   rfl
                  refine pure_ (i := 28) (N := some 85) (v := undef) (a' := ?_) #[T, T, T, T, T, T, T, T, T, T, T, T, T, T, T, T, T, T, T, T, T, T, T, T, T, T, T, T, T, F, F, F, F, F, F, F, F, F, F, F] rfl rfl (any_of HT_.out (by kernel_rfl)) (fun _ _ _ h => h) (Or.inr ⟨by rfl, rfl⟩) ?_ ?_
                  rotate_left
                  ·simp only [P0, P0n, P2, P3, P4, P5, P6]
                   rfl
                  refine pure_ (i := 29) (N := some 86) (v := undef) (a' := ?_) #[T, T, T, T, T, T, T, T, T, T, T, T, T, T, T, T, T, T, T, T, T, T, T, T, T, T, T, T, T, T, F, F, F, F, F, F, F, F, F, F] rfl rfl (any_of HT_.out (by kernel_rfl)) (fun _ _ _ h => h) (Or.inr ⟨by rfl, rfl⟩) ?_ ?_
                  rotate_left
                  ·simp only [P0, P0n, P2, P3, P4, P5, P6]
                   rfl
                  refine pure_ (i := 30) (N := some 87) (v := undef) (a' := ?_) #[T, T, T, T, T, T, T, T, T, T, T, T, T, T, T, T, T, T, T, T, T, T, T, T, T, T, T, T, T, T, T, F, F, F, F, F, F, F, F, F] rfl rfl (any_of HT_.out (by kernel_rfl)) (fun _ _ _ h => h) (Or.inr ⟨by rfl, rfl⟩) ?_ ?_
                  rotate_left
                  ·simp only [P0, P0n, P2, P3, P4, P5, P6]
                   rfl
                  refine pure_ (i := 31) (N := some 88) (v := undef) (a' := ?_) #[T, T, T, T, T, T, T, T, T, T, T, T, T, T, T, T, T, T, T, T, T, T, T, T, T, T, T, T, T, T, T, T, F, F, F, F, F, F, F, F] rfl rfl (any_of HT_.out (by kernel_rfl)) (fun _ _ _ h => h) (Or.inr ⟨by rfl, rfl⟩) ?_ ?_
                  rotate_left
                  ·simp only [P0, P0n, P2, P3, P4, P5, P6]
                   rfl
                  refine pure_ (i := 32) (N := some 89) (v := undef) (a' := ?_) #[T, T, T, T, T, T, T, T, T, T, T, T, T, T, T, T, T, T, T, T, T, T, T, T, T, T, T, T, T, T, T, T, T, F, F, F, F, F, F, F] rfl rfl (any_of HT_.out (by kernel_rfl)) (fun _ _ _ h => h) (Or.inr ⟨by rfl, rfl⟩) ?_ ?_
                  rotate_left
                  ·simp only [P0, P0n, P2, P3, P4, P5, P6]
                   rfl
                  refine pure_ (i := 33) (N := some 90) (v := undef) (a' := ?_) #[T, T, T, T, T, T, T, T, T, T, T, T, T, T, T, T, T, T, T, T, T, T, T, T, T, T, T, T, T, T, T, T, T, T, F, F, F, F, F, F] rfl rfl (any_of HT_.out (by kernel_rfl)) (fun _ _ _ h => h) (Or.inr ⟨by rfl, rfl⟩) ?_ ?_
                  rotate_left
                  ·simp only [P0, P0n, P2, P3, P4, P5, P6]
                   rfl
                  refine pure_ (i := 34) (N := some 91) (v := undef) (a' := ?_) #[T, T, T, T, T, T, T, T, T, T, T, T, T, T, T, T, T, T, T, T, T, T, T, T, T, T, T, T, T, T, T, T, T, T, T, F, F, F, F, F] rfl rfl (any_of HT_.out (by kernel_rfl)) (fun _ _ _ h => h) (Or.inr ⟨by rfl, rfl⟩) ?_ ?_
                  rotate_left
                  ·simp only [P0, P0n, P2, P3, P4, P5, P6]
                   rfl
                  refine pure_ (i := 35) (N := some 92) (v := undef) (a' := ?_) #[T, T, T, T, T, T, T, T, T, T, T, T, T, T, T, T, T, T, T, T, T, T, T, T, T, T, T, T, T, T, T, T, T, T, T, T, F, F, F, F] rfl rfl (any_of HT_.out (by kernel_rfl)) (fun _ _ _ h => h) (Or.inr ⟨by rfl, rfl⟩) ?_ ?_
                  rotate_left
                  ·simp only [P0, P0n, P2, P3, P4, P5, P6]
                   rfl
                  refine pure_ (i := 36) (N := some 93) (v := undef) (a' := ?_) #[T, T, T, T, T, T, T, T, T, T, T, T, T, T, T, T, T, T, T, T, T, T, T, T, T, T, T, T, T, T, T, T, T, T, T, T, T, F, F, F] rfl rfl (any_of HT_.out (by kernel_rfl)) (fun _ _ _ h => h) (Or.inr ⟨by rfl, rfl⟩) ?_ ?_
                  rotate_left
                  ·simp only [P0, P0n, P2, P3, P4, P5, P6]
                   rfl
                  refine pure_ (i := 37) (N := some 94) (v := undef) (a' := ?_) #[T, T, T, T, T, T, T, T, T, T, T, T, T, T, T, T, T, T, T, T, T, T, T, T, T, T, T, T, T, T, T, T, T, T, T, T, T, T, F, F] rfl rfl (any_of HT_.out (by kernel_rfl)) (fun _ _ _ h => h) (Or.inr ⟨by rfl, rfl⟩) ?_ ?_
                  rotate_left
                  ·simp only [P0, P0n, P2, P3, P4, P5, P6]
                   rfl
                  refine pure_ (i := 38) (N := some 95) (v := undef) (a' := ?_) #[T, T, T, T, T, T, T, T, T, T, T, T, T, T, T, T, T, T, T, T, T, T, T, T, T, T, T, T, T, T, T, T, T, T, T, T, T, T, T, F] rfl rfl (any_of HT_.out (by kernel_rfl)) (fun _ _ _ h => h) (Or.inr ⟨by rfl, rfl⟩) ?_ ?_
                  rotate_left
                  ·simp only [P0, P0n, P2, P3, P4, P5, P6]
                   rfl
                  refine pu (i := 39) (N := some 96) (v := ?_) (a' := ?_) HT_.out rfl rfl (by kernel_rfl) (fun _ _ _ h => h) (Or.inl ⟨by rfl, ?_⟩) ?_ ?_
                  rotate_left; (intro w'; go_simp; with_reducible rfl); rotate_left; (simp only [P0, P0n, P2, P3, P4, P5, P6]; rfl)
                  refine done_ (done_of HT_.out (by kernel_rfl)) ?_
                  try go_wp2
                  go_roundg k4
                  case measure => have := HJ2.out; have := HK2.out; have := HJ11.out; have := HK4.out; omega
                  case rel => exact ⟨(wrap64 (x52_4 + 1)), (by first | rfl | (simp; done) | (simp [*]; done)), H', ⟨by have := HJ2.out; have := HK2.out; have := HJ11.out; have := HK4.out; omega⟩, ⟨ex BK103.out⟩, ⟨by repeat (first | (with_reducible first | exact HB.out | apply below_alloc | apply pw_below_drewN | apply below_drew1 | refine below_set ?_ GE103.out | refine below_set ?_ GE108.out) | exact HB.out)⟩⟩
                 ·rw [if_neg c29] at H
                  have c29b0 : (x52_4 == x21_2) = false := beq_eq_false_iff_ne.mpr c29
                  have c29b1 : (x52_4 != x21_2) = true := bne_iff_ne.mpr c29
                  by_cases c35 : 0 ≤ x21_2
                  ·rw [if_pos c35] at H
                   have c35b0 : decide (0 ≤ x21_2) = true := decide_eq_true c35
                   clear c35
                   by_cases c36 : x21_2 < (l1.length : Int)
                   ·rw [if_pos c36] at H
                    have c36b0 : decide (x21_2 < (l1.length : Int)) = true := decide_eq_true c36
                    clear c36
                    by_cases c37 : x52_4 < (l1.length : Int)
                    ·rw [if_pos c37] at H
                     have c37b0 : decide (x52_4 < (l1.length : Int)) = true := decide_eq_true c37
                     clear c37
                     by_cases c38 : (rd l1 x21_2) = (rd l1 x52_4)
                     ·rw [if_pos c38] at H
                      have c38b0 : ((rd l1 x21_2) == (rd l1 x52_4)) = true := beq_iff_eq.mpr c38
                      have c38b1 : ((rd l1 x21_2) != (rd l1 x52_4)) = false := bne_eq_false_iff_eq.mpr c38
                      clear c38
                      obtain rfl := Option.some.inj H
                      have p107 : 0 ≤ (x52_4 : Int) := of_decide_eq_true (by first | (with_reducible assumption) | assumption)
                      have q107 : x52_4 < (l0.length : Int) := of_decide_eq_true (by first | (with_reducible assumption) | assumption)
                      obtain ⟨ad107, e107, hx107_0, hx107_1, hx107_2, hx107_3, hx107_4, hx107_5⟩ := at_T54 HR0.out x52_4 p107 q107
                      obtain rfl : ad102 = ad107 := (by injection e107)
                      replace hx107_0 := pw_cell_below HB.out hx107_0
                      replace hx107_1 := pw_cell_below HB.out hx107_1
                      replace hx107_2 := pw_cell_below HB.out hx107_2
                      replace hx107_3 := pw_cell_below HB.out hx107_3
                      replace hx107_4 := pw_cell_below HB.out hx107_4
                      replace hx107_5 := pw_cell_below HB.out hx107_5
                      replace p107 := eq_true p107
                      replace q107 := eq_true q107
                      try go_wp2_with (first | ((with_reducible refine gate_dst (N := 8) rfl ?_); (try (refine gate_guard (by rfl) ?_; dsimp only)); refine box_event ?hg (N := 8) ?hd (cs := #[.string (⟨#[]⟩ : ByteArray), .bool false, .int .i64 0, .int .i64 0, .int .i64 0, .int .i64 0]) (t := 54) ?hr ?_; (case hd => rfl); (case hg => rfl); (case hr => first | (go_simp; done) | (go_simp; rfl)); intro gb108 hg w39 hbox hb; have n0_ := Aside0.mk (blk_below (g := gb103) (o := .cells #[.string ((rd_T54 l0 x21_2).f0), .bool ((rd_T54 l0 x21_2).f1), .int .i64 ((rd_T54 l0 x21_2).f2), .int .i64 ((rd_T54 l0 x21_2).f3), .int .i64 ((rd_T54 l0 x21_2).f4), .int .i64 ((rd_T54 l0 x21_2).f5)] 54 (0, 0)) (ex BK103.out) hb); have n1_ := Aside0.mk (below_step (by repeat (first | (with_reducible first | exact HB.out | apply below_alloc | apply pw_below_drewN | apply below_drew1 | refine below_set ?_ GE103.out) | exact HB.out)) hb); have n2_ := Aside0.mk (hbox); have n3_ := Aside0.mk ((by rw [hg]; exact (below_size (by repeat (first | (with_reducible first | exact HB.out | apply below_alloc | apply pw_below_drewN | apply below_drew1 | refine below_set ?_ GE103.out) | exact HB.out))) : w.heap.size ≤ gb108)); have n4_ := Aside0.mk ((by rw [hg]; exact (below_size (by repeat (first | (with_reducible first | exact HB.out | apply below_alloc | apply pw_below_drewN | apply below_drew1 | refine below_set ?_ GE103.out) | exact HB.out))) : w.heap.size ≤ gb108)); have n5_ := Aside0.mk ((by rw [hg]; exact Nat.ne_of_lt (blk_lt (g := gb103) (o := .cells #[.string ((rd_T54 l0 x21_2).f0), .bool ((rd_T54 l0 x21_2).f1), .int .i64 ((rd_T54 l0 x21_2).f2), .int .i64 ((rd_T54 l0 x21_2).f3), .int .i64 ((rd_T54 l0 x21_2).f4), .int .i64 ((rd_T54 l0 x21_2).f5)] 54 (0, 0)) (ex BK103.out)) : gb103 ≠ gb108)); have n6_ := Aside0.mk ((by rw [hg]; exact Nat.ne_of_gt (blk_lt (g := gb103) (o := .cells #[.string ((rd_T54 l0 x21_2).f0), .bool ((rd_T54 l0 x21_2).f1), .int .i64 ((rd_T54 l0 x21_2).f2), .int .i64 ((rd_T54 l0 x21_2).f3), .int .i64 ((rd_T54 l0 x21_2).f4), .int .i64 ((rd_T54 l0 x21_2).f5)] 54 (0, 0)) (ex BK103.out)) : gb108 ≠ gb103)); clear BK103; clear HB; have BK103 := n0_; have HB := n1_; have BK108 := n2_; have GW108 := n3_; have GE108 := n4_; have NB103_108 := n5_; have NB108_103 := n6_; clear n0_ n1_ n2_ n3_ n4_ n5_ n6_; clear hb hbox hg; have hnb40 := NB108_103.out; have hnc40 := NB103_108.out; obtain ⟨hcz41_0, hcz41_1, hcz41_2, hcz41_3, hcz41_4, hcz41_5⟩ := bc6 BK108.out; obtain ⟨hfz41_0, hfz41_1, hfz41_2, hfz41_3, hfz41_4, hfz41_5⟩ := bf6 BK108.out))
                      have n0_ : Aside0 (((((((w39.setCell ⟨gb108, 0, none⟩ (.string ((rd_T54 l0 x52_4).f0))).setCell ⟨gb108, 1, none⟩ (.bool ((rd_T54 l0 x52_4).f1))).setCell ⟨gb108, 2, none⟩ (.int .i64 ((rd_T54 l0 x52_4).f2))).setCell ⟨gb108, 3, none⟩ (.int .i64 ((rd_T54 l0 x52_4).f3))).setCell ⟨gb108, 4, none⟩ (.int .i64 ((rd_T54 l0 x52_4).f4))).setCell ⟨gb108, 5, none⟩ (.int .i64 ((rd_T54 l0 x52_4).f5))).heap[gb103]? = some (.cells #[.string ((rd_T54 l0 x21_2).f0), .bool ((rd_T54 l0 x21_2).f1), .int .i64 ((rd_T54 l0 x21_2).f2), .int .i64 ((rd_T54 l0 x21_2).f3), .int .i64 ((rd_T54 l0 x21_2).f4), .int .i64 ((rd_T54 l0 x21_2).f5)] 54 (0, 0))) := ⟨by refine px ?_; refine blk_far ?_ NB103_108.out _; refine px ?_; refine blk_far ?_ NB103_108.out _; refine px ?_; refine blk_far ?_ NB103_108.out _; refine px ?_; refine blk_far ?_ NB103_108.out _; refine px ?_; refine blk_far ?_ NB103_108.out _; refine px ?_; refine blk_far ?_ NB103_108.out _; refine px ?_; exact BK103.out⟩
                      have n1_ : Aside0 (((((((w39.setCell ⟨gb108, 0, none⟩ (.string ((rd_T54 l0 x52_4).f0))).setCell ⟨gb108, 1, none⟩ (.bool ((rd_T54 l0 x52_4).f1))).setCell ⟨gb108, 2, none⟩ (.int .i64 ((rd_T54 l0 x52_4).f2))).setCell ⟨gb108, 3, none⟩ (.int .i64 ((rd_T54 l0 x52_4).f3))).setCell ⟨gb108, 4, none⟩ (.int .i64 ((rd_T54 l0 x52_4).f4))).setCell ⟨gb108, 5, none⟩ (.int .i64 ((rd_T54 l0 x52_4).f5))).heap[gb108]? = some (.cells #[.string ((rd_T54 l0 x52_4).f0), .bool ((rd_T54 l0 x52_4).f1), .int .i64 ((rd_T54 l0 x52_4).f2), .int .i64 ((rd_T54 l0 x52_4).f3), .int .i64 ((rd_T54 l0 x52_4).f4), .int .i64 ((rd_T54 l0 x52_4).f5)] 54 (0, 0))) := ⟨by refine px ?_; refine blk_put (cs := #[.string ((rd_T54 l0 x52_4).f0), .bool ((rd_T54 l0 x52_4).f1), .int .i64 ((rd_T54 l0 x52_4).f2), .int .i64 ((rd_T54 l0 x52_4).f3), .int .i64 ((rd_T54 l0 x52_4).f4), .int .i64 0]) ?_ 5 _ rfl; refine px ?_; refine blk_put (cs := #[.string ((rd_T54 l0 x52_4).f0), .bool ((rd_T54 l0 x52_4).f1), .int .i64 ((rd_T54 l0 x52_4).f2), .int .i64 ((rd_T54 l0 x52_4).f3), .int .i64 0, .int .i64 0]) ?_ 4 _ rfl; refine px ?_; refine blk_put (cs := #[.string ((rd_T54 l0 x52_4).f0), .bool ((rd_T54 l0 x52_4).f1), .int .i64 ((rd_T54 l0 x52_4).f2), .int .i64 0, .int .i64 0, .int .i64 0]) ?_ 3 _ rfl; refine px ?_; refine blk_put (cs := #[.string ((rd_T54 l0 x52_4).f0), .bool ((rd_T54 l0 x52_4).f1), .int .i64 0, .int .i64 0, .int .i64 0, .int .i64 0]) ?_ 2 _ rfl; refine px ?_; refine blk_put (cs := #[.string ((rd_T54 l0 x52_4).f0), .bool false, .int .i64 0, .int .i64 0, .int .i64 0, .int .i64 0]) ?_ 1 _ rfl; refine px ?_; refine blk_put (cs := #[.string (⟨#[]⟩ : ByteArray), .bool false, .int .i64 0, .int .i64 0, .int .i64 0, .int .i64 0]) ?_ 0 _ rfl; refine px ?_; exact BK108.out⟩
                      have n2_ : Aside0 (Below w.heap.size w ((((((w39.setCell ⟨gb108, 0, none⟩ (.string ((rd_T54 l0 x52_4).f0))).setCell ⟨gb108, 1, none⟩ (.bool ((rd_T54 l0 x52_4).f1))).setCell ⟨gb108, 2, none⟩ (.int .i64 ((rd_T54 l0 x52_4).f2))).setCell ⟨gb108, 3, none⟩ (.int .i64 ((rd_T54 l0 x52_4).f3))).setCell ⟨gb108, 4, none⟩ (.int .i64 ((rd_T54 l0 x52_4).f4))).setCell ⟨gb108, 5, none⟩ (.int .i64 ((rd_T54 l0 x52_4).f5)))) := ⟨by repeat (first | (with_reducible first | exact HB.out | apply below_alloc | apply pw_below_drewN | apply below_drew1 | refine below_set ?_ GE103.out | refine below_set ?_ GE108.out) | exact HB.out)⟩
                      (try clear BK103)
                      (try clear BK108)
                      (try clear HB)
                      generalize ((((((w39.setCell ⟨gb108, 0, none⟩ (.string ((rd_T54 l0 x52_4).f0))).setCell ⟨gb108, 1, none⟩ (.bool ((rd_T54 l0 x52_4).f1))).setCell ⟨gb108, 2, none⟩ (.int .i64 ((rd_T54 l0 x52_4).f2))).setCell ⟨gb108, 3, none⟩ (.int .i64 ((rd_T54 l0 x52_4).f3))).setCell ⟨gb108, 4, none⟩ (.int .i64 ((rd_T54 l0 x52_4).f4))).setCell ⟨gb108, 5, none⟩ (.int .i64 ((rd_T54 l0 x52_4).f5))) = w42 at n0_ n1_ n2_ ⊢
                      have BK103 := n0_
                      have BK108 := n1_
                      have HB := n2_
                      clear n0_ n1_ n2_
                      have n0_ := Aside0.mk (blk_drew BK103.out)
                      have n1_ := Aside0.mk (blk_drew BK108.out)
                      have n2_ := Aside0.mk (below_drew1 HB.out)
                      clear BK103
                      clear BK108
                      clear HB
                      have BK103 := n0_
                      have BK108 := n1_
                      have HB := n2_
                      clear n0_ n1_ n2_
                      have p109 : 0 ≤ (x21_2 : Int) := of_decide_eq_true (by first | (with_reducible assumption) | assumption)
                      have q109 : x21_2 < (l1.length : Int) := of_decide_eq_true (by first | (with_reducible assumption) | assumption)
                      obtain ⟨ad109, e109, hx109_0⟩ := Kd.at_int HR1.out x21_2 p109 q109
                      have hw109_0 := hx109_0
                      cases e109
                      replace hx109_0 := pw_cell_below HB.out hx109_0
                      replace p109 := eq_true p109
                      replace q109 := eq_true q109
                      have p110 : 0 ≤ (x52_4 : Int) := of_decide_eq_true (by first | (with_reducible assumption) | assumption)
                      have q110 : x52_4 < (l1.length : Int) := of_decide_eq_true (by first | (with_reducible assumption) | assumption)
                      obtain ⟨ad110, e110, hx110_0⟩ := Kd.at_int HR1.out x52_4 p110 q110
                      have hw110_0 := hx110_0
                      obtain rfl : ad109 = ad110 := (by injection e110)
                      replace hx110_0 := pw_cell_below HB.out hx110_0
                      replace p110 := eq_true p110
                      replace q110 := eq_true q110
                      refine start_ (n := 40) (S := fun w' => w'.cell? (ad109.add (x21_2).toNat) = some (.int .i64 (rd l1 x21_2)) ∧ w'.cell? (ad109.add (x52_4).toNat) = some (.int .i64 (rd l1 x52_4))) (ds := []) #[F, F, F, F, F, F, F, F, F, F, F, F, F, F, F, F, F, F, F, F, F, F, F, F, F, F, F, F, F, F, F, F, F, F, F, F, F, F, F, F] (by kernel_rfl) rfl rfl ⟨(pw_cell_below HB.out hw109_0), (pw_cell_below HB.out hw110_0)⟩ (fun hHeld => ?_); refine with_tabW impl_StripFits.tab11 impl_StripFits.bits11 (fun HT_ HW_ => ?_)
                      generalize w42.drew = w43 at BK103 BK108 HB hx109_0 hx110_0 hHeld ⊢
                      refine pu (i := 0) (N := some 57) (v := ?_) (a' := ?_) HT_.out rfl rfl (by kernel_rfl) (fun _ _ _ h => h) (Or.inl ⟨by rfl, ?_⟩) ?_ ?_
                      rotate_left; (intro w'; go_simp; with_reducible rfl); rotate_left; (simp only [P0, P0n, P2, P3, P4, P5, P6]; rfl)
                      refine pu (i := 1) (N := some 58) (v := ?_) (a' := ?_) HT_.out rfl rfl (by kernel_rfl) (fun _ _ _ h => h) (Or.inl ⟨by rfl, ?_⟩) ?_ ?_
                      rotate_left; (intro w'; go_simp; with_reducible rfl); rotate_left; (simp only [P0, P0n, P2, P3, P4, P5, P6]; rfl)
                      refine pu (i := 2) (N := some 59) (v := ?_) (a' := ?_) HT_.out rfl rfl (by kernel_rfl) (fun _ _ _ h => h) (Or.inl ⟨by rfl, ?_⟩) ?_ ?_
                      rotate_left; (intro w'; go_simp; with_reducible rfl); rotate_left; (simp only [P0, P0n, P2, P3, P4, P5, P6]; rfl)
                      refine pu (i := 3) (N := some 60) (v := ?_) (a' := ?_) HT_.out rfl rfl (by kernel_rfl) (fun _ _ _ h => h) (Or.inl ⟨by rfl, ?_⟩) ?_ ?_
                      rotate_left; (intro w'; go_simp; with_reducible rfl); rotate_left; (simp only [P0, P0n, P2, P3, P4, P5, P6]; rfl)
                      refine pu (i := 4) (N := some 61) (v := ?_) (a' := ?_) HT_.out rfl rfl (by kernel_rfl) (fun _ _ _ h => h) (Or.inl ⟨by rfl, ?_⟩) ?_ ?_
                      rotate_left; (intro w'; go_simp; with_reducible rfl); rotate_left; (simp only [P0, P0n, P2, P3, P4, P5, P6]; rfl)
                      refine pu (i := 5) (N := some 62) (v := ?_) (a' := ?_) HT_.out rfl rfl (by kernel_rfl) (fun _ _ _ h => h) (Or.inl ⟨by rfl, ?_⟩) ?_ ?_
                      rotate_left; (intro w'; go_simp; with_reducible rfl); rotate_left; (simp only [P0, P0n, P2, P3, P4, P5, P6]; rfl)
                      refine pu (i := 6) (N := some 63) (v := ?_) (a' := ?_) HT_.out rfl rfl (by kernel_rfl) (fun _ _ _ h => h) (Or.inl ⟨by rfl, ?_⟩) ?_ ?_
                      rotate_left; (intro w'; go_simp; with_reducible rfl); rotate_left; (simp only [P0, P0n, P2, P3, P4, P5, P6]; rfl)
                      refine pu (i := 8) (N := some 65) (v := ?_) (a' := ?_) HT_.out rfl rfl (by kernel_rfl) (fun _ _ _ h => h) (Or.inl ⟨by rfl, ?_⟩) ?_ ?_
                      rotate_left; (intro w'; go_simp; with_reducible rfl); rotate_left; (simp only [P0, P0n, P2, P3, P4, P5, P6]; rfl)
                      refine pu (i := 9) (N := some 66) (v := ?_) (a' := ?_) HT_.out rfl rfl (by kernel_rfl) (fun _ _ _ h => h) (Or.inl ⟨by rfl, ?_⟩) ?_ ?_
                      rotate_left; (intro w'; go_simp; with_reducible rfl); rotate_left; (simp only [P0, P0n, P2, P3, P4, P5, P6]; rfl)
                      refine pu (i := 10) (N := some 67) (v := ?_) (a' := ?_) HT_.out rfl rfl (by kernel_rfl) (fun _ _ _ h => h) (Or.inl ⟨by rfl, ?_⟩) ?_ ?_
                      rotate_left; (intro w'; go_simp; with_reducible rfl); rotate_left; (simp only [P0, P0n, P2, P3, P4, P5, P6]; rfl)
                      refine tw (i := 7) (N := some 64) (v := ?_) (a' := ?_) HT_.out HW_.out rfl rfl (by kernel_rfl) (fun _ _ _ h => h) (Or.inl ⟨by rfl, ?_⟩) hHeld ?_ ?_
                      rotate_left
                      ·rintro w' ⟨s0, s1⟩
                       go_simp
                       with_reducible rfl
                      rotate_left
                      ·simp only [P0, P0n, P2, P3, P4, P5, P6]
                       rfl
                      refine tw (i := 11) (N := some 68) (v := ?_) (a' := ?_) HT_.out HW_.out rfl rfl (by kernel_rfl) (fun _ _ _ h => h) (Or.inl ⟨by rfl, ?_⟩) hHeld ?_ ?_
                      rotate_left
                      ·rintro w' ⟨s0, s1⟩
                       go_simp
                       with_reducible rfl
                      rotate_left
                      ·simp only [P0, P0n, P2, P3, P4, P5, P6]
                       rfl
                      refine pu (i := 12) (N := some 69) (v := ?_) (a' := ?_) HT_.out rfl rfl (by kernel_rfl) (fun _ _ _ h => h) (Or.inl ⟨by rfl, ?_⟩) ?_ ?_
                      rotate_left; (intro w'; go_simp; with_reducible rfl); rotate_left; (simp only [P0, P0n, P2, P3, P4, P5, P6]; rfl)
                      refine pu (i := 13) (N := some 70) (v := ?_) (a' := ?_) HT_.out rfl rfl (by kernel_rfl) (fun _ _ _ h => h) (Or.inl ⟨by rfl, ?_⟩) ?_ ?_
                      rotate_left; (intro w'; go_simp; with_reducible rfl); rotate_left; (simp only [P0, P0n, P2, P3, P4, P5, P6]; rfl)
                      refine pure_ (i := 14) (N := some 71) (v := undef) (a' := ?_) #[T, T, T, T, T, T, T, T, T, T, T, T, T, T, T, F, F, F, F, F, F, F, F, F, F, F, F, F, F, F, F, F, F, F, F, F, F, F, F, F] rfl rfl (any_of HT_.out (by kernel_rfl)) (fun _ _ _ h => h) (Or.inr ⟨by rfl, rfl⟩) ?_ ?_
                      rotate_left
                      ·simp only [P0, P0n, P2, P3, P4, P5, P6]
                       rfl
                      refine pure_ (i := 15) (N := some 72) (v := undef) (a' := ?_) #[T, T, T, T, T, T, T, T, T, T, T, T, T, T, T, T, F, F, F, F, F, F, F, F, F, F, F, F, F, F, F, F, F, F, F, F, F, F, F, F] rfl rfl (any_of HT_.out (by kernel_rfl)) (fun _ _ _ h => h) (Or.inr ⟨by rfl, rfl⟩) ?_ ?_
                      rotate_left
                      ·simp only [P0, P0n, P2, P3, P4, P5, P6]
                       rfl
                      refine pure_ (i := 16) (N := some 73) (v := undef) (a' := ?_) #[T, T, T, T, T, T, T, T, T, T, T, T, T, T, T, T, T, F, F, F, F, F, F, F, F, F, F, F, F, F, F, F, F, F, F, F, F, F, F, F] rfl rfl (any_of HT_.out (by kernel_rfl)) (fun _ _ _ h => h) (Or.inr ⟨by rfl, rfl⟩) ?_ ?_
                      rotate_left
                      ·simp only [P0, P0n, P2, P3, P4, P5, P6]
                       rfl
                      refine pure_ (i := 17) (N := some 74) (v := undef) (a' := ?_) #[T, T, T, T, T, T, T, T, T, T, T, T, T, T, T, T, T, T, F, F, F, F, F, F, F, F, F, F, F, F, F, F, F, F, F, F, F, F, F, F] rfl rfl (any_of HT_.out (by kernel_rfl)) (fun _ _ _ h => h) (Or.inr ⟨by rfl, rfl⟩) ?_ ?_
                      rotate_left
                      ·simp only [P0, P0n, P2, P3, P4, P5, P6]
                       rfl
                      refine pure_ (i := 18) (N := some 75) (v := undef) (a' := ?_) #[T, T, T, T, T, T, T, T, T, T, T, T, T, T, T, T, T, T, T, F, F, F, F, F, F, F, F, F, F, F, F, F, F, F, F, F, F, F, F, F] rfl rfl (any_of HT_.out (by kernel_rfl)) (fun _ _ _ h => h) (Or.inr ⟨by rfl, rfl⟩) ?_ ?_
                      rotate_left
                      ·simp only [P0, P0n, P2, P3, P4, P5, P6]
                       rfl
                      refine pure_ (i := 19) (N := some 76) (v := undef) (a' := ?_) #[T, T, T, T, T, T, T, T, T, T, T, T, T, T, T, T, T, T, T, T, F, F, F, F, F, F, F, F, F, F, F, F, F, F, F, F, F, F, F, F] rfl rfl (any_of HT_.out (by kernel_rfl)) (fun _ _ _ h => h) (Or.inr ⟨by rfl, rfl⟩) ?_ ?_
                      rotate_left
                      ·simp only [P0, P0n, P2, P3, P4, P5, P6]
                       rfl
                      refine pure_ (i := 20) (N := some 77) (v := undef) (a' := ?_) #[T, T, T, T, T, T, T, T, T, T, T, T, T, T, T, T, T, T, T, T, T, F, F, F, F, F, F, F, F, F, F, F, F, F, F, F, F, F, F, F] rfl rfl (any_of HT_.out (by kernel_rfl)) (fun _ _ _ h => h) (Or.inr ⟨by rfl, rfl⟩) ?_ ?_
                      rotate_left
                      ·simp only [P0, P0n, P2, P3, P4, P5, P6]
                       rfl
                      refine pure_ (i := 21) (N := some 78) (v := undef) (a' := ?_) #[T, T, T, T, T, T, T, T, T, T, T, T, T, T, T, T, T, T, T, T, T, T, F, F, F, F, F, F, F, F, F, F, F, F, F, F, F, F, F, F] rfl rfl (any_of HT_.out (by kernel_rfl)) (fun _ _ _ h => h) (Or.inr ⟨by rfl, rfl⟩) ?_ ?_
                      rotate_left
                      ·simp only [P0, P0n, P2, P3, P4, P5, P6]
                       rfl
                      refine pure_ (i := 22) (N := some 79) (v := undef) (a' := ?_) #[T, T, T, T, T, T, T, T, T, T, T, T, T, T, T, T, T, T, T, T, T, T, T, F, F, F, F, F, F, F, F, F, F, F, F, F, F, F, F, F] rfl rfl (any_of HT_.out (by kernel_rfl)) (fun _ _ _ h => h) (Or.inr ⟨by rfl, rfl⟩) ?_ ?_
                      rotate_left
                      ·simp only [P0, P0n, P2, P3, P4, P5, P6]
                       rfl
                      refine pure_ (i := 23) (N := some 80) (v := undef) (a' := ?_) #[T, T, T, T, T, T, T, T, T, T, T, T, T, T, T, T, T, T, T, T, T, T, T, T, F, F, F, F, F, F, F, F, F, F, F, F, F, F, F, F] rfl rfl (any_of HT_.out (by kernel_rfl)) (fun _ _ _ h => h) (Or.inr ⟨by rfl, rfl⟩) ?_ ?_
                      rotate_left
                      ·simp only [P0, P0n, P2, P3, P4, P5, P6]
                       rfl
                      refine pure_ (i := 24) (N := some 81) (v := undef) (a' := ?_) #[T, T, T, T, T, T, T, T, T, T, T, T, T, T, T, T, T, T, T, T, T, T, T, T, T, F, F, F, F, F, F, F, F, F, F, F, F, F, F, F] rfl rfl (any_of HT_.out (by kernel_rfl)) (fun _ _ _ h => h) (Or.inr ⟨by rfl, rfl⟩) ?_ ?_
                      rotate_left
                      ·simp only [P0, P0n, P2, P3, P4, P5, P6]
                       rfl
                      refine pure_ (i := 25) (N := some 82) (v := undef) (a' := ?_) #[T, T, T, T, T, T, T, T, T, T, T, T, T, T, T, T, T, T, T, T, T, T, T, T, T, T, F, F, F, F, F, F, F, F, F, F, F, F, F, F] rfl rfl (any_of HT_.out (by kernel_rfl)) (fun _ _ _ h => h) (Or.inr ⟨by rfl, rfl⟩) ?_ ?_
                      rotate_left
                      ·simp only [P0, P0n, P2, P3, P4, P5, P6]
                       rfl
                      refine pure_ (i := 26) (N := some 83) (v := undef) (a' := ?_) #[T, T, T, T, T, T, T, T, T, T, T, T, T, T, T, T, T, T, T, T, T, T, T, T, T, T, T, F, F, F, F, F, F, F, F, F, F, F, F, F] rfl rfl (any_of HT_.out (by kernel_rfl)) (fun _ _ _ h => h) (Or.inr ⟨by rfl, rfl⟩) ?_ ?_
                      rotate_left
                      ·simp only [P0, P0n, P2, P3, P4, P5, P6]
                       rfl
                      refine pure_ (i := 27) (N := some 84) (v := undef) (a' := ?_) #[T, T, T, T, T, T, T, T, T, T, T, T, T, T, T, T, T, T, T, T, T, T, T, T, T, T, T, T, F, F, F, F, F, F, F, F, F, F, F, F] rfl rfl (any_of HT_.out (by kernel_rfl)) (fun _ _ _ h => h) (Or.inr ⟨by rfl, rfl⟩) ?_ ?_
                      rotate_left
                      ·simp only [P0, P0n, P2, P3, P4, P5, P6]
                       rfl
                      refine pure_ (i := 28) (N := some 85) (v := undef) (a' := ?_) #[T, T, T, T, T, T, T, T, T, T, T, T, T, T, T, T, T, T, T, T, T, T, T, T, T, T, T, T, T, F, F, F, F, F, F, F, F, F, F, F] rfl rfl (any_of HT_.out (by kernel_rfl)) (fun _ _ _ h => h) (Or.inr ⟨by rfl, rfl⟩) ?_ ?_
                      rotate_left
                      ·simp only [P0, P0n, P2, P3, P4, P5, P6]
                       rfl
                      refine pure_ (i := 29) (N := some 86) (v := undef) (a' := ?_) #[T, T, T, T, T, T, T, T, T, T, T, T, T, T, T, T, T, T, T, T, T, T, T, T, T, T, T, T, T, T, F, F, F, F, F, F, F, F, F, F] rfl rfl (any_of HT_.out (by kernel_rfl)) (fun _ _ _ h => h) (Or.inr ⟨by rfl, rfl⟩) ?_ ?_
                      rotate_left
                      ·simp only [P0, P0n, P2, P3, P4, P5, P6]
                       rfl
                      refine pure_ (i := 30) (N := some 87) (v := undef) (a' := ?_) #[T, T, T, T, T, T, T, T, T, T, T, T, T, T, T, T, T, T, T, T, T, T, T, T, T, T, T, T, T, T, T, F, F, F, F, F, F, F, F, F] rfl rfl (any_of HT_.out (by kernel_rfl)) (fun _ _ _ h => h) (Or.inr ⟨by rfl, rfl⟩) ?_ ?_
                      rotate_left
                      ·simp only [P0, P0n, P2, P3, P4, P5, P6]
                       rfl
                      refine pure_ (i := 31) (N := some 88) (v := undef) (a' := ?_) #[T, T, T, T, T, T, T, T, T, T, T, T, T, T, T, T, T, T, T, T, T, T, T, T, T, T, T, T, T, T, T, T, F, F, F, F, F, F, F, F] rfl rfl (any_of HT_.out (by kernel_rfl)) (fun _ _ _ h => h) (Or.inr ⟨by rfl, rfl⟩) ?_ ?_
                      rotate_left
                      ·simp only [P0, P0n, P2, P3, P4, P5, P6]
                       rfl
                      refine pure_ (i := 32) (N := some 89) (v := undef) (a' := ?_) #[T, T, T, T, T, T, T, T, T, T, T, T, T, T, T, T, T, T, T, T, T, T, T, T, T, T, T, T, T, T, T, T, T, F, F, F, F, F, F, F] rfl rfl (any_of HT_.out (by kernel_rfl)) (fun _ _ _ h => h) (Or.inr ⟨by rfl, rfl⟩) ?_ ?_
                      rotate_left
                      ·simp only [P0, P0n, P2, P3, P4, P5, P6]
                       rfl
                      refine pure_ (i := 33) (N := some 90) (v := undef) (a' := ?_) #[T, T, T, T, T, T, T, T, T, T, T, T, T, T, T, T, T, T, T, T, T, T, T, T, T, T, T, T, T, T, T, T, T, T, F, F, F, F, F, F] rfl rfl (any_of HT_.out (by kernel_rfl)) (fun _ _ _ h => h) (Or.inr ⟨by rfl, rfl⟩) ?_ ?_
                      rotate_left
                      ·simp only [P0, P0n, P2, P3, P4, P5, P6]
                       rfl
                      refine pure_ (i := 34) (N := some 91) (v := undef) (a' := ?_) #[T, T, T, T, T, T, T, T, T, T, T, T, T, T, T, T, T, T, T, T, T, T, T, T, T, T, T, T, T, T, T, T, T, T, T, F, F, F, F, F] rfl rfl (any_of HT_.out (by kernel_rfl)) (fun _ _ _ h => h) (Or.inr ⟨by rfl, rfl⟩) ?_ ?_
                      rotate_left
                      ·simp only [P0, P0n, P2, P3, P4, P5, P6]
                       rfl
                      refine pure_ (i := 35) (N := some 92) (v := undef) (a' := ?_) #[T, T, T, T, T, T, T, T, T, T, T, T, T, T, T, T, T, T, T, T, T, T, T, T, T, T, T, T, T, T, T, T, T, T, T, T, F, F, F, F] rfl rfl (any_of HT_.out (by kernel_rfl)) (fun _ _ _ h => h) (Or.inr ⟨by rfl, rfl⟩) ?_ ?_
                      rotate_left
                      ·simp only [P0, P0n, P2, P3, P4, P5, P6]
                       rfl
                      refine pure_ (i := 36) (N := some 93) (v := undef) (a' := ?_) #[T, T, T, T, T, T, T, T, T, T, T, T, T, T, T, T, T, T, T, T, T, T, T, T, T, T, T, T, T, T, T, T, T, T, T, T, T, F, F, F] rfl rfl (any_of HT_.out (by kernel_rfl)) (fun _ _ _ h => h) (Or.inr ⟨by rfl, rfl⟩) ?_ ?_
                      rotate_left
                      ·simp only [P0, P0n, P2, P3, P4, P5, P6]
                       rfl
                      refine pure_ (i := 37) (N := some 94) (v := undef) (a' := ?_) #[T, T, T, T, T, T, T, T, T, T, T, T, T, T, T, T, T, T, T, T, T, T, T, T, T, T, T, T, T, T, T, T, T, T, T, T, T, T, F, F] rfl rfl (any_of HT_.out (by kernel_rfl)) (fun _ _ _ h => h) (Or.inr ⟨by rfl, rfl⟩) ?_ ?_
                      rotate_left
                      ·simp only [P0, P0n, P2, P3, P4, P5, P6]
                       rfl
                      refine pu (i := 38) (N := some 95) (v := ?_) (a' := ?_) HT_.out rfl rfl (by kernel_rfl) (fun _ _ _ h => h) (Or.inl ⟨by rfl, ?_⟩) ?_ ?_
                      rotate_left; (intro w'; go_simp; with_reducible rfl); rotate_left; (simp only [P0, P0n, P2, P3, P4, P5, P6]; rfl)
                      refine pu (i := 39) (N := some 96) (v := ?_) (a' := ?_) HT_.out rfl rfl (by kernel_rfl) (fun _ _ _ h => h) (Or.inl ⟨by rfl, ?_⟩) ?_ ?_
                      rotate_left; (intro w'; go_simp; with_reducible rfl); rotate_left; (simp only [P0, P0n, P2, P3, P4, P5, P6]; rfl)
                      refine done_ (done_of HT_.out (by kernel_rfl)) ?_
                      try go_wp2
                      go_ret
                      exact ⟨by first | rfl | (simp [errW_none, errW_some] <;> rfl) | (simp [*, errW_none, errW_some] <;> rfl), by repeat (first | (with_reducible first | exact HB.out | apply below_alloc | apply pw_below_drewN | apply below_drew1 | refine below_set ?_ GE103.out | refine below_set ?_ GE108.out) | exact HB.out)⟩
                     ·rw [if_neg c38] at H
                      have c38b0 : ((rd l1 x21_2) == (rd l1 x52_4)) = false := beq_eq_false_iff_ne.mpr c38
                      have c38b1 : ((rd l1 x21_2) != (rd l1 x52_4)) = true := bne_iff_ne.mpr c38
                      by_cases c44 : (rd l1 x21_2) < (rd l1 x52_4)
                      ·rw [if_pos c44] at H
                       have c44b0 : decide ((rd l1 x21_2) < (rd l1 x52_4)) = true := decide_eq_true c44
                       clear c44
                       replace H := Option.bind_eq_some_iff.mp H
                       obtain ⟨t115, A450, H⟩ := H
                       replace H : (if (wrap64 ((rd l1 x52_4) - (rd l1 x21_2))) < t115 then (some false) else (impl_StripFits.l1 k4 l0 l1 x21_2 l0 (l0.length : Int) x21_2 l0 (l0.length : Int) (wrap64 (x52_4 + 1)) ((rd_T54 l0 x21_2).f0) ((rd_T54 l0 x21_2).f1) ((rd_T54 l0 x21_2).f2) ((rd_T54 l0 x21_2).f3) ((rd_T54 l0 x21_2).f4) ((rd_T54 l0 x21_2).f5))) = some r := H
                       have A45 := Aside0.mk A450
                       clear A450
                       by_cases c46 : (wrap64 ((rd l1 x52_4) - (rd l1 x21_2))) < t115
                       ·rw [if_pos c46] at H
                        have c46b0 : decide ((wrap64 ((rd l1 x52_4) - (rd l1 x21_2))) < t115) = true := decide_eq_true c46
                        clear c46
                        obtain rfl := Option.some.inj H
                        have p107 : 0 ≤ (x52_4 : Int) := of_decide_eq_true (by first | (with_reducible assumption) | assumption)
                        have q107 : x52_4 < (l0.length : Int) := of_decide_eq_true (by first | (with_reducible assumption) | assumption)
                        obtain ⟨ad107, e107, hx107_0, hx107_1, hx107_2, hx107_3, hx107_4, hx107_5⟩ := at_T54 HR0.out x52_4 p107 q107
                        obtain rfl : ad102 = ad107 := (by injection e107)
                        replace hx107_0 := pw_cell_below HB.out hx107_0
                        replace hx107_1 := pw_cell_below HB.out hx107_1
                        replace hx107_2 := pw_cell_below HB.out hx107_2
                        replace hx107_3 := pw_cell_below HB.out hx107_3
                        replace hx107_4 := pw_cell_below HB.out hx107_4
                        replace hx107_5 := pw_cell_below HB.out hx107_5
                        replace p107 := eq_true p107
                        replace q107 := eq_true q107
                        try go_wp2_with (first | ((with_reducible refine gate_dst (N := 8) rfl ?_); (try (refine gate_guard (by rfl) ?_; dsimp only)); refine box_event ?hg (N := 8) ?hd (cs := #[.string (⟨#[]⟩ : ByteArray), .bool false, .int .i64 0, .int .i64 0, .int .i64 0, .int .i64 0]) (t := 54) ?hr ?_; (case hd => rfl); (case hg => rfl); (case hr => first | (go_simp; done) | (go_simp; rfl)); intro gb108 hg w47 hbox hb; have n0_ := Aside0.mk (blk_below (g := gb103) (o := .cells #[.string ((rd_T54 l0 x21_2).f0), .bool ((rd_T54 l0 x21_2).f1), .int .i64 ((rd_T54 l0 x21_2).f2), .int .i64 ((rd_T54 l0 x21_2).f3), .int .i64 ((rd_T54 l0 x21_2).f4), .int .i64 ((rd_T54 l0 x21_2).f5)] 54 (0, 0)) (ex BK103.out) hb); have n1_ := Aside0.mk (below_step (by repeat (first | (with_reducible first | exact HB.out | apply below_alloc | apply pw_below_drewN | apply below_drew1 | refine below_set ?_ GE103.out) | exact HB.out)) hb); have n2_ := Aside0.mk (hbox); have n3_ := Aside0.mk ((by rw [hg]; exact (below_size (by repeat (first | (with_reducible first | exact HB.out | apply below_alloc | apply pw_below_drewN | apply below_drew1 | refine below_set ?_ GE103.out) | exact HB.out))) : w.heap.size ≤ gb108)); have n4_ := Aside0.mk ((by rw [hg]; exact (below_size (by repeat (first | (with_reducible first | exact HB.out | apply below_alloc | apply pw_below_drewN | apply below_drew1 | refine below_set ?_ GE103.out) | exact HB.out))) : w.heap.size ≤ gb108)); have n5_ := Aside0.mk ((by rw [hg]; exact Nat.ne_of_lt (blk_lt (g := gb103) (o := .cells #[.string ((rd_T54 l0 x21_2).f0), .bool ((rd_T54 l0 x21_2).f1), .int .i64 ((rd_T54 l0 x21_2).f2), .int .i64 ((rd_T54 l0 x21_2).f3), .int .i64 ((rd_T54 l0 x21_2).f4), .int .i64 ((rd_T54 l0 x21_2).f5)] 54 (0, 0)) (ex BK103.out)) : gb103 ≠ gb108)); have n6_ := Aside0.mk ((by rw [hg]; exact Nat.ne_of_gt (blk_lt (g := gb103) (o := .cells #[.string ((rd_T54 l0 x21_2).f0), .bool ((rd_T54 l0 x21_2).f1), .int .i64 ((rd_T54 l0 x21_2).f2), .int .i64 ((rd_T54 l0 x21_2).f3), .int .i64 ((rd_T54 l0 x21_2).f4), .int .i64 ((rd_T54 l0 x21_2).f5)] 54 (0, 0)) (ex BK103.out)) : gb108 ≠ gb103)); clear BK103; clear HB; have BK103 := n0_; have HB := n1_; have BK108 := n2_; have GW108 := n3_; have GE108 := n4_; have NB103_108 := n5_; have NB108_103 := n6_; clear n0_ n1_ n2_ n3_ n4_ n5_ n6_; clear hb hbox hg; have hnb48 := NB108_103.out; have hnc48 := NB103_108.out; obtain ⟨hcz49_0, hcz49_1, hcz49_2, hcz49_3, hcz49_4, hcz49_5⟩ := bc6 BK108.out; obtain ⟨hfz49_0, hfz49_1, hfz49_2, hfz49_3, hfz49_4, hfz49_5⟩ := bf6 BK108.out))
                        have n0_ : Aside0 (((((((w47.setCell ⟨gb108, 0, none⟩ (.string ((rd_T54 l0 x52_4).f0))).setCell ⟨gb108, 1, none⟩ (.bool ((rd_T54 l0 x52_4).f1))).setCell ⟨gb108, 2, none⟩ (.int .i64 ((rd_T54 l0 x52_4).f2))).setCell ⟨gb108, 3, none⟩ (.int .i64 ((rd_T54 l0 x52_4).f3))).setCell ⟨gb108, 4, none⟩ (.int .i64 ((rd_T54 l0 x52_4).f4))).setCell ⟨gb108, 5, none⟩ (.int .i64 ((rd_T54 l0 x52_4).f5))).heap[gb103]? = some (.cells #[.string ((rd_T54 l0 x21_2).f0), .bool ((rd_T54 l0 x21_2).f1), .int .i64 ((rd_T54 l0 x21_2).f2), .int .i64 ((rd_T54 l0 x21_2).f3), .int .i64 ((rd_T54 l0 x21_2).f4), .int .i64 ((rd_T54 l0 x21_2).f5)] 54 (0, 0))) := ⟨by refine px ?_; refine blk_far ?_ NB103_108.out _; refine px ?_; refine blk_far ?_ NB103_108.out _; refine px ?_; refine blk_far ?_ NB103_108.out _; refine px ?_; refine blk_far ?_ NB103_108.out _; refine px ?_; refine blk_far ?_ NB103_108.out _; refine px ?_; refine blk_far ?_ NB103_108.out _; refine px ?_; exact BK103.out⟩
                        have n1_ : Aside0 (((((((w47.setCell ⟨gb108, 0, none⟩ (.string ((rd_T54 l0 x52_4).f0))).setCell ⟨gb108, 1, none⟩ (.bool ((rd_T54 l0 x52_4).f1))).setCell ⟨gb108, 2, none⟩ (.int .i64 ((rd_T54 l0 x52_4).f2))).setCell ⟨gb108, 3, none⟩ (.int .i64 ((rd_T54 l0 x52_4).f3))).setCell ⟨gb108, 4, none⟩ (.int .i64 ((rd_T54 l0 x52_4).f4))).setCell ⟨gb108, 5, none⟩ (.int .i64 ((rd_T54 l0 x52_4).f5))).heap[gb108]? = some (.cells #[.string ((rd_T54 l0 x52_4).f0), .bool ((rd_T54 l0 x52_4).f1), .int .i64 ((rd_T54 l0 x52_4).f2), .int .i64 ((rd_T54 l0 x52_4).f3), .int .i64 ((rd_T54 l0 x52_4).f4), .int .i64 ((rd_T54 l0 x52_4).f5)] 54 (0, 0))) := ⟨by refine px ?_; refine blk_put (cs := #[.string ((rd_T54 l0 x52_4).f0), .bool ((rd_T54 l0 x52_4).f1), .int .i64 ((rd_T54 l0 x52_4).f2), .int .i64 ((rd_T54 l0 x52_4).f3), .int .i64 ((rd_T54 l0 x52_4).f4), .int .i64 0]) ?_ 5 _ rfl; refine px ?_; refine blk_put (cs := #[.string ((rd_T54 l0 x52_4).f0), .bool ((rd_T54 l0 x52_4).f1), .int .i64 ((rd_T54 l0 x52_4).f2), .int .i64 ((rd_T54 l0 x52_4).f3), .int .i64 0, .int .i64 0]) ?_ 4 _ rfl; refine px ?_; refine blk_put (cs := #[.string ((rd_T54 l0 x52_4).f0), .bool ((rd_T54 l0 x52_4).f1), .int .i64 ((rd_T54 l0 x52_4).f2), .int .i64 0, .int .i64 0, .int .i64 0]) ?_ 3 _ rfl; refine px ?_; refine blk_put (cs := #[.string ((rd_T54 l0 x52_4).f0), .bool ((rd_T54 l0 x52_4).f1), .int .i64 0, .int .i64 0, .int .i64 0, .int .i64 0]) ?_ 2 _ rfl; refine px ?_; refine blk_put (cs := #[.string ((rd_T54 l0 x52_4).f0), .bool false, .int .i64 0, .int .i64 0, .int .i64 0, .int .i64 0]) ?_ 1 _ rfl; refine px ?_; refine blk_put (cs := #[.string (⟨#[]⟩ : ByteArray), .bool false, .int .i64 0, .int .i64 0, .int .i64 0, .int .i64 0]) ?_ 0 _ rfl; refine px ?_; exact BK108.out⟩
                        have n2_ : Aside0 (Below w.heap.size w ((((((w47.setCell ⟨gb108, 0, none⟩ (.string ((rd_T54 l0 x52_4).f0))).setCell ⟨gb108, 1, none⟩ (.bool ((rd_T54 l0 x52_4).f1))).setCell ⟨gb108, 2, none⟩ (.int .i64 ((rd_T54 l0 x52_4).f2))).setCell ⟨gb108, 3, none⟩ (.int .i64 ((rd_T54 l0 x52_4).f3))).setCell ⟨gb108, 4, none⟩ (.int .i64 ((rd_T54 l0 x52_4).f4))).setCell ⟨gb108, 5, none⟩ (.int .i64 ((rd_T54 l0 x52_4).f5)))) := ⟨by repeat (first | (with_reducible first | exact HB.out | apply below_alloc | apply pw_below_drewN | apply below_drew1 | refine below_set ?_ GE103.out | refine below_set ?_ GE108.out) | exact HB.out)⟩
                        (try clear BK103)
                        (try clear BK108)
                        (try clear HB)
                        generalize ((((((w47.setCell ⟨gb108, 0, none⟩ (.string ((rd_T54 l0 x52_4).f0))).setCell ⟨gb108, 1, none⟩ (.bool ((rd_T54 l0 x52_4).f1))).setCell ⟨gb108, 2, none⟩ (.int .i64 ((rd_T54 l0 x52_4).f2))).setCell ⟨gb108, 3, none⟩ (.int .i64 ((rd_T54 l0 x52_4).f3))).setCell ⟨gb108, 4, none⟩ (.int .i64 ((rd_T54 l0 x52_4).f4))).setCell ⟨gb108, 5, none⟩ (.int .i64 ((rd_T54 l0 x52_4).f5))) = w50 at n0_ n1_ n2_ ⊢
                        have BK103 := n0_
                        have BK108 := n1_
                        have HB := n2_
                        clear n0_ n1_ n2_
                        have n0_ := Aside0.mk (blk_drew BK103.out)
                        have n1_ := Aside0.mk (blk_drew BK108.out)
                        have n2_ := Aside0.mk (below_drew1 HB.out)
                        clear BK103
                        clear BK108
                        clear HB
                        have BK103 := n0_
                        have BK108 := n1_
                        have HB := n2_
                        clear n0_ n1_ n2_
                        have p109 : 0 ≤ (x21_2 : Int) := of_decide_eq_true (by first | (with_reducible assumption) | assumption)
                        have q109 : x21_2 < (l1.length : Int) := of_decide_eq_true (by first | (with_reducible assumption) | assumption)
                        obtain ⟨ad109, e109, hx109_0⟩ := Kd.at_int HR1.out x21_2 p109 q109
                        have hw109_0 := hx109_0
                        cases e109
                        replace hx109_0 := pw_cell_below HB.out hx109_0
                        replace p109 := eq_true p109
                        replace q109 := eq_true q109
                        have p110 : 0 ≤ (x52_4 : Int) := of_decide_eq_true (by first | (with_reducible assumption) | assumption)
                        have q110 : x52_4 < (l1.length : Int) := of_decide_eq_true (by first | (with_reducible assumption) | assumption)
                        obtain ⟨ad110, e110, hx110_0⟩ := Kd.at_int HR1.out x52_4 p110 q110
                        have hw110_0 := hx110_0
                        obtain rfl : ad109 = ad110 := (by injection e110)
                        replace hx110_0 := pw_cell_below HB.out hx110_0
                        replace p110 := eq_true p110
                        replace q110 := eq_true q110
                        have p111 : 0 ≤ (x21_2 : Int) := of_decide_eq_true (by first | (with_reducible assumption) | assumption)
                        have q111 : x21_2 < (l1.length : Int) := of_decide_eq_true (by first | (with_reducible assumption) | assumption)
                        obtain ⟨ad111, e111, hx111_0⟩ := Kd.at_int HR1.out x21_2 p111 q111
                        have hw111_0 := hx111_0
                        obtain rfl : ad109 = ad111 := (by injection e111)
                        replace hx111_0 := pw_cell_below HB.out hx111_0
                        replace p111 := eq_true p111
                        replace q111 := eq_true q111
                        have p112 : 0 ≤ (x52_4 : Int) := of_decide_eq_true (by first | (with_reducible assumption) | assumption)
                        have q112 : x52_4 < (l1.length : Int) := of_decide_eq_true (by first | (with_reducible assumption) | assumption)
                        obtain ⟨ad112, e112, hx112_0⟩ := Kd.at_int HR1.out x52_4 p112 q112
                        have hw112_0 := hx112_0
                        obtain rfl : ad109 = ad112 := (by injection e112)
                        replace hx112_0 := pw_cell_below HB.out hx112_0
                        replace p112 := eq_true p112
                        replace q112 := eq_true q112
                        have p113 : 0 ≤ (x52_4 : Int) := of_decide_eq_true (by first | (with_reducible assumption) | assumption)
                        have q113 : x52_4 < (l1.length : Int) := of_decide_eq_true (by first | (with_reducible assumption) | assumption)
                        obtain ⟨ad113, e113, hx113_0⟩ := Kd.at_int HR1.out x52_4 p113 q113
                        have hw113_0 := hx113_0
                        obtain rfl : ad109 = ad113 := (by injection e113)
                        replace hx113_0 := pw_cell_below HB.out hx113_0
                        replace p113 := eq_true p113
                        replace q113 := eq_true q113
                        have p114 : 0 ≤ (x21_2 : Int) := of_decide_eq_true (by first | (with_reducible assumption) | assumption)
                        have q114 : x21_2 < (l1.length : Int) := of_decide_eq_true (by first | (with_reducible assumption) | assumption)
                        obtain ⟨ad114, e114, hx114_0⟩ := Kd.at_int HR1.out x21_2 p114 q114
                        have hw114_0 := hx114_0
                        obtain rfl : ad109 = ad114 := (by injection e114)
                        replace hx114_0 := pw_cell_below HB.out hx114_0
                        replace p114 := eq_true p114
                        replace q114 := eq_true q114
                        refine start_ (n := 40) (S := fun w' => w'.cell? ⟨gb103, 0, none⟩ = some (.string ((rd_T54 l0 x21_2).f0)) ∧ w'.cell? ⟨gb103, 1, none⟩ = some (.bool ((rd_T54 l0 x21_2).f1)) ∧ w'.cell? ⟨gb103, 2, none⟩ = some (.int .i64 ((rd_T54 l0 x21_2).f2)) ∧ w'.cell? ⟨gb103, 3, none⟩ = some (.int .i64 ((rd_T54 l0 x21_2).f3)) ∧ w'.cell? ⟨gb103, 4, none⟩ = some (.int .i64 ((rd_T54 l0 x21_2).f4)) ∧ w'.cell? ⟨gb103, 5, none⟩ = some (.int .i64 ((rd_T54 l0 x21_2).f5)) ∧ w'.cell? ⟨gb108, 0, none⟩ = some (.string ((rd_T54 l0 x52_4).f0)) ∧ w'.cell? ⟨gb108, 1, none⟩ = some (.bool ((rd_T54 l0 x52_4).f1)) ∧ w'.cell? ⟨gb108, 2, none⟩ = some (.int .i64 ((rd_T54 l0 x52_4).f2)) ∧ w'.cell? ⟨gb108, 3, none⟩ = some (.int .i64 ((rd_T54 l0 x52_4).f3)) ∧ w'.cell? ⟨gb108, 4, none⟩ = some (.int .i64 ((rd_T54 l0 x52_4).f4)) ∧ w'.cell? ⟨gb108, 5, none⟩ = some (.int .i64 ((rd_T54 l0 x52_4).f5)) ∧ w'.cell? (ad109.add (x21_2).toNat) = some (.int .i64 (rd l1 x21_2)) ∧ w'.cell? (ad109.add (x52_4).toNat) = some (.int .i64 (rd l1 x52_4)) ∧ w'.cell? (ad109.add (x21_2).toNat) = some (.int .i64 (rd l1 x21_2)) ∧ w'.cell? (ad109.add (x52_4).toNat) = some (.int .i64 (rd l1 x52_4)) ∧ w'.cell? (ad109.add (x52_4).toNat) = some (.int .i64 (rd l1 x52_4)) ∧ w'.cell? (ad109.add (x21_2).toNat) = some (.int .i64 (rd l1 x21_2))) (ds := []) #[F, F, F, F, F, F, F, F, F, F, F, F, F, F, F, F, F, F, F, F, F, F, F, F, F, F, F, F, F, F, F, F, F, F, F, F, F, F, F, F] (by kernel_rfl) rfl rfl ⟨(blk_cell BK103.out 0).trans rfl, (blk_cell BK103.out 1).trans rfl, (blk_cell BK103.out 2).trans rfl, (blk_cell BK103.out 3).trans rfl, (blk_cell BK103.out 4).trans rfl, (blk_cell BK103.out 5).trans rfl, (blk_cell BK108.out 0).trans rfl, (blk_cell BK108.out 1).trans rfl, (blk_cell BK108.out 2).trans rfl, (blk_cell BK108.out 3).trans rfl, (blk_cell BK108.out 4).trans rfl, (blk_cell BK108.out 5).trans rfl, (pw_cell_below HB.out hw109_0), (pw_cell_below HB.out hw110_0), (pw_cell_below HB.out hw111_0), (pw_cell_below HB.out hw112_0), (pw_cell_below HB.out hw113_0), (pw_cell_below HB.out hw114_0)⟩ (fun hHeld => ?_); refine with_tabW impl_StripFits.tab11 impl_StripFits.bits11 (fun HT_ HW_ => ?_)
                        generalize w50.drew = w51 at BK103 BK108 HB hx109_0 hx110_0 hx111_0 hx112_0 hx113_0 hx114_0 hHeld ⊢
                        refine pu (i := 0) (N := some 57) (v := ?_) (a' := ?_) HT_.out rfl rfl (by kernel_rfl) (fun _ _ _ h => h) (Or.inl ⟨by rfl, ?_⟩) ?_ ?_
                        rotate_left; (intro w'; go_simp; with_reducible rfl); rotate_left; (simp only [P0, P0n, P2, P3, P4, P5, P6]; rfl)
                        refine pu (i := 1) (N := some 58) (v := ?_) (a' := ?_) HT_.out rfl rfl (by kernel_rfl) (fun _ _ _ h => h) (Or.inl ⟨by rfl, ?_⟩) ?_ ?_
                        rotate_left; (intro w'; go_simp; with_reducible rfl); rotate_left; (simp only [P0, P0n, P2, P3, P4, P5, P6]; rfl)
                        refine pu (i := 2) (N := some 59) (v := ?_) (a' := ?_) HT_.out rfl rfl (by kernel_rfl) (fun _ _ _ h => h) (Or.inl ⟨by rfl, ?_⟩) ?_ ?_
                        rotate_left; (intro w'; go_simp; with_reducible rfl); rotate_left; (simp only [P0, P0n, P2, P3, P4, P5, P6]; rfl)
                        refine pu (i := 3) (N := some 60) (v := ?_) (a' := ?_) HT_.out rfl rfl (by kernel_rfl) (fun _ _ _ h => h) (Or.inl ⟨by rfl, ?_⟩) ?_ ?_
                        rotate_left; (intro w'; go_simp; with_reducible rfl); rotate_left; (simp only [P0, P0n, P2, P3, P4, P5, P6]; rfl)
                        refine pu (i := 4) (N := some 61) (v := ?_) (a' := ?_) HT_.out rfl rfl (by kernel_rfl) (fun _ _ _ h => h) (Or.inl ⟨by rfl, ?_⟩) ?_ ?_
                        rotate_left; (intro w'; go_simp; with_reducible rfl); rotate_left; (simp only [P0, P0n, P2, P3, P4, P5, P6]; rfl)
                        refine pu (i := 5) (N := some 62) (v := ?_) (a' := ?_) HT_.out rfl rfl (by kernel_rfl) (fun _ _ _ h => h) (Or.inl ⟨by rfl, ?_⟩) ?_ ?_
                        rotate_left; (intro w'; go_simp; with_reducible rfl); rotate_left; (simp only [P0, P0n, P2, P3, P4, P5, P6]; rfl)
                        refine pu (i := 6) (N := some 63) (v := ?_) (a' := ?_) HT_.out rfl rfl (by kernel_rfl) (fun _ _ _ h => h) (Or.inl ⟨by rfl, ?_⟩) ?_ ?_
                        rotate_left; (intro w'; go_simp; with_reducible rfl); rotate_left; (simp only [P0, P0n, P2, P3, P4, P5, P6]; rfl)
                        refine pu (i := 8) (N := some 65) (v := ?_) (a' := ?_) HT_.out rfl rfl (by kernel_rfl) (fun _ _ _ h => h) (Or.inl ⟨by rfl, ?_⟩) ?_ ?_
                        rotate_left; (intro w'; go_simp; with_reducible rfl); rotate_left; (simp only [P0, P0n, P2, P3, P4, P5, P6]; rfl)
                        refine pu (i := 9) (N := some 66) (v := ?_) (a' := ?_) HT_.out rfl rfl (by kernel_rfl) (fun _ _ _ h => h) (Or.inl ⟨by rfl, ?_⟩) ?_ ?_
                        rotate_left; (intro w'; go_simp; with_reducible rfl); rotate_left; (simp only [P0, P0n, P2, P3, P4, P5, P6]; rfl)
                        refine pu (i := 10) (N := some 67) (v := ?_) (a' := ?_) HT_.out rfl rfl (by kernel_rfl) (fun _ _ _ h => h) (Or.inl ⟨by rfl, ?_⟩) ?_ ?_
                        rotate_left; (intro w'; go_simp; with_reducible rfl); rotate_left; (simp only [P0, P0n, P2, P3, P4, P5, P6]; rfl)
                        refine tw (i := 7) (N := some 64) (v := ?_) (a' := ?_) HT_.out HW_.out rfl rfl (by kernel_rfl) (fun _ _ _ h => h) (Or.inl ⟨by rfl, ?_⟩) hHeld ?_ ?_
                        rotate_left
                        ·rintro w' ⟨s0, s1, s2, s3, s4, s5, s6, s7, s8, s9, s10, s11, s12, s13, s14, s15, s16, s17⟩
                         go_simp
                         with_reducible rfl
                        rotate_left
                        ·simp only [P0, P0n, P2, P3, P4, P5, P6]
                         rfl
                        refine tw (i := 11) (N := some 68) (v := ?_) (a' := ?_) HT_.out HW_.out rfl rfl (by kernel_rfl) (fun _ _ _ h => h) (Or.inl ⟨by rfl, ?_⟩) hHeld ?_ ?_
                        rotate_left
                        ·rintro w' ⟨s0, s1, s2, s3, s4, s5, s6, s7, s8, s9, s10, s11, s12, s13, s14, s15, s16, s17⟩
                         go_simp
                         with_reducible rfl
                        rotate_left
                        ·simp only [P0, P0n, P2, P3, P4, P5, P6]
                         rfl
                        refine pu (i := 12) (N := some 69) (v := ?_) (a' := ?_) HT_.out rfl rfl (by kernel_rfl) (fun _ _ _ h => h) (Or.inl ⟨by rfl, ?_⟩) ?_ ?_
                        rotate_left; (intro w'; go_simp; with_reducible rfl); rotate_left; (simp only [P0, P0n, P2, P3, P4, P5, P6]; rfl)
                        refine pu (i := 13) (N := some 70) (v := ?_) (a' := ?_) HT_.out rfl rfl (by kernel_rfl) (fun _ _ _ h => h) (Or.inl ⟨by rfl, ?_⟩) ?_ ?_
                        rotate_left; (intro w'; go_simp; with_reducible rfl); rotate_left; (simp only [P0, P0n, P2, P3, P4, P5, P6]; rfl)
                        refine pu (i := 14) (N := some 71) (v := ?_) (a' := ?_) HT_.out rfl rfl (by kernel_rfl) (fun _ _ _ h => h) (Or.inl ⟨by rfl, ?_⟩) ?_ ?_
                        rotate_left; (intro w'; go_simp; with_reducible rfl); rotate_left; (simp only [P0, P0n, P2, P3, P4, P5, P6]; rfl)
                        refine pu (i := 15) (N := some 72) (v := ?_) (a' := ?_) HT_.out rfl rfl (by kernel_rfl) (fun _ _ _ h => h) (Or.inl ⟨by rfl, ?_⟩) ?_ ?_
                        rotate_left; (intro w'; go_simp; with_reducible rfl); rotate_left; (simp only [P0, P0n, P2, P3, P4, P5, P6]; rfl)
                        refine pu (i := 16) (N := some 73) (v := ?_) (a' := ?_) HT_.out rfl rfl (by kernel_rfl) (fun _ _ _ h => h) (Or.inl ⟨by rfl, ?_⟩) ?_ ?_
                        rotate_left; (intro w'; go_simp; with_reducible rfl); rotate_left; (simp only [P0, P0n, P2, P3, P4, P5, P6]; rfl)
                        refine pu (i := 18) (N := some 75) (v := ?_) (a' := ?_) HT_.out rfl rfl (by kernel_rfl) (fun _ _ _ h => h) (Or.inl ⟨by rfl, ?_⟩) ?_ ?_
                        rotate_left; (intro w'; go_simp; with_reducible rfl); rotate_left; (simp only [P0, P0n, P2, P3, P4, P5, P6]; rfl)
                        refine pu (i := 19) (N := some 76) (v := ?_) (a' := ?_) HT_.out rfl rfl (by kernel_rfl) (fun _ _ _ h => h) (Or.inl ⟨by rfl, ?_⟩) ?_ ?_
                        rotate_left; (intro w'; go_simp; with_reducible rfl); rotate_left; (simp only [P0, P0n, P2, P3, P4, P5, P6]; rfl)
                        refine pu (i := 20) (N := some 77) (v := ?_) (a' := ?_) HT_.out rfl rfl (by kernel_rfl) (fun _ _ _ h => h) (Or.inl ⟨by rfl, ?_⟩) ?_ ?_
                        rotate_left; (intro w'; go_simp; with_reducible rfl); rotate_left; (simp only [P0, P0n, P2, P3, P4, P5, P6]; rfl)
                        refine tw (i := 17) (N := some 74) (v := ?_) (a' := ?_) HT_.out HW_.out rfl rfl (by kernel_rfl) (fun _ _ _ h => h) (Or.inl ⟨by rfl, ?_⟩) hHeld ?_ ?_
                        rotate_left
                        ·rintro w' ⟨s0, s1, s2, s3, s4, s5, s6, s7, s8, s9, s10, s11, s12, s13, s14, s15, s16, s17⟩
                         go_simp
                         with_reducible rfl
                        rotate_left
                        ·simp only [P0, P0n, P2, P3, P4, P5, P6]
                         rfl
                        refine tw (i := 21) (N := some 78) (v := ?_) (a' := ?_) HT_.out HW_.out rfl rfl (by kernel_rfl) (fun _ _ _ h => h) (Or.inl ⟨by rfl, ?_⟩) hHeld ?_ ?_
                        rotate_left
                        ·rintro w' ⟨s0, s1, s2, s3, s4, s5, s6, s7, s8, s9, s10, s11, s12, s13, s14, s15, s16, s17⟩
                         go_simp
                         with_reducible rfl
                        rotate_left
                        ·simp only [P0, P0n, P2, P3, P4, P5, P6]
                         rfl
                        refine pu (i := 22) (N := some 79) (v := ?_) (a' := ?_) HT_.out rfl rfl (by kernel_rfl) (fun _ _ _ h => h) (Or.inl ⟨by rfl, ?_⟩) ?_ ?_
                        rotate_left; (intro w'; go_simp; with_reducible rfl); rotate_left; (simp only [P0, P0n, P2, P3, P4, P5, P6]; rfl)
                        refine pu (i := 23) (N := some 80) (v := ?_) (a' := ?_) HT_.out rfl rfl (by kernel_rfl) (fun _ _ _ h => h) (Or.inl ⟨by rfl, ?_⟩) ?_ ?_
                        rotate_left; (intro w'; go_simp; with_reducible rfl); rotate_left; (simp only [P0, P0n, P2, P3, P4, P5, P6]; rfl)
                        refine pu (i := 24) (N := some 81) (v := ?_) (a' := ?_) HT_.out rfl rfl (by kernel_rfl) (fun _ _ _ h => h) (Or.inl ⟨by rfl, ?_⟩) ?_ ?_
                        rotate_left; (intro w'; go_simp; with_reducible rfl); rotate_left; (simp only [P0, P0n, P2, P3, P4, P5, P6]; rfl)
                        refine pu (i := 25) (N := some 82) (v := ?_) (a' := ?_) HT_.out rfl rfl (by kernel_rfl) (fun _ _ _ h => h) (Or.inl ⟨by rfl, ?_⟩) ?_ ?_
                        rotate_left; (intro w'; go_simp; with_reducible rfl); rotate_left; (simp only [P0, P0n, P2, P3, P4, P5, P6]; rfl)
                        refine pu (i := 26) (N := some 83) (v := ?_) (a' := ?_) HT_.out rfl rfl (by kernel_rfl) (fun _ _ _ h => h) (Or.inl ⟨by rfl, ?_⟩) ?_ ?_
                        rotate_left; (intro w'; go_simp; with_reducible rfl); rotate_left; (simp only [P0, P0n, P2, P3, P4, P5, P6]; rfl)
                        refine pu (i := 28) (N := some 85) (v := ?_) (a' := ?_) HT_.out rfl rfl (by kernel_rfl) (fun _ _ _ h => h) (Or.inl ⟨by rfl, ?_⟩) ?_ ?_
                        rotate_left; (intro w'; go_simp; with_reducible rfl); rotate_left; (simp only [P0, P0n, P2, P3, P4, P5, P6]; rfl)
                        refine pu (i := 29) (N := some 86) (v := ?_) (a' := ?_) HT_.out rfl rfl (by kernel_rfl) (fun _ _ _ h => h) (Or.inl ⟨by rfl, ?_⟩) ?_ ?_
                        rotate_left; (intro w'; go_simp; with_reducible rfl); rotate_left; (simp only [P0, P0n, P2, P3, P4, P5, P6]; rfl)
                        refine pu (i := 30) (N := some 87) (v := ?_) (a' := ?_) HT_.out rfl rfl (by kernel_rfl) (fun _ _ _ h => h) (Or.inl ⟨by rfl, ?_⟩) ?_ ?_
                        rotate_left; (intro w'; go_simp; with_reducible rfl); rotate_left; (simp only [P0, P0n, P2, P3, P4, P5, P6]; rfl)
                        refine tw (i := 27) (N := some 84) (v := ?_) (a' := ?_) HT_.out HW_.out rfl rfl (by kernel_rfl) (fun _ _ _ h => h) (Or.inl ⟨by rfl, ?_⟩) hHeld ?_ ?_
                        rotate_left
                        ·rintro w' ⟨s0, s1, s2, s3, s4, s5, s6, s7, s8, s9, s10, s11, s12, s13, s14, s15, s16, s17⟩
                         go_simp
                         with_reducible rfl
                        rotate_left
                        ·simp only [P0, P0n, P2, P3, P4, P5, P6]
                         rfl
                        refine tw (i := 31) (N := some 88) (v := ?_) (a' := ?_) HT_.out HW_.out rfl rfl (by kernel_rfl) (fun _ _ _ h => h) (Or.inl ⟨by rfl, ?_⟩) hHeld ?_ ?_
                        rotate_left
                        ·rintro w' ⟨s0, s1, s2, s3, s4, s5, s6, s7, s8, s9, s10, s11, s12, s13, s14, s15, s16, s17⟩
                         go_simp
                         with_reducible rfl
                        rotate_left
                        ·simp only [P0, P0n, P2, P3, P4, P5, P6]
                         rfl
                        refine pu (i := 32) (N := some 89) (v := ?_) (a' := ?_) HT_.out rfl rfl (by kernel_rfl) (fun _ _ _ h => h) (Or.inl ⟨by rfl, ?_⟩) ?_ ?_
                        rotate_left; (intro w'; go_simp; with_reducible rfl); rotate_left; (simp only [P0, P0n, P2, P3, P4, P5, P6]; rfl)
                        refine tw (i := 33) (N := some 90) (v := ?_) (a' := ?_) HT_.out HW_.out rfl rfl (by kernel_rfl) (fun _ _ _ h => h) (Or.inl ⟨by rfl, ?_⟩) hHeld ?_ ?_
                        rotate_left
                        ·rintro w' ⟨s0, s1, s2, s3, s4, s5, s6, s7, s8, s9, s10, s11, s12, s13, s14, s15, s16, s17⟩
                         go_simp
                         with_reducible rfl
                        rotate_left
                        ·simp only [P0, P0n, P2, P3, P4, P5, P6]
                         rfl
                        refine tw (i := 34) (N := some 91) (v := ?_) (a' := ?_) HT_.out HW_.out rfl rfl (by kernel_rfl) (fun _ _ _ h => h) (Or.inl ⟨by rfl, ?_⟩) hHeld ?_ ?_
                        rotate_left
                        ·rintro w' ⟨s0, s1, s2, s3, s4, s5, s6, s7, s8, s9, s10, s11, s12, s13, s14, s15, s16, s17⟩
                         go_simp
                         with_reducible rfl
                        rotate_left
                        ·simp only [P0, P0n, P2, P3, P4, P5, P6]
                         rfl
                        refine one_ (i := 35) (N := some 92) #[T, T, T, T, T, T, T, T, T, T, T, T, T, T, T, T, T, T, T, T, T, T, T, T, T, T, T, T, T, T, T, T, T, T, T, T, F, F, F, F] rfl rfl (one_of HT_.out (by kernel_rfl)) (by decide) (fun K hK => ?_)
                        refine goes_ Try.func37 (by kernel_rfl) rfl #[.agg #[.string ((rd_T54 l0 x21_2).f0), .bool ((rd_T54 l0 x21_2).f1), .int .i64 ((rd_T54 l0 x21_2).f2), .int .i64 ((rd_T54 l0 x21_2).f3), .int .i64 ((rd_T54 l0 x21_2).f4), .int .i64 ((rd_T54 l0 x21_2).f5)], .agg #[.string ((rd_T54 l0 x52_4).f0), .bool ((rd_T54 l0 x52_4).f1), .int .i64 ((rd_T54 l0 x52_4).f2), .int .i64 ((rd_T54 l0 x52_4).f3), .int .i64 ((rd_T54 l0 x52_4).f4), .int .i64 ((rd_T54 l0 x52_4).f5)]] (by rfl) rfl rfl (by (try simp only [List.map_toArray, List.map_cons, List.map_nil]); first | done | rfl | (simp only [List.length_drop, List.length_take]; rfl)) ?_
                        with_reducible refine (impl_StripGap.calls k4 ((rd_T54 l0 x21_2).f0) ((rd_T54 l0 x21_2).f1) ((rd_T54 l0 x21_2).f2) ((rd_T54 l0 x21_2).f3) ((rd_T54 l0 x21_2).f4) ((rd_T54 l0 x21_2).f5) ((rd_T54 l0 x52_4).f0) ((rd_T54 l0 x52_4).f1) ((rd_T54 l0 x52_4).f2) ((rd_T54 l0 x52_4).f3) ((rd_T54 l0 x52_4).f4) ((rd_T54 l0 x52_4).f5) t115 _ A45.out).mono ?_
                        rintro e w52 ⟨rfl, hb⟩
                        refine ⟨_, rfl, ?_⟩
                        have n0_ := Aside0.mk (blk_below (g := gb103) (o := .cells #[.string ((rd_T54 l0 x21_2).f0), .bool ((rd_T54 l0 x21_2).f1), .int .i64 ((rd_T54 l0 x21_2).f2), .int .i64 ((rd_T54 l0 x21_2).f3), .int .i64 ((rd_T54 l0 x21_2).f4), .int .i64 ((rd_T54 l0 x21_2).f5)] 54 (0, 0)) (ex BK103.out) hb)
                        have n1_ := Aside0.mk (blk_below (g := gb108) (o := .cells #[.string ((rd_T54 l0 x52_4).f0), .bool ((rd_T54 l0 x52_4).f1), .int .i64 ((rd_T54 l0 x52_4).f2), .int .i64 ((rd_T54 l0 x52_4).f3), .int .i64 ((rd_T54 l0 x52_4).f4), .int .i64 ((rd_T54 l0 x52_4).f5)] 54 (0, 0)) (ex BK108.out) hb)
                        have n2_ := Aside0.mk (below_step (by repeat (first | (with_reducible first | exact HB.out | apply below_alloc | apply pw_below_drewN | apply below_drew1 | refine below_set ?_ GE103.out | refine below_set ?_ GE108.out) | exact HB.out)) hb)
                        clear BK103
                        clear BK108
                        clear HB
                        have BK103 := n0_
                        have BK108 := n1_
                        have HB := n2_
                        clear n0_ n1_ n2_
                        (try clear hb)
                        (try clear hb2)
                        (try clear hk)
                        (try clear hi)
                        refine hK.out _ _ ⟨(blk_cell BK103.out 0).trans rfl, (blk_cell BK103.out 1).trans rfl, (blk_cell BK103.out 2).trans rfl, (blk_cell BK103.out 3).trans rfl, (blk_cell BK103.out 4).trans rfl, (blk_cell BK103.out 5).trans rfl, (blk_cell BK108.out 0).trans rfl, (blk_cell BK108.out 1).trans rfl, (blk_cell BK108.out 2).trans rfl, (blk_cell BK108.out 3).trans rfl, (blk_cell BK108.out 4).trans rfl, (blk_cell BK108.out 5).trans rfl, (pw_cell_below HB.out hw109_0), (pw_cell_below HB.out hw110_0), (pw_cell_below HB.out hw111_0), (pw_cell_below HB.out hw112_0), (pw_cell_below HB.out hw113_0), (pw_cell_below HB.out hw114_0)⟩ (fun hHeld => ?_)
                        clear hK K
                        refine norm_ (a' := ?_) ?_ ?_
                        rotate_left
                        ·show Act.put _ (some 92) _ = _
                         simp only [P0, P0n, P2, P3, P4, P5, P6]
                         rfl
                        refine pu (i := 36) (N := some 93) (v := ?_) (a' := ?_) HT_.out rfl rfl (by kernel_rfl) (fun _ _ _ h => h) (Or.inl ⟨by rfl, ?_⟩) ?_ ?_
                        rotate_left; (intro w'; go_simp; with_reducible rfl); rotate_left; (simp only [P0, P0n, P2, P3, P4, P5, P6]; rfl)
                        refine pu (i := 37) (N := some 94) (v := ?_) (a' := ?_) HT_.out rfl rfl (by kernel_rfl) (fun _ _ _ h => h) (Or.inl ⟨by rfl, ?_⟩) ?_ ?_
                        rotate_left; (intro w'; go_simp; with_reducible rfl); rotate_left; (simp only [P0, P0n, P2, P3, P4, P5, P6]; rfl)
                        refine pu (i := 38) (N := some 95) (v := ?_) (a' := ?_) HT_.out rfl rfl (by kernel_rfl) (fun _ _ _ h => h) (Or.inl ⟨by rfl, ?_⟩) ?_ ?_
                        rotate_left; (intro w'; go_simp; with_reducible rfl); rotate_left; (simp only [P0, P0n, P2, P3, P4, P5, P6]; rfl)
                        refine pu (i := 39) (N := some 96) (v := ?_) (a' := ?_) HT_.out rfl rfl (by kernel_rfl) (fun _ _ _ h => h) (Or.inl ⟨by rfl, ?_⟩) ?_ ?_
                        rotate_left; (intro w'; go_simp; with_reducible rfl); rotate_left; (simp only [P0, P0n, P2, P3, P4, P5, P6]; rfl)
                        refine done_ (done_of HT_.out (by kernel_rfl)) ?_
                        try go_wp2
                        go_ret
                        exact ⟨by first | rfl | (simp [errW_none, errW_some] <;> rfl) | (simp [*, errW_none, errW_some] <;> rfl), by repeat (first | (with_reducible first | exact HB.out | apply below_alloc | apply pw_below_drewN | apply below_drew1 | refine below_set ?_ GE103.out | refine below_set ?_ GE108.out) | exact HB.out)⟩
                       ·rw [if_neg c46] at H
                        have c46b0 : decide ((wrap64 ((rd l1 x52_4) - (rd l1 x21_2))) < t115) = false := decide_eq_false c46
                        clear c46
                        have H' := Aside0.mk H
                        clear H
                        have p107 : 0 ≤ (x52_4 : Int) := of_decide_eq_true (by first | (with_reducible assumption) | assumption)
                        have q107 : x52_4 < (l0.length : Int) := of_decide_eq_true (by first | (with_reducible assumption) | assumption)
                        obtain ⟨ad107, e107, hx107_0, hx107_1, hx107_2, hx107_3, hx107_4, hx107_5⟩ := at_T54 HR0.out x52_4 p107 q107
                        obtain rfl : ad102 = ad107 := (by injection e107)
                        replace hx107_0 := pw_cell_below HB.out hx107_0
                        replace hx107_1 := pw_cell_below HB.out hx107_1
                        replace hx107_2 := pw_cell_below HB.out hx107_2
                        replace hx107_3 := pw_cell_below HB.out hx107_3
                        replace hx107_4 := pw_cell_below HB.out hx107_4
                        replace hx107_5 := pw_cell_below HB.out hx107_5
                        replace p107 := eq_true p107
                        replace q107 := eq_true q107
                        try go_wp2_with (first | ((with_reducible refine gate_dst (N := 8) rfl ?_); (try (refine gate_guard (by rfl) ?_; dsimp only)); refine box_event ?hg (N := 8) ?hd (cs := #[.string (⟨#[]⟩ : ByteArray), .bool false, .int .i64 0, .int .i64 0, .int .i64 0, .int .i64 0]) (t := 54) ?hr ?_; (case hd => rfl); (case hg => rfl); (case hr => first | (go_simp; done) | (go_simp; rfl)); intro gb108 hg w53 hbox hb; have n0_ := Aside0.mk (blk_below (g := gb103) (o := .cells #[.string ((rd_T54 l0 x21_2).f0), .bool ((rd_T54 l0 x21_2).f1), .int .i64 ((rd_T54 l0 x21_2).f2), .int .i64 ((rd_T54 l0 x21_2).f3), .int .i64 ((rd_T54 l0 x21_2).f4), .int .i64 ((rd_T54 l0 x21_2).f5)] 54 (0, 0)) (ex BK103.out) hb); have n1_ := Aside0.mk (below_step (by repeat (first | (with_reducible first | exact HB.out | apply below_alloc | apply pw_below_drewN | apply below_drew1 | refine below_set ?_ GE103.out) | exact HB.out)) hb); have n2_ := Aside0.mk (hbox); have n3_ := Aside0.mk ((by rw [hg]; exact (below_size (by repeat (first | (with_reducible first | exact HB.out | apply below_alloc | apply pw_below_drewN | apply below_drew1 | refine below_set ?_ GE103.out) | exact HB.out))) : w.heap.size ≤ gb108)); have n4_ := Aside0.mk ((by rw [hg]; exact (below_size (by repeat (first | (with_reducible first | exact HB.out | apply below_alloc | apply pw_below_drewN | apply below_drew1 | refine below_set ?_ GE103.out) | exact HB.out))) : w.heap.size ≤ gb108)); have n5_ := Aside0.mk ((by rw [hg]; exact Nat.ne_of_lt (blk_lt (g := gb103) (o := .cells #[.string ((rd_T54 l0 x21_2).f0), .bool ((rd_T54 l0 x21_2).f1), .int .i64 ((rd_T54 l0 x21_2).f2), .int .i64 ((rd_T54 l0 x21_2).f3), .int .i64 ((rd_T54 l0 x21_2).f4), .int .i64 ((rd_T54 l0 x21_2).f5)] 54 (0, 0)) (ex BK103.out)) : gb103 ≠ gb108)); have n6_ := Aside0.mk ((by rw [hg]; exact Nat.ne_of_gt (blk_lt (g := gb103) (o := .cells #[.string ((rd_T54 l0 x21_2).f0), .bool ((rd_T54 l0 x21_2).f1), .int .i64 ((rd_T54 l0 x21_2).f2), .int .i64 ((rd_T54 l0 x21_2).f3), .int .i64 ((rd_T54 l0 x21_2).f4), .int .i64 ((rd_T54 l0 x21_2).f5)] 54 (0, 0)) (ex BK103.out)) : gb108 ≠ gb103)); clear BK103; clear HB; have BK103 := n0_; have HB := n1_; have BK108 := n2_; have GW108 := n3_; have GE108 := n4_; have NB103_108 := n5_; have NB108_103 := n6_; clear n0_ n1_ n2_ n3_ n4_ n5_ n6_; clear hb hbox hg; have hnb54 := NB108_103.out; have hnc54 := NB103_108.out; obtain ⟨hcz55_0, hcz55_1, hcz55_2, hcz55_3, hcz55_4, hcz55_5⟩ := bc6 BK108.out; obtain ⟨hfz55_0, hfz55_1, hfz55_2, hfz55_3, hfz55_4, hfz55_5⟩ := bf6 BK108.out))
                        have n0_ : Aside0 (((((((w53.setCell ⟨gb108, 0, none⟩ (.string ((rd_T54 l0 x52_4).f0))).setCell ⟨gb108, 1, none⟩ (.bool ((rd_T54 l0 x52_4).f1))).setCell ⟨gb108, 2, none⟩ (.int .i64 ((rd_T54 l0 x52_4).f2))).setCell ⟨gb108, 3, none⟩ (.int .i64 ((rd_T54 l0 x52_4).f3))).setCell ⟨gb108, 4, none⟩ (.int .i64 ((rd_T54 l0 x52_4).f4))).setCell ⟨gb108, 5, none⟩ (.int .i64 ((rd_T54 l0 x52_4).f5))).heap[gb103]? = some (.cells #[.string ((rd_T54 l0 x21_2).f0), .bool ((rd_T54 l0 x21_2).f1), .int .i64 ((rd_T54 l0 x21_2).f2), .int .i64 ((rd_T54 l0 x21_2).f3), .int .i64 ((rd_T54 l0 x21_2).f4), .int .i64 ((rd_T54 l0 x21_2).f5)] 54 (0, 0))) := ⟨by refine px ?_; refine blk_far ?_ NB103_108.out _; refine px ?_; refine blk_far ?_ NB103_108.out _; refine px ?_; refine blk_far ?_ NB103_108.out _; refine px ?_; refine blk_far ?_ NB103_108.out _; refine px ?_; refine blk_far ?_ NB103_108.out _; refine px ?_; refine blk_far ?_ NB103_108.out _; refine px ?_; exact BK103.out⟩
                        have n1_ : Aside0 (((((((w53.setCell ⟨gb108, 0, none⟩ (.string ((rd_T54 l0 x52_4).f0))).setCell ⟨gb108, 1, none⟩ (.bool ((rd_T54 l0 x52_4).f1))).setCell ⟨gb108, 2, none⟩ (.int .i64 ((rd_T54 l0 x52_4).f2))).setCell ⟨gb108, 3, none⟩ (.int .i64 ((rd_T54 l0 x52_4).f3))).setCell ⟨gb108, 4, none⟩ (.int .i64 ((rd_T54 l0 x52_4).f4))).setCell ⟨gb108, 5, none⟩ (.int .i64 ((rd_T54 l0 x52_4).f5))).heap[gb108]? = some (.cells #[.string ((rd_T54 l0 x52_4).f0), .bool ((rd_T54 l0 x52_4).f1), .int .i64 ((rd_T54 l0 x52_4).f2), .int .i64 ((rd_T54 l0 x52_4).f3), .int .i64 ((rd_T54 l0 x52_4).f4), .int .i64 ((rd_T54 l0 x52_4).f5)] 54 (0, 0))) := ⟨by refine px ?_; refine blk_put (cs := #[.string ((rd_T54 l0 x52_4).f0), .bool ((rd_T54 l0 x52_4).f1), .int .i64 ((rd_T54 l0 x52_4).f2), .int .i64 ((rd_T54 l0 x52_4).f3), .int .i64 ((rd_T54 l0 x52_4).f4), .int .i64 0]) ?_ 5 _ rfl; refine px ?_; refine blk_put (cs := #[.string ((rd_T54 l0 x52_4).f0), .bool ((rd_T54 l0 x52_4).f1), .int .i64 ((rd_T54 l0 x52_4).f2), .int .i64 ((rd_T54 l0 x52_4).f3), .int .i64 0, .int .i64 0]) ?_ 4 _ rfl; refine px ?_; refine blk_put (cs := #[.string ((rd_T54 l0 x52_4).f0), .bool ((rd_T54 l0 x52_4).f1), .int .i64 ((rd_T54 l0 x52_4).f2), .int .i64 0, .int .i64 0, .int .i64 0]) ?_ 3 _ rfl; refine px ?_; refine blk_put (cs := #[.string ((rd_T54 l0 x52_4).f0), .bool ((rd_T54 l0 x52_4).f1), .int .i64 0, .int .i64 0, .int .i64 0, .int .i64 0]) ?_ 2 _ rfl; refine px ?_; refine blk_put (cs := #[.string ((rd_T54 l0 x52_4).f0), .bool false, .int .i64 0, .int .i64 0, .int .i64 0, .int .i64 0]) ?_ 1 _ rfl; refine px ?_; refine blk_put (cs := #[.string (⟨#[]⟩ : ByteArray), .bool false, .int .i64 0, .int .i64 0, .int .i64 0, .int .i64 0]) ?_ 0 _ rfl; refine px ?_; exact BK108.out⟩
                        have n2_ : Aside0 (Below w.heap.size w ((((((w53.setCell ⟨gb108, 0, none⟩ (.string ((rd_T54 l0 x52_4).f0))).setCell ⟨gb108, 1, none⟩ (.bool ((rd_T54 l0 x52_4).f1))).setCell ⟨gb108, 2, none⟩ (.int .i64 ((rd_T54 l0 x52_4).f2))).setCell ⟨gb108, 3, none⟩ (.int .i64 ((rd_T54 l0 x52_4).f3))).setCell ⟨gb108, 4, none⟩ (.int .i64 ((rd_T54 l0 x52_4).f4))).setCell ⟨gb108, 5, none⟩ (.int .i64 ((rd_T54 l0 x52_4).f5)))) := ⟨by repeat (first | (with_reducible first | exact HB.out | apply below_alloc | apply pw_below_drewN | apply below_drew1 | refine below_set ?_ GE103.out | refine below_set ?_ GE108.out) | exact HB.out)⟩
                        (try clear BK103)
                        (try clear BK108)
                        (try clear HB)
                        generalize ((((((w53.setCell ⟨gb108, 0, none⟩ (.string ((rd_T54 l0 x52_4).f0))).setCell ⟨gb108, 1, none⟩ (.bool ((rd_T54 l0 x52_4).f1))).setCell ⟨gb108, 2, none⟩ (.int .i64 ((rd_T54 l0 x52_4).f2))).setCell ⟨gb108, 3, none⟩ (.int .i64 ((rd_T54 l0 x52_4).f3))).setCell ⟨gb108, 4, none⟩ (.int .i64 ((rd_T54 l0 x52_4).f4))).setCell ⟨gb108, 5, none⟩ (.int .i64 ((rd_T54 l0 x52_4).f5))) = w56 at n0_ n1_ n2_ ⊢
                        have BK103 := n0_
                        have BK108 := n1_
                        have HB := n2_
                        clear n0_ n1_ n2_
                        have n0_ := Aside0.mk (blk_drew BK103.out)
                        have n1_ := Aside0.mk (blk_drew BK108.out)
                        have n2_ := Aside0.mk (below_drew1 HB.out)
                        clear BK103
                        clear BK108
                        clear HB
                        have BK103 := n0_
                        have BK108 := n1_
                        have HB := n2_
                        clear n0_ n1_ n2_
                        have p109 : 0 ≤ (x21_2 : Int) := of_decide_eq_true (by first | (with_reducible assumption) | assumption)
                        have q109 : x21_2 < (l1.length : Int) := of_decide_eq_true (by first | (with_reducible assumption) | assumption)
                        obtain ⟨ad109, e109, hx109_0⟩ := Kd.at_int HR1.out x21_2 p109 q109
                        have hw109_0 := hx109_0
                        cases e109
                        replace hx109_0 := pw_cell_below HB.out hx109_0
                        replace p109 := eq_true p109
                        replace q109 := eq_true q109
                        have p110 : 0 ≤ (x52_4 : Int) := of_decide_eq_true (by first | (with_reducible assumption) | assumption)
                        have q110 : x52_4 < (l1.length : Int) := of_decide_eq_true (by first | (with_reducible assumption) | assumption)
                        obtain ⟨ad110, e110, hx110_0⟩ := Kd.at_int HR1.out x52_4 p110 q110
                        have hw110_0 := hx110_0
                        obtain rfl : ad109 = ad110 := (by injection e110)
                        replace hx110_0 := pw_cell_below HB.out hx110_0
                        replace p110 := eq_true p110
                        replace q110 := eq_true q110
                        have p111 : 0 ≤ (x21_2 : Int) := of_decide_eq_true (by first | (with_reducible assumption) | assumption)
                        have q111 : x21_2 < (l1.length : Int) := of_decide_eq_true (by first | (with_reducible assumption) | assumption)
                        obtain ⟨ad111, e111, hx111_0⟩ := Kd.at_int HR1.out x21_2 p111 q111
                        have hw111_0 := hx111_0
                        obtain rfl : ad109 = ad111 := (by injection e111)
                        replace hx111_0 := pw_cell_below HB.out hx111_0
                        replace p111 := eq_true p111
                        replace q111 := eq_true q111
                        have p112 : 0 ≤ (x52_4 : Int) := of_decide_eq_true (by first | (with_reducible assumption) | assumption)
                        have q112 : x52_4 < (l1.length : Int) := of_decide_eq_true (by first | (with_reducible assumption) | assumption)
                        obtain ⟨ad112, e112, hx112_0⟩ := Kd.at_int HR1.out x52_4 p112 q112
                        have hw112_0 := hx112_0
                        obtain rfl : ad109 = ad112 := (by injection e112)
                        replace hx112_0 := pw_cell_below HB.out hx112_0
                        replace p112 := eq_true p112
                        replace q112 := eq_true q112
                        have p113 : 0 ≤ (x52_4 : Int) := of_decide_eq_true (by first | (with_reducible assumption) | assumption)
                        have q113 : x52_4 < (l1.length : Int) := of_decide_eq_true (by first | (with_reducible assumption) | assumption)
                        obtain ⟨ad113, e113, hx113_0⟩ := Kd.at_int HR1.out x52_4 p113 q113
                        have hw113_0 := hx113_0
                        obtain rfl : ad109 = ad113 := (by injection e113)
                        replace hx113_0 := pw_cell_below HB.out hx113_0
                        replace p113 := eq_true p113
                        replace q113 := eq_true q113
                        have p114 : 0 ≤ (x21_2 : Int) := of_decide_eq_true (by first | (with_reducible assumption) | assumption)
                        have q114 : x21_2 < (l1.length : Int) := of_decide_eq_true (by first | (with_reducible assumption) | assumption)
                        obtain ⟨ad114, e114, hx114_0⟩ := Kd.at_int HR1.out x21_2 p114 q114
                        have hw114_0 := hx114_0
                        obtain rfl : ad109 = ad114 := (by injection e114)
                        replace hx114_0 := pw_cell_below HB.out hx114_0
                        replace p114 := eq_true p114
                        replace q114 := eq_true q114
                        refine start_ (n := 40) (S := fun w' => w'.cell? ⟨gb103, 0, none⟩ = some (.string ((rd_T54 l0 x21_2).f0)) ∧ w'.cell? ⟨gb103, 1, none⟩ = some (.bool ((rd_T54 l0 x21_2).f1)) ∧ w'.cell? ⟨gb103, 2, none⟩ = some (.int .i64 ((rd_T54 l0 x21_2).f2)) ∧ w'.cell? ⟨gb103, 3, none⟩ = some (.int .i64 ((rd_T54 l0 x21_2).f3)) ∧ w'.cell? ⟨gb103, 4, none⟩ = some (.int .i64 ((rd_T54 l0 x21_2).f4)) ∧ w'.cell? ⟨gb103, 5, none⟩ = some (.int .i64 ((rd_T54 l0 x21_2).f5)) ∧ w'.cell? ⟨gb108, 0, none⟩ = some (.string ((rd_T54 l0 x52_4).f0)) ∧ w'.cell? ⟨gb108, 1, none⟩ = some (.bool ((rd_T54 l0 x52_4).f1)) ∧ w'.cell? ⟨gb108, 2, none⟩ = some (.int .i64 ((rd_T54 l0 x52_4).f2)) ∧ w'.cell? ⟨gb108, 3, none⟩ = some (.int .i64 ((rd_T54 l0 x52_4).f3)) ∧ w'.cell? ⟨gb108, 4, none⟩ = some (.int .i64 ((rd_T54 l0 x52_4).f4)) ∧ w'.cell? ⟨gb108, 5, none⟩ = some (.int .i64 ((rd_T54 l0 x52_4).f5)) ∧ w'.cell? (ad109.add (x21_2).toNat) = some (.int .i64 (rd l1 x21_2)) ∧ w'.cell? (ad109.add (x52_4).toNat) = some (.int .i64 (rd l1 x52_4)) ∧ w'.cell? (ad109.add (x21_2).toNat) = some (.int .i64 (rd l1 x21_2)) ∧ w'.cell? (ad109.add (x52_4).toNat) = some (.int .i64 (rd l1 x52_4)) ∧ w'.cell? (ad109.add (x52_4).toNat) = some (.int .i64 (rd l1 x52_4)) ∧ w'.cell? (ad109.add (x21_2).toNat) = some (.int .i64 (rd l1 x21_2))) (ds := []) #[F, F, F, F, F, F, F, F, F, F, F, F, F, F, F, F, F, F, F, F, F, F, F, F, F, F, F, F, F, F, F, F, F, F, F, F, F, F, F, F] (by kernel_rfl) rfl rfl ⟨(blk_cell BK103.out 0).trans rfl, (blk_cell BK103.out 1).trans rfl, (blk_cell BK103.out 2).trans rfl, (blk_cell BK103.out 3).trans rfl, (blk_cell BK103.out 4).trans rfl, (blk_cell BK103.out 5).trans rfl, (blk_cell BK108.out 0).trans rfl, (blk_cell BK108.out 1).trans rfl, (blk_cell BK108.out 2).trans rfl, (blk_cell BK108.out 3).trans rfl, (blk_cell BK108.out 4).trans rfl, (blk_cell BK108.out 5).trans rfl, (pw_cell_below HB.out hw109_0), (pw_cell_below HB.out hw110_0), (pw_cell_below HB.out hw111_0), (pw_cell_below HB.out hw112_0), (pw_cell_below HB.out hw113_0), (pw_cell_below HB.out hw114_0)⟩ (fun hHeld => ?_); refine with_tabW impl_StripFits.tab11 impl_StripFits.bits11 (fun HT_ HW_ => ?_)
                        generalize w56.drew = w57 at BK103 BK108 HB hx109_0 hx110_0 hx111_0 hx112_0 hx113_0 hx114_0 hHeld ⊢
                        refine pu (i := 0) (N := some 57) (v := ?_) (a' := ?_) HT_.out rfl rfl (by kernel_rfl) (fun _ _ _ h => h) (Or.inl ⟨by rfl, ?_⟩) ?_ ?_
                        rotate_left; (intro w'; go_simp; with_reducible rfl); rotate_left; (simp only [P0, P0n, P2, P3, P4, P5, P6]; rfl)
                        refine pu (i := 1) (N := some 58) (v := ?_) (a' := ?_) HT_.out rfl rfl (by kernel_rfl) (fun _ _ _ h => h) (Or.inl ⟨by rfl, ?_⟩) ?_ ?_
                        rotate_left; (intro w'; go_simp; with_reducible rfl); rotate_left; (simp only [P0, P0n, P2, P3, P4, P5, P6]; rfl)
                        refine pu (i := 2) (N := some 59) (v := ?_) (a' := ?_) HT_.out rfl rfl (by kernel_rfl) (fun _ _ _ h => h) (Or.inl ⟨by rfl, ?_⟩) ?_ ?_
                        rotate_left; (intro w'; go_simp; with_reducible rfl); rotate_left; (simp only [P0, P0n, P2, P3, P4, P5, P6]; rfl)
                        refine pu (i := 3) (N := some 60) (v := ?_) (a' := ?_) HT_.out rfl rfl (by kernel_rfl) (fun _ _ _ h => h) (Or.inl ⟨by rfl, ?_⟩) ?_ ?_
                        rotate_left; (intro w'; go_simp; with_reducible rfl); rotate_left; (simp only [P0, P0n, P2, P3, P4, P5, P6]; rfl)
                        refine pu (i := 4) (N := some 61) (v := ?_) (a' := ?_) HT_.out rfl rfl (by kernel_rfl) (fun _ _ _ h => h) (Or.inl ⟨by rfl, ?_⟩) ?_ ?_
                        rotate_left; (intro w'; go_simp; with_reducible rfl); rotate_left; (simp only [P0, P0n, P2, P3, P4, P5, P6]; rfl)
                        refine pu (i := 5) (N := some 62) (v := ?_) (a' := ?_) HT_.out rfl rfl (by kernel_rfl) (fun _ _ _ h => h) (Or.inl ⟨by rfl, ?_⟩) ?_ ?_
                        rotate_left; (intro w'; go_simp; with_reducible rfl); rotate_left; (simp only [P0, P0n, P2, P3, P4, P5, P6]; rfl)
                        refine pu (i := 6) (N := some 63) (v := ?_) (a' := ?_) HT_.out rfl rfl (by kernel_rfl) (fun _ _ _ h => h) (Or.inl ⟨by rfl, ?_⟩) ?_ ?_
                        rotate_left; (intro w'; go_simp; with_reducible rfl); rotate_left; (simp only [P0, P0n, P2, P3, P4, P5, P6]; rfl)
                        refine pu (i := 8) (N := some 65) (v := ?_) (a' := ?_) HT_.out rfl rfl (by kernel_rfl) (fun _ _ _ h => h) (Or.inl ⟨by rfl, ?_⟩) ?_ ?_
                        rotate_left; (intro w'; go_simp; with_reducible rfl); rotate_left; (simp only [P0, P0n, P2, P3, P4, P5, P6]; rfl)
                        refine pu (i := 9) (N := some 66) (v := ?_) (a' := ?_) HT_.out rfl rfl (by kernel_rfl) (fun _ _ _ h => h) (Or.inl ⟨by rfl, ?_⟩) ?_ ?_
                        rotate_left; (intro w'; go_simp; with_reducible rfl); rotate_left; (simp only [P0, P0n, P2, P3, P4, P5, P6]; rfl)
                        refine pu (i := 10) (N := some 67) (v := ?_) (a' := ?_) HT_.out rfl rfl (by kernel_rfl) (fun _ _ _ h => h) (Or.inl ⟨by rfl, ?_⟩) ?_ ?_
                        rotate_left; (intro w'; go_simp; with_reducible rfl); rotate_left; (simp only [P0, P0n, P2, P3, P4, P5, P6]; rfl)
                        refine tw (i := 7) (N := some 64) (v := ?_) (a' := ?_) HT_.out HW_.out rfl rfl (by kernel_rfl) (fun _ _ _ h => h) (Or.inl ⟨by rfl, ?_⟩) hHeld ?_ ?_
                        rotate_left
                        ·rintro w' ⟨s0, s1, s2, s3, s4, s5, s6, s7, s8, s9, s10, s11, s12, s13, s14, s15, s16, s17⟩
                         go_simp
                         with_reducible rfl
                        rotate_left
                        ·simp only [P0, P0n, P2, P3, P4, P5, P6]
                         rfl
                        refine tw (i := 11) (N := some 68) (v := ?_) (a' := ?_) HT_.out HW_.out rfl rfl (by kernel_rfl) (fun _ _ _ h => h) (Or.inl ⟨by rfl, ?_⟩) hHeld ?_ ?_
                        rotate_left
                        ·rintro w' ⟨s0, s1, s2, s3, s4, s5, s6, s7, s8, s9, s10, s11, s12, s13, s14, s15, s16, s17⟩
                         go_simp
                         with_reducible rfl
                        rotate_left
                        ·simp only [P0, P0n, P2, P3, P4, P5, P6]
                         rfl
                        refine pu (i := 12) (N := some 69) (v := ?_) (a' := ?_) HT_.out rfl rfl (by kernel_rfl) (fun _ _ _ h => h) (Or.inl ⟨by rfl, ?_⟩) ?_ ?_
                        rotate_left; (intro w'; go_simp; with_reducible rfl); rotate_left; (simp only [P0, P0n, P2, P3, P4, P5, P6]; rfl)
                        refine pu (i := 13) (N := some 70) (v := ?_) (a' := ?_) HT_.out rfl rfl (by kernel_rfl) (fun _ _ _ h => h) (Or.inl ⟨by rfl, ?_⟩) ?_ ?_
                        rotate_left; (intro w'; go_simp; with_reducible rfl); rotate_left; (simp only [P0, P0n, P2, P3, P4, P5, P6]; rfl)
                        refine pu (i := 14) (N := some 71) (v := ?_) (a' := ?_) HT_.out rfl rfl (by kernel_rfl) (fun _ _ _ h => h) (Or.inl ⟨by rfl, ?_⟩) ?_ ?_
                        rotate_left; (intro w'; go_simp; with_reducible rfl); rotate_left; (simp only [P0, P0n, P2, P3, P4, P5, P6]; rfl)
                        refine pu (i := 15) (N := some 72) (v := ?_) (a' := ?_) HT_.out rfl rfl (by kernel_rfl) (fun _ _ _ h => h) (Or.inl ⟨by rfl, ?_⟩) ?_ ?_
                        rotate_left; (intro w'; go_simp; with_reducible rfl); rotate_left; (simp only [P0, P0n, P2, P3, P4, P5, P6]; rfl)
                        refine pu (i := 16) (N := some 73) (v := ?_) (a' := ?_) HT_.out rfl rfl (by kernel_rfl) (fun _ _ _ h => h) (Or.inl ⟨by rfl, ?_⟩) ?_ ?_
                        rotate_left; (intro w'; go_simp; with_reducible rfl); rotate_left; (simp only [P0, P0n, P2, P3, P4, P5, P6]; rfl)
                        refine pu (i := 18) (N := some 75) (v := ?_) (a' := ?_) HT_.out rfl rfl (by kernel_rfl) (fun _ _ _ h => h) (Or.inl ⟨by rfl, ?_⟩) ?_ ?_
                        rotate_left; (intro w'; go_simp; with_reducible rfl); rotate_left; (simp only [P0, P0n, P2, P3, P4, P5, P6]; rfl)
                        refine pu (i := 19) (N := some 76) (v := ?_) (a' := ?_) HT_.out rfl rfl (by kernel_rfl) (fun _ _ _ h => h) (Or.inl ⟨by rfl, ?_⟩) ?_ ?_
                        rotate_left; (intro w'; go_simp; with_reducible rfl); rotate_left; (simp only [P0, P0n, P2, P3, P4, P5, P6]; rfl)
                        refine pu (i := 20) (N := some 77) (v := ?_) (a' := ?_) HT_.out rfl rfl (by kernel_rfl) (fun _ _ _ h => h) (Or.inl ⟨by rfl, ?_⟩) ?_ ?_
                        rotate_left; (intro w'; go_simp; with_reducible rfl); rotate_left; (simp only [P0, P0n, P2, P3, P4, P5, P6]; rfl)
                        refine tw (i := 17) (N := some 74) (v := ?_) (a' := ?_) HT_.out HW_.out rfl rfl (by kernel_rfl) (fun _ _ _ h => h) (Or.inl ⟨by rfl, ?_⟩) hHeld ?_ ?_
                        rotate_left
                        ·rintro w' ⟨s0, s1, s2, s3, s4, s5, s6, s7, s8, s9, s10, s11, s12, s13, s14, s15, s16, s17⟩
                         go_simp
                         with_reducible rfl
                        rotate_left
                        ·simp only [P0, P0n, P2, P3, P4, P5, P6]
                         rfl
                        refine tw (i := 21) (N := some 78) (v := ?_) (a' := ?_) HT_.out HW_.out rfl rfl (by kernel_rfl) (fun _ _ _ h => h) (Or.inl ⟨by rfl, ?_⟩) hHeld ?_ ?_
                        rotate_left
                        ·rintro w' ⟨s0, s1, s2, s3, s4, s5, s6, s7, s8, s9, s10, s11, s12, s13, s14, s15, s16, s17⟩
                         go_simp
                         with_reducible rfl
                        rotate_left
                        ·simp only [P0, P0n, P2, P3, P4, P5, P6]
                         rfl
                        refine pu (i := 22) (N := some 79) (v := ?_) (a' := ?_) HT_.out rfl rfl (by kernel_rfl) (fun _ _ _ h => h) (Or.inl ⟨by rfl, ?_⟩) ?_ ?_
                        rotate_left; (intro w'; go_simp; with_reducible rfl); rotate_left; (simp only [P0, P0n, P2, P3, P4, P5, P6]; rfl)
                        refine pu (i := 23) (N := some 80) (v := ?_) (a' := ?_) HT_.out rfl rfl (by kernel_rfl) (fun _ _ _ h => h) (Or.inl ⟨by rfl, ?_⟩) ?_ ?_
                        rotate_left; (intro w'; go_simp; with_reducible rfl); rotate_left; (simp only [P0, P0n, P2, P3, P4, P5, P6]; rfl)
                        refine pu (i := 24) (N := some 81) (v := ?_) (a' := ?_) HT_.out rfl rfl (by kernel_rfl) (fun _ _ _ h => h) (Or.inl ⟨by rfl, ?_⟩) ?_ ?_
                        rotate_left; (intro w'; go_simp; with_reducible rfl); rotate_left; (simp only [P0, P0n, P2, P3, P4, P5, P6]; rfl)
                        refine pu (i := 25) (N := some 82) (v := ?_) (a' := ?_) HT_.out rfl rfl (by kernel_rfl) (fun _ _ _ h => h) (Or.inl ⟨by rfl, ?_⟩) ?_ ?_
                        rotate_left; (intro w'; go_simp; with_reducible rfl); rotate_left; (simp only [P0, P0n, P2, P3, P4, P5, P6]; rfl)
                        refine pu (i := 26) (N := some 83) (v := ?_) (a' := ?_) HT_.out rfl rfl (by kernel_rfl) (fun _ _ _ h => h) (Or.inl ⟨by rfl, ?_⟩) ?_ ?_
                        rotate_left; (intro w'; go_simp; with_reducible rfl); rotate_left; (simp only [P0, P0n, P2, P3, P4, P5, P6]; rfl)
                        refine pu (i := 28) (N := some 85) (v := ?_) (a' := ?_) HT_.out rfl rfl (by kernel_rfl) (fun _ _ _ h => h) (Or.inl ⟨by rfl, ?_⟩) ?_ ?_
                        rotate_left; (intro w'; go_simp; with_reducible rfl); rotate_left; (simp only [P0, P0n, P2, P3, P4, P5, P6]; rfl)
                        refine pu (i := 29) (N := some 86) (v := ?_) (a' := ?_) HT_.out rfl rfl (by kernel_rfl) (fun _ _ _ h => h) (Or.inl ⟨by rfl, ?_⟩) ?_ ?_
                        rotate_left; (intro w'; go_simp; with_reducible rfl); rotate_left; (simp only [P0, P0n, P2, P3, P4, P5, P6]; rfl)
                        refine pu (i := 30) (N := some 87) (v := ?_) (a' := ?_) HT_.out rfl rfl (by kernel_rfl) (fun _ _ _ h => h) (Or.inl ⟨by rfl, ?_⟩) ?_ ?_
                        rotate_left; (intro w'; go_simp; with_reducible rfl); rotate_left; (simp only [P0, P0n, P2, P3, P4, P5, P6]; rfl)
                        refine tw (i := 27) (N := some 84) (v := ?_) (a' := ?_) HT_.out HW_.out rfl rfl (by kernel_rfl) (fun _ _ _ h => h) (Or.inl ⟨by rfl, ?_⟩) hHeld ?_ ?_
                        rotate_left
                        ·rintro w' ⟨s0, s1, s2, s3, s4, s5, s6, s7, s8, s9, s10, s11, s12, s13, s14, s15, s16, s17⟩
                         go_simp
                         with_reducible rfl
                        rotate_left
                        ·simp only [P0, P0n, P2, P3, P4, P5, P6]
                         rfl
                        refine tw (i := 31) (N := some 88) (v := ?_) (a' := ?_) HT_.out HW_.out rfl rfl (by kernel_rfl) (fun _ _ _ h => h) (Or.inl ⟨by rfl, ?_⟩) hHeld ?_ ?_
                        rotate_left
                        ·rintro w' ⟨s0, s1, s2, s3, s4, s5, s6, s7, s8, s9, s10, s11, s12, s13, s14, s15, s16, s17⟩
                         go_simp
                         with_reducible rfl
                        rotate_left
                        ·simp only [P0, P0n, P2, P3, P4, P5, P6]
                         rfl
                        refine pu (i := 32) (N := some 89) (v := ?_) (a' := ?_) HT_.out rfl rfl (by kernel_rfl) (fun _ _ _ h => h) (Or.inl ⟨by rfl, ?_⟩) ?_ ?_
                        rotate_left; (intro w'; go_simp; with_reducible rfl); rotate_left; (simp only [P0, P0n, P2, P3, P4, P5, P6]; rfl)
                        refine tw (i := 33) (N := some 90) (v := ?_) (a' := ?_) HT_.out HW_.out rfl rfl (by kernel_rfl) (fun _ _ _ h => h) (Or.inl ⟨by rfl, ?_⟩) hHeld ?_ ?_
                        rotate_left
                        ·rintro w' ⟨s0, s1, s2, s3, s4, s5, s6, s7, s8, s9, s10, s11, s12, s13, s14, s15, s16, s17⟩
                         go_simp
                         with_reducible rfl
                        rotate_left
                        ·simp only [P0, P0n, P2, P3, P4, P5, P6]
                         rfl
                        refine tw (i := 34) (N := some 91) (v := ?_) (a' := ?_) HT_.out HW_.out rfl rfl (by kernel_rfl) (fun _ _ _ h => h) (Or.inl ⟨by rfl, ?_⟩) hHeld ?_ ?_
                        rotate_left
                        ·rintro w' ⟨s0, s1, s2, s3, s4, s5, s6, s7, s8, s9, s10, s11, s12, s13, s14, s15, s16, s17⟩
                         go_simp
                         with_reducible rfl
                        rotate_left
                        ·simp only [P0, P0n, P2, P3, P4, P5, P6]
                         rfl
                        refine one_ (i := 35) (N := some 92) #[T, T, T, T, T, T, T, T, T, T, T, T, T, T, T, T, T, T, T, T, T, T, T, T, T, T, T, T, T, T, T, T, T, T, T, T, F, F, F, F] rfl rfl (one_of HT_.out (by kernel_rfl)) (by decide) (fun K hK => ?_)
                        refine goes_ Try.func37 (by kernel_rfl) rfl #[.agg #[.string ((rd_T54 l0 x21_2).f0), .bool ((rd_T54 l0 x21_2).f1), .int .i64 ((rd_T54 l0 x21_2).f2), .int .i64 ((rd_T54 l0 x21_2).f3), .int .i64 ((rd_T54 l0 x21_2).f4), .int .i64 ((rd_T54 l0 x21_2).f5)], .agg #[.string ((rd_T54 l0 x52_4).f0), .bool ((rd_T54 l0 x52_4).f1), .int .i64 ((rd_T54 l0 x52_4).f2), .int .i64 ((rd_T54 l0 x52_4).f3), .int .i64 ((rd_T54 l0 x52_4).f4), .int .i64 ((rd_T54 l0 x52_4).f5)]] (by rfl) rfl rfl (by (try simp only [List.map_toArray, List.map_cons, List.map_nil]); first | done | rfl | (simp only [List.length_drop, List.length_take]; rfl)) ?_
                        with_reducible refine (impl_StripGap.calls k4 ((rd_T54 l0 x21_2).f0) ((rd_T54 l0 x21_2).f1) ((rd_T54 l0 x21_2).f2) ((rd_T54 l0 x21_2).f3) ((rd_T54 l0 x21_2).f4) ((rd_T54 l0 x21_2).f5) ((rd_T54 l0 x52_4).f0) ((rd_T54 l0 x52_4).f1) ((rd_T54 l0 x52_4).f2) ((rd_T54 l0 x52_4).f3) ((rd_T54 l0 x52_4).f4) ((rd_T54 l0 x52_4).f5) t115 _ A45.out).mono ?_
                        rintro e w58 ⟨rfl, hb⟩
                        refine ⟨_, rfl, ?_⟩
                        have n0_ := Aside0.mk (blk_below (g := gb103) (o := .cells #[.string ((rd_T54 l0 x21_2).f0), .bool ((rd_T54 l0 x21_2).f1), .int .i64 ((rd_T54 l0 x21_2).f2), .int .i64 ((rd_T54 l0 x21_2).f3), .int .i64 ((rd_T54 l0 x21_2).f4), .int .i64 ((rd_T54 l0 x21_2).f5)] 54 (0, 0)) (ex BK103.out) hb)
                        have n1_ := Aside0.mk (blk_below (g := gb108) (o := .cells #[.string ((rd_T54 l0 x52_4).f0), .bool ((rd_T54 l0 x52_4).f1), .int .i64 ((rd_T54 l0 x52_4).f2), .int .i64 ((rd_T54 l0 x52_4).f3), .int .i64 ((rd_T54 l0 x52_4).f4), .int .i64 ((rd_T54 l0 x52_4).f5)] 54 (0, 0)) (ex BK108.out) hb)
                        have n2_ := Aside0.mk (below_step (by repeat (first | (with_reducible first | exact HB.out | apply below_alloc | apply pw_below_drewN | apply below_drew1 | refine below_set ?_ GE103.out | refine below_set ?_ GE108.out) | exact HB.out)) hb)
                        clear BK103
                        clear BK108
                        clear HB
                        have BK103 := n0_
                        have BK108 := n1_
                        have HB := n2_
                        clear n0_ n1_ n2_
                        (try clear hb)
                        (try clear hb2)
                        (try clear hk)
                        (try clear hi)
                        refine hK.out _ _ ⟨(blk_cell BK103.out 0).trans rfl, (blk_cell BK103.out 1).trans rfl, (blk_cell BK103.out 2).trans rfl, (blk_cell BK103.out 3).trans rfl, (blk_cell BK103.out 4).trans rfl, (blk_cell BK103.out 5).trans rfl, (blk_cell BK108.out 0).trans rfl, (blk_cell BK108.out 1).trans rfl, (blk_cell BK108.out 2).trans rfl, (blk_cell BK108.out 3).trans rfl, (blk_cell BK108.out 4).trans rfl, (blk_cell BK108.out 5).trans rfl, (pw_cell_below HB.out hw109_0), (pw_cell_below HB.out hw110_0), (pw_cell_below HB.out hw111_0), (pw_cell_below HB.out hw112_0), (pw_cell_below HB.out hw113_0), (pw_cell_below HB.out hw114_0)⟩ (fun hHeld => ?_)
                        clear hK K
                        refine norm_ (a' := ?_) ?_ ?_
                        rotate_left
                        ·show Act.put _ (some 92) _ = _
                         simp only [P0, P0n, P2, P3, P4, P5, P6]
                         rfl
                        refine pu (i := 36) (N := some 93) (v := ?_) (a' := ?_) HT_.out rfl rfl (by kernel_rfl) (fun _ _ _ h => h) (Or.inl ⟨by rfl, ?_⟩) ?_ ?_
                        rotate_left; (intro w'; go_simp; with_reducible rfl); rotate_left; (simp only [P0, P0n, P2, P3, P4, P5, P6]; rfl)
                        refine pu (i := 37) (N := some 94) (v := ?_) (a' := ?_) HT_.out rfl rfl (by kernel_rfl) (fun _ _ _ h => h) (Or.inl ⟨by rfl, ?_⟩) ?_ ?_
                        rotate_left; (intro w'; go_simp; with_reducible rfl); rotate_left; (simp only [P0, P0n, P2, P3, P4, P5, P6]; rfl)
                        refine pu (i := 38) (N := some 95) (v := ?_) (a' := ?_) HT_.out rfl rfl (by kernel_rfl) (fun _ _ _ h => h) (Or.inl ⟨by rfl, ?_⟩) ?_ ?_
                        rotate_left; (intro w'; go_simp; with_reducible rfl); rotate_left; (simp only [P0, P0n, P2, P3, P4, P5, P6]; rfl)
                        refine pu (i := 39) (N := some 96) (v := ?_) (a' := ?_) HT_.out rfl rfl (by kernel_rfl) (fun _ _ _ h => h) (Or.inl ⟨by rfl, ?_⟩) ?_ ?_
                        rotate_left; (intro w'; go_simp; with_reducible rfl); rotate_left; (simp only [P0, P0n, P2, P3, P4, P5, P6]; rfl)
                        refine done_ (done_of HT_.out (by kernel_rfl)) ?_
                        try go_wp2
                        go_roundg k4
                        case measure => have := HJ2.out; have := HK2.out; have := HJ11.out; have := HK4.out; omega
                        case rel => exact ⟨(wrap64 (x52_4 + 1)), (by first | rfl | (simp; done) | (simp [*]; done)), H', ⟨by have := HJ2.out; have := HK2.out; have := HJ11.out; have := HK4.out; omega⟩, ⟨ex BK103.out⟩, ⟨by repeat (first | (with_reducible first | exact HB.out | apply below_alloc | apply pw_below_drewN | apply below_drew1 | refine below_set ?_ GE103.out | refine below_set ?_ GE108.out) | exact HB.out)⟩⟩
                      ·rw [if_neg c44] at H
                       have c44b0 : decide ((rd l1 x21_2) < (rd l1 x52_4)) = false := decide_eq_false c44
                       clear c44
                       have H' := Aside0.mk H
                       clear H
                       have p107 : 0 ≤ (x52_4 : Int) := of_decide_eq_true (by first | (with_reducible assumption) | assumption)
                       have q107 : x52_4 < (l0.length : Int) := of_decide_eq_true (by first | (with_reducible assumption) | assumption)
                       obtain ⟨ad107, e107, hx107_0, hx107_1, hx107_2, hx107_3, hx107_4, hx107_5⟩ := at_T54 HR0.out x52_4 p107 q107
                       obtain rfl : ad102 = ad107 := (by injection e107)
                       replace hx107_0 := pw_cell_below HB.out hx107_0
                       replace hx107_1 := pw_cell_below HB.out hx107_1
                       replace hx107_2 := pw_cell_below HB.out hx107_2
                       replace hx107_3 := pw_cell_below HB.out hx107_3
                       replace hx107_4 := pw_cell_below HB.out hx107_4
                       replace hx107_5 := pw_cell_below HB.out hx107_5
                       replace p107 := eq_true p107
                       replace q107 := eq_true q107
                       try go_wp2_with (first | ((with_reducible refine gate_dst (N := 8) rfl ?_); (try (refine gate_guard (by rfl) ?_; dsimp only)); refine box_event ?hg (N := 8) ?hd (cs := #[.string (⟨#[]⟩ : ByteArray), .bool false, .int .i64 0, .int .i64 0, .int .i64 0, .int .i64 0]) (t := 54) ?hr ?_; (case hd => rfl); (case hg => rfl); (case hr => first | (go_simp; done) | (go_simp; rfl)); intro gb108 hg w59 hbox hb; have n0_ := Aside0.mk (blk_below (g := gb103) (o := .cells #[.string ((rd_T54 l0 x21_2).f0), .bool ((rd_T54 l0 x21_2).f1), .int .i64 ((rd_T54 l0 x21_2).f2), .int .i64 ((rd_T54 l0 x21_2).f3), .int .i64 ((rd_T54 l0 x21_2).f4), .int .i64 ((rd_T54 l0 x21_2).f5)] 54 (0, 0)) (ex BK103.out) hb); have n1_ := Aside0.mk (below_step (by repeat (first | (with_reducible first | exact HB.out | apply below_alloc | apply pw_below_drewN | apply below_drew1 | refine below_set ?_ GE103.out) | exact HB.out)) hb); have n2_ := Aside0.mk (hbox); have n3_ := Aside0.mk ((by rw [hg]; exact (below_size (by repeat (first | (with_reducible first | exact HB.out | apply below_alloc | apply pw_below_drewN | apply below_drew1 | refine below_set ?_ GE103.out) | exact HB.out))) : w.heap.size ≤ gb108)); have n4_ := Aside0.mk ((by rw [hg]; exact (below_size (by repeat (first | (with_reducible first | exact HB.out | apply below_alloc | apply pw_below_drewN | apply below_drew1 | refine below_set ?_ GE103.out) | exact HB.out))) : w.heap.size ≤ gb108)); have n5_ := Aside0.mk ((by rw [hg]; exact Nat.ne_of_lt (blk_lt (g := gb103) (o := .cells #[.string ((rd_T54 l0 x21_2).f0), .bool ((rd_T54 l0 x21_2).f1), .int .i64 ((rd_T54 l0 x21_2).f2), .int .i64 ((rd_T54 l0 x21_2).f3), .int .i64 ((rd_T54 l0 x21_2).f4), .int .i64 ((rd_T54 l0 x21_2).f5)] 54 (0, 0)) (ex BK103.out)) : gb103 ≠ gb108)); have n6_ := Aside0.mk ((by rw [hg]; exact Nat.ne_of_gt (blk_lt (g := gb103) (o := .cells #[.string ((rd_T54 l0 x21_2).f0), .bool ((rd_T54 l0 x21_2).f1), .int .i64 ((rd_T54 l0 x21_2).f2), .int .i64 ((rd_T54 l0 x21_2).f3), .int .i64 ((rd_T54 l0 x21_2).f4), .int .i64 ((rd_T54 l0 x21_2).f5)] 54 (0, 0)) (ex BK103.out)) : gb108 ≠ gb103)); clear BK103; clear HB; have BK103 := n0_; have HB := n1_; have BK108 := n2_; have GW108 := n3_; have GE108 := n4_; have NB103_108 := n5_; have NB108_103 := n6_; clear n0_ n1_ n2_ n3_ n4_ n5_ n6_; clear hb hbox hg; have hnb60 := NB108_103.out; have hnc60 := NB103_108.out; obtain ⟨hcz61_0, hcz61_1, hcz61_2, hcz61_3, hcz61_4, hcz61_5⟩ := bc6 BK108.out; obtain ⟨hfz61_0, hfz61_1, hfz61_2, hfz61_3, hfz61_4, hfz61_5⟩ := bf6 BK108.out))
                       have n0_ : Aside0 (((((((w59.setCell ⟨gb108, 0, none⟩ (.string ((rd_T54 l0 x52_4).f0))).setCell ⟨gb108, 1, none⟩ (.bool ((rd_T54 l0 x52_4).f1))).setCell ⟨gb108, 2, none⟩ (.int .i64 ((rd_T54 l0 x52_4).f2))).setCell ⟨gb108, 3, none⟩ (.int .i64 ((rd_T54 l0 x52_4).f3))).setCell ⟨gb108, 4, none⟩ (.int .i64 ((rd_T54 l0 x52_4).f4))).setCell ⟨gb108, 5, none⟩ (.int .i64 ((rd_T54 l0 x52_4).f5))).heap[gb103]? = some (.cells #[.string ((rd_T54 l0 x21_2).f0), .bool ((rd_T54 l0 x21_2).f1), .int .i64 ((rd_T54 l0 x21_2).f2), .int .i64 ((rd_T54 l0 x21_2).f3), .int .i64 ((rd_T54 l0 x21_2).f4), .int .i64 ((rd_T54 l0 x21_2).f5)] 54 (0, 0))) := ⟨by refine px ?_; refine blk_far ?_ NB103_108.out _; refine px ?_; refine blk_far ?_ NB103_108.out _; refine px ?_; refine blk_far ?_ NB103_108.out _; refine px ?_; refine blk_far ?_ NB103_108.out _; refine px ?_; refine blk_far ?_ NB103_108.out _; refine px ?_; refine blk_far ?_ NB103_108.out _; refine px ?_; exact BK103.out⟩
                       have n1_ : Aside0 (((((((w59.setCell ⟨gb108, 0, none⟩ (.string ((rd_T54 l0 x52_4).f0))).setCell ⟨gb108, 1, none⟩ (.bool ((rd_T54 l0 x52_4).f1))).setCell ⟨gb108, 2, none⟩ (.int .i64 ((rd_T54 l0 x52_4).f2))).setCell ⟨gb108, 3, none⟩ (.int .i64 ((rd_T54 l0 x52_4).f3))).setCell ⟨gb108, 4, none⟩ (.int .i64 ((rd_T54 l0 x52_4).f4))).setCell ⟨gb108, 5, none⟩ (.int .i64 ((rd_T54 l0 x52_4).f5))).heap[gb108]? = some (.cells #[.string ((rd_T54 l0 x52_4).f0), .bool ((rd_T54 l0 x52_4).f1), .int .i64 ((rd_T54 l0 x52_4).f2), .int .i64 ((rd_T54 l0 x52_4).f3), .int .i64 ((rd_T54 l0 x52_4).f4), .int .i64 ((rd_T54 l0 x52_4).f5)] 54 (0, 0))) := ⟨by refine px ?_; refine blk_put (cs := #[.string ((rd_T54 l0 x52_4).f0), .bool ((rd_T54 l0 x52_4).f1), .int .i64 ((rd_T54 l0 x52_4).f2), .int .i64 ((rd_T54 l0 x52_4).f3), .int .i64 ((rd_T54 l0 x52_4).f4), .int .i64 0]) ?_ 5 _ rfl; refine px ?_; refine blk_put (cs := #[.string ((rd_T54 l0 x52_4).f0), .bool ((rd_T54 l0 x52_4).f1), .int .i64 ((rd_T54 l0 x52_4).f2), .int .i64 ((rd_T54 l0 x52_4).f3), .int .i64 0, .int .i64 0]) ?_ 4 _ rfl; refine px ?_; refine blk_put (cs := #[.string ((rd_T54 l0 x52_4).f0), .bool ((rd_T54 l0 x52_4).f1), .int .i64 ((rd_T54 l0 x52_4).f2), .int .i64 0, .int .i64 0, .int .i64 0]) ?_ 3 _ rfl; refine px ?_; refine blk_put (cs := #[.string ((rd_T54 l0 x52_4).f0), .bool ((rd_T54 l0 x52_4).f1), .int .i64 0, .int .i64 0, .int .i64 0, .int .i64 0]) ?_ 2 _ rfl; refine px ?_; refine blk_put (cs := #[.string ((rd_T54 l0 x52_4).f0), .bool false, .int .i64 0, .int .i64 0, .int .i64 0, .int .i64 0]) ?_ 1 _ rfl; refine px ?_; refine blk_put (cs := #[.string (⟨#[]⟩ : ByteArray), .bool false, .int .i64 0, .int .i64 0, .int .i64 0, .int .i64 0]) ?_ 0 _ rfl; refine px ?_; exact BK108.out⟩
                       have n2_ : Aside0 (Below w.heap.size w ((((((w59.setCell ⟨gb108, 0, none⟩ (.string ((rd_T54 l0 x52_4).f0))).setCell ⟨gb108, 1, none⟩ (.bool ((rd_T54 l0 x52_4).f1))).setCell ⟨gb108, 2, none⟩ (.int .i64 ((rd_T54 l0 x52_4).f2))).setCell ⟨gb108, 3, none⟩ (.int .i64 ((rd_T54 l0 x52_4).f3))).setCell ⟨gb108, 4, none⟩ (.int .i64 ((rd_T54 l0 x52_4).f4))).setCell ⟨gb108, 5, none⟩ (.int .i64 ((rd_T54 l0 x52_4).f5)))) := ⟨by repeat (first | (with_reducible first | exact HB.out | apply below_alloc | apply pw_below_drewN | apply below_drew1 | refine below_set ?_ GE103.out | refine below_set ?_ GE108.out) | exact HB.out)⟩
                       (try clear BK103)
                       (try clear BK108)
                       (try clear HB)
                       generalize ((((((w59.setCell ⟨gb108, 0, none⟩ (.string ((rd_T54 l0 x52_4).f0))).setCell ⟨gb108, 1, none⟩ (.bool ((rd_T54 l0 x52_4).f1))).setCell ⟨gb108, 2, none⟩ (.int .i64 ((rd_T54 l0 x52_4).f2))).setCell ⟨gb108, 3, none⟩ (.int .i64 ((rd_T54 l0 x52_4).f3))).setCell ⟨gb108, 4, none⟩ (.int .i64 ((rd_T54 l0 x52_4).f4))).setCell ⟨gb108, 5, none⟩ (.int .i64 ((rd_T54 l0 x52_4).f5))) = w62 at n0_ n1_ n2_ ⊢
                       have BK103 := n0_
                       have BK108 := n1_
                       have HB := n2_
                       clear n0_ n1_ n2_
                       have n0_ := Aside0.mk (blk_drew BK103.out)
                       have n1_ := Aside0.mk (blk_drew BK108.out)
                       have n2_ := Aside0.mk (below_drew1 HB.out)
                       clear BK103
                       clear BK108
                       clear HB
                       have BK103 := n0_
                       have BK108 := n1_
                       have HB := n2_
                       clear n0_ n1_ n2_
                       have p109 : 0 ≤ (x21_2 : Int) := of_decide_eq_true (by first | (with_reducible assumption) | assumption)
                       have q109 : x21_2 < (l1.length : Int) := of_decide_eq_true (by first | (with_reducible assumption) | assumption)
                       obtain ⟨ad109, e109, hx109_0⟩ := Kd.at_int HR1.out x21_2 p109 q109
                       have hw109_0 := hx109_0
                       cases e109
                       replace hx109_0 := pw_cell_below HB.out hx109_0
                       replace p109 := eq_true p109
                       replace q109 := eq_true q109
                       have p110 : 0 ≤ (x52_4 : Int) := of_decide_eq_true (by first | (with_reducible assumption) | assumption)
                       have q110 : x52_4 < (l1.length : Int) := of_decide_eq_true (by first | (with_reducible assumption) | assumption)
                       obtain ⟨ad110, e110, hx110_0⟩ := Kd.at_int HR1.out x52_4 p110 q110
                       have hw110_0 := hx110_0
                       obtain rfl : ad109 = ad110 := (by injection e110)
                       replace hx110_0 := pw_cell_below HB.out hx110_0
                       replace p110 := eq_true p110
                       replace q110 := eq_true q110
                       have p111 : 0 ≤ (x21_2 : Int) := of_decide_eq_true (by first | (with_reducible assumption) | assumption)
                       have q111 : x21_2 < (l1.length : Int) := of_decide_eq_true (by first | (with_reducible assumption) | assumption)
                       obtain ⟨ad111, e111, hx111_0⟩ := Kd.at_int HR1.out x21_2 p111 q111
                       have hw111_0 := hx111_0
                       obtain rfl : ad109 = ad111 := (by injection e111)
                       replace hx111_0 := pw_cell_below HB.out hx111_0
                       replace p111 := eq_true p111
                       replace q111 := eq_true q111
                       have p112 : 0 ≤ (x52_4 : Int) := of_decide_eq_true (by first | (with_reducible assumption) | assumption)
                       have q112 : x52_4 < (l1.length : Int) := of_decide_eq_true (by first | (with_reducible assumption) | assumption)
                       obtain ⟨ad112, e112, hx112_0⟩ := Kd.at_int HR1.out x52_4 p112 q112
                       have hw112_0 := hx112_0
                       obtain rfl : ad109 = ad112 := (by injection e112)
                       replace hx112_0 := pw_cell_below HB.out hx112_0
                       replace p112 := eq_true p112
                       replace q112 := eq_true q112
                       refine start_ (n := 40) (S := fun w' => w'.cell? (ad109.add (x21_2).toNat) = some (.int .i64 (rd l1 x21_2)) ∧ w'.cell? (ad109.add (x52_4).toNat) = some (.int .i64 (rd l1 x52_4)) ∧ w'.cell? (ad109.add (x21_2).toNat) = some (.int .i64 (rd l1 x21_2)) ∧ w'.cell? (ad109.add (x52_4).toNat) = some (.int .i64 (rd l1 x52_4))) (ds := []) #[F, F, F, F, F, F, F, F, F, F, F, F, F, F, F, F, F, F, F, F, F, F, F, F, F, F, F, F, F, F, F, F, F, F, F, F, F, F, F, F] (by kernel_rfl) rfl rfl ⟨(pw_cell_below HB.out hw109_0), (pw_cell_below HB.out hw110_0), (pw_cell_below HB.out hw111_0), (pw_cell_below HB.out hw112_0)⟩ (fun hHeld => ?_); refine with_tabW impl_StripFits.tab11 impl_StripFits.bits11 (fun HT_ HW_ => ?_)
                       generalize w62.drew = w63 at BK103 BK108 HB hx109_0 hx110_0 hx111_0 hx112_0 hHeld ⊢
                       refine pu (i := 0) (N := some 57) (v := ?_) (a' := ?_) HT_.out rfl rfl (by kernel_rfl) (fun _ _ _ h => h) (Or.inl ⟨by rfl, ?_⟩) ?_ ?_
                       rotate_left; (intro w'; go_simp; with_reducible rfl); rotate_left; (simp only [P0, P0n, P2, P3, P4, P5, P6]; rfl)
                       refine pu (i := 1) (N := some 58) (v := ?_) (a' := ?_) HT_.out rfl rfl (by kernel_rfl) (fun _ _ _ h => h) (Or.inl ⟨by rfl, ?_⟩) ?_ ?_
                       rotate_left; (intro w'; go_simp; with_reducible rfl); rotate_left; (simp only [P0, P0n, P2, P3, P4, P5, P6]; rfl)
                       refine pu (i := 2) (N := some 59) (v := ?_) (a' := ?_) HT_.out rfl rfl (by kernel_rfl) (fun _ _ _ h => h) (Or.inl ⟨by rfl, ?_⟩) ?_ ?_
                       rotate_left; (intro w'; go_simp; with_reducible rfl); rotate_left; (simp only [P0, P0n, P2, P3, P4, P5, P6]; rfl)
                       refine pu (i := 3) (N := some 60) (v := ?_) (a' := ?_) HT_.out rfl rfl (by kernel_rfl) (fun _ _ _ h => h) (Or.inl ⟨by rfl, ?_⟩) ?_ ?_
                       rotate_left; (intro w'; go_simp; with_reducible rfl); rotate_left; (simp only [P0, P0n, P2, P3, P4, P5, P6]; rfl)
                       refine pu (i := 4) (N := some 61) (v := ?_) (a' := ?_) HT_.out rfl rfl (by kernel_rfl) (fun _ _ _ h => h) (Or.inl ⟨by rfl, ?_⟩) ?_ ?_
                       rotate_left; (intro w'; go_simp; with_reducible rfl); rotate_left; (simp only [P0, P0n, P2, P3, P4, P5, P6]; rfl)
                       refine pu (i := 5) (N := some 62) (v := ?_) (a' := ?_) HT_.out rfl rfl (by kernel_rfl) (fun _ _ _ h => h) (Or.inl ⟨by rfl, ?_⟩) ?_ ?_
                       rotate_left; (intro w'; go_simp; with_reducible rfl); rotate_left; (simp only [P0, P0n, P2, P3, P4, P5, P6]; rfl)
                       refine pu (i := 6) (N := some 63) (v := ?_) (a' := ?_) HT_.out rfl rfl (by kernel_rfl) (fun _ _ _ h => h) (Or.inl ⟨by rfl, ?_⟩) ?_ ?_
                       rotate_left; (intro w'; go_simp; with_reducible rfl); rotate_left; (simp only [P0, P0n, P2, P3, P4, P5, P6]; rfl)
                       refine pu (i := 8) (N := some 65) (v := ?_) (a' := ?_) HT_.out rfl rfl (by kernel_rfl) (fun _ _ _ h => h) (Or.inl ⟨by rfl, ?_⟩) ?_ ?_
                       rotate_left; (intro w'; go_simp; with_reducible rfl); rotate_left; (simp only [P0, P0n, P2, P3, P4, P5, P6]; rfl)
                       refine pu (i := 9) (N := some 66) (v := ?_) (a' := ?_) HT_.out rfl rfl (by kernel_rfl) (fun _ _ _ h => h) (Or.inl ⟨by rfl, ?_⟩) ?_ ?_
                       rotate_left; (intro w'; go_simp; with_reducible rfl); rotate_left; (simp only [P0, P0n, P2, P3, P4, P5, P6]; rfl)
                       refine pu (i := 10) (N := some 67) (v := ?_) (a' := ?_) HT_.out rfl rfl (by kernel_rfl) (fun _ _ _ h => h) (Or.inl ⟨by rfl, ?_⟩) ?_ ?_
                       rotate_left; (intro w'; go_simp; with_reducible rfl); rotate_left; (simp only [P0, P0n, P2, P3, P4, P5, P6]; rfl)
                       refine tw (i := 7) (N := some 64) (v := ?_) (a' := ?_) HT_.out HW_.out rfl rfl (by kernel_rfl) (fun _ _ _ h => h) (Or.inl ⟨by rfl, ?_⟩) hHeld ?_ ?_
                       rotate_left
                       ·rintro w' ⟨s0, s1, s2, s3⟩
                        go_simp
                        with_reducible rfl
                       rotate_left
                       ·simp only [P0, P0n, P2, P3, P4, P5, P6]
                        rfl
                       refine tw (i := 11) (N := some 68) (v := ?_) (a' := ?_) HT_.out HW_.out rfl rfl (by kernel_rfl) (fun _ _ _ h => h) (Or.inl ⟨by rfl, ?_⟩) hHeld ?_ ?_
                       rotate_left
                       ·rintro w' ⟨s0, s1, s2, s3⟩
                        go_simp
                        with_reducible rfl
                       rotate_left
                       ·simp only [P0, P0n, P2, P3, P4, P5, P6]
                        rfl
                       refine pu (i := 12) (N := some 69) (v := ?_) (a' := ?_) HT_.out rfl rfl (by kernel_rfl) (fun _ _ _ h => h) (Or.inl ⟨by rfl, ?_⟩) ?_ ?_
                       rotate_left; (intro w'; go_simp; with_reducible rfl); rotate_left; (simp only [P0, P0n, P2, P3, P4, P5, P6]; rfl)
                       refine pu (i := 13) (N := some 70) (v := ?_) (a' := ?_) HT_.out rfl rfl (by kernel_rfl) (fun _ _ _ h => h) (Or.inl ⟨by rfl, ?_⟩) ?_ ?_
                       rotate_left; (intro w'; go_simp; with_reducible rfl); rotate_left; (simp only [P0, P0n, P2, P3, P4, P5, P6]; rfl)
                       refine pu (i := 14) (N := some 71) (v := ?_) (a' := ?_) HT_.out rfl rfl (by kernel_rfl) (fun _ _ _ h => h) (Or.inl ⟨by rfl, ?_⟩) ?_ ?_
                       rotate_left; (intro w'; go_simp; with_reducible rfl); rotate_left; (simp only [P0, P0n, P2, P3, P4, P5, P6]; rfl)
                       refine pu (i := 15) (N := some 72) (v := ?_) (a' := ?_) HT_.out rfl rfl (by kernel_rfl) (fun _ _ _ h => h) (Or.inl ⟨by rfl, ?_⟩) ?_ ?_
                       rotate_left; (intro w'; go_simp; with_reducible rfl); rotate_left; (simp only [P0, P0n, P2, P3, P4, P5, P6]; rfl)
                       refine pu (i := 16) (N := some 73) (v := ?_) (a' := ?_) HT_.out rfl rfl (by kernel_rfl) (fun _ _ _ h => h) (Or.inl ⟨by rfl, ?_⟩) ?_ ?_
                       rotate_left; (intro w'; go_simp; with_reducible rfl); rotate_left; (simp only [P0, P0n, P2, P3, P4, P5, P6]; rfl)
                       refine pu (i := 18) (N := some 75) (v := ?_) (a' := ?_) HT_.out rfl rfl (by kernel_rfl) (fun _ _ _ h => h) (Or.inl ⟨by rfl, ?_⟩) ?_ ?_
                       rotate_left; (intro w'; go_simp; with_reducible rfl); rotate_left; (simp only [P0, P0n, P2, P3, P4, P5, P6]; rfl)
                       refine pu (i := 19) (N := some 76) (v := ?_) (a' := ?_) HT_.out rfl rfl (by kernel_rfl) (fun _ _ _ h => h) (Or.inl ⟨by rfl, ?_⟩) ?_ ?_
                       rotate_left; (intro w'; go_simp; with_reducible rfl); rotate_left; (simp only [P0, P0n, P2, P3, P4, P5, P6]; rfl)
                       refine pu (i := 20) (N := some 77) (v := ?_) (a' := ?_) HT_.out rfl rfl (by kernel_rfl) (fun _ _ _ h => h) (Or.inl ⟨by rfl, ?_⟩) ?_ ?_
                       rotate_left; (intro w'; go_simp; with_reducible rfl); rotate_left; (simp only [P0, P0n, P2, P3, P4, P5, P6]; rfl)
                       refine tw (i := 17) (N := some 74) (v := ?_) (a' := ?_) HT_.out HW_.out rfl rfl (by kernel_rfl) (fun _ _ _ h => h) (Or.inl ⟨by rfl, ?_⟩) hHeld ?_ ?_
                       rotate_left
                       ·rintro w' ⟨s0, s1, s2, s3⟩
                        go_simp
                        with_reducible rfl
                       rotate_left
                       ·simp only [P0, P0n, P2, P3, P4, P5, P6]
                        rfl
                       refine tw (i := 21) (N := some 78) (v := ?_) (a' := ?_) HT_.out HW_.out rfl rfl (by kernel_rfl) (fun _ _ _ h => h) (Or.inl ⟨by rfl, ?_⟩) hHeld ?_ ?_
                       rotate_left
                       ·rintro w' ⟨s0, s1, s2, s3⟩
                        go_simp
                        with_reducible rfl
                       rotate_left
                       ·simp only [P0, P0n, P2, P3, P4, P5, P6]
                        rfl
                       refine pu (i := 22) (N := some 79) (v := ?_) (a' := ?_) HT_.out rfl rfl (by kernel_rfl) (fun _ _ _ h => h) (Or.inl ⟨by rfl, ?_⟩) ?_ ?_
                       rotate_left; (intro w'; go_simp; with_reducible rfl); rotate_left; (simp only [P0, P0n, P2, P3, P4, P5, P6]; rfl)
                       refine pu (i := 23) (N := some 80) (v := ?_) (a' := ?_) HT_.out rfl rfl (by kernel_rfl) (fun _ _ _ h => h) (Or.inl ⟨by rfl, ?_⟩) ?_ ?_
                       rotate_left; (intro w'; go_simp; with_reducible rfl); rotate_left; (simp only [P0, P0n, P2, P3, P4, P5, P6]; rfl)
                       refine pure_ (i := 24) (N := some 81) (v := undef) (a' := ?_) #[T, T, T, T, T, T, T, T, T, T, T, T, T, T, T, T, T, T, T, T, T, T, T, T, T, F, F, F, F, F, F, F, F, F, F, F, F, F, F, F] rfl rfl (any_of HT_.out (by kernel_rfl)) (fun _ _ _ h => h) (Or.inr ⟨by rfl, rfl⟩) ?_ ?_
                       rotate_left
                       ·simp only [P0, P0n, P2, P3, P4, P5, P6]
                        rfl
                       refine pure_ (i := 25) (N := some 82) (v := undef) (a' := ?_) #[T, T, T, T, T, T, T, T, T, T, T, T, T, T, T, T, T, T, T, T, T, T, T, T, T, T, F, F, F, F, F, F, F, F, F, F, F, F, F, F] rfl rfl (any_of HT_.out (by kernel_rfl)) (fun _ _ _ h => h) (Or.inr ⟨by rfl, rfl⟩) ?_ ?_
                       rotate_left
                       ·simp only [P0, P0n, P2, P3, P4, P5, P6]
                        rfl
                       refine pure_ (i := 26) (N := some 83) (v := undef) (a' := ?_) #[T, T, T, T, T, T, T, T, T, T, T, T, T, T, T, T, T, T, T, T, T, T, T, T, T, T, T, F, F, F, F, F, F, F, F, F, F, F, F, F] rfl rfl (any_of HT_.out (by kernel_rfl)) (fun _ _ _ h => h) (Or.inr ⟨by rfl, rfl⟩) ?_ ?_
                       rotate_left
                       ·simp only [P0, P0n, P2, P3, P4, P5, P6]
                        rfl
                       refine pure_ (i := 27) (N := some 84) (v := undef) (a' := ?_) #[T, T, T, T, T, T, T, T, T, T, T, T, T, T, T, T, T, T, T, T, T, T, T, T, T, T, T, T, F, F, F, F, F, F, F, F, F, F, F, F] rfl rfl (any_of HT_.out (by kernel_rfl)) (fun _ _ _ h => h) (Or.inr ⟨by rfl, rfl⟩) ?_ ?_
                       rotate_left
                       ·simp only [P0, P0n, P2, P3, P4, P5, P6]
                        rfl
                       refine pure_ (i := 28) (N := some 85) (v := undef) (a' := ?_) #[T, T, T, T, T, T, T, T, T, T, T, T, T, T, T, T, T, T, T, T, T, T, T, T, T, T, T, T, T, F, F, F, F, F, F, F, F, F, F, F] rfl rfl (any_of HT_.out (by kernel_rfl)) (fun _ _ _ h => h) (Or.inr ⟨by rfl, rfl⟩) ?_ ?_
                       rotate_left
                       ·simp only [P0, P0n, P2, P3, P4, P5, P6]
                        rfl
                       refine pure_ (i := 29) (N := some 86) (v := undef) (a' := ?_) #[T, T, T, T, T, T, T, T, T, T, T, T, T, T, T, T, T, T, T, T, T, T, T, T, T, T, T, T, T, T, F, F, F, F, F, F, F, F, F, F] rfl rfl (any_of HT_.out (by kernel_rfl)) (fun _ _ _ h => h) (Or.inr ⟨by rfl, rfl⟩) ?_ ?_
                       rotate_left
                       ·simp only [P0, P0n, P2, P3, P4, P5, P6]
                        rfl
                       refine pure_ (i := 30) (N := some 87) (v := undef) (a' := ?_) #[T, T, T, T, T, T, T, T, T, T, T, T, T, T, T, T, T, T, T, T, T, T, T, T, T, T, T, T, T, T, T, F, F, F, F, F, F, F, F, F] rfl rfl (any_of HT_.out (by kernel_rfl)) (fun _ _ _ h => h) (Or.inr ⟨by rfl, rfl⟩) ?_ ?_
                       rotate_left
                       ·simp only [P0, P0n, P2, P3, P4, P5, P6]
                        rfl
                       refine pure_ (i := 31) (N := some 88) (v := undef) (a' := ?_) #[T, T, T, T, T, T, T, T, T, T, T, T, T, T, T, T, T, T, T, T, T, T, T, T, T, T, T, T, T, T, T, T, F, F, F, F, F, F, F, F] rfl rfl (any_of HT_.out (by kernel_rfl)) (fun _ _ _ h => h) (Or.inr ⟨by rfl, rfl⟩) ?_ ?_
                       rotate_left
                       ·simp only [P0, P0n, P2, P3, P4, P5, P6]
                        rfl
                       refine pure_ (i := 32) (N := some 89) (v := undef) (a' := ?_) #[T, T, T, T, T, T, T, T, T, T, T, T, T, T, T, T, T, T, T, T, T, T, T, T, T, T, T, T, T, T, T, T, T, F, F, F, F, F, F, F] rfl rfl (any_of HT_.out (by kernel_rfl)) (fun _ _ _ h => h) (Or.inr ⟨by rfl, rfl⟩) ?_ ?_
                       rotate_left
                       ·simp only [P0, P0n, P2, P3, P4, P5, P6]
                        rfl
                       refine pure_ (i := 33) (N := some 90) (v := undef) (a' := ?_) #[T, T, T, T, T, T, T, T, T, T, T, T, T, T, T, T, T, T, T, T, T, T, T, T, T, T, T, T, T, T, T, T, T, T, F, F, F, F, F, F] rfl rfl (any_of HT_.out (by kernel_rfl)) (fun _ _ _ h => h) (Or.inr ⟨by rfl, rfl⟩) ?_ ?_
                       rotate_left
                       ·simp only [P0, P0n, P2, P3, P4, P5, P6]
                        rfl
                       refine pure_ (i := 34) (N := some 91) (v := undef) (a' := ?_) #[T, T, T, T, T, T, T, T, T, T, T, T, T, T, T, T, T, T, T, T, T, T, T, T, T, T, T, T, T, T, T, T, T, T, T, F, F, F, F, F] rfl rfl (any_of HT_.out (by kernel_rfl)) (fun _ _ _ h => h) (Or.inr ⟨by rfl, rfl⟩) ?_ ?_
                       rotate_left
                       ·simp only [P0, P0n, P2, P3, P4, P5, P6]
                        rfl
                       refine pure_ (i := 35) (N := some 92) (v := undef) (a' := ?_) #[T, T, T, T, T, T, T, T, T, T, T, T, T, T, T, T, T, T, T, T, T, T, T, T, T, T, T, T, T, T, T, T, T, T, T, T, F, F, F, F] rfl rfl (any_of HT_.out (by kernel_rfl)) (fun _ _ _ h => h) (Or.inr ⟨by rfl, rfl⟩) ?_ ?_
                       rotate_left
                       ·simp only [P0, P0n, P2, P3, P4, P5, P6]
                        rfl
                       refine pure_ (i := 36) (N := some 93) (v := undef) (a' := ?_) #[T, T, T, T, T, T, T, T, T, T, T, T, T, T, T, T, T, T, T, T, T, T, T, T, T, T, T, T, T, T, T, T, T, T, T, T, T, F, F, F] rfl rfl (any_of HT_.out (by kernel_rfl)) (fun _ _ _ h => h) (Or.inr ⟨by rfl, rfl⟩) ?_ ?_
                       rotate_left
                       ·simp only [P0, P0n, P2, P3, P4, P5, P6]
                        rfl
                       refine pu (i := 37) (N := some 94) (v := ?_) (a' := ?_) HT_.out rfl rfl (by kernel_rfl) (fun _ _ _ h => h) (Or.inl ⟨by rfl, ?_⟩) ?_ ?_
                       rotate_left; (intro w'; go_simp; with_reducible rfl); rotate_left; (simp only [P0, P0n, P2, P3, P4, P5, P6]; rfl)
                       refine pu (i := 38) (N := some 95) (v := ?_) (a' := ?_) HT_.out rfl rfl (by kernel_rfl) (fun _ _ _ h => h) (Or.inl ⟨by rfl, ?_⟩) ?_ ?_
                       rotate_left; (intro w'; go_simp; with_reducible rfl); rotate_left; (simp only [P0, P0n, P2, P3, P4, P5, P6]; rfl)
                       refine pu (i := 39) (N := some 96) (v := ?_) (a' := ?_) HT_.out rfl rfl (by kernel_rfl) (fun _ _ _ h => h) (Or.inl ⟨by rfl, ?_⟩) ?_ ?_
                       rotate_left; (intro w'; go_simp; with_reducible rfl); rotate_left; (simp only [P0, P0n, P2, P3, P4, P5, P6]; rfl)
                       refine done_ (done_of HT_.out (by kernel_rfl)) ?_
                       try go_wp2
                       go_roundg k4
                       case measure => have := HJ2.out; have := HK2.out; have := HJ11.out; have := HK4.out; omega
                       case rel => exact ⟨(wrap64 (x52_4 + 1)), (by first | rfl | (simp; done) | (simp [*]; done)), H', ⟨by have := HJ2.out; have := HK2.out; have := HJ11.out; have := HK4.out; omega⟩, ⟨ex BK103.out⟩, ⟨by repeat (first | (with_reducible first | exact HB.out | apply below_alloc | apply pw_below_drewN | apply below_drew1 | refine below_set ?_ GE103.out | refine below_set ?_ GE108.out) | exact HB.out)⟩⟩
                    ·rw [if_neg c37] at H
                     exact absurd H (by simp)
                   ·rw [if_neg c36] at H
                    exact absurd H (by simp)
                  ·rw [if_neg c35] at H
                   exact absurd H (by simp)
                ·rw [if_neg c28] at H
                 exact absurd H (by simp)
               ·rw [if_neg c27] at H
                exact absurd H (by simp)
              ·rw [if_neg c26] at H
               have c26b0 : decide (x52_4 < (l0.length : Int)) = false := decide_eq_false c26
               clear c26
               have H' := Aside0.mk H
               clear H
               go_wp2
               go_roundg k4
               case measure => have := HJ2.out; have := HK2.out; have := HJ11.out; have := HK4.out; omega
               case rel => exact ⟨(wrap64 (x21_2 + 1)), (by first | rfl | (simp; done) | (simp [*]; done)), H', ⟨by have := HJ2.out; have := HK2.out; have := HJ11.out; have := HK4.out; omega⟩, ⟨by repeat (first | (with_reducible first | exact HB.out | apply below_alloc | apply pw_below_drewN | apply below_drew1 | refine below_set ?_ GE103.out) | exact HB.out)⟩⟩
        ·rw [if_neg c11] at H
         exact absurd H (by simp)
       ·rw [if_neg c10] at H
        exact absurd H (by simp)
      ·rw [if_neg c9] at H
       have c9b0 : decide (x21_2 < (l0.length : Int)) = false := decide_eq_false c9
       clear c9
       obtain rfl := Option.some.inj H
       go_wp2
       go_ret
       exact ⟨by first | rfl | (simp [errW_none, errW_some] <;> rfl) | (simp [*, errW_none, errW_some] <;> rfl), eb HB.out⟩

end Go.Proofs.Ytpdmimlkgmhepaa.G

/- StripFits, StripCost and StripBookOk, the program's and the reference's, plainly; condition: ticks are int64s. -/
namespace Go.Proofs.Ytpdmimlkgmhepaa.Pure
set_option linter.unusedVariables false
set_option linter.unusedSimpArgs false
open Go.RowKit Go.Proofs.YtpdmimlkgmhepaaW.PrintWords Go.Proofs.Ytpdmimlkgmhepaa.G

def gap (a b : Mv) : Int := gapM a.f1 a.f2 b.f2
theorem gap_range (a b : Mv) : 1 ≤ gap a b ∧ gap a b ≤ 4 := gapM_range _ _ _
theorem spec_gapE (a b : Mv) : Ev (fun k => spec_StripGap.f k a.f0 a.f1 a.f2 a.f3 a.f4 a.f5 b.f0 b.f1 b.f2 b.f3 b.f4 b.f5) (gap a b) := ⟨1, fun k hk => by
  obtain ⟨k, rfl⟩ : ∃ m, k = m + 1 := ⟨k - 1, by omega⟩
  exact spec_gap ..⟩
theorem impl_gapE (a b : Mv) : Ev (fun k => impl_StripGap.f k a.f0 a.f1 a.f2 a.f3 a.f4 a.f5 b.f0 b.f1 b.f2 b.f3 b.f4 b.f5) (gap a b) := ⟨1, fun k hk => by
  obtain ⟨k, rfl⟩ : ∃ m, k = m + 1 := ⟨k - 1, by omega⟩
  exact impl_gap ..⟩

/-- The tick at a place. -/
def tk (t : List Int) (i : Nat) : Int := t.getD i 0
def TkWf (t : List Int) : Prop := ∀ i, i < t.length → -9223372036854775808 ≤ tk t i ∧ tk t i ≤ 9223372036854775807
theorem rdT (t : List Int) (i : Nat) : rd t (i : Int) = tk t i := rd_nat t i
/-- Tick i is within its move's bounds. -/
def InR (l : List Mv) (t : List Int) (i : Nat) : Prop := ((at' l i).f3 ≤ tk t i ∧ tk t i ≤ (at' l i).f4) ∧ (0 ≤ (at' l i).f5 → tk t i = (at' l i).f5)
/-- Place k is far enough behind place i, if it is behind. -/
def Ap (l : List Mv) (t : List Int) (i k : Nat) : Prop := tk t i ≠ tk t k ∧ (tk t i < tk t k → gap (at' l i) (at' l k) ≤ tk t k - tk t i)
instance (l : List Mv) (t : List Int) (i : Nat) : Decidable (InR l t i) := by unfold InR; infer_instance
instance (l : List Mv) (t : List Int) (i k : Nat) : Decidable (Ap l t i k) := by unfold Ap; infer_instance
def FitsAt (l : List Mv) (t : List Int) (i : Nat) : Prop := InR l t i ∧ ∀ k, k < l.length → k ≠ i → Ap l t i k
instance (l : List Mv) (t : List Int) (i : Nat) : Decidable (FitsAt l t i) := by unfold FitsAt; infer_instance
def Fits (l : List Mv) (t : List Int) : Prop := MovesOk l ∧ t.length = l.length ∧ ∀ i, i < l.length → FitsAt l t i
instance (l : List Mv) (t : List Int) : Decidable (Fits l t) := by unfold Fits; infer_instance

theorem mvOk_range {m : Mv} (h : mvOk m = true) : 1 ≤ m.f0.size ∧ m.f0.size ≤ 8 ∧ 1 ≤ m.f2 ∧ m.f2 ≤ 3 ∧ 0 ≤ m.f3 ∧ m.f3 ≤ m.f4 ∧ m.f4 ≤ 10000 ∧ (m.f5 = -1 ∨ m.f3 ≤ m.f5 ∧ m.f5 ≤ m.f4) := by
  unfold mvOk at h
  by_cases hm : MoveP m.f0.size m.f2 m.f3 m.f4 m.f5
  · exact hm
  · rw [moveOkM_neg hm] at h
    cases h

theorem impl_fits (l : List Mv) (t : List Int) (hl : l.length ≤ 1048576) (ht : t.length ≤ 1048576) (hw : TkWf t) : Ev (fun k => impl_StripFits.f k l t) (decide (Fits l t)) := by
  unfold impl_StripFits.f
  refine Ev.bind (impl_movesOk l) ?_
  by_cases hm : MovesOk l
  · refine Ev.pos (decide_eq_true hm) (Ev.step (fun _ => impl_StripFits.j0.eq_2 ..) ?_)
    by_cases hlen : t.length = l.length
    · refine Ev.neg (by simp [hlen]) ?_
      -- a round up to its second loop
      have open_ : ∀ (i : Nat) (r : Bool), i < l.length → (InR l t i → Ev (fun k => impl_StripFits.l1 k l t i l l.length i l l.length 0 (at' l i).f0 (at' l i).f1 (at' l i).f2 (at' l i).f3 (at' l i).f4 (at' l i).f5) r) → (¬ InR l t i → r = false) →
          Ev (fun k => impl_StripFits.l0 k l t l l.length i) r := by
        intro i r hi h1 h2
        refine Ev.step (fun _ => impl_StripFits.l0.eq_2 ..) (Ev.pos (by omega) (Ev.pos (by omega) (Ev.pos (by omega) (Ev.pos (by omega) ?_))))
        simp only [rdM, rdT, impl_in]
        refine Ev.ite (fun hr => ?_) (fun hr => ?_)
        · simp only [if_true]
          refine Ev.ite (fun hp => ?_) (fun hp => ?_)
          · refine Ev.step (fun _ => impl_StripFits.j2.eq_2 ..) ?_
            by_cases he : tk t i = (at' l i).f5
            · exact Ev.neg (by simp [he]) (h1 ⟨hr, fun _ => he⟩)
            · exact Ev.pos (by simp [he]) (Ev.some (h2 fun h => he (h.2 hp)).symm)
          · exact Ev.step (fun _ => impl_StripFits.j2.eq_2 ..) (Ev.neg (by decide) (h1 ⟨hr, fun h => absurd h hp⟩))
        · simp only [Bool.false_eq_true, if_false]
          exact Ev.step (fun _ => impl_StripFits.j2.eq_2 ..) (Ev.pos rfl (Ev.some (h2 fun h => hr h.1).symm))
      -- one step of the second loop
      have inner : ∀ (i j : Nat) (r : Bool), i < l.length → InR l t i → j < l.length → (j ≠ i → Ap l t i j) →
          Ev (fun k => impl_StripFits.l1 k l t i l l.length i l l.length ((j + 1 : Nat) : Int) (at' l i).f0 (at' l i).f1 (at' l i).f2 (at' l i).f3 (at' l i).f4 (at' l i).f5) r →
          Ev (fun k => impl_StripFits.l1 k l t i l l.length i l l.length (j : Int) (at' l i).f0 (at' l i).f1 (at' l i).f2 (at' l i).f3 (at' l i).f4 (at' l i).f5) r := by
        intro i j r hi hin hj hap hr
        have hmi := mvOk_range (hm.2 i hi).1
        have hwj := hw j (by omega)
        have hir := hin.1
        refine Ev.step (fun _ => impl_StripFits.l1.eq_2 ..) (Ev.pos (by omega) (Ev.pos (by omega) (Ev.pos (by omega) ?_)))
        simp only [rdM, rdT, wrap_succ hj (show l.length ≤ 1000000000000000000 by omega)]
        by_cases e : j = i
        · exact Ev.pos (by omega) hr
        · have hne := hap e
          refine Ev.neg (by omega) (Ev.pos (by omega) (Ev.pos (by omega) (Ev.pos (by omega) (Ev.neg hne.1 ?_))))
          refine Ev.ite (fun hlt => ?_) (fun _ => hr)
          refine Ev.bind (impl_gapE _ _) ?_
          simp only [wrap_eq (x := tk t j - tk t i) (by omega) (by omega)]
          exact Ev.neg (by have := hne.2 hlt; omega) hr
      by_cases hall : ∀ i, i < l.length → FitsAt l t i
      · rw [decide_eq_true (show Fits l t from ⟨hm, hlen, hall⟩)]
        refine ev_yes (n := l.length) (fun i k => impl_StripFits.l0 k l t l l.length i) hall ?_ ?_
        · exact Ev.step (fun _ => impl_StripFits.l0.eq_2 ..) (Ev.neg (by omega) (Ev.some rfl))
        · intro i hi hP hr
          refine open_ i true hi (fun hin => ?_) (fun h => absurd hP.1 h)
          refine ev_yes (n := l.length) (P := fun j => j ≠ i → Ap l t i j) (fun j k => impl_StripFits.l1 k l t i l l.length i l l.length (j : Int) (at' l i).f0 (at' l i).f1 (at' l i).f2 (at' l i).f3 (at' l i).f4 (at' l i).f5) (fun j hj => hP.2 j hj) ?_ (fun j hj hp hr' => inner i j true hi hin hj hp hr')
          refine Ev.step (fun _ => impl_StripFits.l1.eq_2 ..) (Ev.neg (by omega) ?_)
          simpa only [wrap_succ hi (show l.length ≤ 1000000000000000000 by omega)] using hr
      · rw [decide_eq_false (fun h : Fits l t => hall h.2.2)]
        refine ev_no (n := l.length) (fun i k => impl_StripFits.l0 k l t l l.length i) hall ?_ ?_
        · intro i hi hP hr
          refine open_ i false hi (fun hin => ?_) (fun h => absurd hP.1 h)
          refine ev_yes (n := l.length) (P := fun j => j ≠ i → Ap l t i j) (fun j k => impl_StripFits.l1 k l t i l l.length i l l.length (j : Int) (at' l i).f0 (at' l i).f1 (at' l i).f2 (at' l i).f3 (at' l i).f4 (at' l i).f5) (fun j hj => hP.2 j hj) ?_ (fun j hj hp hr' => inner i j false hi hin hj hp hr')
          refine Ev.step (fun _ => impl_StripFits.l1.eq_2 ..) (Ev.neg (by omega) ?_)
          simpa only [wrap_succ hi (show l.length ≤ 1000000000000000000 by omega)] using hr
        · intro i hi _ hno
          refine open_ i false hi (fun hin => ?_) (fun _ => rfl)
          have hx : ¬ ∀ j, j < l.length → (j ≠ i → Ap l t i j) := fun h => hno ⟨hin, h⟩
          refine ev_no (n := l.length) (P := fun j => j ≠ i → Ap l t i j) (fun j k => impl_StripFits.l1 k l t i l l.length i l l.length (j : Int) (at' l i).f0 (at' l i).f1 (at' l i).f2 (at' l i).f3 (at' l i).f4 (at' l i).f5) hx (fun j hj hp hr' => inner i j false hi hin hj hp hr') ?_
          intro j hj _ hnp
          have hmi := mvOk_range (hm.2 i hi).1
          have hwj := hw j (by omega)
          have hir := hin.1
          have e : j ≠ i := fun e => hnp fun h => absurd e h
          have hna : ¬ Ap l t i j := fun h => hnp fun _ => h
          refine Ev.step (fun _ => impl_StripFits.l1.eq_2 ..) (Ev.pos (by omega) (Ev.pos (by omega) (Ev.pos (by omega) ?_)))
          simp only [rdM, rdT]
          refine Ev.neg (by omega) (Ev.pos (by omega) (Ev.pos (by omega) (Ev.pos (by omega) ?_)))
          by_cases heq : tk t i = tk t j
          · exact Ev.pos heq (Ev.some rfl)
          · refine Ev.neg heq ?_
            have hlt : tk t i < tk t j := by
              rcases Int.lt_trichotomy (tk t i) (tk t j) with h | h | h
              · exact h
              · exact absurd h heq
              · exact absurd ⟨heq, fun h' => absurd h' (by omega)⟩ hna
            refine Ev.pos hlt (Ev.bind (impl_gapE _ _) ?_)
            simp only [wrap_eq (x := tk t j - tk t i) (by omega) (by omega)]
            refine Ev.pos ?_ (Ev.some rfl)
            by_cases hg : tk t j - tk t i < gap (at' l i) (at' l j)
            · exact hg
            · exact absurd ⟨heq, fun _ => by omega⟩ hna
    · rw [decide_eq_false (fun h : Fits l t => hlen h.2.1)]
      refine Ev.pos ?_ (Ev.some rfl)
      simp only [bne_iff_ne, ne_eq]
      omega
  · rw [decide_eq_false (fun h : Fits l t => hm h.1)]
    refine Ev.neg (by simp [hm]) (Ev.step (fun _ => impl_StripFits.j0.eq_2 ..) (Ev.pos rfl (Ev.some rfl)))

/-- What the reference asks at a place. -/
def FitsSp (l : List Mv) (t : List Int) (i : Nat) : Prop := InR l t i ∧ ∀ k, k < i → Ap l t k i ∧ Ap l t i k
theorem fitsSp_iff (l : List Mv) (t : List Int) : (∀ i, i < l.length → FitsSp l t i) ↔ ∀ i, i < l.length → FitsAt l t i := by
  constructor
  · intro h i hi
    refine ⟨(h i hi).1, fun k hk hne => ?_⟩
    rcases Nat.lt_or_ge k i with hlt | hge
    · exact ((h i hi).2 k hlt).2
    · exact ((h k hk).2 i (by omega)).1
  · intro h i hi
    exact ⟨(h i hi).1, fun k hk => ⟨(h k (by omega)).2 i hi (by omega), (h i hi).2 k (by omega) (by omega)⟩⟩

theorem spec_apart (a b : Mv) (s t : Int) (hs : 0 ≤ s ∧ s ≤ 10000) (ht : 0 ≤ t ∧ t ≤ 10000) :
    Ev (fun k => spec_l2Apart.f k a.f0 a.f1 a.f2 a.f3 a.f4 a.f5 s b.f0 b.f1 b.f2 b.f3 b.f4 b.f5 t) (decide ((s ≠ t ∧ (s < t → gap a b ≤ t - s)) ∧ (t ≠ s ∧ (t < s → gap b a ≤ s - t)))) := by
  unfold spec_l2Apart.f
  simp only [wrap_eq (x := s - t) (by omega) (by omega), wrap_eq (x := t - s) (by omega) (by omega)]
  refine Ev.ite (fun e => ?_) (fun e => Ev.ite (fun hlt => ?_) (fun hge => ?_))
  · exact Ev.some (by simp [e])
  · refine Ev.bind (spec_gapE a b) (Ev.some ?_)
    refine decide_eq_decide.2 ⟨fun h => ⟨⟨e, fun _ => h⟩, fun h' => e h'.symm, fun h' => absurd h' (by omega)⟩, fun h => h.1.2 hlt⟩
  · refine Ev.bind (spec_gapE b a) (Ev.some ?_)
    refine decide_eq_decide.2 ⟨fun h => ⟨⟨e, fun h' => absurd h' hge⟩, fun h' => e h'.symm, fun _ => h⟩, fun h => h.2.2 (by omega)⟩

theorem spec_fits (l : List Mv) (t : List Int) (hl : l.length ≤ 1048576) (ht : t.length ≤ 1048576) : Ev (fun k => spec_StripFits.f k l t) (decide (Fits l t)) := by
  unfold spec_StripFits.f
  refine Ev.bind (spec_movesOk l) ?_
  by_cases hm : MovesOk l
  · refine Ev.pos (decide_eq_true hm) (Ev.step (fun _ => spec_StripFits.j0.eq_2 ..) ?_)
    by_cases hlen : t.length = l.length
    · refine Ev.neg (by simp [hlen]) ?_
      have rng : ∀ i, i < l.length → InR l t i → 0 ≤ tk t i ∧ tk t i ≤ 10000 := by
        intro i hi hin
        have hmi := mvOk_range (hm.2 i hi).1
        have hir := hin.1
        omega
      have open_ : ∀ (i : Nat) (r : Bool), i < l.length → (InR l t i → Ev (fun k => spec_StripFits.l1 k l t i 0) r) → (¬ InR l t i → r = false) → Ev (fun k => spec_StripFits.l0 k l t i) r := by
        intro i r hi h1 h2
        refine Ev.step (fun _ => spec_StripFits.l0.eq_2 ..) (Ev.pos (by omega) (Ev.pos (by omega) (Ev.pos (by omega) ?_)))
        simp only [rdM, rdT, spec_in]
        refine Ev.ite (fun hr => ?_) (fun hr => ?_)
        · simp only [if_true]
          refine Ev.ite (fun hp => ?_) (fun hp => ?_)
          · refine Ev.step (fun _ => spec_StripFits.j2.eq_2 ..) ?_
            by_cases he : tk t i = (at' l i).f5
            · exact Ev.neg (by simp [he]) (h1 ⟨hr, fun _ => he⟩)
            · exact Ev.pos (by simp [he]) (Ev.some (h2 fun h => he (h.2 hp)).symm)
          · exact Ev.step (fun _ => spec_StripFits.j2.eq_2 ..) (Ev.neg (by decide) (h1 ⟨hr, fun h => absurd h hp⟩))
        · simp only [Bool.false_eq_true, if_false]
          exact Ev.step (fun _ => spec_StripFits.j2.eq_2 ..) (Ev.pos rfl (Ev.some (h2 fun h => hr h.1).symm))
      have inner : ∀ (i j : Nat) (r : Bool), i < l.length → InR l t i → InR l t j → j < i → (Ap l t j i ∧ Ap l t i j → Ev (fun k => spec_StripFits.l1 k l t i ((j + 1 : Nat) : Int)) r) → (¬ (Ap l t j i ∧ Ap l t i j) → r = false) →
          Ev (fun k => spec_StripFits.l1 k l t i (j : Int)) r := by
        intro i j r hi hin hjn hj h1 h2
        refine Ev.step (fun _ => spec_StripFits.l1.eq_2 ..) (Ev.pos (by omega) (Ev.pos (by omega) (Ev.pos (by omega) (Ev.pos (by omega) (Ev.pos (by omega) (Ev.pos (by omega) (Ev.pos (by omega) ?_)))))))
        simp only [rdM, rdT, wrap_succ hj (show i ≤ 1000000000000000000 by omega)]
        refine Ev.bind (spec_apart _ _ _ _ (rng j (by omega) hjn) (rng i hi hin)) ?_
        refine Ev.ite (fun h => h1 (of_decide_eq_true h)) (fun h => Ev.some (h2 fun h' => h (decide_eq_true h')).symm)
      by_cases hall : ∀ i, i < l.length → FitsSp l t i
      · rw [decide_eq_true (show Fits l t from ⟨hm, hlen, (fitsSp_iff l t).1 hall⟩)]
        refine ev_yes (n := l.length) (fun i k => spec_StripFits.l0 k l t i) hall ?_ ?_
        · exact Ev.step (fun _ => spec_StripFits.l0.eq_2 ..) (Ev.neg (by omega) (Ev.some rfl))
        · intro i hi hP hr
          refine open_ i true hi (fun hin => ?_) (fun h => absurd hP.1 h)
          refine ev_yes (n := i) (P := fun j => Ap l t j i ∧ Ap l t i j) (fun j k => spec_StripFits.l1 k l t i j) hP.2 ?_ (fun j hj hp hr' => inner i j true hi hin (hall j (by omega)).1 hj (fun _ => hr') (fun h => absurd hp h))
          refine Ev.step (fun _ => spec_StripFits.l1.eq_2 ..) (Ev.neg (by omega) ?_)
          simpa only [wrap_succ hi (show l.length ≤ 1000000000000000000 by omega)] using hr
      · rw [decide_eq_false (fun h : Fits l t => hall ((fitsSp_iff l t).2 h.2.2))]
        refine ev_no' (n := l.length) (fun i k => spec_StripFits.l0 k l t i) hall ?_ ?_
        · intro i hi hpre hP hr
          refine open_ i false hi (fun hin => ?_) (fun h => absurd hP.1 h)
          refine ev_yes (n := i) (P := fun j => Ap l t j i ∧ Ap l t i j) (fun j k => spec_StripFits.l1 k l t i j) hP.2 ?_ (fun j hj hp hr' => inner i j false hi hin (hpre j hj).1 hj (fun _ => hr') (fun _ => rfl))
          refine Ev.step (fun _ => spec_StripFits.l1.eq_2 ..) (Ev.neg (by omega) ?_)
          simpa only [wrap_succ hi (show l.length ≤ 1000000000000000000 by omega)] using hr
        · intro i hi hpre hno
          refine open_ i false hi (fun hin => ?_) (fun _ => rfl)
          have hx : ¬ ∀ j, j < i → (Ap l t j i ∧ Ap l t i j) := fun h => hno ⟨hin, h⟩
          exact ev_no (n := i) (P := fun j => Ap l t j i ∧ Ap l t i j) (fun j k => spec_StripFits.l1 k l t i j) hx (fun j hj hp hr' => inner i j false hi hin (hpre j hj).1 hj (fun _ => hr') (fun _ => rfl))
            (fun j hj _ hnp => inner i j false hi hin (hpre j hj).1 hj (fun h => absurd h hnp) (fun _ => rfl))
    · rw [decide_eq_false (fun h : Fits l t => hlen h.2.1)]
      refine Ev.pos ?_ (Ev.some rfl)
      simp only [bne_iff_ne, ne_eq]
      omega
  · rw [decide_eq_false (fun h : Fits l t => hm h.1)]
    refine Ev.neg (by simp [hm]) (Ev.step (fun _ => spec_StripFits.j0.eq_2 ..) (Ev.pos rfl (Ev.some rfl)))
end Go.Proofs.Ytpdmimlkgmhepaa.Pure

/- The plain functions of this seat's Go text and, for each, that the call comes to what its plain function says: written for this claim by a program of the session (drv.py) over the kit's print.py. -/
namespace Go.Proofs.Ytpdmimlkgmhepaa.G
open Go.RowKit Go.Proofs.YtpdmimlkgmhepaaW.PrintWords Go.Proofs.YtpdmimlkgmhepaaW.PrintLast Go.Proofs.YtpdmimlkgmhepaaW.PrintMore
attribute [local go_sem] max2_int min2_int max_two min_two max_three min_three max_four min_four   -- for this text's walks alone
set_option linter.unusedVariables false
set_option linter.unusedSimpArgs false

/-! ### laws_szIntS: function 60 -/
def laws_szIntS.f (l0 : List Int) (a1 : Int) : Option (Int) := if (wrap64 (a1 - (l0.length : Int))) < 0 then (some (-1)) else (some (wrap64 (a1 - (l0.length : Int))))
set_option maxHeartbeats 8000000 in
set_option maxRecDepth 100000 in
theorem laws_szIntS.calls (A0 : Option Addr) (c0 : Nat) (l0 : List Int) (a1 : Int) (r : Int) (w : World) (hr0 : Kd.C (Kd.int .i64) w A0 l0.length l0) (hc0 : l0.length ≤ c0) (h : laws_szIntS.f l0 a1 = some r) :
  Calls Try.prog 60 #[.slice A0 l0.length c0, .int .i64 a1] w fun e w' => e = .returned (.int .i64 r) ∧ Drawn0 w w' := by
 have HR0 := Aside0.mk hr0
 have HC0 := Aside0.mk hc0
 clear hr0 hc0
 have H : (if (wrap64 (a1 - (l0.length : Int))) < 0 then (some (-1)) else (some (wrap64 (a1 - (l0.length : Int))))) = some r := h
 clear h
 by_cases c3 : (wrap64 (a1 - (l0.length : Int))) < 0
 ·rw [if_pos c3] at H
  have c3b0 : decide ((wrap64 (a1 - (l0.length : Int))) < 0) = true := decide_eq_true c3
  clear c3
  obtain rfl := Option.some.inj H
  go_enter Try.func60, Try.ntmps60
  go_wp2
  go_ret
  exact ⟨by first | rfl | (simp; done) | (simp [*]; done), by repeat (first | exact Drawn0.refl _ | apply Drawn0.step)⟩
 ·rw [if_neg c3] at H
  have c3b0 : decide ((wrap64 (a1 - (l0.length : Int))) < 0) = false := decide_eq_false c3
  clear c3
  obtain rfl := Option.some.inj H
  go_enter Try.func60, Try.ntmps60
  go_wp2
  go_ret
  exact ⟨by first | rfl | (simp; done) | (simp [*]; done), by repeat (first | exact Drawn0.refl _ | apply Drawn0.step)⟩

end Go.Proofs.Ytpdmimlkgmhepaa.G

/- The plain functions of this seat's Go text and, for each, that the call comes to what its plain function says: written for this claim by a program of the session (drv.py) over the kit's print.py. -/
namespace Go.Proofs.Ytpdmimlkgmhepaa.G
open Go.RowKit Go.Proofs.YtpdmimlkgmhepaaW.PrintWords Go.Proofs.YtpdmimlkgmhepaaW.PrintLast Go.Proofs.YtpdmimlkgmhepaaW.PrintMore
attribute [local go_sem] max2_int min2_int max_two min_two max_three min_three max_four min_four   -- for this text's walks alone
set_option linter.unusedVariables false
set_option linter.unusedSimpArgs false

/-! ### laws_szStripBook: function 24 -/
def laws_szStripBook.f (k : Nat) (a0_0 : Int) (a0_1 : Int) (l0_2 : List (S71)) (l0_3 : List Int) (a1 : Int) : Option (Int) := (laws_szStripMoveS.f k l0_2 a1).bind fun t102 => (if t102 < 0 then (some (-1)) else ((laws_szIntS.f l0_3 t102).bind fun t103 => (if t103 < 0 then (some (-1)) else (some t103))))
theorem laws_szStripBook.mono : ∀ a0 a1 a2 a3 a4 k, LeO (laws_szStripBook.f k a0 a1 a2 a3 a4) (laws_szStripBook.f (k + 1) a0 a1 a2 a3 a4) := by
 intro a0 a1 a2 a3 a4 k
 unfold laws_szStripBook.f
 repeat' first
   | (with_reducible exact laws_szStripMoveS.mono _ _ _)
   | (with_reducible exact LeO.refl _)
   | (with_reducible exact LeO.none _)
   | (with_reducible refine LeO.ite ?_ ?_)
   | (with_reducible refine LeO.bind ?_ (fun _ => ?_))
   | exact laws_szStripMoveS.mono _ _ _
   | exact LeO.none _
   | refine LeO.ite ?_ ?_
   | refine LeO.bind ?_ (fun _ => ?_)
set_option maxHeartbeats 8000000 in
set_option maxRecDepth 100000 in
theorem laws_szStripBook.calls (k : Nat) (a0_0 : Int) (a0_1 : Int) (A0_2 : Option Addr) (c0_2 : Nat) (l0_2 : List (S71)) (A0_3 : Option Addr) (c0_3 : Nat) (l0_3 : List Int) (a1 : Int) (r : Int) (w : World) (hr0_2 : Kd.C k71 w A0_2 l0_2.length l0_2) (hc0_2 : l0_2.length ≤ c0_2) (hr0_3 : Kd.C (Kd.int .i64) w A0_3 l0_3.length l0_3) (hc0_3 : l0_3.length ≤ c0_3) (h : laws_szStripBook.f k a0_0 a0_1 l0_2 l0_3 a1 = some r) :
  Calls Try.prog 24 #[.agg #[.int .i64 a0_0, .int .i64 a0_1, .slice A0_2 l0_2.length c0_2, .slice A0_3 l0_3.length c0_3], .int .i64 a1] w fun e w' => e = .returned (.int .i64 r) ∧ Below w.heap.size w w' := by
 have hu38 := Try.underlying38
 have HR0_2 := Aside0.mk hr0_2
 have HC0_2 := Aside0.mk hc0_2
 clear hr0_2 hc0_2
 have HR0_3 := Aside0.mk hr0_3
 have HC0_3 := Aside0.mk hc0_3
 clear hr0_3 hc0_3
 have HB := Aside0.mk (Below.refl w.heap.size w)
 have H : ((laws_szStripMoveS.f k l0_2 a1).bind fun t102 => (if t102 < 0 then (some (-1)) else ((laws_szIntS.f l0_3 t102).bind fun t103 => (if t103 < 0 then (some (-1)) else (some t103))))) = some r := h
 clear h
 replace H := Option.bind_eq_some_iff.mp H
 obtain ⟨t102, A30, H⟩ := H
 replace H : (if t102 < 0 then (some (-1)) else ((laws_szIntS.f l0_3 t102).bind fun t103 => (if t103 < 0 then (some (-1)) else (some t103)))) = some r := H
 have A3 := Aside0.mk A30
 clear A30
 by_cases c4 : t102 < 0
 ·rw [if_pos c4] at H
  have c4b0 : decide (t102 < 0) = true := decide_eq_true c4
  clear c4
  obtain rfl := Option.some.inj H
  go_enter Try.func24, Try.ntmps24
  go_wp2_with (first | ((with_reducible refine gate_dst (N := 2) rfl ?_); refine box_event ?hg (N := 2) ?hd (cs := #[.int .i64 a0_0, .int .i64 a0_1, .slice A0_2 l0_2.length c0_2, .slice A0_3 l0_3.length c0_3]) (t := 38) ?hr ?_; (case hd => rfl); (case hg => rfl); (case hr => first | (go_simp; done) | (go_simp; rfl)); intro gb101 hg w5 hbox hb; have n0_ := Aside0.mk (below_step (eb HB.out) hb); have n1_ := Aside0.mk (hbox); have n2_ := Aside0.mk ((by rw [hg]; exact (below_size (eb HB.out)) : w.heap.size ≤ gb101)); have n3_ := Aside0.mk ((by rw [hg]; exact (below_size (eb HB.out)) : w.heap.size ≤ gb101)); clear HB; have HB := n0_; have BK101 := n1_; have GW101 := n2_; have GE101 := n3_; clear n0_ n1_ n2_ n3_; clear hb hbox hg; obtain ⟨hcz6_0, hcz6_1, hcz6_2, hcz6_3⟩ := bc4 BK101.out; obtain ⟨hfz6_0, hfz6_1, hfz6_2, hfz6_3⟩ := bf4 BK101.out) | ((with_reducible refine gate_callee (f := 15) rfl ?_); refine goesL_ (some 8) rfl rfl Try.func15 (by kernel_rfl) rfl #[.slice A0_2 l0_2.length c0_2, .int .i64 a1] rfl (by (try simp only [List.map_toArray, List.map_cons, List.map_nil]); first | done | rfl | (simp only [List.length_drop, List.length_take]; rfl)) ?_; (with_reducible refine (laws_szStripMoveS.calls k _ _ l0_2 a1 t102 _ ?side1 ?side2 A3.out).mono ?_); (case side1 => repeat (first | exact (Kd.C_below HR0_2.out HB.out) | (with_reducible refine Kd.C_alloc ?_ _) | (with_reducible refine Kd.C_drewN ?_ _) | (with_reducible refine Kd.C_drew ?_))); (case side2 => exact HC0_2.out); rintro e w7 ⟨rfl, hb⟩; refine ⟨_, rfl, ?_⟩; have n0_ := Aside0.mk (blk_below (g := gb101) (o := .cells #[.int .i64 a0_0, .int .i64 a0_1, .slice A0_2 l0_2.length c0_2, .slice A0_3 l0_3.length c0_3] 38 (0, 0)) (ex BK101.out) hb); have n1_ := Aside0.mk (below_step (by repeat (first | (with_reducible first | exact HB.out | apply below_alloc | apply pw_below_drewN | apply below_drew1 | refine below_set ?_ GE101.out) | exact HB.out)) hb); clear BK101; clear HB; have BK101 := n0_; have HB := n1_; clear n0_ n1_; (try clear hb); (try clear hb2); (try clear hk); (try clear hi)))
  go_ret
  exact ⟨by first | rfl | (simp [errW_none, errW_some] <;> rfl) | (simp [*, errW_none, errW_some] <;> rfl), by repeat (first | (with_reducible first | exact HB.out | apply below_alloc | apply pw_below_drewN | apply below_drew1 | refine below_set ?_ GE101.out) | exact HB.out)⟩
 ·rw [if_neg c4] at H
  have c4b0 : decide (t102 < 0) = false := decide_eq_false c4
  clear c4
  replace H := Option.bind_eq_some_iff.mp H
  obtain ⟨t103, A80, H⟩ := H
  replace H : (if t103 < 0 then (some (-1)) else (some t103)) = some r := H
  have A8 := Aside0.mk A80
  clear A80
  by_cases c9 : t103 < 0
  ·rw [if_pos c9] at H
   have c9b0 : decide (t103 < 0) = true := decide_eq_true c9
   clear c9
   obtain rfl := Option.some.inj H
   go_enter Try.func24, Try.ntmps24
   go_wp2_with (first | ((with_reducible refine gate_dst (N := 2) rfl ?_); refine box_event ?hg (N := 2) ?hd (cs := #[.int .i64 a0_0, .int .i64 a0_1, .slice A0_2 l0_2.length c0_2, .slice A0_3 l0_3.length c0_3]) (t := 38) ?hr ?_; (case hd => rfl); (case hg => rfl); (case hr => first | (go_simp; done) | (go_simp; rfl)); intro gb101 hg w10 hbox hb; have n0_ := Aside0.mk (below_step (eb HB.out) hb); have n1_ := Aside0.mk (hbox); have n2_ := Aside0.mk ((by rw [hg]; exact (below_size (eb HB.out)) : w.heap.size ≤ gb101)); have n3_ := Aside0.mk ((by rw [hg]; exact (below_size (eb HB.out)) : w.heap.size ≤ gb101)); clear HB; have HB := n0_; have BK101 := n1_; have GW101 := n2_; have GE101 := n3_; clear n0_ n1_ n2_ n3_; clear hb hbox hg; obtain ⟨hcz11_0, hcz11_1, hcz11_2, hcz11_3⟩ := bc4 BK101.out; obtain ⟨hfz11_0, hfz11_1, hfz11_2, hfz11_3⟩ := bf4 BK101.out) | ((with_reducible refine gate_callee (f := 15) rfl ?_); refine goesL_ (some 8) rfl rfl Try.func15 (by kernel_rfl) rfl #[.slice A0_2 l0_2.length c0_2, .int .i64 a1] rfl (by (try simp only [List.map_toArray, List.map_cons, List.map_nil]); first | done | rfl | (simp only [List.length_drop, List.length_take]; rfl)) ?_; (with_reducible refine (laws_szStripMoveS.calls k _ _ l0_2 a1 t102 _ ?side1 ?side2 A3.out).mono ?_); (case side1 => repeat (first | exact (Kd.C_below HR0_2.out HB.out) | (with_reducible refine Kd.C_alloc ?_ _) | (with_reducible refine Kd.C_drewN ?_ _) | (with_reducible refine Kd.C_drew ?_))); (case side2 => exact HC0_2.out); rintro e w12 ⟨rfl, hb⟩; refine ⟨_, rfl, ?_⟩; have n0_ := Aside0.mk (blk_below (g := gb101) (o := .cells #[.int .i64 a0_0, .int .i64 a0_1, .slice A0_2 l0_2.length c0_2, .slice A0_3 l0_3.length c0_3] 38 (0, 0)) (ex BK101.out) hb); have n1_ := Aside0.mk (below_step (by repeat (first | (with_reducible first | exact HB.out | apply below_alloc | apply pw_below_drewN | apply below_drew1 | refine below_set ?_ GE101.out) | exact HB.out)) hb); clear BK101; clear HB; have BK101 := n0_; have HB := n1_; clear n0_ n1_; (try clear hb); (try clear hb2); (try clear hk); (try clear hi); obtain ⟨hcz13_0, hcz13_1, hcz13_2, hcz13_3⟩ := bc4 BK101.out; obtain ⟨hfz13_0, hfz13_1, hfz13_2, hfz13_3⟩ := bf4 BK101.out) | ((with_reducible refine gate_callee (f := 60) rfl ?_); refine goesL_ (some 14) rfl rfl Try.func60 (by kernel_rfl) rfl #[.slice A0_3 l0_3.length c0_3, .int .i64 t102] rfl (by (try simp only [List.map_toArray, List.map_cons, List.map_nil]); first | done | rfl | (simp only [List.length_drop, List.length_take]; rfl)) ?_; (with_reducible refine (laws_szIntS.calls _ _ l0_3 t102 t103 _ ?side1 ?side2 A8.out).mono ?_); (case side1 => repeat (first | exact (Kd.C_below HR0_3.out HB.out) | (with_reducible refine Kd.C_alloc ?_ _) | (with_reducible refine Kd.C_drewN ?_ _) | (with_reducible refine Kd.C_drew ?_))); (case side2 => exact HC0_3.out); rintro e w' ⟨rfl, ⟨nd, rfl⟩⟩; refine ⟨_, rfl, ?_⟩))
   go_ret
   exact ⟨by first | rfl | (simp [errW_none, errW_some] <;> rfl) | (simp [*, errW_none, errW_some] <;> rfl), by repeat (first | (with_reducible first | exact HB.out | apply below_alloc | apply pw_below_drewN | apply below_drew1 | refine below_set ?_ GE101.out) | exact HB.out)⟩
  ·rw [if_neg c9] at H
   have c9b0 : decide (t103 < 0) = false := decide_eq_false c9
   clear c9
   obtain rfl := Option.some.inj H
   go_enter Try.func24, Try.ntmps24
   go_wp2_with (first | ((with_reducible refine gate_dst (N := 2) rfl ?_); refine box_event ?hg (N := 2) ?hd (cs := #[.int .i64 a0_0, .int .i64 a0_1, .slice A0_2 l0_2.length c0_2, .slice A0_3 l0_3.length c0_3]) (t := 38) ?hr ?_; (case hd => rfl); (case hg => rfl); (case hr => first | (go_simp; done) | (go_simp; rfl)); intro gb101 hg w14 hbox hb; have n0_ := Aside0.mk (below_step (eb HB.out) hb); have n1_ := Aside0.mk (hbox); have n2_ := Aside0.mk ((by rw [hg]; exact (below_size (eb HB.out)) : w.heap.size ≤ gb101)); have n3_ := Aside0.mk ((by rw [hg]; exact (below_size (eb HB.out)) : w.heap.size ≤ gb101)); clear HB; have HB := n0_; have BK101 := n1_; have GW101 := n2_; have GE101 := n3_; clear n0_ n1_ n2_ n3_; clear hb hbox hg; obtain ⟨hcz15_0, hcz15_1, hcz15_2, hcz15_3⟩ := bc4 BK101.out; obtain ⟨hfz15_0, hfz15_1, hfz15_2, hfz15_3⟩ := bf4 BK101.out) | ((with_reducible refine gate_callee (f := 15) rfl ?_); refine goesL_ (some 8) rfl rfl Try.func15 (by kernel_rfl) rfl #[.slice A0_2 l0_2.length c0_2, .int .i64 a1] rfl (by (try simp only [List.map_toArray, List.map_cons, List.map_nil]); first | done | rfl | (simp only [List.length_drop, List.length_take]; rfl)) ?_; (with_reducible refine (laws_szStripMoveS.calls k _ _ l0_2 a1 t102 _ ?side1 ?side2 A3.out).mono ?_); (case side1 => repeat (first | exact (Kd.C_below HR0_2.out HB.out) | (with_reducible refine Kd.C_alloc ?_ _) | (with_reducible refine Kd.C_drewN ?_ _) | (with_reducible refine Kd.C_drew ?_))); (case side2 => exact HC0_2.out); rintro e w16 ⟨rfl, hb⟩; refine ⟨_, rfl, ?_⟩; have n0_ := Aside0.mk (blk_below (g := gb101) (o := .cells #[.int .i64 a0_0, .int .i64 a0_1, .slice A0_2 l0_2.length c0_2, .slice A0_3 l0_3.length c0_3] 38 (0, 0)) (ex BK101.out) hb); have n1_ := Aside0.mk (below_step (by repeat (first | (with_reducible first | exact HB.out | apply below_alloc | apply pw_below_drewN | apply below_drew1 | refine below_set ?_ GE101.out) | exact HB.out)) hb); clear BK101; clear HB; have BK101 := n0_; have HB := n1_; clear n0_ n1_; (try clear hb); (try clear hb2); (try clear hk); (try clear hi); obtain ⟨hcz17_0, hcz17_1, hcz17_2, hcz17_3⟩ := bc4 BK101.out; obtain ⟨hfz17_0, hfz17_1, hfz17_2, hfz17_3⟩ := bf4 BK101.out) | ((with_reducible refine gate_callee (f := 60) rfl ?_); refine goesL_ (some 14) rfl rfl Try.func60 (by kernel_rfl) rfl #[.slice A0_3 l0_3.length c0_3, .int .i64 t102] rfl (by (try simp only [List.map_toArray, List.map_cons, List.map_nil]); first | done | rfl | (simp only [List.length_drop, List.length_take]; rfl)) ?_; (with_reducible refine (laws_szIntS.calls _ _ l0_3 t102 t103 _ ?side1 ?side2 A8.out).mono ?_); (case side1 => repeat (first | exact (Kd.C_below HR0_3.out HB.out) | (with_reducible refine Kd.C_alloc ?_ _) | (with_reducible refine Kd.C_drewN ?_ _) | (with_reducible refine Kd.C_drew ?_))); (case side2 => exact HC0_3.out); rintro e w' ⟨rfl, ⟨nd, rfl⟩⟩; refine ⟨_, rfl, ?_⟩))
   go_ret
   exact ⟨by first | rfl | (simp [errW_none, errW_some] <;> rfl) | (simp [*, errW_none, errW_some] <;> rfl), by repeat (first | (with_reducible first | exact HB.out | apply below_alloc | apply pw_below_drewN | apply below_drew1 | refine below_set ?_ GE101.out) | exact HB.out)⟩

end Go.Proofs.Ytpdmimlkgmhepaa.G

/- The plain functions of this seat's Go text and, for each, that the call comes to what its plain function says: written for this claim by a program of the session (drv.py) over the kit's print.py. -/
namespace Go.Proofs.Ytpdmimlkgmhepaa.G
open Go.RowKit Go.Proofs.YtpdmimlkgmhepaaW.PrintWords Go.Proofs.YtpdmimlkgmhepaaW.PrintLast Go.Proofs.YtpdmimlkgmhepaaW.PrintMore
attribute [local go_sem] max2_int min2_int max_two min_two max_three min_three max_four min_four   -- for this text's walks alone
set_option linter.unusedVariables false
set_option linter.unusedSimpArgs false

/-! ### laws_toStripBook: function 26 -/
def laws_toStripBook.f (k : Nat) (a0_0 : Int) (a0_1 : Int) (l0_2 : List (S71)) (l0_3 : List Int) : Option (Int × Int × (List (S54)) × List Int) := (laws_toStripMoveS.f k l0_2).bind fun t104 => ((laws_toIntS.f k l0_3).bind fun t107 => (some (a0_0, a0_1, t104, t107)))
theorem laws_toStripBook.mono : ∀ a0 a1 a2 a3 k, LeO (laws_toStripBook.f k a0 a1 a2 a3) (laws_toStripBook.f (k + 1) a0 a1 a2 a3) := by
 intro a0 a1 a2 a3 k
 unfold laws_toStripBook.f
 repeat' first
   | (with_reducible exact laws_toIntS.mono _ _)
   | (with_reducible exact laws_toStripMoveS.mono _ _)
   | (with_reducible exact LeO.refl _)
   | (with_reducible exact LeO.none _)
   | (with_reducible refine LeO.ite ?_ ?_)
   | (with_reducible refine LeO.bind ?_ (fun _ => ?_))
   | exact laws_toIntS.mono _ _
   | exact laws_toStripMoveS.mono _ _
   | exact LeO.none _
   | refine LeO.ite ?_ ?_
   | refine LeO.bind ?_ (fun _ => ?_)
set_option maxHeartbeats 8000000 in
set_option maxRecDepth 100000 in
theorem laws_toStripBook.calls (k : Nat) (a0_0 : Int) (a0_1 : Int) (A0_2 : Option Addr) (c0_2 : Nat) (l0_2 : List (S71)) (A0_3 : Option Addr) (c0_3 : Nat) (l0_3 : List Int) (r1 : Int) (r2 : Int) (r3 : List (S54)) (r4 : List Int) (w : World) (hr0_2 : Kd.C k71 w A0_2 l0_2.length l0_2) (hc0_2 : l0_2.length ≤ c0_2) (hr0_3 : Kd.C (Kd.int .i64) w A0_3 l0_3.length l0_3) (hc0_3 : l0_3.length ≤ c0_3) (h : laws_toStripBook.f k a0_0 a0_1 l0_2 l0_3 = some (r1, r2, r3, r4)) :
  Calls Try.prog 26 #[.agg #[.int .i64 a0_0, .int .i64 a0_1, .slice A0_2 l0_2.length c0_2, .slice A0_3 l0_3.length c0_3]] w fun e w' => ∃ v2_ v3_ : Value, e = .returned (.agg #[.int .i64 r1, .int .i64 r2, v2_, v3_]) ∧ Kd.R k54 54 w' w.heap.size (fun _ => True) v2_ r3 ∧ Kd.R (Kd.int .i64) 3 w' w.heap.size (fun _ => True) v3_ r4 ∧ Below w.heap.size w w' := by
 have hu38 := Try.underlying38
 have hu42 := Try.underlying42
 have HR0_2 := Aside0.mk hr0_2
 have HC0_2 := Aside0.mk hc0_2
 clear hr0_2 hc0_2
 have HR0_3 := Aside0.mk hr0_3
 have HC0_3 := Aside0.mk hc0_3
 clear hr0_3 hc0_3
 have HB := Aside0.mk (Below.refl w.heap.size w)
 have H : ((laws_toStripMoveS.f k l0_2).bind fun t104 => ((laws_toIntS.f k l0_3).bind fun t107 => (some (a0_0, a0_1, t104, t107)))) = some (r1, r2, r3, r4) := h
 clear h
 replace H := Option.bind_eq_some_iff.mp H
 obtain ⟨t104, A20, H⟩ := H
 replace H : ((laws_toIntS.f k l0_3).bind fun t107 => (some (a0_0, a0_1, t104, t107))) = some (r1, r2, r3, r4) := H
 have A2 := Aside0.mk A20
 clear A20
 replace H := Option.bind_eq_some_iff.mp H
 obtain ⟨t107, A30, H⟩ := H
 replace H : (some (a0_0, a0_1, t104, t107)) = some (r1, r2, r3, r4) := H
 have A3 := Aside0.mk A30
 clear A30
 simp only [Option.some.injEq, Prod.mk.injEq] at H
 obtain ⟨rfl, rfl, rfl, rfl⟩ := H
 go_enter Try.func26, Try.ntmps26
 go_wp2_with (first | ((with_reducible refine gate_dst (N := 1) rfl ?_); refine box_event ?hg (N := 1) ?hd (cs := #[.int .i64 a0_0, .int .i64 a0_1, .slice A0_2 l0_2.length c0_2, .slice A0_3 l0_3.length c0_3]) (t := 38) ?hr ?_; (case hd => rfl); (case hg => rfl); (case hr => first | (go_simp; done) | (go_simp; rfl)); intro gb101 hg w4 hbox hb; have n0_ := Aside0.mk (below_step (eb HB.out) hb); have n1_ := Aside0.mk (hbox); have n2_ := Aside0.mk ((by rw [hg]; exact (below_size (eb HB.out)) : w.heap.size ≤ gb101)); have n3_ := Aside0.mk ((by rw [hg]; exact (below_size (eb HB.out)) : w.heap.size ≤ gb101)); clear HB; have HB := n0_; have BK101 := n1_; have GW101 := n2_; have GE101 := n3_; clear n0_ n1_ n2_ n3_; clear hb hbox hg) | ((with_reducible refine gate_dst (N := 2) rfl ?_); refine box_event ?hg (N := 2) ?hd (cs := #[.int .i64 0, .int .i64 0, .slice none 0 0, .slice none 0 0]) (t := 42) ?hr ?_; (case hd => rfl); (case hg => rfl); (case hr => first | (go_simp; done) | (go_simp; rfl)); intro gb102 hg w5 hbox hb; have n0_ := Aside0.mk (blk_below (g := gb101) (o := .cells #[.int .i64 a0_0, .int .i64 a0_1, .slice A0_2 l0_2.length c0_2, .slice A0_3 l0_3.length c0_3] 38 (0, 0)) (ex BK101.out) hb); have n1_ := Aside0.mk (below_step (by repeat (first | (with_reducible first | exact HB.out | apply below_alloc | apply pw_below_drewN | apply below_drew1 | refine below_set ?_ GE101.out) | exact HB.out)) hb); have n2_ := Aside0.mk (hbox); have n3_ := Aside0.mk ((by rw [hg]; exact (below_size (by repeat (first | (with_reducible first | exact HB.out | apply below_alloc | apply pw_below_drewN | apply below_drew1 | refine below_set ?_ GE101.out) | exact HB.out))) : w.heap.size ≤ gb102)); have n4_ := Aside0.mk ((by rw [hg]; exact (below_size (by repeat (first | (with_reducible first | exact HB.out | apply below_alloc | apply pw_below_drewN | apply below_drew1 | refine below_set ?_ GE101.out) | exact HB.out))) : w.heap.size ≤ gb102)); have n5_ := Aside0.mk ((by rw [hg]; exact Nat.ne_of_lt (blk_lt (g := gb101) (o := .cells #[.int .i64 a0_0, .int .i64 a0_1, .slice A0_2 l0_2.length c0_2, .slice A0_3 l0_3.length c0_3] 38 (0, 0)) (ex BK101.out)) : gb101 ≠ gb102)); have n6_ := Aside0.mk ((by rw [hg]; exact Nat.ne_of_gt (blk_lt (g := gb101) (o := .cells #[.int .i64 a0_0, .int .i64 a0_1, .slice A0_2 l0_2.length c0_2, .slice A0_3 l0_3.length c0_3] 38 (0, 0)) (ex BK101.out)) : gb102 ≠ gb101)); clear BK101; clear HB; have BK101 := n0_; have HB := n1_; have BK102 := n2_; have GW102 := n3_; have GE102 := n4_; have NB101_102 := n5_; have NB102_101 := n6_; clear n0_ n1_ n2_ n3_ n4_ n5_ n6_; clear hb hbox hg) | ((with_reducible refine gate_dst (N := 3) rfl ?_); refine box_event ?hg (N := 3) ?hd (cs := #[.int .i64 0, .int .i64 0, .slice none 0 0, .slice none 0 0]) (t := 42) ?hr ?_; (case hd => rfl); (case hg => rfl); (case hr => first | (go_simp; done) | (go_simp; rfl)); intro gb103 hg w6 hbox hb; have n0_ := Aside0.mk (blk_below (g := gb101) (o := .cells #[.int .i64 a0_0, .int .i64 a0_1, .slice A0_2 l0_2.length c0_2, .slice A0_3 l0_3.length c0_3] 38 (0, 0)) (ex BK101.out) hb); have n1_ := Aside0.mk (blk_below (g := gb102) (o := .cells #[.int .i64 0, .int .i64 0, .slice none 0 0, .slice none 0 0] 42 (0, 0)) (ex BK102.out) hb); have n2_ := Aside0.mk (below_step (by repeat (first | (with_reducible first | exact HB.out | apply below_alloc | apply pw_below_drewN | apply below_drew1 | refine below_set ?_ GE101.out | refine below_set ?_ GE102.out) | exact HB.out)) hb); have n3_ := Aside0.mk (hbox); have n4_ := Aside0.mk ((by rw [hg]; exact (below_size (by repeat (first | (with_reducible first | exact HB.out | apply below_alloc | apply pw_below_drewN | apply below_drew1 | refine below_set ?_ GE101.out | refine below_set ?_ GE102.out) | exact HB.out))) : w.heap.size ≤ gb103)); have n5_ := Aside0.mk ((by rw [hg]; exact (below_size (by repeat (first | (with_reducible first | exact HB.out | apply below_alloc | apply pw_below_drewN | apply below_drew1 | refine below_set ?_ GE101.out | refine below_set ?_ GE102.out) | exact HB.out))) : w.heap.size ≤ gb103)); have n6_ := Aside0.mk ((by rw [hg]; exact Nat.ne_of_lt (blk_lt (g := gb101) (o := .cells #[.int .i64 a0_0, .int .i64 a0_1, .slice A0_2 l0_2.length c0_2, .slice A0_3 l0_3.length c0_3] 38 (0, 0)) (ex BK101.out)) : gb101 ≠ gb103)); have n7_ := Aside0.mk ((by rw [hg]; exact Nat.ne_of_gt (blk_lt (g := gb101) (o := .cells #[.int .i64 a0_0, .int .i64 a0_1, .slice A0_2 l0_2.length c0_2, .slice A0_3 l0_3.length c0_3] 38 (0, 0)) (ex BK101.out)) : gb103 ≠ gb101)); have n8_ := Aside0.mk ((by rw [hg]; exact Nat.ne_of_lt (blk_lt (g := gb102) (o := .cells #[.int .i64 0, .int .i64 0, .slice none 0 0, .slice none 0 0] 42 (0, 0)) (ex BK102.out)) : gb102 ≠ gb103)); have n9_ := Aside0.mk ((by rw [hg]; exact Nat.ne_of_gt (blk_lt (g := gb102) (o := .cells #[.int .i64 0, .int .i64 0, .slice none 0 0, .slice none 0 0] 42 (0, 0)) (ex BK102.out)) : gb103 ≠ gb102)); clear BK101; clear BK102; clear HB; have BK101 := n0_; have BK102 := n1_; have HB := n2_; have BK103 := n3_; have GW103 := n4_; have GE103 := n5_; have NB101_103 := n6_; have NB103_101 := n7_; have NB102_103 := n8_; have NB103_102 := n9_; clear n0_ n1_ n2_ n3_ n4_ n5_ n6_ n7_ n8_ n9_; clear hb hbox hg; have hnb7 := NB101_102.out; have hnc7 := NB102_101.out; have hnb8 := NB101_103.out; have hnc8 := NB103_101.out; obtain ⟨hcz9_0, hcz9_1, hcz9_2, hcz9_3⟩ := bc4 BK101.out; obtain ⟨hfz9_0, hfz9_1, hfz9_2, hfz9_3⟩ := bf4 BK101.out; have hnb10 := NB103_102.out; have hnc10 := NB102_103.out; obtain ⟨hcz11_0, hcz11_1, hcz11_2, hcz11_3⟩ := bc4 BK103.out; obtain ⟨hfz11_0, hfz11_1, hfz11_2, hfz11_3⟩ := bf4 BK103.out) | ((with_reducible refine gate_callee (f := 17) rfl ?_); refine goesL_ (some 12) rfl rfl Try.func17 (by kernel_rfl) rfl #[.slice A0_2 l0_2.length c0_2] rfl (by (try simp only [List.map_toArray, List.map_cons, List.map_nil]); first | done | rfl | (simp only [List.length_drop, List.length_take]; rfl)) ?_; (with_reducible refine (laws_toStripMoveS.calls k _ _ l0_2 t104 _ ?side1 ?side2 A2.out).mono ?_); (case side1 => exact Kd.C_below HR0_2.out (by repeat (first | (with_reducible first | exact HB.out | apply below_alloc | apply pw_below_drewN | apply below_drew1 | refine below_set ?_ GE101.out | refine below_set ?_ GE102.out | refine below_set ?_ GE103.out) | exact HB.out))); (case side2 => exact HC0_2.out); rintro e w12 ⟨v105, rfl, ho0, hb⟩; refine ⟨_, rfl, ?_⟩; have n0_ := Aside0.mk (Kd.R_lower ho0 (below_size (by repeat (first | (with_reducible first | exact HB.out | apply below_alloc | apply pw_below_drewN | apply below_drew1 | refine below_set ?_ GE101.out | refine below_set ?_ GE102.out | refine below_set ?_ GE103.out) | exact HB.out)))); have n1_ := Aside0.mk (blk_below (g := gb101) (o := .cells #[.int .i64 a0_0, .int .i64 a0_1, .slice A0_2 l0_2.length c0_2, .slice A0_3 l0_3.length c0_3] 38 (0, 0)) (by refine px ?_; refine blk_far ?_ NB101_103.out _; refine px ?_; refine blk_far ?_ NB101_103.out _; refine px ?_; exact BK101.out) hb); have n2_ := Aside0.mk (blk_below (g := gb102) (o := .cells #[.int .i64 0, .int .i64 0, .slice none 0 0, .slice none 0 0] 42 (0, 0)) (by refine px ?_; refine blk_far ?_ NB102_103.out _; refine px ?_; refine blk_far ?_ NB102_103.out _; refine px ?_; exact BK102.out) hb); have n3_ := Aside0.mk (blk_below (g := gb103) (o := .cells #[.int .i64 a0_0, .int .i64 a0_1, .slice none 0 0, .slice none 0 0] 42 (0, 0)) (by refine px ?_; refine blk_put (cs := #[.int .i64 a0_0, .int .i64 0, .slice none 0 0, .slice none 0 0]) ?_ 1 _ rfl; refine px ?_; refine blk_put (cs := #[.int .i64 0, .int .i64 0, .slice none 0 0, .slice none 0 0]) ?_ 0 _ rfl; refine px ?_; exact BK103.out) hb); have n4_ := Aside0.mk (below_step (by repeat (first | (with_reducible first | exact HB.out | apply below_alloc | apply pw_below_drewN | apply below_drew1 | refine below_set ?_ GE101.out | refine below_set ?_ GE102.out | refine below_set ?_ GE103.out) | exact HB.out)) hb); clear BK101; clear BK102; clear BK103; clear HB; have HO106 := n0_; have BK101 := n1_; have BK102 := n2_; have BK103 := n3_; have HB := n4_; clear n0_ n1_ n2_ n3_ n4_; (try clear hb); (try clear hb2); (try clear hk); (try clear hi); (try clear ho0); obtain ⟨Ao13, co13, eo13⟩ := Kd.R_slice HO106.out; subst eo13; obtain ⟨hcz14_0, hcz14_1, hcz14_2, hcz14_3⟩ := bc4 BK103.out; obtain ⟨hfz14_0, hfz14_1, hfz14_2, hfz14_3⟩ := bf4 BK103.out; obtain ⟨hcz15_0, hcz15_1, hcz15_2, hcz15_3⟩ := bc4 BK101.out; obtain ⟨hfz15_0, hfz15_1, hfz15_2, hfz15_3⟩ := bf4 BK101.out) | ((with_reducible refine gate_callee (f := 12) rfl ?_); refine goesL_ (some 16) rfl rfl Try.func12 (by kernel_rfl) rfl #[.slice A0_3 l0_3.length c0_3] rfl (by (try simp only [List.map_toArray, List.map_cons, List.map_nil]); first | done | rfl | (simp only [List.length_drop, List.length_take]; rfl)) ?_; (with_reducible refine (laws_toIntS.calls k _ _ l0_3 t107 _ ?side1 ?side2 A3.out).mono ?_); (case side1 => exact Kd.C_below HR0_3.out (by repeat (first | (with_reducible first | exact HB.out | apply below_alloc | apply pw_below_drewN | apply below_drew1 | refine below_set ?_ GE101.out | refine below_set ?_ GE102.out | refine below_set ?_ GE103.out) | exact HB.out))); (case side2 => exact HC0_3.out); rintro e w16 ⟨v108, rfl, ho0, hb⟩; refine ⟨_, rfl, ?_⟩; have n0_ := Aside0.mk (Kd.R_below (by (with_reducible repeat (first | apply Kd.R_alloc | apply Kd.R_drewN | apply Kd.R_drew)); exact (Kd.R_mono (Kd.R_far (p := ⟨gb103, 2, none⟩) (Kd.R_types HO106.out BK103.out (by decide)) (fun _ hk => hk.2) (.slice Ao13 t104.length co13)) (fun _ h_ => h_.1))) hb); have n1_ := Aside0.mk (Kd.R_lower ho0 (below_size (by repeat (first | (with_reducible first | exact HB.out | apply below_alloc | apply pw_below_drewN | apply below_drew1 | refine below_set ?_ GE101.out | refine below_set ?_ GE102.out | refine below_set ?_ GE103.out) | exact HB.out)))); have n2_ := Aside0.mk (blk_below (g := gb101) (o := .cells #[.int .i64 a0_0, .int .i64 a0_1, .slice A0_2 l0_2.length c0_2, .slice A0_3 l0_3.length c0_3] 38 (0, 0)) (by refine px ?_; refine blk_far ?_ NB101_103.out _; refine px ?_; exact BK101.out) hb); have n3_ := Aside0.mk (blk_below (g := gb102) (o := .cells #[.int .i64 0, .int .i64 0, .slice none 0 0, .slice none 0 0] 42 (0, 0)) (by refine px ?_; refine blk_far ?_ NB102_103.out _; refine px ?_; exact BK102.out) hb); have n4_ := Aside0.mk (blk_below (g := gb103) (o := .cells #[.int .i64 a0_0, .int .i64 a0_1, .slice Ao13 t104.length co13, .slice none 0 0] 42 (0, 0)) (by refine px ?_; refine blk_put (cs := #[.int .i64 a0_0, .int .i64 a0_1, .slice none 0 0, .slice none 0 0]) ?_ 2 _ rfl; refine px ?_; exact BK103.out) hb); have n5_ := Aside0.mk (below_step (by repeat (first | (with_reducible first | exact HB.out | apply below_alloc | apply pw_below_drewN | apply below_drew1 | refine below_set ?_ GE101.out | refine below_set ?_ GE102.out | refine below_set ?_ GE103.out) | exact HB.out)) hb); clear HO106; clear BK101; clear BK102; clear BK103; clear HB; have HO106 := n0_; have HO109 := n1_; have BK101 := n2_; have BK102 := n3_; have BK103 := n4_; have HB := n5_; clear n0_ n1_ n2_ n3_ n4_ n5_; (try clear hb); (try clear hb2); (try clear hk); (try clear hi); (try clear ho0); obtain ⟨Ao17, co17, eo17⟩ := Kd.R_slice HO109.out; subst eo17; obtain ⟨hcz18_0, hcz18_1, hcz18_2, hcz18_3⟩ := bc4 BK103.out; obtain ⟨hfz18_0, hfz18_1, hfz18_2, hfz18_3⟩ := bf4 BK103.out; obtain ⟨hcz19_0, hcz19_1, hcz19_2, hcz19_3⟩ := bc4 BK102.out; obtain ⟨hfz19_0, hfz19_1, hfz19_2, hfz19_3⟩ := bf4 BK102.out))
 refine bodyPost_ret (results_cell_row rfl _ _ gb102 42 #[.int .i64 a0_0, .int .i64 a0_1, .slice Ao13 t104.length co13, .slice Ao17 t107.length co17] (0, 0) _ rfl (by refine px ?_; refine blk_put (cs := #[.int .i64 a0_0, .int .i64 a0_1, .slice Ao13 t104.length co13, .slice none 0 0]) ?_ 3 _ rfl; refine px ?_; refine blk_put (cs := #[.int .i64 a0_0, .int .i64 a0_1, .slice none 0 0, .slice none 0 0]) ?_ 2 _ rfl; refine px ?_; refine blk_put (cs := #[.int .i64 a0_0, .int .i64 0, .slice none 0 0, .slice none 0 0]) ?_ 1 _ rfl; refine px ?_; refine blk_put (cs := #[.int .i64 0, .int .i64 0, .slice none 0 0, .slice none 0 0]) ?_ 0 _ rfl; refine px ?_; refine blk_far ?_ NB102_103.out _; refine px ?_; exact BK102.out) Try.underlying42 rfl (by kernel_rfl)) rfl ?_
 exact ⟨_, _, by first | rfl | (simp [errW_none, errW_some] <;> rfl) | (simp [*, errW_none, errW_some] <;> rfl), by (with_reducible repeat (first | apply Kd.R_alloc | apply Kd.R_drewN | apply Kd.R_drew)); exact Kd.R_mono (Kd.R_far (p := ⟨gb102, 3, none⟩) (Kd.R_far (p := ⟨gb102, 2, none⟩) (Kd.R_far (p := ⟨gb102, 1, none⟩) (Kd.R_far (p := ⟨gb102, 0, none⟩) (Kd.R_far (p := ⟨gb103, 3, none⟩) (Kd.R_types (Kd.R_types HO106.out BK103.out (by decide)) BK102.out (by decide)) (fun _ hk => hk.1.2) (.slice Ao17 t107.length co17)) (fun _ hk => hk.2) (.int .i64 a0_0)) (fun _ hk => hk.2) (.int .i64 a0_1)) (fun _ hk => hk.2) (.slice Ao13 t104.length co13)) (fun _ hk => hk.2) (.slice Ao17 t107.length co17)) (fun _ hk => trivial), by (with_reducible repeat (first | apply Kd.R_alloc | apply Kd.R_drewN | apply Kd.R_drew)); exact Kd.R_mono (Kd.R_far (p := ⟨gb102, 3, none⟩) (Kd.R_far (p := ⟨gb102, 2, none⟩) (Kd.R_far (p := ⟨gb102, 1, none⟩) (Kd.R_far (p := ⟨gb102, 0, none⟩) (Kd.R_far (p := ⟨gb103, 3, none⟩) (Kd.R_types (Kd.R_types HO109.out BK103.out (by decide)) BK102.out (by decide)) (fun _ hk => hk.1.2) (.slice Ao17 t107.length co17)) (fun _ hk => hk.2) (.int .i64 a0_0)) (fun _ hk => hk.2) (.int .i64 a0_1)) (fun _ hk => hk.2) (.slice Ao13 t104.length co13)) (fun _ hk => hk.2) (.slice Ao17 t107.length co17)) (fun _ hk => trivial), by repeat (first | (with_reducible first | exact HB.out | apply below_alloc | apply pw_below_drewN | apply below_drew1 | refine below_set ?_ GE101.out | refine below_set ?_ GE102.out | refine below_set ?_ GE103.out) | exact HB.out)⟩

end Go.Proofs.Ytpdmimlkgmhepaa.G
