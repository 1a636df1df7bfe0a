/- FnExactStripCost, part 3 of 4: the plain functions of the Go text that the law reaches, what the calls come to, and plain lemmas on them; no condition -/
import Derived.Deep.Slices
import Derived.Deep.Fields
import Derived.ChangeSame
import Derived.Lib.SmallJoins
import Derived.WalkKit
import Derived.ProofKit
import Derived.OpenShut
import Derived.ShutString
import Derived.ChangeOld
import Derived.SizedLaws
import Derived.Test.YtpdmimlkgmhepaaYXCost0
import Derived.Test.YtpdmimlkgmhepaaYXCost1
import Derived.Test.YtpdmimlkgmhepaaYXCost2
/- The plain functions of this seat's Go text and, for each, that the call comes to what its plain function says: written for this claim by a program of the session (drv.py) over the kit's print.py. -/
namespace Go.Proofs.Ytpdmimlkgmhepaa.G
open Go.RowKit Go.Proofs.YtpdmimlkgmhepaaW.PrintWords Go.Proofs.YtpdmimlkgmhepaaW.PrintLast Go.Proofs.YtpdmimlkgmhepaaW.PrintMore
attribute [local go_sem] max2_int min2_int max_two min_two max_three min_three max_four min_four   -- for this text's walks alone
set_option linter.unusedVariables false
set_option linter.unusedSimpArgs false

/-! ### impl_StripFits: function 21 -/
mutual
def impl_StripFits.j0 : Nat → List (S54) → List Int → Bool → Option (Bool)
 | 0, _, _, _ => none
 | k + 1, x0, x1, x18 => if x18 = true then (some false) else (impl_StripFits.l0 k x0 x1 x0 (x0.length : Int) 0)
def impl_StripFits.l0 : Nat → List (S54) → List Int → List (S54) → Int → Int → Option (Bool)
 | 0, _, _, _, _, _ => none
 | k + 1, x0, x1, x19, x20, x21 => if x21 < x20 then (if 0 ≤ x21 then (if x21 < (x19.length : Int) then (if x21 < (x1.length : Int) then ((impl_in.f (rd x1 x21) ((rd_T54 x19 x21).f3) ((rd_T54 x19 x21).f4)).bind fun t105 => (if t105 = true then (if ((rd_T54 x19 x21).f5) ≥ 0 then (impl_StripFits.j2 k x0 x1 x21 x19 x20 x21 ((rd x1 x21) != ((rd_T54 x19 x21).f5)) ((rd_T54 x19 x21).f0) ((rd_T54 x19 x21).f1) ((rd_T54 x19 x21).f2) ((rd_T54 x19 x21).f3) ((rd_T54 x19 x21).f4) ((rd_T54 x19 x21).f5)) else (impl_StripFits.j2 k x0 x1 x21 x19 x20 x21 false ((rd_T54 x19 x21).f0) ((rd_T54 x19 x21).f1) ((rd_T54 x19 x21).f2) ((rd_T54 x19 x21).f3) ((rd_T54 x19 x21).f4) ((rd_T54 x19 x21).f5))) else (impl_StripFits.j2 k x0 x1 x21 x19 x20 x21 true ((rd_T54 x19 x21).f0) ((rd_T54 x19 x21).f1) ((rd_T54 x19 x21).f2) ((rd_T54 x19 x21).f3) ((rd_T54 x19 x21).f4) ((rd_T54 x19 x21).f5)))) else (none)) else (none)) else (none)) else (some true)
def impl_StripFits.j2 : Nat → List (S54) → List Int → Int → List (S54) → Int → Int → Bool → ByteArray → Bool → Int → Int → Int → Int → Option (Bool)
 | 0, _, _, _, _, _, _, _, _, _, _, _, _, _ => none
 | k + 1, x0, x1, x5, x19, x20, x21, x49, x104000, x104001, x104002, x104003, x104004, x104005 => if x49 = true then (some false) else (impl_StripFits.l1 k x0 x1 x5 x19 x20 x21 x0 (x0.length : Int) 0 x104000 x104001 x104002 x104003 x104004 x104005)
def impl_StripFits.l1 : Nat → List (S54) → List Int → Int → List (S54) → Int → Int → List (S54) → Int → Int → ByteArray → Bool → Int → Int → Int → Int → Option (Bool)
 | 0, _, _, _, _, _, _, _, _, _, _, _, _, _, _, _ => none
 | k + 1, x0, x1, x5, x19, x20, x21, x50, x51, x52, x104000, x104001, x104002, x104003, x104004, x104005 => if x52 < x51 then (if 0 ≤ x52 then (if x52 < (x50.length : Int) then (if x52 = x5 then (impl_StripFits.l1 k x0 x1 x5 x19 x20 x21 x50 x51 (wrap64 (x52 + 1)) x104000 x104001 x104002 x104003 x104004 x104005) else (if 0 ≤ x5 then (if x5 < (x1.length : Int) then (if x52 < (x1.length : Int) then (if (rd x1 x5) = (rd x1 x52) then (some false) else (if (rd x1 x5) < (rd x1 x52) then ((impl_StripGap.f k x104000 x104001 x104002 x104003 x104004 x104005 ((rd_T54 x50 x52).f0) ((rd_T54 x50 x52).f1) ((rd_T54 x50 x52).f2) ((rd_T54 x50 x52).f3) ((rd_T54 x50 x52).f4) ((rd_T54 x50 x52).f5)).bind fun t115 => (if (wrap64 ((rd x1 x52) - (rd x1 x5))) < t115 then (some false) else (impl_StripFits.l1 k x0 x1 x5 x19 x20 x21 x50 x51 (wrap64 (x52 + 1)) x104000 x104001 x104002 x104003 x104004 x104005))) else (impl_StripFits.l1 k x0 x1 x5 x19 x20 x21 x50 x51 (wrap64 (x52 + 1)) x104000 x104001 x104002 x104003 x104004 x104005))) else (none)) else (none)) else (none))) else (none)) else (none)) else (impl_StripFits.l0 k x0 x1 x19 x20 (wrap64 (x21 + 1)))
end
def impl_StripFits.f (k : Nat) (l0 : List (S54)) (l1 : List Int) : Option (Bool) := (impl_StripMovesOk.f k l0).bind fun t101 => (if t101 = true then (impl_StripFits.j0 k l0 l1 ((l1.length : Int) != (l0.length : Int))) else (impl_StripFits.j0 k l0 l1 true))
theorem impl_StripFits.mono_l : ∀ k, (∀ y0 y1 y2, LeO (impl_StripFits.j0 k y0 y1 y2) (impl_StripFits.j0 (k + 1) y0 y1 y2)) ∧ (∀ y0 y1 y2 y3 y4, LeO (impl_StripFits.l0 k y0 y1 y2 y3 y4) (impl_StripFits.l0 (k + 1) y0 y1 y2 y3 y4)) ∧ (∀ y0 y1 y2 y3 y4 y5 y6 y7 y8 y9 y10 y11 y12, LeO (impl_StripFits.j2 k y0 y1 y2 y3 y4 y5 y6 y7 y8 y9 y10 y11 y12) (impl_StripFits.j2 (k + 1) y0 y1 y2 y3 y4 y5 y6 y7 y8 y9 y10 y11 y12)) ∧ (∀ y0 y1 y2 y3 y4 y5 y6 y7 y8 y9 y10 y11 y12 y13 y14, LeO (impl_StripFits.l1 k y0 y1 y2 y3 y4 y5 y6 y7 y8 y9 y10 y11 y12 y13 y14) (impl_StripFits.l1 (k + 1) y0 y1 y2 y3 y4 y5 y6 y7 y8 y9 y10 y11 y12 y13 y14))
 | 0 => ⟨fun _ _ _ r h => by simp [impl_StripFits.j0] at h, fun _ _ _ _ _ r h => by simp [impl_StripFits.l0] at h, fun _ _ _ _ _ _ _ _ _ _ _ _ _ r h => by simp [impl_StripFits.j2] at h, fun _ _ _ _ _ _ _ _ _ _ _ _ _ _ _ r h => by simp [impl_StripFits.l1] at h⟩
 | k + 1 => by
  obtain ⟨ih0, ih1, ih2, ih3⟩ := impl_StripFits.mono_l k
  refine ⟨?_, ?_, ?_, ?_⟩
  ·intro y0 y1 y2
   unfold impl_StripFits.j0
   repeat' first
   | (with_reducible exact ih0 _ _ _)
   | (with_reducible exact ih1 _ _ _ _ _)
   | (with_reducible exact ih2 _ _ _ _ _ _ _ _ _ _ _ _ _)
   | (with_reducible exact ih3 _ _ _ _ _ _ _ _ _ _ _ _ _ _ _)
   | (with_reducible exact impl_StripGap.mono _ _ _ _ _ _ _ _ _ _ _ _ _)
   | (with_reducible exact impl_StripMovesOk.mono _ _)
   | (with_reducible exact LeO.refl _)
   | (with_reducible exact LeO.none _)
   | (with_reducible refine LeO.ite ?_ ?_)
   | (with_reducible refine LeO.bind ?_ (fun _ => ?_))
   | exact ih0 _ _ _
   | exact ih1 _ _ _ _ _
   | exact ih2 _ _ _ _ _ _ _ _ _ _ _ _ _
   | exact ih3 _ _ _ _ _ _ _ _ _ _ _ _ _ _ _
   | exact impl_StripGap.mono _ _ _ _ _ _ _ _ _ _ _ _ _
   | exact impl_StripMovesOk.mono _ _
   | exact LeO.none _
   | refine LeO.ite ?_ ?_
   | refine LeO.bind ?_ (fun _ => ?_)
  ·intro y0 y1 y2 y3 y4
   unfold impl_StripFits.l0
   repeat' first
   | (with_reducible exact ih0 _ _ _)
   | (with_reducible exact ih1 _ _ _ _ _)
   | (with_reducible exact ih2 _ _ _ _ _ _ _ _ _ _ _ _ _)
   | (with_reducible exact ih3 _ _ _ _ _ _ _ _ _ _ _ _ _ _ _)
   | (with_reducible exact impl_StripGap.mono _ _ _ _ _ _ _ _ _ _ _ _ _)
   | (with_reducible exact impl_StripMovesOk.mono _ _)
   | (with_reducible exact LeO.refl _)
   | (with_reducible exact LeO.none _)
   | (with_reducible refine LeO.ite ?_ ?_)
   | (with_reducible refine LeO.bind ?_ (fun _ => ?_))
   | exact ih0 _ _ _
   | exact ih1 _ _ _ _ _
   | exact ih2 _ _ _ _ _ _ _ _ _ _ _ _ _
   | exact ih3 _ _ _ _ _ _ _ _ _ _ _ _ _ _ _
   | exact impl_StripGap.mono _ _ _ _ _ _ _ _ _ _ _ _ _
   | exact impl_StripMovesOk.mono _ _
   | exact LeO.none _
   | refine LeO.ite ?_ ?_
   | refine LeO.bind ?_ (fun _ => ?_)
  ·intro y0 y1 y2 y3 y4 y5 y6 y7 y8 y9 y10 y11 y12
   unfold impl_StripFits.j2
   repeat' first
   | (with_reducible exact ih0 _ _ _)
   | (with_reducible exact ih1 _ _ _ _ _)
   | (with_reducible exact ih2 _ _ _ _ _ _ _ _ _ _ _ _ _)
   | (with_reducible exact ih3 _ _ _ _ _ _ _ _ _ _ _ _ _ _ _)
   | (with_reducible exact impl_StripGap.mono _ _ _ _ _ _ _ _ _ _ _ _ _)
   | (with_reducible exact impl_StripMovesOk.mono _ _)
   | (with_reducible exact LeO.refl _)
   | (with_reducible exact LeO.none _)
   | (with_reducible refine LeO.ite ?_ ?_)
   | (with_reducible refine LeO.bind ?_ (fun _ => ?_))
   | exact ih0 _ _ _
   | exact ih1 _ _ _ _ _
   | exact ih2 _ _ _ _ _ _ _ _ _ _ _ _ _
   | exact ih3 _ _ _ _ _ _ _ _ _ _ _ _ _ _ _
   | exact impl_StripGap.mono _ _ _ _ _ _ _ _ _ _ _ _ _
   | exact impl_StripMovesOk.mono _ _
   | exact LeO.none _
   | refine LeO.ite ?_ ?_
   | refine LeO.bind ?_ (fun _ => ?_)
  ·intro y0 y1 y2 y3 y4 y5 y6 y7 y8 y9 y10 y11 y12 y13 y14
   unfold impl_StripFits.l1
   repeat' first
   | (with_reducible exact ih0 _ _ _)
   | (with_reducible exact ih1 _ _ _ _ _)
   | (with_reducible exact ih2 _ _ _ _ _ _ _ _ _ _ _ _ _)
   | (with_reducible exact ih3 _ _ _ _ _ _ _ _ _ _ _ _ _ _ _)
   | (with_reducible exact impl_StripGap.mono _ _ _ _ _ _ _ _ _ _ _ _ _)
   | (with_reducible exact impl_StripMovesOk.mono _ _)
   | (with_reducible exact LeO.refl _)
   | (with_reducible exact LeO.none _)
   | (with_reducible refine LeO.ite ?_ ?_)
   | (with_reducible refine LeO.bind ?_ (fun _ => ?_))
   | exact ih0 _ _ _
   | exact ih1 _ _ _ _ _
   | exact ih2 _ _ _ _ _ _ _ _ _ _ _ _ _
   | exact ih3 _ _ _ _ _ _ _ _ _ _ _ _ _ _ _
   | exact impl_StripGap.mono _ _ _ _ _ _ _ _ _ _ _ _ _
   | exact impl_StripMovesOk.mono _ _
   | exact LeO.none _
   | refine LeO.ite ?_ ?_
   | refine LeO.bind ?_ (fun _ => ?_)
theorem impl_StripFits.mono : ∀ a0 a1 k, LeO (impl_StripFits.f k a0 a1) (impl_StripFits.f (k + 1) a0 a1) := by
 intro a0 a1 k
 obtain ⟨ih0, ih1, ih2, ih3⟩ := impl_StripFits.mono_l k
 unfold impl_StripFits.f
 repeat' first
   | (with_reducible exact ih0 _ _ _)
   | (with_reducible exact ih1 _ _ _ _ _)
   | (with_reducible exact ih2 _ _ _ _ _ _ _ _ _ _ _ _ _)
   | (with_reducible exact ih3 _ _ _ _ _ _ _ _ _ _ _ _ _ _ _)
   | (with_reducible exact impl_StripGap.mono _ _ _ _ _ _ _ _ _ _ _ _ _)
   | (with_reducible exact impl_StripMovesOk.mono _ _)
   | (with_reducible exact LeO.refl _)
   | (with_reducible exact LeO.none _)
   | (with_reducible refine LeO.ite ?_ ?_)
   | (with_reducible refine LeO.bind ?_ (fun _ => ?_))
   | exact ih0 _ _ _
   | exact ih1 _ _ _ _ _
   | exact ih2 _ _ _ _ _ _ _ _ _ _ _ _ _
   | exact ih3 _ _ _ _ _ _ _ _ _ _ _ _ _ _ _
   | exact impl_StripGap.mono _ _ _ _ _ _ _ _ _ _ _ _ _
   | exact impl_StripMovesOk.mono _ _
   | exact LeO.none _
   | refine LeO.ite ?_ ?_
   | refine LeO.bind ?_ (fun _ => ?_)
def impl_StripFits.T6 : Bool × List (List Nat × List Nat) := (true, [([], []), ([], []), ([0, 1], [0, 1]), ([2], [2]), ([], []), ([4], [4]), ([], []), ([6], [6]), ([3, 5, 7], [3, 5, 7]), ([8], [8]), ([9, 8], [9]), ([10], [10]), ([11, 10], [10, 11]), ([12, 10], [10, 12]), ([13, 10, 10], [10, 13]), ([14], [14]), ([14], [14]), ([15, 16, 14], [14, 15, 16]), ([17, 14], [14, 17]), ([14], [14]), ([19, 14], [14, 19]), ([18, 20, 14], [14, 18, 20]), ([14, 21, 10], [10, 14, 21]), ([10, 22], [10, 22])])
def impl_StripFits.B6 : List Nat := [0, 0, 3, 7, 0, 16, 0, 64, 255, 511, 1023, 2047, 4095, 8191, 16383, 32767, 32767, 131071, 262143, 32767, 557055, 2097151, 4194303, 8388607]
theorem impl_StripFits.tab6 : rtab .any (opsOf Try.f21 6) = impl_StripFits.T6 := by kernel_rfl
theorem impl_StripFits.bits6 : waitsOk impl_StripFits.T6.2 impl_StripFits.B6 = true := by kernel_rfl
def impl_StripFits.T11 : Bool × List (List Nat × List Nat) := (true, [([], []), ([], []), ([0, 1], [0, 1]), ([2], [2]), ([3], [3]), ([3], [3]), ([4, 5, 3], [3, 4, 5]), ([6, 3], [3, 6]), ([3], [3]), ([3], [3]), ([8, 9, 3], [3, 8, 9]), ([10, 3], [3, 10]), ([7, 11, 3], [3, 7, 11]), ([12, 3, 3], [3, 12]), ([13], [13]), ([13], [13]), ([14, 15, 13], [13, 14, 15]), ([16, 13], [13, 16]), ([13], [13]), ([13], [13]), ([18, 19, 13], [13, 18, 19]), ([20, 13], [13, 20]), ([17, 21, 13], [13, 17, 21]), ([22, 13, 13], [13, 22]), ([23], [23]), ([23], [23]), ([24, 25, 23], [23, 24, 25]), ([26, 23], [23, 26]), ([23], [23]), ([23], [23]), ([28, 29, 23], [23, 28, 29]), ([30, 23], [23, 30]), ([27, 31, 23], [23, 27, 31]), ([23], [23]), ([23], [23]), ([33, 34, 23, 23], [23, 33, 34]), ([32, 35, 23], [23, 32, 35]), ([23, 36, 13], [13, 23, 36]), ([13, 37, 3], [3, 13, 37]), ([3, 38], [3, 38])])
def impl_StripFits.B11 : List Nat := [0, 0, 3, 7, 15, 15, 63, 127, 15, 15, 783, 1807, 4095, 8191, 16383, 16383, 65535, 131071, 16383, 16383, 802815, 1851391, 4194303, 8388607, 16777215, 16777215, 67108863, 134217727, 16777215, 16777215, 822083583, 1895825407, 4294967295, 16777215, 16777215, 25786580991, 68719476735, 137438953471, 274877906943, 549755813887]
theorem impl_StripFits.tab11 : rtab .any (opsOf Try.f21 11) = impl_StripFits.T11 := by kernel_rfl
theorem impl_StripFits.bits11 : waitsOk impl_StripFits.T11.2 impl_StripFits.B11 = true := by kernel_rfl
set_option maxHeartbeats 8000000 in
set_option maxRecDepth 100000 in
theorem impl_StripFits.calls (k : Nat) (A0 : Option Addr) (c0 : Nat) (l0 : List (S54)) (A1 : Option Addr) (c1 : Nat) (l1 : List Int) (r : Bool) (w : World) (hr0 : Kd.C k54 w A0 l0.length l0) (hc0 : l0.length ≤ c0) (hr1 : Kd.C (Kd.int .i64) w A1 l1.length l1) (hc1 : l1.length ≤ c1) (h : impl_StripFits.f k l0 l1 = some r) :
  Calls Try.prog 21 #[.slice A0 l0.length c0, .slice A1 l1.length c1] w fun e w' => e = .returned (.bool r) ∧ Below w.heap.size w w' := by
 have hu54 := Try.underlying54
 have HR0 := Aside0.mk hr0
 have HC0 := Aside0.mk hc0
 clear hr0 hc0
 have HR1 := Aside0.mk hr1
 have HC1 := Aside0.mk hc1
 clear hr1 hc1
 have HB := Aside0.mk (Below.refl w.heap.size w)
 have H : ((impl_StripMovesOk.f k l0).bind fun t101 => (if t101 = true then (impl_StripFits.j0 k l0 l1 ((l1.length : Int) != (l0.length : Int))) else (impl_StripFits.j0 k l0 l1 true))) = some r := h
 clear h
 have HC3 := Aside0.mk H
 clear H
 go_enter Try.func21, Try.ntmps21
 go_upto_region 1 with (fail)
 go_cut [18] (fun v18 wc => ∃ (kq : Nat) (x18_2 : Bool), v18 = .bool x18_2 ∧ Aside0 (impl_StripFits.j0 kq l0 l1 x18_2 = some r) ∧ Aside0 (kq ≤ k) ∧ Aside0 (Below w.heap.size w wc))
 case first =>
  have H := HC3.out
  clear HC3
  replace H := Option.bind_eq_some_iff.mp H
  obtain ⟨t101, A40, H⟩ := H
  replace H : (if t101 = true then (impl_StripFits.j0 k l0 l1 ((l1.length : Int) != (l0.length : Int))) else (impl_StripFits.j0 k l0 l1 true)) = some r := H
  have A4 := Aside0.mk A40
  clear A40
  by_cases c5 : t101 = true
  ·subst c5
   have H1 : (impl_StripFits.j0 k l0 l1 ((l1.length : Int) != (l0.length : Int))) = some r := by rw [if_pos rfl] at H; exact H
   clear H
   have H := H1
   clear H1
   have H' := Aside0.mk H
   clear H
   go_wp2_with (first | ((with_reducible refine gate_callee (f := 18) rfl ?_); refine goesL_ (some 10) rfl rfl Try.func18 (by kernel_rfl) rfl #[.slice A0 l0.length c0] rfl (by (try simp only [List.map_toArray, List.map_cons, List.map_nil]); first | done | rfl | (simp only [List.length_drop, List.length_take]; rfl)) ?_; (with_reducible refine (impl_StripMovesOk.calls k _ _ l0 true _ ?side1 ?side2 A4.out).mono ?_); (case side1 => repeat (first | exact (Kd.C_below HR0.out HB.out) | (with_reducible refine Kd.C_alloc ?_ _) | (with_reducible refine Kd.C_drewN ?_ _) | (with_reducible refine Kd.C_drew ?_))); (case side2 => exact HC0.out); rintro e w6 ⟨rfl, hb⟩; refine ⟨_, rfl, ?_⟩; have n0_ := Aside0.mk (below_step (eb HB.out) hb); clear HB; have HB := n0_; clear n0_; (try clear hb); (try clear hb2); (try clear hk); (try clear hi)))
   go_meet
   case rel => exact ⟨_, (((l1.length : Int) != (l0.length : Int))), (by first | rfl | (simp; done) | (simp [*]; done)), H', ⟨by first | omega | exact Nat.le_refl _⟩, ⟨eb HB.out⟩⟩
  ·replace c5 := Bool.eq_false_iff.mpr c5
   subst c5
   have H1 : (impl_StripFits.j0 k l0 l1 true) = some r := by rw [if_neg (show ¬ (false = true) by decide)] at H; exact H
   clear H
   have H := H1
   clear H1
   have H' := Aside0.mk H
   clear H
   go_wp2_with (first | ((with_reducible refine gate_callee (f := 18) rfl ?_); refine goesL_ (some 10) rfl rfl Try.func18 (by kernel_rfl) rfl #[.slice A0 l0.length c0] rfl (by (try simp only [List.map_toArray, List.map_cons, List.map_nil]); first | done | rfl | (simp only [List.length_drop, List.length_take]; rfl)) ?_; (with_reducible refine (impl_StripMovesOk.calls k _ _ l0 false _ ?side1 ?side2 A4.out).mono ?_); (case side1 => repeat (first | exact (Kd.C_below HR0.out HB.out) | (with_reducible refine Kd.C_alloc ?_ _) | (with_reducible refine Kd.C_drewN ?_ _) | (with_reducible refine Kd.C_drew ?_))); (case side2 => exact HC0.out); rintro e w7 ⟨rfl, hb⟩; refine ⟨_, rfl, ?_⟩; have n0_ := Aside0.mk (below_step (eb HB.out) hb); clear HB; have HB := n0_; clear n0_; (try clear hb); (try clear hb2); (try clear hk); (try clear hi)))
   go_meet
   case rel => exact ⟨_, (true), (by first | rfl | (simp; done) | (simp [*]; done)), H', ⟨by first | omega | exact Nat.le_refl _⟩, ⟨eb HB.out⟩⟩
 case rest =>
  clear HC3
  try clear c1
  try clear c2
  try clear p2
  try clear c5
  obtain ⟨kq, x18_2, rfl, HA, HJ2, HB⟩ := hcut
  cases kq with
  | zero => exact absurd HA.out (by simp [impl_StripFits.j0])
  | succ kj2 =>
   have H := HA.out
   clear HA
   simp only [impl_StripFits.j0] at H
   by_cases c8 : x18_2 = true
   ·subst c8
    have H1 : (some false) = some r := by rw [if_pos rfl] at H; exact H
    clear H
    have H := H1
    clear H1
    obtain rfl := Option.some.inj H
    go_wp2
    go_ret
    exact ⟨by first | rfl | (simp [errW_none, errW_some] <;> rfl) | (simp [*, errW_none, errW_some] <;> rfl), eb HB.out⟩
   ·replace c8 := Bool.eq_false_iff.mpr c8
    subst c8
    have H1 : (impl_StripFits.l0 kj2 l0 l1 l0 (l0.length : Int) 0) = some r := by rw [if_neg (show ¬ (false = true) by decide)] at H; exact H
    clear H
    have H := H1
    clear H1
    have H' := Aside0.mk H
    clear H
    go_wp2
    go_loopg [21] kj2 (fun kq v21 w' => ∃ (x21_2 : Int), v21 = .int .i64 x21_2 ∧ Aside0 (impl_StripFits.l0 kq l0 l1 l0 (l0.length : Int) x21_2 = some r) ∧ Aside0 (kq ≤ kj2) ∧ Aside0 (Below w.heap.size w w'))
    case atStart => exact ⟨(0), (by first | rfl | (simp; done) | (simp [*]; done)), H', ⟨Nat.le_refl _⟩, ⟨eb HB.out⟩⟩
    case round =>
     clear H'
     try clear c1
     try clear c2
     try clear p2
     try clear c5
     try clear c8
     try clear p2
     obtain ⟨x21_2, rfl, HA, HK2, HB⟩ := hrel
     cases gk with
     | zero => exact absurd HA.out (by simp [impl_StripFits.l0])
     | succ k2 =>
      have H := HA.out
      clear HA
      simp only [impl_StripFits.l0] at H
      by_cases c9 : x21_2 < (l0.length : Int)
      ·rw [if_pos c9] at H
       have c9b0 : decide (x21_2 < (l0.length : Int)) = true := decide_eq_true c9
       clear c9
       by_cases c10 : 0 ≤ x21_2
       ·rw [if_pos c10] at H
        have c10b0 : decide (0 ≤ x21_2) = true := decide_eq_true c10
        clear c10
        by_cases c11 : x21_2 < (l0.length : Int)
        ·rw [if_pos c11] at H
         have c11b0 : decide (x21_2 < (l0.length : Int)) = true := decide_eq_true c11
         clear c11
         have HC12 := Aside0.mk H
         clear H
         have p102 : 0 ≤ (x21_2 : Int) := of_decide_eq_true (by first | (with_reducible assumption) | assumption)
         have q102 : x21_2 < (l0.length : Int) := of_decide_eq_true (by first | (with_reducible assumption) | assumption)
         obtain ⟨ad102, e102, hx102_0, hx102_1, hx102_2, hx102_3, hx102_4, hx102_5⟩ := at_T54 HR0.out x21_2 p102 q102
         cases e102
         replace hx102_0 := pw_cell_below HB.out hx102_0
         replace hx102_1 := pw_cell_below HB.out hx102_1
         replace hx102_2 := pw_cell_below HB.out hx102_2
         replace hx102_3 := pw_cell_below HB.out hx102_3
         replace hx102_4 := pw_cell_below HB.out hx102_4
         replace hx102_5 := pw_cell_below HB.out hx102_5
         replace p102 := eq_true p102
         replace q102 := eq_true q102
         go_upto_region 6 with (first | ((with_reducible refine gate_dst (N := 6) rfl ?_); (try (refine gate_guard (by rfl) ?_; dsimp only)); refine box_event ?hg (N := 6) ?hd (cs := #[.string (⟨#[]⟩ : ByteArray), .bool false, .int .i64 0, .int .i64 0, .int .i64 0, .int .i64 0]) (t := 54) ?hr ?_; (case hd => rfl); (case hg => rfl); (case hr => first | (go_simp; done) | (go_simp; rfl)); intro gb103 hg w13 hbox hb; have n0_ := Aside0.mk (below_step (eb HB.out) hb); have n1_ := Aside0.mk (hbox); have n2_ := Aside0.mk ((by rw [hg]; exact (below_size (eb HB.out)) : w.heap.size ≤ gb103)); have n3_ := Aside0.mk ((by rw [hg]; exact (below_size (eb HB.out)) : w.heap.size ≤ gb103)); clear HB; have HB := n0_; have BK103 := n1_; have GW103 := n2_; have GE103 := n3_; clear n0_ n1_ n2_ n3_; clear hb hbox hg; obtain ⟨hcz14_0, hcz14_1, hcz14_2, hcz14_3, hcz14_4, hcz14_5⟩ := bc6 BK103.out; obtain ⟨hfz14_0, hfz14_1, hfz14_2, hfz14_3, hfz14_4, hfz14_5⟩ := bf6 BK103.out))
         (try simp only [Act.put, List.setIfInBounds_toArray, List.set_cons_zero, List.set_cons_succ])
         go_cut [49] (fun v49 wc => ∃ (kq : Nat) (x49_11 : Bool), v49 = .bool x49_11 ∧ Aside0 (impl_StripFits.j2 kq l0 l1 x21_2 l0 (l0.length : Int) x21_2 x49_11 ((rd_T54 l0 x21_2).f0) ((rd_T54 l0 x21_2).f1) ((rd_T54 l0 x21_2).f2) ((rd_T54 l0 x21_2).f3) ((rd_T54 l0 x21_2).f4) ((rd_T54 l0 x21_2).f5) = some r) ∧ Aside0 (kq ≤ k2) ∧ Aside0 (wc.heap[gb103]? = some (.cells #[.string ((rd_T54 l0 x21_2).f0), .bool ((rd_T54 l0 x21_2).f1), .int .i64 ((rd_T54 l0 x21_2).f2), .int .i64 ((rd_T54 l0 x21_2).f3), .int .i64 ((rd_T54 l0 x21_2).f4), .int .i64 ((rd_T54 l0 x21_2).f5)] 54 (0, 0))) ∧ Aside0 (Below w.heap.size w wc))
         case first =>
          have H := HC12.out
          clear HC12
          by_cases c15 : x21_2 < (l1.length : Int)
          ·rw [if_pos c15] at H
           have c15b0 : decide (x21_2 < (l1.length : Int)) = true := decide_eq_true c15
           clear c15
           (first | rw [c15b0] | (simp only [i64_w, i32_w]; rw [c15b0]) | skip)
           replace H := Option.bind_eq_some_iff.mp H
           obtain ⟨t105, A160, H⟩ := H
           replace H : (if t105 = true then (if ((rd_T54 l0 x21_2).f5) ≥ 0 then (impl_StripFits.j2 k2 l0 l1 x21_2 l0 (l0.length : Int) x21_2 ((rd l1 x21_2) != ((rd_T54 l0 x21_2).f5)) ((rd_T54 l0 x21_2).f0) ((rd_T54 l0 x21_2).f1) ((rd_T54 l0 x21_2).f2) ((rd_T54 l0 x21_2).f3) ((rd_T54 l0 x21_2).f4) ((rd_T54 l0 x21_2).f5)) else (impl_StripFits.j2 k2 l0 l1 x21_2 l0 (l0.length : Int) x21_2 false ((rd_T54 l0 x21_2).f0) ((rd_T54 l0 x21_2).f1) ((rd_T54 l0 x21_2).f2) ((rd_T54 l0 x21_2).f3) ((rd_T54 l0 x21_2).f4) ((rd_T54 l0 x21_2).f5))) else (impl_StripFits.j2 k2 l0 l1 x21_2 l0 (l0.length : Int) x21_2 true ((rd_T54 l0 x21_2).f0) ((rd_T54 l0 x21_2).f1) ((rd_T54 l0 x21_2).f2) ((rd_T54 l0 x21_2).f3) ((rd_T54 l0 x21_2).f4) ((rd_T54 l0 x21_2).f5))) = some r := H
           have A16 := Aside0.mk A160
           clear A160
           by_cases c17 : t105 = true
           ·subst c17
            have H1 : (if ((rd_T54 l0 x21_2).f5) ≥ 0 then (impl_StripFits.j2 k2 l0 l1 x21_2 l0 (l0.length : Int) x21_2 ((rd l1 x21_2) != ((rd_T54 l0 x21_2).f5)) ((rd_T54 l0 x21_2).f0) ((rd_T54 l0 x21_2).f1) ((rd_T54 l0 x21_2).f2) ((rd_T54 l0 x21_2).f3) ((rd_T54 l0 x21_2).f4) ((rd_T54 l0 x21_2).f5)) else (impl_StripFits.j2 k2 l0 l1 x21_2 l0 (l0.length : Int) x21_2 false ((rd_T54 l0 x21_2).f0) ((rd_T54 l0 x21_2).f1) ((rd_T54 l0 x21_2).f2) ((rd_T54 l0 x21_2).f3) ((rd_T54 l0 x21_2).f4) ((rd_T54 l0 x21_2).f5))) = some r := by rw [if_pos rfl] at H; exact H
            clear H
            have H := H1
            clear H1
            by_cases c18 : ((rd_T54 l0 x21_2).f5) ≥ 0
            ·rw [if_pos c18] at H
             have c18b0 : decide (0 ≤ ((rd_T54 l0 x21_2).f5)) = true := decide_eq_true c18
             clear c18
             have H' := Aside0.mk H
             clear H
             try go_wp2
             have n0_ : Aside0 (((((((w13.setCell ⟨gb103, 0, none⟩ (.string ((rd_T54 l0 x21_2).f0))).setCell ⟨gb103, 1, none⟩ (.bool ((rd_T54 l0 x21_2).f1))).setCell ⟨gb103, 2, none⟩ (.int .i64 ((rd_T54 l0 x21_2).f2))).setCell ⟨gb103, 3, none⟩ (.int .i64 ((rd_T54 l0 x21_2).f3))).setCell ⟨gb103, 4, none⟩ (.int .i64 ((rd_T54 l0 x21_2).f4))).setCell ⟨gb103, 5, none⟩ (.int .i64 ((rd_T54 l0 x21_2).f5))).heap[gb103]? = some (.cells #[.string ((rd_T54 l0 x21_2).f0), .bool ((rd_T54 l0 x21_2).f1), .int .i64 ((rd_T54 l0 x21_2).f2), .int .i64 ((rd_T54 l0 x21_2).f3), .int .i64 ((rd_T54 l0 x21_2).f4), .int .i64 ((rd_T54 l0 x21_2).f5)] 54 (0, 0))) := ⟨by refine px ?_; refine blk_put (cs := #[.string ((rd_T54 l0 x21_2).f0), .bool ((rd_T54 l0 x21_2).f1), .int .i64 ((rd_T54 l0 x21_2).f2), .int .i64 ((rd_T54 l0 x21_2).f3), .int .i64 ((rd_T54 l0 x21_2).f4), .int .i64 0]) ?_ 5 _ rfl; refine px ?_; refine blk_put (cs := #[.string ((rd_T54 l0 x21_2).f0), .bool ((rd_T54 l0 x21_2).f1), .int .i64 ((rd_T54 l0 x21_2).f2), .int .i64 ((rd_T54 l0 x21_2).f3), .int .i64 0, .int .i64 0]) ?_ 4 _ rfl; refine px ?_; refine blk_put (cs := #[.string ((rd_T54 l0 x21_2).f0), .bool ((rd_T54 l0 x21_2).f1), .int .i64 ((rd_T54 l0 x21_2).f2), .int .i64 0, .int .i64 0, .int .i64 0]) ?_ 3 _ rfl; refine px ?_; refine blk_put (cs := #[.string ((rd_T54 l0 x21_2).f0), .bool ((rd_T54 l0 x21_2).f1), .int .i64 0, .int .i64 0, .int .i64 0, .int .i64 0]) ?_ 2 _ rfl; refine px ?_; refine blk_put (cs := #[.string ((rd_T54 l0 x21_2).f0), .bool false, .int .i64 0, .int .i64 0, .int .i64 0, .int .i64 0]) ?_ 1 _ rfl; refine px ?_; refine blk_put (cs := #[.string (⟨#[]⟩ : ByteArray), .bool false, .int .i64 0, .int .i64 0, .int .i64 0, .int .i64 0]) ?_ 0 _ rfl; refine px ?_; exact BK103.out⟩
             have n1_ : Aside0 (Below w.heap.size w ((((((w13.setCell ⟨gb103, 0, none⟩ (.string ((rd_T54 l0 x21_2).f0))).setCell ⟨gb103, 1, none⟩ (.bool ((rd_T54 l0 x21_2).f1))).setCell ⟨gb103, 2, none⟩ (.int .i64 ((rd_T54 l0 x21_2).f2))).setCell ⟨gb103, 3, none⟩ (.int .i64 ((rd_T54 l0 x21_2).f3))).setCell ⟨gb103, 4, none⟩ (.int .i64 ((rd_T54 l0 x21_2).f4))).setCell ⟨gb103, 5, none⟩ (.int .i64 ((rd_T54 l0 x21_2).f5)))) := ⟨by repeat (first | (with_reducible first | exact HB.out | apply below_alloc | apply pw_below_drewN | apply below_drew1 | refine below_set ?_ GE103.out) | exact HB.out)⟩
             (try clear BK103)
             (try clear HB)
             generalize ((((((w13.setCell ⟨gb103, 0, none⟩ (.string ((rd_T54 l0 x21_2).f0))).setCell ⟨gb103, 1, none⟩ (.bool ((rd_T54 l0 x21_2).f1))).setCell ⟨gb103, 2, none⟩ (.int .i64 ((rd_T54 l0 x21_2).f2))).setCell ⟨gb103, 3, none⟩ (.int .i64 ((rd_T54 l0 x21_2).f3))).setCell ⟨gb103, 4, none⟩ (.int .i64 ((rd_T54 l0 x21_2).f4))).setCell ⟨gb103, 5, none⟩ (.int .i64 ((rd_T54 l0 x21_2).f5))) = w19 at n0_ n1_ ⊢
             have BK103 := n0_
             have HB := n1_
             clear n0_ n1_
             have n0_ := Aside0.mk (blk_drew BK103.out)
             have n1_ := Aside0.mk (below_drew1 HB.out)
             clear BK103
             clear HB
             have BK103 := n0_
             have HB := n1_
             clear n0_ n1_
             have p104 : 0 ≤ (x21_2 : Int) := of_decide_eq_true (by first | (with_reducible assumption) | assumption)
             have q104 : x21_2 < (l1.length : Int) := of_decide_eq_true (by first | (with_reducible assumption) | assumption)
             obtain ⟨ad104, e104, hx104_0⟩ := Kd.at_int HR1.out x21_2 p104 q104
             have hw104_0 := hx104_0
             cases e104
             replace hx104_0 := pw_cell_below HB.out hx104_0
             replace p104 := eq_true p104
             replace q104 := eq_true q104
             have p106 : 0 ≤ (x21_2 : Int) := of_decide_eq_true (by first | (with_reducible assumption) | assumption)
             have q106 : x21_2 < (l1.length : Int) := of_decide_eq_true (by first | (with_reducible assumption) | assumption)
             obtain ⟨ad106, e106, hx106_0⟩ := Kd.at_int HR1.out x21_2 p106 q106
             have hw106_0 := hx106_0
             obtain rfl : ad104 = ad106 := (by injection e106)
             replace hx106_0 := pw_cell_below HB.out hx106_0
             replace p106 := eq_true p106
             replace q106 := eq_true q106
             refine start_ (n := 24) (S := fun w' => w'.cell? ⟨gb103, 0, none⟩ = some (.string ((rd_T54 l0 x21_2).f0)) ∧ w'.cell? ⟨gb103, 1, none⟩ = some (.bool ((rd_T54 l0 x21_2).f1)) ∧ w'.cell? ⟨gb103, 2, none⟩ = some (.int .i64 ((rd_T54 l0 x21_2).f2)) ∧ w'.cell? ⟨gb103, 3, none⟩ = some (.int .i64 ((rd_T54 l0 x21_2).f3)) ∧ w'.cell? ⟨gb103, 4, none⟩ = some (.int .i64 ((rd_T54 l0 x21_2).f4)) ∧ w'.cell? ⟨gb103, 5, none⟩ = some (.int .i64 ((rd_T54 l0 x21_2).f5)) ∧ w'.cell? (ad104.add (x21_2).toNat) = some (.int .i64 (rd l1 x21_2)) ∧ w'.cell? (ad104.add (x21_2).toNat) = some (.int .i64 (rd l1 x21_2))) (ds := []) #[F, F, F, F, F, F, F, F, F, F, F, F, F, F, F, F, F, F, F, F, F, F, F, F] (by kernel_rfl) rfl rfl ⟨(blk_cell BK103.out 0).trans rfl, (blk_cell BK103.out 1).trans rfl, (blk_cell BK103.out 2).trans rfl, (blk_cell BK103.out 3).trans rfl, (blk_cell BK103.out 4).trans rfl, (blk_cell BK103.out 5).trans rfl, (pw_cell_below HB.out hw104_0), (pw_cell_below HB.out hw106_0)⟩ (fun hHeld => ?_); refine with_tabW impl_StripFits.tab6 impl_StripFits.bits6 (fun HT_ HW_ => ?_)
             generalize w19.drew = w20 at BK103 HB hx104_0 hx106_0 hHeld ⊢
             refine pu (i := 0) (N := some 26) (v := ?_) (a' := ?_) HT_.out rfl rfl (by kernel_rfl) (fun _ _ _ h => h) (Or.inl ⟨by rfl, ?_⟩) ?_ ?_
             rotate_left; (intro w'; go_simp; with_reducible rfl); rotate_left; (simp only [P0, P0n, P2, P3, P4, P5, P6]; rfl)
             refine pu (i := 1) (N := some 27) (v := ?_) (a' := ?_) HT_.out rfl rfl (by kernel_rfl) (fun _ _ _ h => h) (Or.inl ⟨by rfl, ?_⟩) ?_ ?_
             rotate_left; (intro w'; go_simp; with_reducible rfl); rotate_left; (simp only [P0, P0n, P2, P3, P4, P5, P6]; rfl)
             refine pu (i := 2) (N := some 28) (v := ?_) (a' := ?_) HT_.out rfl rfl (by kernel_rfl) (fun _ _ _ h => h) (Or.inl ⟨by rfl, ?_⟩) ?_ ?_
             rotate_left; (intro w'; go_simp; with_reducible rfl); rotate_left; (simp only [P0, P0n, P2, P3, P4, P5, P6]; rfl)
             refine pu (i := 4) (N := some 30) (v := ?_) (a' := ?_) HT_.out rfl rfl (by kernel_rfl) (fun _ _ _ h => h) (Or.inl ⟨by rfl, ?_⟩) ?_ ?_
             rotate_left; (intro w'; go_simp; with_reducible rfl); rotate_left; (simp only [P0, P0n, P2, P3, P4, P5, P6]; rfl)
             refine pu (i := 6) (N := some 32) (v := ?_) (a' := ?_) HT_.out rfl rfl (by kernel_rfl) (fun _ _ _ h => h) (Or.inl ⟨by rfl, ?_⟩) ?_ ?_
             rotate_left; (intro w'; go_simp; with_reducible rfl); rotate_left; (simp only [P0, P0n, P2, P3, P4, P5, P6]; rfl)
             refine tw (i := 3) (N := some 29) (v := ?_) (a' := ?_) HT_.out HW_.out rfl rfl (by kernel_rfl) (fun _ _ _ h => h) (Or.inl ⟨by rfl, ?_⟩) hHeld ?_ ?_
             rotate_left
             ·rintro w' ⟨s0, s1, s2, s3, s4, s5, s6, s7⟩
              go_simp
              with_reducible rfl
             rotate_left
             ·simp only [P0, P0n, P2, P3, P4, P5, P6]
              rfl
             refine tw (i := 5) (N := some 31) (v := ?_) (a' := ?_) HT_.out HW_.out rfl rfl (by kernel_rfl) (fun _ _ _ h => h) (Or.inl ⟨by rfl, ?_⟩) hHeld ?_ ?_
             rotate_left
             ·rintro w' ⟨s0, s1, s2, s3, s4, s5, s6, s7⟩
              go_simp
              with_reducible rfl
             rotate_left
             ·simp only [P0, P0n, P2, P3, P4, P5, P6]
              rfl
             refine tw (i := 7) (N := some 33) (v := ?_) (a' := ?_) HT_.out HW_.out rfl rfl (by kernel_rfl) (fun _ _ _ h => h) (Or.inl ⟨by rfl, ?_⟩) hHeld ?_ ?_
             rotate_left
             ·rintro w' ⟨s0, s1, s2, s3, s4, s5, s6, s7⟩
              go_simp
              with_reducible rfl
             rotate_left
             ·simp only [P0, P0n, P2, P3, P4, P5, P6]
              rfl
             refine one_ (i := 8) (N := some 34) #[T, T, T, T, T, T, T, T, T, F, F, F, F, F, F, F, F, F, F, F, F, F, F, F] rfl rfl (one_of HT_.out (by kernel_rfl)) (by decide) (fun K hK => ?_)
             refine goes_ Try.func58 (by kernel_rfl) rfl #[.int .i64 (rd l1 x21_2), .int .i64 ((rd_T54 l0 x21_2).f3), .int .i64 ((rd_T54 l0 x21_2).f4)] (by rfl) rfl rfl (by (try simp only [List.map_toArray, List.map_cons, List.map_nil]); first | done | rfl | (simp only [List.length_drop, List.length_take]; rfl)) ?_
             with_reducible refine (impl_in.calls (rd l1 x21_2) ((rd_T54 l0 x21_2).f3) ((rd_T54 l0 x21_2).f4) true _ A16.out).mono ?_
             rintro e w' ⟨rfl, ⟨nd, rfl⟩⟩
             refine ⟨_, rfl, ?_⟩
             refine hK.out _ _ ⟨(blk_cell BK103.out 0).trans rfl, (blk_cell BK103.out 1).trans rfl, (blk_cell BK103.out 2).trans rfl, (blk_cell BK103.out 3).trans rfl, (blk_cell BK103.out 4).trans rfl, (blk_cell BK103.out 5).trans rfl, (pw_cell_below HB.out hw104_0), (pw_cell_below HB.out hw106_0)⟩ (fun hHeld => ?_)
             clear hK K
             refine norm_ (a' := ?_) ?_ ?_
             rotate_left
             ·show Act.put _ (some 34) _ = _
              simp only [P0, P0n, P2, P3, P4, P5, P6]
              rfl
             refine pu (i := 9) (N := some 35) (v := ?_) (a' := ?_) HT_.out rfl rfl (by kernel_rfl) (fun _ _ _ h => h) (Or.inl ⟨by rfl, ?_⟩) ?_ ?_
             rotate_left; (intro w'; go_simp; with_reducible rfl); rotate_left; (simp only [P0, P0n, P2, P3, P4, P5, P6]; rfl)
             refine pu (i := 10) (N := some 36) (v := ?_) (a' := ?_) HT_.out rfl rfl (by kernel_rfl) (fun _ _ _ h => h) (Or.inl ⟨by rfl, ?_⟩) ?_ ?_
             rotate_left; (intro w'; go_simp; with_reducible rfl); rotate_left; (simp only [P0, P0n, P2, P3, P4, P5, P6]; rfl)
             refine pu (i := 11) (N := some 37) (v := ?_) (a' := ?_) HT_.out rfl rfl (by kernel_rfl) (fun _ _ _ h => h) (Or.inl ⟨by rfl, ?_⟩) ?_ ?_
             rotate_left; (intro w'; go_simp; with_reducible rfl); rotate_left; (simp only [P0, P0n, P2, P3, P4, P5, P6]; rfl)
             refine tw (i := 12) (N := some 38) (v := ?_) (a' := ?_) HT_.out HW_.out rfl rfl (by kernel_rfl) (fun _ _ _ h => h) (Or.inl ⟨by rfl, ?_⟩) hHeld ?_ ?_
             rotate_left
             ·rintro w' ⟨s0, s1, s2, s3, s4, s5, s6, s7⟩
              go_simp
              with_reducible rfl
             rotate_left
             ·simp only [P0, P0n, P2, P3, P4, P5, P6]
              rfl
             refine pu (i := 13) (N := some 39) (v := ?_) (a' := ?_) HT_.out rfl rfl (by kernel_rfl) (fun _ _ _ h => h) (Or.inl ⟨by rfl, ?_⟩) ?_ ?_
             rotate_left; (intro w'; go_simp; with_reducible rfl); rotate_left; (simp only [P0, P0n, P2, P3, P4, P5, P6]; rfl)
             refine pu (i := 14) (N := some 40) (v := ?_) (a' := ?_) HT_.out rfl rfl (by kernel_rfl) (fun _ _ _ h => h) (Or.inl ⟨by rfl, ?_⟩) ?_ ?_
             rotate_left; (intro w'; go_simp; with_reducible rfl); rotate_left; (simp only [P0, P0n, P2, P3, P4, P5, P6]; rfl)
             refine pu (i := 15) (N := some 41) (v := ?_) (a' := ?_) HT_.out rfl rfl (by kernel_rfl) (fun _ _ _ h => h) (Or.inl ⟨by rfl, ?_⟩) ?_ ?_
             rotate_left; (intro w'; go_simp; with_reducible rfl); rotate_left; (simp only [P0, P0n, P2, P3, P4, P5, P6]; rfl)
             refine pu (i := 16) (N := some 42) (v := ?_) (a' := ?_) HT_.out rfl rfl (by kernel_rfl) (fun _ _ _ h => h) (Or.inl ⟨by rfl, ?_⟩) ?_ ?_
             rotate_left; (intro w'; go_simp; with_reducible rfl); rotate_left; (simp only [P0, P0n, P2, P3, P4, P5, P6]; rfl)
             refine pu (i := 17) (N := some 43) (v := ?_) (a' := ?_) HT_.out rfl rfl (by kernel_rfl) (fun _ _ _ h => h) (Or.inl ⟨by rfl, ?_⟩) ?_ ?_
             rotate_left; (intro w'; go_simp; with_reducible rfl); rotate_left; (simp only [P0, P0n, P2, P3, P4, P5, P6]; rfl)
             refine pu (i := 19) (N := some 45) (v := ?_) (a' := ?_) HT_.out rfl rfl (by kernel_rfl) (fun _ _ _ h => h) (Or.inl ⟨by rfl, ?_⟩) ?_ ?_
             rotate_left; (intro w'; go_simp; with_reducible rfl); rotate_left; (simp only [P0, P0n, P2, P3, P4, P5, P6]; rfl)
             refine tw (i := 18) (N := some 44) (v := ?_) (a' := ?_) HT_.out HW_.out rfl rfl (by kernel_rfl) (fun _ _ _ h => h) (Or.inl ⟨by rfl, ?_⟩) hHeld ?_ ?_
             rotate_left
             ·rintro w' ⟨s0, s1, s2, s3, s4, s5, s6, s7⟩
              go_simp
              with_reducible rfl
             rotate_left
             ·simp only [P0, P0n, P2, P3, P4, P5, P6]
              rfl
             refine tw (i := 20) (N := some 46) (v := ?_) (a' := ?_) HT_.out HW_.out rfl rfl (by kernel_rfl) (fun _ _ _ h => h) (Or.inl ⟨by rfl, ?_⟩) hHeld ?_ ?_
             rotate_left
             ·rintro w' ⟨s0, s1, s2, s3, s4, s5, s6, s7⟩
              go_simp
              with_reducible rfl
             rotate_left
             ·simp only [P0, P0n, P2, P3, P4, P5, P6]
              rfl
             refine pu (i := 21) (N := some 47) (v := ?_) (a' := ?_) HT_.out rfl rfl (by kernel_rfl) (fun _ _ _ h => h) (Or.inl ⟨by rfl, ?_⟩) ?_ ?_
             rotate_left; (intro w'; go_simp; with_reducible rfl); rotate_left; (simp only [P0, P0n, P2, P3, P4, P5, P6]; rfl)
             refine pu (i := 22) (N := some 48) (v := ?_) (a' := ?_) HT_.out rfl rfl (by kernel_rfl) (fun _ _ _ h => h) (Or.inl ⟨by rfl, ?_⟩) ?_ ?_
             rotate_left; (intro w'; go_simp; with_reducible rfl); rotate_left; (simp only [P0, P0n, P2, P3, P4, P5, P6]; rfl)
             refine pu (i := 23) (N := some 49) (v := ?_) (a' := ?_) HT_.out rfl rfl (by kernel_rfl) (fun _ _ _ h => h) (Or.inl ⟨by rfl, ?_⟩) ?_ ?_
             rotate_left; (intro w'; go_simp; with_reducible rfl); rotate_left; (simp only [P0, P0n, P2, P3, P4, P5, P6]; rfl)
             refine done_ (done_of HT_.out (by kernel_rfl)) ?_
             try go_wp2
             go_meet
             case rel => exact ⟨_, (((rd l1 x21_2) != ((rd_T54 l0 x21_2).f5))), (by first | rfl | (simp; done) | (simp [*]; done)), H', ⟨by have := HJ2.out; have := HK2.out; first | omega | exact Nat.le_refl _⟩, ⟨ex BK103.out⟩, ⟨by repeat (first | (with_reducible first | exact HB.out | apply below_alloc | apply pw_below_drewN | apply below_drew1 | refine below_set ?_ GE103.out) | exact HB.out)⟩⟩
            ·rw [if_neg c18] at H
             have c18b0 : decide (0 ≤ ((rd_T54 l0 x21_2).f5)) = false := decide_eq_false c18
             clear c18
             have H' := Aside0.mk H
             clear H
             try go_wp2
             have n0_ : Aside0 (((((((w13.setCell ⟨gb103, 0, none⟩ (.string ((rd_T54 l0 x21_2).f0))).setCell ⟨gb103, 1, none⟩ (.bool ((rd_T54 l0 x21_2).f1))).setCell ⟨gb103, 2, none⟩ (.int .i64 ((rd_T54 l0 x21_2).f2))).setCell ⟨gb103, 3, none⟩ (.int .i64 ((rd_T54 l0 x21_2).f3))).setCell ⟨gb103, 4, none⟩ (.int .i64 ((rd_T54 l0 x21_2).f4))).setCell ⟨gb103, 5, none⟩ (.int .i64 ((rd_T54 l0 x21_2).f5))).heap[gb103]? = some (.cells #[.string ((rd_T54 l0 x21_2).f0), .bool ((rd_T54 l0 x21_2).f1), .int .i64 ((rd_T54 l0 x21_2).f2), .int .i64 ((rd_T54 l0 x21_2).f3), .int .i64 ((rd_T54 l0 x21_2).f4), .int .i64 ((rd_T54 l0 x21_2).f5)] 54 (0, 0))) := ⟨by refine px ?_; refine blk_put (cs := #[.string ((rd_T54 l0 x21_2).f0), .bool ((rd_T54 l0 x21_2).f1), .int .i64 ((rd_T54 l0 x21_2).f2), .int .i64 ((rd_T54 l0 x21_2).f3), .int .i64 ((rd_T54 l0 x21_2).f4), .int .i64 0]) ?_ 5 _ rfl; refine px ?_; refine blk_put (cs := #[.string ((rd_T54 l0 x21_2).f0), .bool ((rd_T54 l0 x21_2).f1), .int .i64 ((rd_T54 l0 x21_2).f2), .int .i64 ((rd_T54 l0 x21_2).f3), .int .i64 0, .int .i64 0]) ?_ 4 _ rfl; refine px ?_; refine blk_put (cs := #[.string ((rd_T54 l0 x21_2).f0), .bool ((rd_T54 l0 x21_2).f1), .int .i64 ((rd_T54 l0 x21_2).f2), .int .i64 0, .int .i64 0, .int .i64 0]) ?_ 3 _ rfl; refine px ?_; refine blk_put (cs := #[.string ((rd_T54 l0 x21_2).f0), .bool ((rd_T54 l0 x21_2).f1), .int .i64 0, .int .i64 0, .int .i64 0, .int .i64 0]) ?_ 2 _ rfl; refine px ?_; refine blk_put (cs := #[.string ((rd_T54 l0 x21_2).f0), .bool false, .int .i64 0, .int .i64 0, .int .i64 0, .int .i64 0]) ?_ 1 _ rfl; refine px ?_; refine blk_put (cs := #[.string (⟨#[]⟩ : ByteArray), .bool false, .int .i64 0, .int .i64 0, .int .i64 0, .int .i64 0]) ?_ 0 _ rfl; refine px ?_; exact BK103.out⟩
             have n1_ : Aside0 (Below w.heap.size w ((((((w13.setCell ⟨gb103, 0, none⟩ (.string ((rd_T54 l0 x21_2).f0))).setCell ⟨gb103, 1, none⟩ (.bool ((rd_T54 l0 x21_2).f1))).setCell ⟨gb103, 2, none⟩ (.int .i64 ((rd_T54 l0 x21_2).f2))).setCell ⟨gb103, 3, none⟩ (.int .i64 ((rd_T54 l0 x21_2).f3))).setCell ⟨gb103, 4, none⟩ (.int .i64 ((rd_T54 l0 x21_2).f4))).setCell ⟨gb103, 5, none⟩ (.int .i64 ((rd_T54 l0 x21_2).f5)))) := ⟨by repeat (first | (with_reducible first | exact HB.out | apply below_alloc | apply pw_below_drewN | apply below_drew1 | refine below_set ?_ GE103.out) | exact HB.out)⟩
             (try clear BK103)
             (try clear HB)
             generalize ((((((w13.setCell ⟨gb103, 0, none⟩ (.string ((rd_T54 l0 x21_2).f0))).setCell ⟨gb103, 1, none⟩ (.bool ((rd_T54 l0 x21_2).f1))).setCell ⟨gb103, 2, none⟩ (.int .i64 ((rd_T54 l0 x21_2).f2))).setCell ⟨gb103, 3, none⟩ (.int .i64 ((rd_T54 l0 x21_2).f3))).setCell ⟨gb103, 4, none⟩ (.int .i64 ((rd_T54 l0 x21_2).f4))).setCell ⟨gb103, 5, none⟩ (.int .i64 ((rd_T54 l0 x21_2).f5))) = w21 at n0_ n1_ ⊢
             have BK103 := n0_
             have HB := n1_
             clear n0_ n1_
             have n0_ := Aside0.mk (blk_drew BK103.out)
             have n1_ := Aside0.mk (below_drew1 HB.out)
             clear BK103
             clear HB
             have BK103 := n0_
             have HB := n1_
             clear n0_ n1_
             have p104 : 0 ≤ (x21_2 : Int) := of_decide_eq_true (by first | (with_reducible assumption) | assumption)
             have q104 : x21_2 < (l1.length : Int) := of_decide_eq_true (by first | (with_reducible assumption) | assumption)
             obtain ⟨ad104, e104, hx104_0⟩ := Kd.at_int HR1.out x21_2 p104 q104
             have hw104_0 := hx104_0
             cases e104
             replace hx104_0 := pw_cell_below HB.out hx104_0
             replace p104 := eq_true p104
             replace q104 := eq_true q104
             refine start_ (n := 24) (S := fun w' => w'.cell? ⟨gb103, 0, none⟩ = some (.string ((rd_T54 l0 x21_2).f0)) ∧ w'.cell? ⟨gb103, 1, none⟩ = some (.bool ((rd_T54 l0 x21_2).f1)) ∧ w'.cell? ⟨gb103, 2, none⟩ = some (.int .i64 ((rd_T54 l0 x21_2).f2)) ∧ w'.cell? ⟨gb103, 3, none⟩ = some (.int .i64 ((rd_T54 l0 x21_2).f3)) ∧ w'.cell? ⟨gb103, 4, none⟩ = some (.int .i64 ((rd_T54 l0 x21_2).f4)) ∧ w'.cell? ⟨gb103, 5, none⟩ = some (.int .i64 ((rd_T54 l0 x21_2).f5)) ∧ w'.cell? (ad104.add (x21_2).toNat) = some (.int .i64 (rd l1 x21_2))) (ds := []) #[F, F, F, F, F, F, F, F, F, F, F, F, F, F, F, F, F, F, F, F, F, F, F, F] (by kernel_rfl) rfl rfl ⟨(blk_cell BK103.out 0).trans rfl, (blk_cell BK103.out 1).trans rfl, (blk_cell BK103.out 2).trans rfl, (blk_cell BK103.out 3).trans rfl, (blk_cell BK103.out 4).trans rfl, (blk_cell BK103.out 5).trans rfl, (pw_cell_below HB.out hw104_0)⟩ (fun hHeld => ?_); refine with_tabW impl_StripFits.tab6 impl_StripFits.bits6 (fun HT_ HW_ => ?_)
             generalize w21.drew = w22 at BK103 HB hx104_0 hHeld ⊢
             refine pu (i := 0) (N := some 26) (v := ?_) (a' := ?_) HT_.out rfl rfl (by kernel_rfl) (fun _ _ _ h => h) (Or.inl ⟨by rfl, ?_⟩) ?_ ?_
             rotate_left; (intro w'; go_simp; with_reducible rfl); rotate_left; (simp only [P0, P0n, P2, P3, P4, P5, P6]; rfl)
             refine pu (i := 1) (N := some 27) (v := ?_) (a' := ?_) HT_.out rfl rfl (by kernel_rfl) (fun _ _ _ h => h) (Or.inl ⟨by rfl, ?_⟩) ?_ ?_
             rotate_left; (intro w'; go_simp; with_reducible rfl); rotate_left; (simp only [P0, P0n, P2, P3, P4, P5, P6]; rfl)
             refine pu (i := 2) (N := some 28) (v := ?_) (a' := ?_) HT_.out rfl rfl (by kernel_rfl) (fun _ _ _ h => h) (Or.inl ⟨by rfl, ?_⟩) ?_ ?_
             rotate_left; (intro w'; go_simp; with_reducible rfl); rotate_left; (simp only [P0, P0n, P2, P3, P4, P5, P6]; rfl)
             refine pu (i := 4) (N := some 30) (v := ?_) (a' := ?_) HT_.out rfl rfl (by kernel_rfl) (fun _ _ _ h => h) (Or.inl ⟨by rfl, ?_⟩) ?_ ?_
             rotate_left; (intro w'; go_simp; with_reducible rfl); rotate_left; (simp only [P0, P0n, P2, P3, P4, P5, P6]; rfl)
             refine pu (i := 6) (N := some 32) (v := ?_) (a' := ?_) HT_.out rfl rfl (by kernel_rfl) (fun _ _ _ h => h) (Or.inl ⟨by rfl, ?_⟩) ?_ ?_
             rotate_left; (intro w'; go_simp; with_reducible rfl); rotate_left; (simp only [P0, P0n, P2, P3, P4, P5, P6]; rfl)
             refine tw (i := 3) (N := some 29) (v := ?_) (a' := ?_) HT_.out HW_.out rfl rfl (by kernel_rfl) (fun _ _ _ h => h) (Or.inl ⟨by rfl, ?_⟩) hHeld ?_ ?_
             rotate_left
             ·rintro w' ⟨s0, s1, s2, s3, s4, s5, s6⟩
              go_simp
              with_reducible rfl
             rotate_left
             ·simp only [P0, P0n, P2, P3, P4, P5, P6]
              rfl
             refine tw (i := 5) (N := some 31) (v := ?_) (a' := ?_) HT_.out HW_.out rfl rfl (by kernel_rfl) (fun _ _ _ h => h) (Or.inl ⟨by rfl, ?_⟩) hHeld ?_ ?_
             rotate_left
             ·rintro w' ⟨s0, s1, s2, s3, s4, s5, s6⟩
              go_simp
              with_reducible rfl
             rotate_left
             ·simp only [P0, P0n, P2, P3, P4, P5, P6]
              rfl
             refine tw (i := 7) (N := some 33) (v := ?_) (a' := ?_) HT_.out HW_.out rfl rfl (by kernel_rfl) (fun _ _ _ h => h) (Or.inl ⟨by rfl, ?_⟩) hHeld ?_ ?_
             rotate_left
             ·rintro w' ⟨s0, s1, s2, s3, s4, s5, s6⟩
              go_simp
              with_reducible rfl
             rotate_left
             ·simp only [P0, P0n, P2, P3, P4, P5, P6]
              rfl
             refine one_ (i := 8) (N := some 34) #[T, T, T, T, T, T, T, T, T, F, F, F, F, F, F, F, F, F, F, F, F, F, F, F] rfl rfl (one_of HT_.out (by kernel_rfl)) (by decide) (fun K hK => ?_)
             refine goes_ Try.func58 (by kernel_rfl) rfl #[.int .i64 (rd l1 x21_2), .int .i64 ((rd_T54 l0 x21_2).f3), .int .i64 ((rd_T54 l0 x21_2).f4)] (by rfl) rfl rfl (by (try simp only [List.map_toArray, List.map_cons, List.map_nil]); first | done | rfl | (simp only [List.length_drop, List.length_take]; rfl)) ?_
             with_reducible refine (impl_in.calls (rd l1 x21_2) ((rd_T54 l0 x21_2).f3) ((rd_T54 l0 x21_2).f4) true _ A16.out).mono ?_
             rintro e w' ⟨rfl, ⟨nd, rfl⟩⟩
             refine ⟨_, rfl, ?_⟩
             refine hK.out _ _ ⟨(blk_cell BK103.out 0).trans rfl, (blk_cell BK103.out 1).trans rfl, (blk_cell BK103.out 2).trans rfl, (blk_cell BK103.out 3).trans rfl, (blk_cell BK103.out 4).trans rfl, (blk_cell BK103.out 5).trans rfl, (pw_cell_below HB.out hw104_0)⟩ (fun hHeld => ?_)
             clear hK K
             refine norm_ (a' := ?_) ?_ ?_
             rotate_left
             ·show Act.put _ (some 34) _ = _
              simp only [P0, P0n, P2, P3, P4, P5, P6]
              rfl
             refine pu (i := 9) (N := some 35) (v := ?_) (a' := ?_) HT_.out rfl rfl (by kernel_rfl) (fun _ _ _ h => h) (Or.inl ⟨by rfl, ?_⟩) ?_ ?_
             rotate_left; (intro w'; go_simp; with_reducible rfl); rotate_left; (simp only [P0, P0n, P2, P3, P4, P5, P6]; rfl)
             refine pu (i := 10) (N := some 36) (v := ?_) (a' := ?_) HT_.out rfl rfl (by kernel_rfl) (fun _ _ _ h => h) (Or.inl ⟨by rfl, ?_⟩) ?_ ?_
             rotate_left; (intro w'; go_simp; with_reducible rfl); rotate_left; (simp only [P0, P0n, P2, P3, P4, P5, P6]; rfl)
             refine pu (i := 11) (N := some 37) (v := ?_) (a' := ?_) HT_.out rfl rfl (by kernel_rfl) (fun _ _ _ h => h) (Or.inl ⟨by rfl, ?_⟩) ?_ ?_
             rotate_left; (intro w'; go_simp; with_reducible rfl); rotate_left; (simp only [P0, P0n, P2, P3, P4, P5, P6]; rfl)
             refine tw (i := 12) (N := some 38) (v := ?_) (a' := ?_) HT_.out HW_.out rfl rfl (by kernel_rfl) (fun _ _ _ h => h) (Or.inl ⟨by rfl, ?_⟩) hHeld ?_ ?_
             rotate_left
             ·rintro w' ⟨s0, s1, s2, s3, s4, s5, s6⟩
              go_simp
              with_reducible rfl
             rotate_left
             ·simp only [P0, P0n, P2, P3, P4, P5, P6]
              rfl
             refine pu (i := 13) (N := some 39) (v := ?_) (a' := ?_) HT_.out rfl rfl (by kernel_rfl) (fun _ _ _ h => h) (Or.inl ⟨by rfl, ?_⟩) ?_ ?_
             rotate_left; (intro w'; go_simp; with_reducible rfl); rotate_left; (simp only [P0, P0n, P2, P3, P4, P5, P6]; rfl)
             refine pu (i := 14) (N := some 40) (v := ?_) (a' := ?_) HT_.out rfl rfl (by kernel_rfl) (fun _ _ _ h => h) (Or.inl ⟨by rfl, ?_⟩) ?_ ?_
             rotate_left; (intro w'; go_simp; with_reducible rfl); rotate_left; (simp only [P0, P0n, P2, P3, P4, P5, P6]; rfl)
             refine pure_ (i := 15) (N := some 41) (v := undef) (a' := ?_) #[T, T, T, T, T, T, T, T, T, T, T, T, T, T, T, T, F, F, F, F, F, F, F, F] rfl rfl (any_of HT_.out (by kernel_rfl)) (fun _ _ _ h => h) (Or.inr ⟨by rfl, rfl⟩) ?_ ?_
             rotate_left
             ·simp only [P0, P0n, P2, P3, P4, P5, P6]
              rfl
             refine pure_ (i := 16) (N := some 42) (v := undef) (a' := ?_) #[T, T, T, T, T, T, T, T, T, T, T, T, T, T, T, T, T, F, F, F, F, F, F, F] rfl rfl (any_of HT_.out (by kernel_rfl)) (fun _ _ _ h => h) (Or.inr ⟨by rfl, rfl⟩) ?_ ?_
             rotate_left
             ·simp only [P0, P0n, P2, P3, P4, P5, P6]
              rfl
             refine pure_ (i := 17) (N := some 43) (v := undef) (a' := ?_) #[T, T, T, T, T, T, T, T, T, T, T, T, T, T, T, T, T, T, F, F, F, F, F, F] rfl rfl (any_of HT_.out (by kernel_rfl)) (fun _ _ _ h => h) (Or.inr ⟨by rfl, rfl⟩) ?_ ?_
             rotate_left
             ·simp only [P0, P0n, P2, P3, P4, P5, P6]
              rfl
             refine pure_ (i := 18) (N := some 44) (v := undef) (a' := ?_) #[T, T, T, T, T, T, T, T, T, T, T, T, T, T, T, T, T, T, T, F, F, F, F, F] rfl rfl (any_of HT_.out (by kernel_rfl)) (fun _ _ _ h => h) (Or.inr ⟨by rfl, rfl⟩) ?_ ?_
             rotate_left
             ·simp only [P0, P0n, P2, P3, P4, P5, P6]
              rfl
             refine pure_ (i := 19) (N := some 45) (v := undef) (a' := ?_) #[T, T, T, T, T, T, T, T, T, T, T, T, T, T, T, T, T, T, T, T, F, F, F, F] rfl rfl (any_of HT_.out (by kernel_rfl)) (fun _ _ _ h => h) (Or.inr ⟨by rfl, rfl⟩) ?_ ?_
             rotate_left
             ·simp only [P0, P0n, P2, P3, P4, P5, P6]
              rfl
             refine pure_ (i := 20) (N := some 46) (v := undef) (a' := ?_) #[T, T, T, T, T, T, T, T, T, T, T, T, T, T, T, T, T, T, T, T, T, F, F, F] rfl rfl (any_of HT_.out (by kernel_rfl)) (fun _ _ _ h => h) (Or.inr ⟨by rfl, rfl⟩) ?_ ?_
             rotate_left
             ·simp only [P0, P0n, P2, P3, P4, P5, P6]
              rfl
             refine pure_ (i := 21) (N := some 47) (v := undef) (a' := ?_) #[T, T, T, T, T, T, T, T, T, T, T, T, T, T, T, T, T, T, T, T, T, T, F, F] rfl rfl (any_of HT_.out (by kernel_rfl)) (fun _ _ _ h => h) (Or.inr ⟨by rfl, rfl⟩) ?_ ?_
             rotate_left
             ·simp only [P0, P0n, P2, P3, P4, P5, P6]
              rfl
             refine pu (i := 22) (N := some 48) (v := ?_) (a' := ?_) HT_.out rfl rfl (by kernel_rfl) (fun _ _ _ h => h) (Or.inl ⟨by rfl, ?_⟩) ?_ ?_
             rotate_left; (intro w'; go_simp; with_reducible rfl); rotate_left; (simp only [P0, P0n, P2, P3, P4, P5, P6]; rfl)
             refine pu (i := 23) (N := some 49) (v := ?_) (a' := ?_) HT_.out rfl rfl (by kernel_rfl) (fun _ _ _ h => h) (Or.inl ⟨by rfl, ?_⟩) ?_ ?_
             rotate_left; (intro w'; go_simp; with_reducible rfl); rotate_left; (simp only [P0, P0n, P2, P3, P4, P5, P6]; rfl)
             refine done_ (done_of HT_.out (by kernel_rfl)) ?_
             try go_wp2
             go_meet
             case rel => exact ⟨_, (false), (by first | rfl | (simp; done) | (simp [*]; done)), H', ⟨by have := HJ2.out; have := HK2.out; first | omega | exact Nat.le_refl _⟩, ⟨ex BK103.out⟩, ⟨by repeat (first | (with_reducible first | exact HB.out | apply below_alloc | apply pw_below_drewN | apply below_drew1 | refine below_set ?_ GE103.out) | exact HB.out)⟩⟩
           ·replace c17 := Bool.eq_false_iff.mpr c17
            subst c17
            have H1 : (impl_StripFits.j2 k2 l0 l1 x21_2 l0 (l0.length : Int) x21_2 true ((rd_T54 l0 x21_2).f0) ((rd_T54 l0 x21_2).f1) ((rd_T54 l0 x21_2).f2) ((rd_T54 l0 x21_2).f3) ((rd_T54 l0 x21_2).f4) ((rd_T54 l0 x21_2).f5)) = some r := by rw [if_neg (show ¬ (false = true) by decide)] at H; exact H
            clear H
            have H := H1
            clear H1
            have H' := Aside0.mk H
            clear H
            try go_wp2
            have n0_ : Aside0 (((((((w13.setCell ⟨gb103, 0, none⟩ (.string ((rd_T54 l0 x21_2).f0))).setCell ⟨gb103, 1, none⟩ (.bool ((rd_T54 l0 x21_2).f1))).setCell ⟨gb103, 2, none⟩ (.int .i64 ((rd_T54 l0 x21_2).f2))).setCell ⟨gb103, 3, none⟩ (.int .i64 ((rd_T54 l0 x21_2).f3))).setCell ⟨gb103, 4, none⟩ (.int .i64 ((rd_T54 l0 x21_2).f4))).setCell ⟨gb103, 5, none⟩ (.int .i64 ((rd_T54 l0 x21_2).f5))).heap[gb103]? = some (.cells #[.string ((rd_T54 l0 x21_2).f0), .bool ((rd_T54 l0 x21_2).f1), .int .i64 ((rd_T54 l0 x21_2).f2), .int .i64 ((rd_T54 l0 x21_2).f3), .int .i64 ((rd_T54 l0 x21_2).f4), .int .i64 ((rd_T54 l0 x21_2).f5)] 54 (0, 0))) := ⟨by refine px ?_; refine blk_put (cs := #[.string ((rd_T54 l0 x21_2).f0), .bool ((rd_T54 l0 x21_2).f1), .int .i64 ((rd_T54 l0 x21_2).f2), .int .i64 ((rd_T54 l0 x21_2).f3), .int .i64 ((rd_T54 l0 x21_2).f4), .int .i64 0]) ?_ 5 _ rfl; refine px ?_; refine blk_put (cs := #[.string ((rd_T54 l0 x21_2).f0), .bool ((rd_T54 l0 x21_2).f1), .int .i64 ((rd_T54 l0 x21_2).f2), .int .i64 ((rd_T54 l0 x21_2).f3), .int .i64 0, .int .i64 0]) ?_ 4 _ rfl; refine px ?_; refine blk_put (cs := #[.string ((rd_T54 l0 x21_2).f0), .bool ((rd_T54 l0 x21_2).f1), .int .i64 ((rd_T54 l0 x21_2).f2), .int .i64 0, .int .i64 0, .int .i64 0]) ?_ 3 _ rfl; refine px ?_; refine blk_put (cs := #[.string ((rd_T54 l0 x21_2).f0), .bool ((rd_T54 l0 x21_2).f1), .int .i64 0, .int .i64 0, .int .i64 0, .int .i64 0]) ?_ 2 _ rfl; refine px ?_; refine blk_put (cs := #[.string ((rd_T54 l0 x21_2).f0), .bool false, .int .i64 0, .int .i64 0, .int .i64 0, .int .i64 0]) ?_ 1 _ rfl; refine px ?_; refine blk_put (cs := #[.string (⟨#[]⟩ : ByteArray), .bool false, .int .i64 0, .int .i64 0, .int .i64 0, .int .i64 0]) ?_ 0 _ rfl; refine px ?_; exact BK103.out⟩
            have n1_ : Aside0 (Below w.heap.size w ((((((w13.setCell ⟨gb103, 0, none⟩ (.string ((rd_T54 l0 x21_2).f0))).setCell ⟨gb103, 1, none⟩ (.bool ((rd_T54 l0 x21_2).f1))).setCell ⟨gb103, 2, none⟩ (.int .i64 ((rd_T54 l0 x21_2).f2))).setCell ⟨gb103, 3, none⟩ (.int .i64 ((rd_T54 l0 x21_2).f3))).setCell ⟨gb103, 4, none⟩ (.int .i64 ((rd_T54 l0 x21_2).f4))).setCell ⟨gb103, 5, none⟩ (.int .i64 ((rd_T54 l0 x21_2).f5)))) := ⟨by repeat (first | (with_reducible first | exact HB.out | apply below_alloc | apply pw_below_drewN | apply below_drew1 | refine below_set ?_ GE103.out) | exact HB.out)⟩
            (try clear BK103)
            (try clear HB)
            generalize ((((((w13.setCell ⟨gb103, 0, none⟩ (.string ((rd_T54 l0 x21_2).f0))).setCell ⟨gb103, 1, none⟩ (.bool ((rd_T54 l0 x21_2).f1))).setCell ⟨gb103, 2, none⟩ (.int .i64 ((rd_T54 l0 x21_2).f2))).setCell ⟨gb103, 3, none⟩ (.int .i64 ((rd_T54 l0 x21_2).f3))).setCell ⟨gb103, 4, none⟩ (.int .i64 ((rd_T54 l0 x21_2).f4))).setCell ⟨gb103, 5, none⟩ (.int .i64 ((rd_T54 l0 x21_2).f5))) = w23 at n0_ n1_ ⊢
            have BK103 := n0_
            have HB := n1_
            clear n0_ n1_
            have n0_ := Aside0.mk (blk_drew BK103.out)
            have n1_ := Aside0.mk (below_drew1 HB.out)
            clear BK103
            clear HB
            have BK103 := n0_
            have HB := n1_
            clear n0_ n1_
            have p104 : 0 ≤ (x21_2 : Int) := of_decide_eq_true (by first | (with_reducible assumption) | assumption)
            have q104 : x21_2 < (l1.length : Int) := of_decide_eq_true (by first | (with_reducible assumption) | assumption)
            obtain ⟨ad104, e104, hx104_0⟩ := Kd.at_int HR1.out x21_2 p104 q104
            have hw104_0 := hx104_0
            cases e104
            replace hx104_0 := pw_cell_below HB.out hx104_0
            replace p104 := eq_true p104
            replace q104 := eq_true q104
            refine start_ (n := 24) (S := fun w' => w'.cell? ⟨gb103, 0, none⟩ = some (.string ((rd_T54 l0 x21_2).f0)) ∧ w'.cell? ⟨gb103, 1, none⟩ = some (.bool ((rd_T54 l0 x21_2).f1)) ∧ w'.cell? ⟨gb103, 2, none⟩ = some (.int .i64 ((rd_T54 l0 x21_2).f2)) ∧ w'.cell? ⟨gb103, 3, none⟩ = some (.int .i64 ((rd_T54 l0 x21_2).f3)) ∧ w'.cell? ⟨gb103, 4, none⟩ = some (.int .i64 ((rd_T54 l0 x21_2).f4)) ∧ w'.cell? ⟨gb103, 5, none⟩ = some (.int .i64 ((rd_T54 l0 x21_2).f5)) ∧ w'.cell? (ad104.add (x21_2).toNat) = some (.int .i64 (rd l1 x21_2))) (ds := []) #[F, F, F, F, F, F, F, F, F, F, F, F, F, F, F, F, F, F, F, F, F, F, F, F] (by kernel_rfl) rfl rfl ⟨(blk_cell BK103.out 0).trans rfl, (blk_cell BK103.out 1).trans rfl, (blk_cell BK103.out 2).trans rfl, (blk_cell BK103.out 3).trans rfl, (blk_cell BK103.out 4).trans rfl, (blk_cell BK103.out 5).trans rfl, (pw_cell_below HB.out hw104_0)⟩ (fun hHeld => ?_); refine with_tabW impl_StripFits.tab6 impl_StripFits.bits6 (fun HT_ HW_ => ?_)
            generalize w23.drew = w24 at BK103 HB hx104_0 hHeld ⊢
            refine pu (i := 0) (N := some 26) (v := ?_) (a' := ?_) HT_.out rfl rfl (by kernel_rfl) (fun _ _ _ h => h) (Or.inl ⟨by rfl, ?_⟩) ?_ ?_
            rotate_left; (intro w'; go_simp; with_reducible rfl); rotate_left; (simp only [P0, P0n, P2, P3, P4, P5, P6]; rfl)
            refine pu (i := 1) (N := some 27) (v := ?_) (a' := ?_) HT_.out rfl rfl (by kernel_rfl) (fun _ _ _ h => h) (Or.inl ⟨by rfl, ?_⟩) ?_ ?_
            rotate_left; (intro w'; go_simp; with_reducible rfl); rotate_left; (simp only [P0, P0n, P2, P3, P4, P5, P6]; rfl)
            refine pu (i := 2) (N := some 28) (v := ?_) (a' := ?_) HT_.out rfl rfl (by kernel_rfl) (fun _ _ _ h => h) (Or.inl ⟨by rfl, ?_⟩) ?_ ?_
            rotate_left; (intro w'; go_simp; with_reducible rfl); rotate_left; (simp only [P0, P0n, P2, P3, P4, P5, P6]; rfl)
            refine pu (i := 4) (N := some 30) (v := ?_) (a' := ?_) HT_.out rfl rfl (by kernel_rfl) (fun _ _ _ h => h) (Or.inl ⟨by rfl, ?_⟩) ?_ ?_
            rotate_left; (intro w'; go_simp; with_reducible rfl); rotate_left; (simp only [P0, P0n, P2, P3, P4, P5, P6]; rfl)
            refine pu (i := 6) (N := some 32) (v := ?_) (a' := ?_) HT_.out rfl rfl (by kernel_rfl) (fun _ _ _ h => h) (Or.inl ⟨by rfl, ?_⟩) ?_ ?_
            rotate_left; (intro w'; go_simp; with_reducible rfl); rotate_left; (simp only [P0, P0n, P2, P3, P4, P5, P6]; rfl)
            refine tw (i := 3) (N := some 29) (v := ?_) (a' := ?_) HT_.out HW_.out rfl rfl (by kernel_rfl) (fun _ _ _ h => h) (Or.inl ⟨by rfl, ?_⟩) hHeld ?_ ?_
            rotate_left
            ·rintro w' ⟨s0, s1, s2, s3, s4, s5, s6⟩
             go_simp
             with_reducible rfl
            rotate_left
            ·simp only [P0, P0n, P2, P3, P4, P5, P6]
             rfl
            refine tw (i := 5) (N := some 31) (v := ?_) (a' := ?_) HT_.out HW_.out rfl rfl (by kernel_rfl) (fun _ _ _ h => h) (Or.inl ⟨by rfl, ?_⟩) hHeld ?_ ?_
            rotate_left
            ·rintro w' ⟨s0, s1, s2, s3, s4, s5, s6⟩
             go_simp
             with_reducible rfl
            rotate_left
            ·simp only [P0, P0n, P2, P3, P4, P5, P6]
             rfl
            refine tw (i := 7) (N := some 33) (v := ?_) (a' := ?_) HT_.out HW_.out rfl rfl (by kernel_rfl) (fun _ _ _ h => h) (Or.inl ⟨by rfl, ?_⟩) hHeld ?_ ?_
            rotate_left
            ·rintro w' ⟨s0, s1, s2, s3, s4, s5, s6⟩
             go_simp
             with_reducible rfl
            rotate_left
            ·simp only [P0, P0n, P2, P3, P4, P5, P6]
             rfl
            refine one_ (i := 8) (N := some 34) #[T, T, T, T, T, T, T, T, T, F, F, F, F, F, F, F, F, F, F, F, F, F, F, F] rfl rfl (one_of HT_.out (by kernel_rfl)) (by decide) (fun K hK => ?_)
            refine goes_ Try.func58 (by kernel_rfl) rfl #[.int .i64 (rd l1 x21_2), .int .i64 ((rd_T54 l0 x21_2).f3), .int .i64 ((rd_T54 l0 x21_2).f4)] (by rfl) rfl rfl (by (try simp only [List.map_toArray, List.map_cons, List.map_nil]); first | done | rfl | (simp only [List.length_drop, List.length_take]; rfl)) ?_
            with_reducible refine (impl_in.calls (rd l1 x21_2) ((rd_T54 l0 x21_2).f3) ((rd_T54 l0 x21_2).f4) false _ A16.out).mono ?_
            rintro e w' ⟨rfl, ⟨nd, rfl⟩⟩
            refine ⟨_, rfl, ?_⟩
            refine hK.out _ _ ⟨(blk_cell BK103.out 0).trans rfl, (blk_cell BK103.out 1).trans rfl, (blk_cell BK103.out 2).trans rfl, (blk_cell BK103.out 3).trans rfl, (blk_cell BK103.out 4).trans rfl, (blk_cell BK103.out 5).trans rfl, (pw_cell_below HB.out hw104_0)⟩ (fun hHeld => ?_)
            clear hK K
            refine norm_ (a' := ?_) ?_ ?_
            rotate_left
            ·show Act.put _ (some 34) _ = _
             simp only [P0, P0n, P2, P3, P4, P5, P6]
             rfl
            refine pu (i := 9) (N := some 35) (v := ?_) (a' := ?_) HT_.out rfl rfl (by kernel_rfl) (fun _ _ _ h => h) (Or.inl ⟨by rfl, ?_⟩) ?_ ?_
            rotate_left; (intro w'; go_simp; with_reducible rfl); rotate_left; (simp only [P0, P0n, P2, P3, P4, P5, P6]; rfl)
            refine pu (i := 10) (N := some 36) (v := ?_) (a' := ?_) HT_.out rfl rfl (by kernel_rfl) (fun _ _ _ h => h) (Or.inl ⟨by rfl, ?_⟩) ?_ ?_
            rotate_left; (intro w'; go_simp; with_reducible rfl); rotate_left; (simp only [P0, P0n, P2, P3, P4, P5, P6]; rfl)
            refine pure_ (i := 11) (N := some 37) (v := undef) (a' := ?_) #[T, T, T, T, T, T, T, T, T, T, T, T, F, F, F, F, F, F, F, F, F, F, F, F] rfl rfl (any_of HT_.out (by kernel_rfl)) (fun _ _ _ h => h) (Or.inr ⟨by rfl, rfl⟩) ?_ ?_
            rotate_left
            ·simp only [P0, P0n, P2, P3, P4, P5, P6]
             rfl
            refine pure_ (i := 12) (N := some 38) (v := undef) (a' := ?_) #[T, T, T, T, T, T, T, T, T, T, T, T, T, F, F, F, F, F, F, F, F, F, F, F] rfl rfl (any_of HT_.out (by kernel_rfl)) (fun _ _ _ h => h) (Or.inr ⟨by rfl, rfl⟩) ?_ ?_
            rotate_left
            ·simp only [P0, P0n, P2, P3, P4, P5, P6]
             rfl
            refine pure_ (i := 13) (N := some 39) (v := undef) (a' := ?_) #[T, T, T, T, T, T, T, T, T, T, T, T, T, T, F, F, F, F, F, F, F, F, F, F] rfl rfl (any_of HT_.out (by kernel_rfl)) (fun _ _ _ h => h) (Or.inr ⟨by rfl, rfl⟩) ?_ ?_
            rotate_left
            ·simp only [P0, P0n, P2, P3, P4, P5, P6]
             rfl
            refine pure_ (i := 14) (N := some 40) (v := undef) (a' := ?_) #[T, T, T, T, T, T, T, T, T, T, T, T, T, T, T, F, F, F, F, F, F, F, F, F] rfl rfl (any_of HT_.out (by kernel_rfl)) (fun _ _ _ h => h) (Or.inr ⟨by rfl, rfl⟩) ?_ ?_
            rotate_left
            ·simp only [P0, P0n, P2, P3, P4, P5, P6]
             rfl
            refine pure_ (i := 15) (N := some 41) (v := undef) (a' := ?_) #[T, T, T, T, T, T, T, T, T, T, T, T, T, T, T, T, F, F, F, F, F, F, F, F] rfl rfl (any_of HT_.out (by kernel_rfl)) (fun _ _ _ h => h) (Or.inr ⟨by rfl, rfl⟩) ?_ ?_
            rotate_left
            ·simp only [P0, P0n, P2, P3, P4, P5, P6]
             rfl
            refine pure_ (i := 16) (N := some 42) (v := undef) (a' := ?_) #[T, T, T, T, T, T, T, T, T, T, T, T, T, T, T, T, T, F, F, F, F, F, F, F] rfl rfl (any_of HT_.out (by kernel_rfl)) (fun _ _ _ h => h) (Or.inr ⟨by rfl, rfl⟩) ?_ ?_
            rotate_left
            ·simp only [P0, P0n, P2, P3, P4, P5, P6]
             rfl
            refine pure_ (i := 17) (N := some 43) (v := undef) (a' := ?_) #[T, T, T, T, T, T, T, T, T, T, T, T, T, T, T, T, T, T, F, F, F, F, F, F] rfl rfl (any_of HT_.out (by kernel_rfl)) (fun _ _ _ h => h) (Or.inr ⟨by rfl, rfl⟩) ?_ ?_
            rotate_left
            ·simp only [P0, P0n, P2, P3, P4, P5, P6]
             rfl
            refine pure_ (i := 18) (N := some 44) (v := undef) (a' := ?_) #[T, T, T, T, T, T, T, T, T, T, T, T, T, T, T, T, T, T, T, F, F, F, F, F] rfl rfl (any_of HT_.out (by kernel_rfl)) (fun _ _ _ h => h) (Or.inr ⟨by rfl, rfl⟩) ?_ ?_
            rotate_left
            ·simp only [P0, P0n, P2, P3, P4, P5, P6]
             rfl
            refine pure_ (i := 19) (N := some 45) (v := undef) (a' := ?_) #[T, T, T, T, T, T, T, T, T, T, T, T, T, T, T, T, T, T, T, T, F, F, F, F] rfl rfl (any_of HT_.out (by kernel_rfl)) (fun _ _ _ h => h) (Or.inr ⟨by rfl, rfl⟩) ?_ ?_
            rotate_left
            ·simp only [P0, P0n, P2, P3, P4, P5, P6]
             rfl
            refine pure_ (i := 20) (N := some 46) (v := undef) (a' := ?_) #[T, T, T, T, T, T, T, T, T, T, T, T, T, T, T, T, T, T, T, T, T, F, F, F] rfl rfl (any_of HT_.out (by kernel_rfl)) (fun _ _ _ h => h) (Or.inr ⟨by rfl, rfl⟩) ?_ ?_
            rotate_left
            ·simp only [P0, P0n, P2, P3, P4, P5, P6]
             rfl
            refine pure_ (i := 21) (N := some 47) (v := undef) (a' := ?_) #[T, T, T, T, T, T, T, T, T, T, T, T, T, T, T, T, T, T, T, T, T, T, F, F] rfl rfl (any_of HT_.out (by kernel_rfl)) (fun _ _ _ h => h) (Or.inr ⟨by rfl, rfl⟩) ?_ ?_
            rotate_left
            ·simp only [P0, P0n, P2, P3, P4, P5, P6]
             rfl
            refine pure_ (i := 22) (N := some 48) (v := undef) (a' := ?_) #[T, T, T, T, T, T, T, T, T, T, T, T, T, T, T, T, T, T, T, T, T, T, T, F] rfl rfl (any_of HT_.out (by kernel_rfl)) (fun _ _ _ h => h) (Or.inr ⟨by rfl, rfl⟩) ?_ ?_
            rotate_left
            ·simp only [P0, P0n, P2, P3, P4, P5, P6]
             rfl
            refine pu (i := 23) (N := some 49) (v := ?_) (a' := ?_) HT_.out rfl rfl (by kernel_rfl) (fun _ _ _ h => h) (Or.inl ⟨by rfl, ?_⟩) ?_ ?_
            rotate_left; (intro w'; go_simp; with_reducible rfl); rotate_left; (simp only [P0, P0n, P2, P3, P4, P5, P6]; rfl)
            refine done_ (done_of HT_.out (by kernel_rfl)) ?_
            try go_wp2
            go_meet
            case rel => exact ⟨_, (true), (by first | rfl | (simp; done) | (simp [*]; done)), H', ⟨by have := HJ2.out; have := HK2.out; first | omega | exact Nat.le_refl _⟩, ⟨ex BK103.out⟩, ⟨by repeat (first | (with_reducible first | exact HB.out | apply below_alloc | apply pw_below_drewN | apply below_drew1 | refine below_set ?_ GE103.out) | exact HB.out)⟩⟩
          ·rw [if_neg c15] at H
           exact absurd H (by simp)
         case rest =>
          clear HC12
          try clear c1
          try clear p1
          try clear q1
          try clear hx1
          try clear p2
          try clear c5
          try clear p10
          try clear q10
          try clear hx10
          try clear c15
          try clear c17
          try clear c18
          try clear c18b0
          try clear hx104_0
          try clear hx106_0
          try clear p104
          try clear p106
          try clear q104
          try clear q106
          obtain ⟨kq, x49_11, rfl, HA, HJ11, BK103, HB⟩ := hcut
          cases kq with
          | zero => exact absurd HA.out (by simp [impl_StripFits.j2])
          | succ kj11 =>
           have H := HA.out
           clear HA
           simp only [impl_StripFits.j2] at H
           by_cases c25 : x49_11 = true
           ·subst c25
            have H1 : (some false) = some r := by rw [if_pos rfl] at H; exact H
            clear H
            have H := H1
            clear H1
            obtain rfl := Option.some.inj H
            go_wp2
            go_ret
            exact ⟨by first | rfl | (simp [errW_none, errW_some] <;> rfl) | (simp [*, errW_none, errW_some] <;> rfl), by repeat (first | (with_reducible first | exact HB.out | apply below_alloc | apply pw_below_drewN | apply below_drew1 | refine below_set ?_ GE103.out) | exact HB.out)⟩
           ·replace c25 := Bool.eq_false_iff.mpr c25
            subst c25
            have H1 : (impl_StripFits.l1 kj11 l0 l1 x21_2 l0 (l0.length : Int) x21_2 l0 (l0.length : Int) 0 ((rd_T54 l0 x21_2).f0) ((rd_T54 l0 x21_2).f1) ((rd_T54 l0 x21_2).f2) ((rd_T54 l0 x21_2).f3) ((rd_T54 l0 x21_2).f4) ((rd_T54 l0 x21_2).f5)) = some r := by rw [if_neg (show ¬ (false = true) by decide)] at H; exact H
            clear H
            have H := H1
            clear H1
            have H' := Aside0.mk H
            clear H
            go_wp2
            go_loopg [52] kj11 (fun kq v52 w' => ∃ (x52_4 : Int), v52 = .int .i64 x52_4 ∧ Aside0 (impl_StripFits.l1 kq l0 l1 x21_2 l0 (l0.length : Int) x21_2 l0 (l0.length : Int) x52_4 ((rd_T54 l0 x21_2).f0) ((rd_T54 l0 x21_2).f1) ((rd_T54 l0 x21_2).f2) ((rd_T54 l0 x21_2).f3) ((rd_T54 l0 x21_2).f4) ((rd_T54 l0 x21_2).f5) = some r) ∧ Aside0 (kq ≤ kj11) ∧ Aside0 (w'.heap[gb103]? = some (.cells #[.string ((rd_T54 l0 x21_2).f0), .bool ((rd_T54 l0 x21_2).f1), .int .i64 ((rd_T54 l0 x21_2).f2), .int .i64 ((rd_T54 l0 x21_2).f3), .int .i64 ((rd_T54 l0 x21_2).f4), .int .i64 ((rd_T54 l0 x21_2).f5)] 54 (0, 0))) ∧ Aside0 (Below w.heap.size w w'))
            case atStart => exact ⟨(0), (by first | rfl | (simp; done) | (simp [*]; done)), H', ⟨Nat.le_refl _⟩, ⟨ex BK103.out⟩, ⟨by repeat (first | (with_reducible first | exact HB.out | apply below_alloc | apply pw_below_drewN | apply below_drew1 | refine below_set ?_ GE103.out) | exact HB.out)⟩⟩
            case round =>
             clear H'
             try clear c1
             try clear p1
             try clear q1
             try clear hx1
             try clear c2
             try clear p2
             try clear c5
             try clear p10
             try clear q10
             try clear hx10
             try clear c15
             try clear c17
             try clear c18
             try clear c18b0
             try clear c25
             try clear hx104_0
             try clear hx106_0
             try clear p1
             try clear p10
             try clear p104
             try clear p106
             try clear p2
             try clear q1
             try clear q10
             try clear q104
             try clear q106
             obtain ⟨x52_4, rfl, HA, HK4, BK103, HB⟩ := hrel
             cases gk with
             | zero => exact absurd HA.out (by simp [impl_StripFits.l1])
             | succ k4 =>
              have H := HA.out
              clear HA
              simp only [impl_StripFits.l1] at H
              by_cases c26 : x52_4 < (l0.length : Int)
              ·rw [if_pos c26] at H
               have c26b0 : decide (x52_4 < (l0.length : Int)) = true := decide_eq_true c26
               clear c26
               by_cases c27 : 0 ≤ x52_4
               ·rw [if_pos c27] at H
                have c27b0 : decide (0 ≤ x52_4) = true := decide_eq_true c27
                clear c27
                by_cases c28 : x52_4 < (l0.length : Int)
                ·rw [if_pos c28] at H
                 have c28b0 : decide (x52_4 < (l0.length : Int)) = true := decide_eq_true c28
                 clear c28
                 by_cases c29 : x52_4 = x21_2
                 ·rw [if_pos c29] at H
                  have c29b0 : (x52_4 == x21_2) = true := beq_iff_eq.mpr c29
                  have c29b1 : (x52_4 != x21_2) = false := bne_eq_false_iff_eq.mpr c29
                  clear c29
                  have H' := Aside0.mk H
                  clear H
                  have p107 : 0 ≤ (x52_4 : Int) := of_decide_eq_true (by first | (with_reducible assumption) | assumption)
                  have q107 : x52_4 < (l0.length : Int) := of_decide_eq_true (by first | (with_reducible assumption) | assumption)
                  obtain ⟨ad107, e107, hx107_0, hx107_1, hx107_2, hx107_3, hx107_4, hx107_5⟩ := at_T54 HR0.out x52_4 p107 q107
                  obtain rfl : ad102 = ad107 := (by injection e107)
                  replace hx107_0 := pw_cell_below HB.out hx107_0
                  replace hx107_1 := pw_cell_below HB.out hx107_1
                  replace hx107_2 := pw_cell_below HB.out hx107_2
                  replace hx107_3 := pw_cell_below HB.out hx107_3
                  replace hx107_4 := pw_cell_below HB.out hx107_4
                  replace hx107_5 := pw_cell_below HB.out hx107_5
                  replace p107 := eq_true p107
                  replace q107 := eq_true q107
                  try go_wp2_with (first | ((with_reducible refine gate_dst (N := 8) rfl ?_); (try (refine gate_guard (by rfl) ?_; dsimp only)); refine box_event ?hg (N := 8) ?hd (cs := #[.string (⟨#[]⟩ : ByteArray), .bool false, .int .i64 0, .int .i64 0, .int .i64 0, .int .i64 0]) (t := 54) ?hr ?_; (case hd => rfl); (case hg => rfl); (case hr => first | (go_simp; done) | (go_simp; rfl)); intro gb108 hg w30 hbox hb; have n0_ := Aside0.mk (blk_below (g := gb103) (o := .cells #[.string ((rd_T54 l0 x21_2).f0), .bool ((rd_T54 l0 x21_2).f1), .int .i64 ((rd_T54 l0 x21_2).f2), .int .i64 ((rd_T54 l0 x21_2).f3), .int .i64 ((rd_T54 l0 x21_2).f4), .int .i64 ((rd_T54 l0 x21_2).f5)] 54 (0, 0)) (ex BK103.out) hb); have n1_ := Aside0.mk (below_step (by repeat (first | (with_reducible first | exact HB.out | apply below_alloc | apply pw_below_drewN | apply below_drew1 | refine below_set ?_ GE103.out) | exact HB.out)) hb); have n2_ := Aside0.mk (hbox); have n3_ := Aside0.mk ((by rw [hg]; exact (below_size (by repeat (first | (with_reducible first | exact HB.out | apply below_alloc | apply pw_below_drewN | apply below_drew1 | refine below_set ?_ GE103.out) | exact HB.out))) : w.heap.size ≤ gb108)); have n4_ := Aside0.mk ((by rw [hg]; exact (below_size (by repeat (first | (with_reducible first | exact HB.out | apply below_alloc | apply pw_below_drewN | apply below_drew1 | refine below_set ?_ GE103.out) | exact HB.out))) : w.heap.size ≤ gb108)); have n5_ := Aside0.mk ((by rw [hg]; exact Nat.ne_of_lt (blk_lt (g := gb103) (o := .cells #[.string ((rd_T54 l0 x21_2).f0), .bool ((rd_T54 l0 x21_2).f1), .int .i64 ((rd_T54 l0 x21_2).f2), .int .i64 ((rd_T54 l0 x21_2).f3), .int .i64 ((rd_T54 l0 x21_2).f4), .int .i64 ((rd_T54 l0 x21_2).f5)] 54 (0, 0)) (ex BK103.out)) : gb103 ≠ gb108)); have n6_ := Aside0.mk ((by rw [hg]; exact Nat.ne_of_gt (blk_lt (g := gb103) (o := .cells #[.string ((rd_T54 l0 x21_2).f0), .bool ((rd_T54 l0 x21_2).f1), .int .i64 ((rd_T54 l0 x21_2).f2), .int .i64 ((rd_T54 l0 x21_2).f3), .int .i64 ((rd_T54 l0 x21_2).f4), .int .i64 ((rd_T54 l0 x21_2).f5)] 54 (0, 0)) (ex BK103.out)) : gb108 ≠ gb103)); clear BK103; clear HB; have BK103 := n0_; have HB := n1_; have BK108 := n2_; have GW108 := n3_; have GE108 := n4_; have NB103_108 := n5_; have NB108_103 := n6_; clear n0_ n1_ n2_ n3_ n4_ n5_ n6_; clear hb hbox hg; have hnb31 := NB108_103.out; have hnc31 := NB103_108.out; obtain ⟨hcz32_0, hcz32_1, hcz32_2, hcz32_3, hcz32_4, hcz32_5⟩ := bc6 BK108.out; obtain ⟨hfz32_0, hfz32_1, hfz32_2, hfz32_3, hfz32_4, hfz32_5⟩ := bf6 BK108.out))
                  have n0_ : Aside0 (((((((w30.setCell ⟨gb108, 0, none⟩ (.string ((rd_T54 l0 x52_4).f0))).setCell ⟨gb108, 1, none⟩ (.bool ((rd_T54 l0 x52_4).f1))).setCell ⟨gb108, 2, none⟩ (.int .i64 ((rd_T54 l0 x52_4).f2))).setCell ⟨gb108, 3, none⟩ (.int .i64 ((rd_T54 l0 x52_4).f3))).setCell ⟨gb108, 4, none⟩ (.int .i64 ((rd_T54 l0 x52_4).f4))).setCell ⟨gb108, 5, none⟩ (.int .i64 ((rd_T54 l0 x52_4).f5))).heap[gb103]? = some (.cells #[.string ((rd_T54 l0 x21_2).f0), .bool ((rd_T54 l0 x21_2).f1), .int .i64 ((rd_T54 l0 x21_2).f2), .int .i64 ((rd_T54 l0 x21_2).f3), .int .i64 ((rd_T54 l0 x21_2).f4), .int .i64 ((rd_T54 l0 x21_2).f5)] 54 (0, 0))) := ⟨by refine px ?_; refine blk_far ?_ NB103_108.out _; refine px ?_; refine blk_far ?_ NB103_108.out _; refine px ?_; refine blk_far ?_ NB103_108.out _; refine px ?_; refine blk_far ?_ NB103_108.out _; refine px ?_; refine blk_far ?_ NB103_108.out _; refine px ?_; refine blk_far ?_ NB103_108.out _; refine px ?_; exact BK103.out⟩
                  have n1_ : Aside0 (((((((w30.setCell ⟨gb108, 0, none⟩ (.string ((rd_T54 l0 x52_4).f0))).setCell ⟨gb108, 1, none⟩ (.bool ((rd_T54 l0 x52_4).f1))).setCell ⟨gb108, 2, none⟩ (.int .i64 ((rd_T54 l0 x52_4).f2))).setCell ⟨gb108, 3, none⟩ (.int .i64 ((rd_T54 l0 x52_4).f3))).setCell ⟨gb108, 4, none⟩ (.int .i64 ((rd_T54 l0 x52_4).f4))).setCell ⟨gb108, 5, none⟩ (.int .i64 ((rd_T54 l0 x52_4).f5))).heap[gb108]? = some (.cells #[.string ((rd_T54 l0 x52_4).f0), .bool ((rd_T54 l0 x52_4).f1), .int .i64 ((rd_T54 l0 x52_4).f2), .int .i64 ((rd_T54 l0 x52_4).f3), .int .i64 ((rd_T54 l0 x52_4).f4), .int .i64 ((rd_T54 l0 x52_4).f5)] 54 (0, 0))) := ⟨by refine px ?_; refine blk_put (cs := #[.string ((rd_T54 l0 x52_4).f0), .bool ((rd_T54 l0 x52_4).f1), .int .i64 ((rd_T54 l0 x52_4).f2), .int .i64 ((rd_T54 l0 x52_4).f3), .int .i64 ((rd_T54 l0 x52_4).f4), .int .i64 0]) ?_ 5 _ rfl; refine px ?_; refine blk_put (cs := #[.string ((rd_T54 l0 x52_4).f0), .bool ((rd_T54 l0 x52_4).f1), .int .i64 ((rd_T54 l0 x52_4).f2), .int .i64 ((rd_T54 l0 x52_4).f3), .int .i64 0, .int .i64 0]) ?_ 4 _ rfl; refine px ?_; refine blk_put (cs := #[.string ((rd_T54 l0 x52_4).f0), .bool ((rd_T54 l0 x52_4).f1), .int .i64 ((rd_T54 l0 x52_4).f2), .int .i64 0, .int .i64 0, .int .i64 0]) ?_ 3 _ rfl; refine px ?_; refine blk_put (cs := #[.string ((rd_T54 l0 x52_4).f0), .bool ((rd_T54 l0 x52_4).f1), .int .i64 0, .int .i64 0, .int .i64 0, .int .i64 0]) ?_ 2 _ rfl; refine px ?_; refine blk_put (cs := #[.string ((rd_T54 l0 x52_4).f0), .bool false, .int .i64 0, .int .i64 0, .int .i64 0, .int .i64 0]) ?_ 1 _ rfl; refine px ?_; refine blk_put (cs := #[.string (⟨#[]⟩ : ByteArray), .bool false, .int .i64 0, .int .i64 0, .int .i64 0, .int .i64 0]) ?_ 0 _ rfl; refine px ?_; exact BK108.out⟩
                  have n2_ : Aside0 (Below w.heap.size w ((((((w30.setCell ⟨gb108, 0, none⟩ (.string ((rd_T54 l0 x52_4).f0))).setCell ⟨gb108, 1, none⟩ (.bool ((rd_T54 l0 x52_4).f1))).setCell ⟨gb108, 2, none⟩ (.int .i64 ((rd_T54 l0 x52_4).f2))).setCell ⟨gb108, 3, none⟩ (.int .i64 ((rd_T54 l0 x52_4).f3))).setCell ⟨gb108, 4, none⟩ (.int .i64 ((rd_T54 l0 x52_4).f4))).setCell ⟨gb108, 5, none⟩ (.int .i64 ((rd_T54 l0 x52_4).f5)))) := ⟨by repeat (first | (with_reducible first | exact HB.out | apply below_alloc | apply pw_below_drewN | apply below_drew1 | refine below_set ?_ GE103.out | refine below_set ?_ GE108.out) | exact HB.out)⟩
                  (try clear BK103)
                  (try clear BK108)
                  (try clear HB)
                  generalize ((((((w30.setCell ⟨gb108, 0, none⟩ (.string ((rd_T54 l0 x52_4).f0))).setCell ⟨gb108, 1, none⟩ (.bool ((rd_T54 l0 x52_4).f1))).setCell ⟨gb108, 2, none⟩ (.int .i64 ((rd_T54 l0 x52_4).f2))).setCell ⟨gb108, 3, none⟩ (.int .i64 ((rd_T54 l0 x52_4).f3))).setCell ⟨gb108, 4, none⟩ (.int .i64 ((rd_T54 l0 x52_4).f4))).setCell ⟨gb108, 5, none⟩ (.int .i64 ((rd_T54 l0 x52_4).f5))) = w33 at n0_ n1_ n2_ ⊢
                  have BK103 := n0_
                  have BK108 := n1_
                  have HB := n2_
                  clear n0_ n1_ n2_
                  have n0_ := Aside0.mk (blk_drew BK103.out)
                  have n1_ := Aside0.mk (blk_drew BK108.out)
                  have n2_ := Aside0.mk (below_drew1 HB.out)
                  clear BK103
                  clear BK108
                  clear HB
                  have BK103 := n0_
                  have BK108 := n1_
                  have HB := n2_
                  clear n0_ n1_ n2_
                  refine start_ (n := 40) (S := fun w' => True) (ds := []) #[F, F, F, F, F, F, F, F, F, F, F, F, F, F, F, F, F, F, F, F, F, F, F, F, F, F, F, F, F, F, F, F, F, F, F, F, F, F, F, F] (by kernel_rfl) rfl rfl trivial (fun hHeld => ?_); refine with_tabW impl_StripFits.tab11 impl_StripFits.bits11 (fun HT_ HW_ => ?_)
                  generalize w33.drew = w34 at BK103 BK108 HB hHeld ⊢
                  refine pu (i := 0) (N := some 57) (v := ?_) (a' := ?_) HT_.out rfl rfl (by kernel_rfl) (fun _ _ _ h => h) (Or.inl ⟨by rfl, ?_⟩) ?_ ?_
                  rotate_left; (intro w'; go_simp; with_reducible rfl); rotate_left; (simp only [P0, P0n, P2, P3, P4, P5, P6]; rfl)
                  refine pu (i := 1) (N := some 58) (v := ?_) (a' := ?_) HT_.out rfl rfl (by kernel_rfl) (fun _ _ _ h => h) (Or.inl ⟨by rfl, ?_⟩) ?_ ?_
                  rotate_left; (intro w'; go_simp; with_reducible rfl); rotate_left; (simp only [P0, P0n, P2, P3, P4, P5, P6]; rfl)
                  refine pu (i := 2) (N := some 59) (v := ?_) (a' := ?_) HT_.out rfl rfl (by kernel_rfl) (fun _ _ _ h => h) (Or.inl ⟨by rfl, ?_⟩) ?_ ?_
                  rotate_left; (intro w'; go_simp; with_reducible rfl); rotate_left; (simp only [P0, P0n, P2, P3, P4, P5, P6]; rfl)
                  refine pu (i := 3) (N := some 60) (v := ?_) (a' := ?_) HT_.out rfl rfl (by kernel_rfl) (fun _ _ _ h => h) (Or.inl ⟨by rfl, ?_⟩) ?_ ?_
                  rotate_left; (intro w'; go_simp; with_reducible rfl); rotate_left; (simp only [P0, P0n, P2, P3, P4, P5, P6]; rfl)
                  refine pure_ (i := 4) (N := some 61) (v := undef) (a' := ?_) #[T, T, T, T, T, F, F, F, F, F, F, F, F, F, F, F, F, F, F, F, F, F, F, F, F, F, F, F, F, F, F, F, F, F, F, F, F, F, F, F] rfl rfl (any_of HT_.out (by kernel_rfl)) (fun _ _ _ h => h) (Or.inr ⟨by rfl, rfl⟩) ?_ ?_
                  rotate_left
                  ·simp only [P0, P0n, P2, P3, P4, P5, P6]
                   rfl
                  refine pure_ (i := 5) (N := some 62) (v := undef) (a' := ?_) #[T, T, T, T, T, T, F, F, F, F, F, F, F, F, F, F, F, F, F, F, F, F, F, F, F, F, F, F, F, F, F, F, F, F, F, F, F, F, F, F] rfl rfl (any_of HT_.out (by kernel_rfl)) (fun _ _ _ h => h) (Or.inr ⟨by rfl, rfl⟩) ?_ ?_
                  rotate_left
                  ·simp only [P0, P0n, P2, P3, P4, P5, P6]
                   rfl
                  refine pure_ (i := 6) (N := some 63) (v := undef) (a' := ?_) #[T, T, T, T, T, T, T, F, F, F, F, F, F, F, F, F, F, F, F, F, F, F, F, F, F, F, F, F, F, F, F, F, F, F, F, F, F, F, F, F] rfl rfl (any_of HT_.out (by kernel_rfl)) (fun _ _ _ h => h) (Or.inr ⟨by rfl, rfl⟩) ?_ ?_
                  rotate_left
                  ·simp only [P0, P0n, P2, P3, P4, P5, P6]
                   rfl
                  refine pure_ (i := 7) (N := some 64) (v := undef) (a' := ?_) #[T, T, T, T, T, T, T, T, F, F, F, F, F, F, F, F, F, F, F, F, F, F, F, F, F, F, F, F, F, F, F, F, F, F, F, F, F, F, F, F] rfl rfl (any_of HT_.out (by kernel_rfl)) (fun _ _ _ h => h) (Or.inr ⟨by rfl, rfl⟩) ?_ ?_
                  rotate_left
                  ·simp only [P0, P0n, P2, P3, P4, P5, P6]
                   rfl
                  refine pure_ (i := 8) (N := some 65) (v := undef) (a' := ?_) #[T, T, T, T, T, T, T, T, T, F, F, F, F, F, F, F, F, F, F, F, F, F, F, F, F, F, F, F, F, F, F, F, F, F, F, F, F, F, F, F] rfl rfl (any_of HT_.out (by kernel_rfl)) (fun _ _ _ h => h) (Or.inr ⟨by rfl, rfl⟩) ?_ ?_
                  rotate_left
                  ·simp only [P0, P0n, P2, P3, P4, P5, P6]
                   rfl
                  refine pure_ (i := 9) (N := some 66) (v := undef) (a' := ?_) #[T, T, T, T, T, T, T, T, T, T, F, F, F, F, F, F, F, F, F, F, F, F, F, F, F, F, F, F, F, F, F, F, F, F, F, F, F, F, F, F] rfl rfl (any_of HT_.out (by kernel_rfl)) (fun _ _ _ h => h) (Or.inr ⟨by rfl, rfl⟩) ?_ ?_
                  rotate_left
                  ·simp only [P0, P0n, P2, P3, P4, P5, P6]
                   rfl
                  refine pure_ (i := 10) (N := some 67) (v := undef) (a' := ?_) #[T, T, T, T, T, T, T, T, T, T, T, F, F, F, F, F, F, F, F, F, F, F, F, F, F, F, F, F, F, F, F, F, F, F, F, F, F, F, F, F] rfl rfl (any_of HT_.out (by kernel_rfl)) (fun _ _ _ h => h) (Or.inr ⟨by rfl, rfl⟩) ?_ ?_
                  rotate_left
                  ·simp only [P0, P0n, P2, P3, P4, P5, P6]
                   rfl
                  refine pure_ (i := 11) (N := some 68) (v := undef) (a' := ?_) #[T, T, T, T, T, T, T, T, T, T, T, T, F, F, F, F, F, F, F, F, F, F, F, F, F, F, F, F, F, F, F, F, F, F, F, F, F, F, F, F] rfl rfl (any_of HT_.out (by kernel_rfl)) (fun _ _ _ h => h) (Or.inr ⟨by rfl, rfl⟩) ?_ ?_
                  rotate_left
                  ·simp only [P0, P0n, P2, P3, P4, P5, P6]
                   rfl
                  refine pure_ (i := 12) (N := some 69) (v := undef) (a' := ?_) #[T, T, T, T, T, T, T, T, T, T, T, T, T, F, F, F, F, F, F, F, F, F, F, F, F, F, F, F, F, F, F, F, F, F, F, F, F, F, F, F] rfl rfl (any_of HT_.out (by kernel_rfl)) (fun _ _ _ h => h) (Or.inr ⟨by rfl, rfl⟩) ?_ ?_
                  rotate_left
                  ·simp only [P0, P0n, P2, P3, P4, P5, P6]
                   rfl
                  refine pure_ (i := 13) (N := some 70) (v := undef) (a' := ?_) #[T, T, T, T, T, T, T, T, T, T, T, T, T, T, F, F, F, F, F, F, F, F, F, F, F, F, F, F, F, F, F, F, F, F, F, F, F, F, F, F] rfl rfl (any_of HT_.out (by kernel_rfl)) (fun _ _ _ h => h) (Or.inr ⟨by rfl, rfl⟩) ?_ ?_
                  rotate_left
                  ·simp only [P0, P0n, P2, P3, P4, P5, P6]
                   rfl
                  refine pure_ (i := 14) (N := some 71) (v := undef) (a' := ?_) #[T, T, T, T, T, T, T, T, T, T, T, T, T, T, T, F, F, F, F, F, F, F, F, F, F, F, F, F, F, F, F, F, F, F, F, F, F, F, F, F] rfl rfl (any_of HT_.out (by kernel_rfl)) (fun _ _ _ h => h) (Or.inr ⟨by rfl, rfl⟩) ?_ ?_
                  rotate_left
                  ·simp only [P0, P0n, P2, P3, P4, P5, P6]
                   rfl
                  refine pure_ (i := 15) (N := some 72) (v := undef) (a' := ?_) #[T, T, T, T, T, T, T, T, T, T, T, T, T, T, T, T, F, F, F, F, F, F, F, F, F, F, F, F, F, F, F, F, F, F, F, F, F, F, F, F] rfl rfl (any_of HT_.out (by kernel_rfl)) (fun _ _ _ h => h) (Or.inr ⟨by rfl, rfl⟩) ?_ ?_
                  rotate_left
                  ·simp only [P0, P0n, P2, P3, P4, P5, P6]
                   rfl
                  refine pure_ (i := 16) (N := some 73) (v := undef) (a' := ?_) #[T, T, T, T, T, T, T, T, T, T, T, T, T, T, T, T, T, F, F, F, F, F, F, F, F, F, F, F, F, F, F, F, F, F, F, F, F, F, F, F] rfl rfl (any_of HT_.out (by kernel_rfl)) (fun _ _ _ h => h) (Or.inr ⟨by rfl, rfl⟩) ?_ ?_
                  rotate_left
                  ·simp only [P0, P0n, P2, P3, P4, P5, P6]
                   rfl
                  refine pure_ (i := 17) (N := some 74) (v := undef) (a' := ?_) #[T, T, T, T, T, T, T, T, T, T, T, T, T, T, T, T, T, T, F, F, F, F, F, F, F, F, F, F, F, F, F, F, F, F, F, F, F, F, F, F] rfl rfl (any_of HT_.out (by kernel_rfl)) (fun _ _ _ h => h) (Or.inr ⟨by rfl, rfl⟩) ?_ ?_
                  rotate_left
                  ·simp only [P0, P0n, P2, P3, P4, P5, P6]
                   rfl
                  refine pure_ (i := 18) (N := some 75) (v := undef) (a' := ?_) #[T, T, T, T, T, T, T, T, T, T, T, T, T, T, T, T, T, T, T, F, F, F, F, F, F, F, F, F, F, F, F, F, F, F, F, F, F, F, F, F] rfl rfl (any_of HT_.out (by kernel_rfl)) (fun _ _ _ h => h) (Or.inr ⟨by rfl, rfl⟩) ?_ ?_
                  rotate_left
                  ·simp only [P0, P0n, P2, P3, P4, P5, P6]
                   rfl
                  refine pure_ (i := 19) (N := some 76) (v := undef) (a' := ?_) #[T, T, T, T, T, T, T, T, T, T, T, T, T, T, T, T, T, T, T, T, F, F, F, F, F, F, F, F, F, F, F, F, F, F, F, F, F, F, F, F] rfl rfl (any_of HT_.out (by kernel_rfl)) (fun _ _ _ h => h) (Or.inr ⟨by rfl, rfl⟩) ?_ ?_
                  rotate_left
                  ·simp only [P0, P0n, P2, P3, P4, P5, P6]
                   rfl
                  refine pure_ (i := 20) (N := some 77) (v := undef) (a' := ?_) #[T, T, T, T, T, T, T, T, T, T, T, T, T, T, T, T, T, T, T, T, T, F, F, F, F, F, F, F, F, F, F, F, F, F, F, F, F, F, F, F] rfl rfl (any_of HT_.out (by kernel_rfl)) (fun _ _ _ h => h) (Or.inr ⟨by rfl, rfl⟩) ?_ ?_
                  rotate_left
                  ·simp only [P0, P0n, P2, P3, P4, P5, P6]
                   rfl
                  refine pure_ (i := 21) (N := some 78) (v := undef) (a' := ?_) #[T, T, T, T, T, T, T, T, T, T, T, T, T, T, T, T, T, T, T, T, T, T, F, F, F, F, F, F, F, F, F, F, F, F, F, F, F, F, F, F] rfl rfl (any_of HT_.out (by kernel_rfl)) (fun _ _ _ h => h) (Or.inr ⟨by rfl, rfl⟩) ?_ ?_
                  rotate_left
                  ·simp only [P0, P0n, P2, P3, P4, P5, P6]
                   rfl
                  refine pure_ (i := 22) (N := some 79) (v := undef) (a' := ?_) #[T, T, T, T, T, T, T, T, T, T, T, T, T, T, T, T, T, T, T, T, T, T, T, F, F, F, F, F, F, F, F, F, F, F, F, F, F, F, F, F] rfl rfl (any_of HT_.out (by kernel_rfl)) (fun _ _ _ h => h) (Or.inr ⟨by rfl, rfl⟩) ?_ ?_
                  rotate_left
                  ·simp only [P0, P0n, P2, P3, P4, P5, P6]
                   rfl
                  refine pure_ (i := 23) (N := some 80) (v := undef) (a' := ?_) #[T, T, T, T, T, T, T, T, T, T, T, T, T, T, T, T, T, T, T, T, T, T, T, T, F, F, F, F, F, F, F, F, F, F, F, F, F, F, F, F] rfl rfl (any_of HT_.out (by kernel_rfl)) (fun _ _ _ h => h) (Or.inr ⟨by rfl, rfl⟩) ?_ ?_
                  rotate_left
                  ·simp only [P0, P0n, P2, P3, P4, P5, P6]
                   rfl
                  refine pure_ (i := 24) (N := some 81) (v := undef) (a' := ?_) #[T, T, T, T, T, T, T, T, T, T, T, T, T, T, T, T, T, T, T, T, T, T, T, T, T, F, F, F, F, F, F, F, F, F, F, F, F, F, F, F] rfl rfl (any_of HT_.out (by kernel_rfl)) (fun _ _ _ h => h) (Or.inr ⟨by rfl, rfl⟩) ?_ ?_
                  rotate_left
                  ·simp only [P0, P0n, P2, P3, P4, P5, P6]
                   rfl
                  refine pure_ (i := 25) (N := some 82) (v := undef) (a' := ?_) #[T, T, T, T, T, T, T, T, T, T, T, T, T, T, T, T, T, T, T, T, T, T, T, T, T, T, F, F, F, F, F, F, F, F, F, F, F, F, F, F] rfl rfl (any_of HT_.out (by kernel_rfl)) (fun _ _ _ h => h) (Or.inr ⟨by rfl, rfl⟩) ?_ ?_
                  rotate_left
                  ·simp only [P0, P0n, P2, P3, P4, P5, P6]
                   rfl
                  refine pure_ (i := 26) (N := some 83) (v := undef) (a' := ?_) #[T, T, T, T, T, T, T, T, T, T, T, T, T, T, T, T, T, T, T, T, T, T, T, T, T, T, T, F, F, F, F, F, F, F, F, F, F, F, F, F] rfl rfl (any_of HT_.out (by kernel_rfl)) (fun _ _ _ h => h) (Or.inr ⟨by rfl, rfl⟩) ?_ ?_
                  rotate_left
                  ·simp only [P0, P0n, P2, P3, P4, P5, P6]
                   rfl
                  refine pure_ (i := 27) (N := some 84) (v := undef) (a' := ?_) #[T, T, T, T, T, T, T, T, T, T, T, T, T, T, T, T, T, T, T, T, T, T, T, T, T, T, T, T, F, F, F, F, F, F, F, F, F, F, F, F] rfl rfl (any_of HT_.out (by kernel_rfl)) (fun _ _ _ h => h) (Or.inr ⟨by rfl, rfl⟩) ?_ ?_
                  rotate_left
                  ·simp only [P0, P0n, P2, P3, P4, P5, P6]
                   rfl
                  refine pure_ (i := 28) (N := some 85) (v := undef) (a' := ?_) #[T, T, T, T, T, T, T, T, T, T, T, T, T, T, T, T, T, T, T, T, T, T, T, T, T, T, T, T, T, F, F, F, F, F, F, F, F, F, F, F] rfl rfl (any_of HT_.out (by kernel_rfl)) (fun _ _ _ h => h) (Or.inr ⟨by rfl, rfl⟩) ?_ ?_
                  rotate_left
                  ·simp only [P0, P0n, P2, P3, P4, P5, P6]
                   rfl
                  refine pure_ (i := 29) (N := some 86) (v := undef) (a' := ?_) #[T, T, T, T, T, T, T, T, T, T, T, T, T, T, T, T, T, T, T, T, T, T, T, T, T, T, T, T, T, T, F, F, F, F, F, F, F, F, F, F] rfl rfl (any_of HT_.out (by kernel_rfl)) (fun _ _ _ h => h) (Or.inr ⟨by rfl, rfl⟩) ?_ ?_
                  rotate_left
                  ·simp only [P0, P0n, P2, P3, P4, P5, P6]
                   rfl
                  refine pure_ (i := 30) (N := some 87) (v := undef) (a' := ?_) #[T, T, T, T, T, T, T, T, T, T, T, T, T, T, T, T, T, T, T, T, T, T, T, T, T, T, T, T, T, T, T, F, F, F, F, F, F, F, F, F] rfl rfl (any_of HT_.out (by kernel_rfl)) (fun _ _ _ h => h) (Or.inr ⟨by rfl, rfl⟩) ?_ ?_
                  rotate_left
                  ·simp only [P0, P0n, P2, P3, P4, P5, P6]
                   rfl
                  refine pure_ (i := 31) (N := some 88) (v := undef) (a' := ?_) #[T, T, T, T, T, T, T, T, T, T, T, T, T, T, T, T, T, T, T, T, T, T, T, T, T, T, T, T, T, T, T, T, F, F, F, F, F, F, F, F] rfl rfl (any_of HT_.out (by kernel_rfl)) (fun _ _ _ h => h) (Or.inr ⟨by rfl, rfl⟩) ?_ ?_
                  rotate_left
                  ·simp only [P0, P0n, P2, P3, P4, P5, P6]
                   rfl
                  refine pure_ (i := 32) (N := some 89) (v := undef) (a' := ?_) #[T, T, T, T, T, T, T, T, T, T, T, T, T, T, T, T, T, T, T, T, T, T, T, T, T, T, T, T, T, T, T, T, T, F, F, F, F, F, F, F] rfl rfl (any_of HT_.out (by kernel_rfl)) (fun _ _ _ h => h) (Or.inr ⟨by rfl, rfl⟩) ?_ ?_
                  rotate_left
                  ·simp only [P0, P0n, P2, P3, P4, P5, P6]
                   rfl
                  refine pure_ (i := 33) (N := some 90) (v := undef) (a' := ?_) #[T, T, T, T, T, T, T, T, T, T, T, T, T, T, T, T, T, T, T, T, T, T, T, T, T, T, T, T, T, T, T, T, T, T, F, F, F, F, F, F] rfl rfl (any_of HT_.out (by kernel_rfl)) (fun _ _ _ h => h) (Or.inr ⟨by rfl, rfl⟩) ?_ ?_
                  rotate_left
                  ·simp only [P0, P0n, P2, P3, P4, P5, P6]
                   rfl
                  refine pure_ (i := 34) (N := some 91) (v := undef) (a' := ?_) #[T, T, T, T, T, T, T, T, T, T, T, T, T, T, T, T, T, T, T, T, T, T, T, T, T, T, T, T, T, T, T, T, T, T, T, F, F, F, F, F] rfl rfl (any_of HT_.out (by kernel_rfl)) (fun _ _ _ h => h) (Or.inr ⟨by rfl, rfl⟩) ?_ ?_
                  rotate_left
                  ·simp only [P0, P0n, P2, P3, P4, P5, P6]
                   rfl
                  refine pure_ (i := 35) (N := some 92) (v := undef) (a' := ?_) #[T, T, T, T, T, T, T, T, T, T, T, T, T, T, T, T, T, T, T, T, T, T, T, T, T, T, T, T, T, T, T, T, T, T, T, T, F, F, F, F] rfl rfl (any_of HT_.out (by kernel_rfl)) (fun _ _ _ h => h) (Or.inr ⟨by rfl, rfl⟩) ?_ ?_
                  rotate_left
                  ·simp only [P0, P0n, P2, P3, P4, P5, P6]
                   rfl
                  refine pure_ (i := 36) (N := some 93) (v := undef) (a' := ?_) #[T, T, T, T, T, T, T, T, T, T, T, T, T, T, T, T, T, T, T, T, T, T, T, T, T, T, T, T, T, T, T, T, T, T, T, T, T, F, F, F] rfl rfl (any_of HT_.out (by kernel_rfl)) (fun _ _ _ h => h) (Or.inr ⟨by rfl, rfl⟩) ?_ ?_
                  rotate_left
                  ·simp only [P0, P0n, P2, P3, P4, P5, P6]
                   rfl
                  refine pure_ (i := 37) (N := some 94) (v := undef) (a' := ?_) #[T, T, T, T, T, T, T, T, T, T, T, T, T, T, T, T, T, T, T, T, T, T, T, T, T, T, T, T, T, T, T, T, T, T, T, T, T, T, F, F] rfl rfl (any_of HT_.out (by kernel_rfl)) (fun _ _ _ h => h) (Or.inr ⟨by rfl, rfl⟩) ?_ ?_
                  rotate_left
                  ·simp only [P0, P0n, P2, P3, P4, P5, P6]
                   rfl
                  refine pure_ (i := 38) (N := some 95) (v := undef) (a' := ?_) #[T, T, T, T, T, T, T, T, T, T, T, T, T, T, T, T, T, T, T, T, T, T, T, T, T, T, T, T, T, T, T, T, T, T, T, T, T, T, T, F] rfl rfl (any_of HT_.out (by kernel_rfl)) (fun _ _ _ h => h) (Or.inr ⟨by rfl, rfl⟩) ?_ ?_
                  rotate_left
                  ·simp only [P0, P0n, P2, P3, P4, P5, P6]
                   rfl
                  refine pu (i := 39) (N := some 96) (v := ?_) (a' := ?_) HT_.out rfl rfl (by kernel_rfl) (fun _ _ _ h => h) (Or.inl ⟨by rfl, ?_⟩) ?_ ?_
                  rotate_left; (intro w'; go_simp; with_reducible rfl); rotate_left; (simp only [P0, P0n, P2, P3, P4, P5, P6]; rfl)
                  refine done_ (done_of HT_.out (by kernel_rfl)) ?_
                  try go_wp2
                  go_roundg k4
                  case measure => have := HJ2.out; have := HK2.out; have := HJ11.out; have := HK4.out; omega
                  case rel => exact ⟨(wrap64 (x52_4 + 1)), (by first | rfl | (simp; done) | (simp [*]; done)), H', ⟨by have := HJ2.out; have := HK2.out; have := HJ11.out; have := HK4.out; omega⟩, ⟨ex BK103.out⟩, ⟨by repeat (first | (with_reducible first | exact HB.out | apply below_alloc | apply pw_below_drewN | apply below_drew1 | refine below_set ?_ GE103.out | refine below_set ?_ GE108.out) | exact HB.out)⟩⟩
                 ·rw [if_neg c29] at H
                  have c29b0 : (x52_4 == x21_2) = false := beq_eq_false_iff_ne.mpr c29
                  have c29b1 : (x52_4 != x21_2) = true := bne_iff_ne.mpr c29
                  by_cases c35 : 0 ≤ x21_2
                  ·rw [if_pos c35] at H
                   have c35b0 : decide (0 ≤ x21_2) = true := decide_eq_true c35
                   clear c35
                   by_cases c36 : x21_2 < (l1.length : Int)
                   ·rw [if_pos c36] at H
                    have c36b0 : decide (x21_2 < (l1.length : Int)) = true := decide_eq_true c36
                    clear c36
                    by_cases c37 : x52_4 < (l1.length : Int)
                    ·rw [if_pos c37] at H
                     have c37b0 : decide (x52_4 < (l1.length : Int)) = true := decide_eq_true c37
                     clear c37
                     by_cases c38 : (rd l1 x21_2) = (rd l1 x52_4)
                     ·rw [if_pos c38] at H
                      have c38b0 : ((rd l1 x21_2) == (rd l1 x52_4)) = true := beq_iff_eq.mpr c38
                      have c38b1 : ((rd l1 x21_2) != (rd l1 x52_4)) = false := bne_eq_false_iff_eq.mpr c38
                      clear c38
                      obtain rfl := Option.some.inj H
                      have p107 : 0 ≤ (x52_4 : Int) := of_decide_eq_true (by first | (with_reducible assumption) | assumption)
                      have q107 : x52_4 < (l0.length : Int) := of_decide_eq_true (by first | (with_reducible assumption) | assumption)
                      obtain ⟨ad107, e107, hx107_0, hx107_1, hx107_2, hx107_3, hx107_4, hx107_5⟩ := at_T54 HR0.out x52_4 p107 q107
                      obtain rfl : ad102 = ad107 := (by injection e107)
                      replace hx107_0 := pw_cell_below HB.out hx107_0
                      replace hx107_1 := pw_cell_below HB.out hx107_1
                      replace hx107_2 := pw_cell_below HB.out hx107_2
                      replace hx107_3 := pw_cell_below HB.out hx107_3
                      replace hx107_4 := pw_cell_below HB.out hx107_4
                      replace hx107_5 := pw_cell_below HB.out hx107_5
                      replace p107 := eq_true p107
                      replace q107 := eq_true q107
                      try go_wp2_with (first | ((with_reducible refine gate_dst (N := 8) rfl ?_); (try (refine gate_guard (by rfl) ?_; dsimp only)); refine box_event ?hg (N := 8) ?hd (cs := #[.string (⟨#[]⟩ : ByteArray), .bool false, .int .i64 0, .int .i64 0, .int .i64 0, .int .i64 0]) (t := 54) ?hr ?_; (case hd => rfl); (case hg => rfl); (case hr => first | (go_simp; done) | (go_simp; rfl)); intro gb108 hg w39 hbox hb; have n0_ := Aside0.mk (blk_below (g := gb103) (o := .cells #[.string ((rd_T54 l0 x21_2).f0), .bool ((rd_T54 l0 x21_2).f1), .int .i64 ((rd_T54 l0 x21_2).f2), .int .i64 ((rd_T54 l0 x21_2).f3), .int .i64 ((rd_T54 l0 x21_2).f4), .int .i64 ((rd_T54 l0 x21_2).f5)] 54 (0, 0)) (ex BK103.out) hb); have n1_ := Aside0.mk (below_step (by repeat (first | (with_reducible first | exact HB.out | apply below_alloc | apply pw_below_drewN | apply below_drew1 | refine below_set ?_ GE103.out) | exact HB.out)) hb); have n2_ := Aside0.mk (hbox); have n3_ := Aside0.mk ((by rw [hg]; exact (below_size (by repeat (first | (with_reducible first | exact HB.out | apply below_alloc | apply pw_below_drewN | apply below_drew1 | refine below_set ?_ GE103.out) | exact HB.out))) : w.heap.size ≤ gb108)); have n4_ := Aside0.mk ((by rw [hg]; exact (below_size (by repeat (first | (with_reducible first | exact HB.out | apply below_alloc | apply pw_below_drewN | apply below_drew1 | refine below_set ?_ GE103.out) | exact HB.out))) : w.heap.size ≤ gb108)); have n5_ := Aside0.mk ((by rw [hg]; exact Nat.ne_of_lt (blk_lt (g := gb103) (o := .cells #[.string ((rd_T54 l0 x21_2).f0), .bool ((rd_T54 l0 x21_2).f1), .int .i64 ((rd_T54 l0 x21_2).f2), .int .i64 ((rd_T54 l0 x21_2).f3), .int .i64 ((rd_T54 l0 x21_2).f4), .int .i64 ((rd_T54 l0 x21_2).f5)] 54 (0, 0)) (ex BK103.out)) : gb103 ≠ gb108)); have n6_ := Aside0.mk ((by rw [hg]; exact Nat.ne_of_gt (blk_lt (g := gb103) (o := .cells #[.string ((rd_T54 l0 x21_2).f0), .bool ((rd_T54 l0 x21_2).f1), .int .i64 ((rd_T54 l0 x21_2).f2), .int .i64 ((rd_T54 l0 x21_2).f3), .int .i64 ((rd_T54 l0 x21_2).f4), .int .i64 ((rd_T54 l0 x21_2).f5)] 54 (0, 0)) (ex BK103.out)) : gb108 ≠ gb103)); clear BK103; clear HB; have BK103 := n0_; have HB := n1_; have BK108 := n2_; have GW108 := n3_; have GE108 := n4_; have NB103_108 := n5_; have NB108_103 := n6_; clear n0_ n1_ n2_ n3_ n4_ n5_ n6_; clear hb hbox hg; have hnb40 := NB108_103.out; have hnc40 := NB103_108.out; obtain ⟨hcz41_0, hcz41_1, hcz41_2, hcz41_3, hcz41_4, hcz41_5⟩ := bc6 BK108.out; obtain ⟨hfz41_0, hfz41_1, hfz41_2, hfz41_3, hfz41_4, hfz41_5⟩ := bf6 BK108.out))
                      have n0_ : Aside0 (((((((w39.setCell ⟨gb108, 0, none⟩ (.string ((rd_T54 l0 x52_4).f0))).setCell ⟨gb108, 1, none⟩ (.bool ((rd_T54 l0 x52_4).f1))).setCell ⟨gb108, 2, none⟩ (.int .i64 ((rd_T54 l0 x52_4).f2))).setCell ⟨gb108, 3, none⟩ (.int .i64 ((rd_T54 l0 x52_4).f3))).setCell ⟨gb108, 4, none⟩ (.int .i64 ((rd_T54 l0 x52_4).f4))).setCell ⟨gb108, 5, none⟩ (.int .i64 ((rd_T54 l0 x52_4).f5))).heap[gb103]? = some (.cells #[.string ((rd_T54 l0 x21_2).f0), .bool ((rd_T54 l0 x21_2).f1), .int .i64 ((rd_T54 l0 x21_2).f2), .int .i64 ((rd_T54 l0 x21_2).f3), .int .i64 ((rd_T54 l0 x21_2).f4), .int .i64 ((rd_T54 l0 x21_2).f5)] 54 (0, 0))) := ⟨by refine px ?_; refine blk_far ?_ NB103_108.out _; refine px ?_; refine blk_far ?_ NB103_108.out _; refine px ?_; refine blk_far ?_ NB103_108.out _; refine px ?_; refine blk_far ?_ NB103_108.out _; refine px ?_; refine blk_far ?_ NB103_108.out _; refine px ?_; refine blk_far ?_ NB103_108.out _; refine px ?_; exact BK103.out⟩
                      have n1_ : Aside0 (((((((w39.setCell ⟨gb108, 0, none⟩ (.string ((rd_T54 l0 x52_4).f0))).setCell ⟨gb108, 1, none⟩ (.bool ((rd_T54 l0 x52_4).f1))).setCell ⟨gb108, 2, none⟩ (.int .i64 ((rd_T54 l0 x52_4).f2))).setCell ⟨gb108, 3, none⟩ (.int .i64 ((rd_T54 l0 x52_4).f3))).setCell ⟨gb108, 4, none⟩ (.int .i64 ((rd_T54 l0 x52_4).f4))).setCell ⟨gb108, 5, none⟩ (.int .i64 ((rd_T54 l0 x52_4).f5))).heap[gb108]? = some (.cells #[.string ((rd_T54 l0 x52_4).f0), .bool ((rd_T54 l0 x52_4).f1), .int .i64 ((rd_T54 l0 x52_4).f2), .int .i64 ((rd_T54 l0 x52_4).f3), .int .i64 ((rd_T54 l0 x52_4).f4), .int .i64 ((rd_T54 l0 x52_4).f5)] 54 (0, 0))) := ⟨by refine px ?_; refine blk_put (cs := #[.string ((rd_T54 l0 x52_4).f0), .bool ((rd_T54 l0 x52_4).f1), .int .i64 ((rd_T54 l0 x52_4).f2), .int .i64 ((rd_T54 l0 x52_4).f3), .int .i64 ((rd_T54 l0 x52_4).f4), .int .i64 0]) ?_ 5 _ rfl; refine px ?_; refine blk_put (cs := #[.string ((rd_T54 l0 x52_4).f0), .bool ((rd_T54 l0 x52_4).f1), .int .i64 ((rd_T54 l0 x52_4).f2), .int .i64 ((rd_T54 l0 x52_4).f3), .int .i64 0, .int .i64 0]) ?_ 4 _ rfl; refine px ?_; refine blk_put (cs := #[.string ((rd_T54 l0 x52_4).f0), .bool ((rd_T54 l0 x52_4).f1), .int .i64 ((rd_T54 l0 x52_4).f2), .int .i64 0, .int .i64 0, .int .i64 0]) ?_ 3 _ rfl; refine px ?_; refine blk_put (cs := #[.string ((rd_T54 l0 x52_4).f0), .bool ((rd_T54 l0 x52_4).f1), .int .i64 0, .int .i64 0, .int .i64 0, .int .i64 0]) ?_ 2 _ rfl; refine px ?_; refine blk_put (cs := #[.string ((rd_T54 l0 x52_4).f0), .bool false, .int .i64 0, .int .i64 0, .int .i64 0, .int .i64 0]) ?_ 1 _ rfl; refine px ?_; refine blk_put (cs := #[.string (⟨#[]⟩ : ByteArray), .bool false, .int .i64 0, .int .i64 0, .int .i64 0, .int .i64 0]) ?_ 0 _ rfl; refine px ?_; exact BK108.out⟩
                      have n2_ : Aside0 (Below w.heap.size w ((((((w39.setCell ⟨gb108, 0, none⟩ (.string ((rd_T54 l0 x52_4).f0))).setCell ⟨gb108, 1, none⟩ (.bool ((rd_T54 l0 x52_4).f1))).setCell ⟨gb108, 2, none⟩ (.int .i64 ((rd_T54 l0 x52_4).f2))).setCell ⟨gb108, 3, none⟩ (.int .i64 ((rd_T54 l0 x52_4).f3))).setCell ⟨gb108, 4, none⟩ (.int .i64 ((rd_T54 l0 x52_4).f4))).setCell ⟨gb108, 5, none⟩ (.int .i64 ((rd_T54 l0 x52_4).f5)))) := ⟨by repeat (first | (with_reducible first | exact HB.out | apply below_alloc | apply pw_below_drewN | apply below_drew1 | refine below_set ?_ GE103.out | refine below_set ?_ GE108.out) | exact HB.out)⟩
                      (try clear BK103)
                      (try clear BK108)
                      (try clear HB)
                      generalize ((((((w39.setCell ⟨gb108, 0, none⟩ (.string ((rd_T54 l0 x52_4).f0))).setCell ⟨gb108, 1, none⟩ (.bool ((rd_T54 l0 x52_4).f1))).setCell ⟨gb108, 2, none⟩ (.int .i64 ((rd_T54 l0 x52_4).f2))).setCell ⟨gb108, 3, none⟩ (.int .i64 ((rd_T54 l0 x52_4).f3))).setCell ⟨gb108, 4, none⟩ (.int .i64 ((rd_T54 l0 x52_4).f4))).setCell ⟨gb108, 5, none⟩ (.int .i64 ((rd_T54 l0 x52_4).f5))) = w42 at n0_ n1_ n2_ ⊢
                      have BK103 := n0_
                      have BK108 := n1_
                      have HB := n2_
                      clear n0_ n1_ n2_
                      have n0_ := Aside0.mk (blk_drew BK103.out)
                      have n1_ := Aside0.mk (blk_drew BK108.out)
                      have n2_ := Aside0.mk (below_drew1 HB.out)
                      clear BK103
                      clear BK108
                      clear HB
                      have BK103 := n0_
                      have BK108 := n1_
                      have HB := n2_
                      clear n0_ n1_ n2_
                      have p109 : 0 ≤ (x21_2 : Int) := of_decide_eq_true (by first | (with_reducible assumption) | assumption)
                      have q109 : x21_2 < (l1.length : Int) := of_decide_eq_true (by first | (with_reducible assumption) | assumption)
                      obtain ⟨ad109, e109, hx109_0⟩ := Kd.at_int HR1.out x21_2 p109 q109
                      have hw109_0 := hx109_0
                      cases e109
                      replace hx109_0 := pw_cell_below HB.out hx109_0
                      replace p109 := eq_true p109
                      replace q109 := eq_true q109
                      have p110 : 0 ≤ (x52_4 : Int) := of_decide_eq_true (by first | (with_reducible assumption) | assumption)
                      have q110 : x52_4 < (l1.length : Int) := of_decide_eq_true (by first | (with_reducible assumption) | assumption)
                      obtain ⟨ad110, e110, hx110_0⟩ := Kd.at_int HR1.out x52_4 p110 q110
                      have hw110_0 := hx110_0
                      obtain rfl : ad109 = ad110 := (by injection e110)
                      replace hx110_0 := pw_cell_below HB.out hx110_0
                      replace p110 := eq_true p110
                      replace q110 := eq_true q110
                      refine start_ (n := 40) (S := fun w' => w'.cell? (ad109.add (x21_2).toNat) = some (.int .i64 (rd l1 x21_2)) ∧ w'.cell? (ad109.add (x52_4).toNat) = some (.int .i64 (rd l1 x52_4))) (ds := []) #[F, F, F, F, F, F, F, F, F, F, F, F, F, F, F, F, F, F, F, F, F, F, F, F, F, F, F, F, F, F, F, F, F, F, F, F, F, F, F, F] (by kernel_rfl) rfl rfl ⟨(pw_cell_below HB.out hw109_0), (pw_cell_below HB.out hw110_0)⟩ (fun hHeld => ?_); refine with_tabW impl_StripFits.tab11 impl_StripFits.bits11 (fun HT_ HW_ => ?_)
                      generalize w42.drew = w43 at BK103 BK108 HB hx109_0 hx110_0 hHeld ⊢
                      refine pu (i := 0) (N := some 57) (v := ?_) (a' := ?_) HT_.out rfl rfl (by kernel_rfl) (fun _ _ _ h => h) (Or.inl ⟨by rfl, ?_⟩) ?_ ?_
                      rotate_left; (intro w'; go_simp; with_reducible rfl); rotate_left; (simp only [P0, P0n, P2, P3, P4, P5, P6]; rfl)
                      refine pu (i := 1) (N := some 58) (v := ?_) (a' := ?_) HT_.out rfl rfl (by kernel_rfl) (fun _ _ _ h => h) (Or.inl ⟨by rfl, ?_⟩) ?_ ?_
                      rotate_left; (intro w'; go_simp; with_reducible rfl); rotate_left; (simp only [P0, P0n, P2, P3, P4, P5, P6]; rfl)
                      refine pu (i := 2) (N := some 59) (v := ?_) (a' := ?_) HT_.out rfl rfl (by kernel_rfl) (fun _ _ _ h => h) (Or.inl ⟨by rfl, ?_⟩) ?_ ?_
                      rotate_left; (intro w'; go_simp; with_reducible rfl); rotate_left; (simp only [P0, P0n, P2, P3, P4, P5, P6]; rfl)
                      refine pu (i := 3) (N := some 60) (v := ?_) (a' := ?_) HT_.out rfl rfl (by kernel_rfl) (fun _ _ _ h => h) (Or.inl ⟨by rfl, ?_⟩) ?_ ?_
                      rotate_left; (intro w'; go_simp; with_reducible rfl); rotate_left; (simp only [P0, P0n, P2, P3, P4, P5, P6]; rfl)
                      refine pu (i := 4) (N := some 61) (v := ?_) (a' := ?_) HT_.out rfl rfl (by kernel_rfl) (fun _ _ _ h => h) (Or.inl ⟨by rfl, ?_⟩) ?_ ?_
                      rotate_left; (intro w'; go_simp; with_reducible rfl); rotate_left; (simp only [P0, P0n, P2, P3, P4, P5, P6]; rfl)
                      refine pu (i := 5) (N := some 62) (v := ?_) (a' := ?_) HT_.out rfl rfl (by kernel_rfl) (fun _ _ _ h => h) (Or.inl ⟨by rfl, ?_⟩) ?_ ?_
                      rotate_left; (intro w'; go_simp; with_reducible rfl); rotate_left; (simp only [P0, P0n, P2, P3, P4, P5, P6]; rfl)
                      refine pu (i := 6) (N := some 63) (v := ?_) (a' := ?_) HT_.out rfl rfl (by kernel_rfl) (fun _ _ _ h => h) (Or.inl ⟨by rfl, ?_⟩) ?_ ?_
                      rotate_left; (intro w'; go_simp; with_reducible rfl); rotate_left; (simp only [P0, P0n, P2, P3, P4, P5, P6]; rfl)
                      refine pu (i := 8) (N := some 65) (v := ?_) (a' := ?_) HT_.out rfl rfl (by kernel_rfl) (fun _ _ _ h => h) (Or.inl ⟨by rfl, ?_⟩) ?_ ?_
                      rotate_left; (intro w'; go_simp; with_reducible rfl); rotate_left; (simp only [P0, P0n, P2, P3, P4, P5, P6]; rfl)
                      refine pu (i := 9) (N := some 66) (v := ?_) (a' := ?_) HT_.out rfl rfl (by kernel_rfl) (fun _ _ _ h => h) (Or.inl ⟨by rfl, ?_⟩) ?_ ?_
                      rotate_left; (intro w'; go_simp; with_reducible rfl); rotate_left; (simp only [P0, P0n, P2, P3, P4, P5, P6]; rfl)
                      refine pu (i := 10) (N := some 67) (v := ?_) (a' := ?_) HT_.out rfl rfl (by kernel_rfl) (fun _ _ _ h => h) (Or.inl ⟨by rfl, ?_⟩) ?_ ?_
                      rotate_left; (intro w'; go_simp; with_reducible rfl); rotate_left; (simp only [P0, P0n, P2, P3, P4, P5, P6]; rfl)
                      refine tw (i := 7) (N := some 64) (v := ?_) (a' := ?_) HT_.out HW_.out rfl rfl (by kernel_rfl) (fun _ _ _ h => h) (Or.inl ⟨by rfl, ?_⟩) hHeld ?_ ?_
                      rotate_left
                      ·rintro w' ⟨s0, s1⟩
                       go_simp
                       with_reducible rfl
                      rotate_left
                      ·simp only [P0, P0n, P2, P3, P4, P5, P6]
                       rfl
                      refine tw (i := 11) (N := some 68) (v := ?_) (a' := ?_) HT_.out HW_.out rfl rfl (by kernel_rfl) (fun _ _ _ h => h) (Or.inl ⟨by rfl, ?_⟩) hHeld ?_ ?_
                      rotate_left
                      ·rintro w' ⟨s0, s1⟩
                       go_simp
                       with_reducible rfl
                      rotate_left
                      ·simp only [P0, P0n, P2, P3, P4, P5, P6]
                       rfl
                      refine pu (i := 12) (N := some 69) (v := ?_) (a' := ?_) HT_.out rfl rfl (by kernel_rfl) (fun _ _ _ h => h) (Or.inl ⟨by rfl, ?_⟩) ?_ ?_
                      rotate_left; (intro w'; go_simp; with_reducible rfl); rotate_left; (simp only [P0, P0n, P2, P3, P4, P5, P6]; rfl)
                      refine pu (i := 13) (N := some 70) (v := ?_) (a' := ?_) HT_.out rfl rfl (by kernel_rfl) (fun _ _ _ h => h) (Or.inl ⟨by rfl, ?_⟩) ?_ ?_
                      rotate_left; (intro w'; go_simp; with_reducible rfl); rotate_left; (simp only [P0, P0n, P2, P3, P4, P5, P6]; rfl)
                      refine pure_ (i := 14) (N := some 71) (v := undef) (a' := ?_) #[T, T, T, T, T, T, T, T, T, T, T, T, T, T, T, F, F, F, F, F, F, F, F, F, F, F, F, F, F, F, F, F, F, F, F, F, F, F, F, F] rfl rfl (any_of HT_.out (by kernel_rfl)) (fun _ _ _ h => h) (Or.inr ⟨by rfl, rfl⟩) ?_ ?_
                      rotate_left
                      ·simp only [P0, P0n, P2, P3, P4, P5, P6]
                       rfl
                      refine pure_ (i := 15) (N := some 72) (v := undef) (a' := ?_) #[T, T, T, T, T, T, T, T, T, T, T, T, T, T, T, T, F, F, F, F, F, F, F, F, F, F, F, F, F, F, F, F, F, F, F, F, F, F, F, F] rfl rfl (any_of HT_.out (by kernel_rfl)) (fun _ _ _ h => h) (Or.inr ⟨by rfl, rfl⟩) ?_ ?_
                      rotate_left
                      ·simp only [P0, P0n, P2, P3, P4, P5, P6]
                       rfl
                      refine pure_ (i := 16) (N := some 73) (v := undef) (a' := ?_) #[T, T, T, T, T, T, T, T, T, T, T, T, T, T, T, T, T, F, F, F, F, F, F, F, F, F, F, F, F, F, F, F, F, F, F, F, F, F, F, F] rfl rfl (any_of HT_.out (by kernel_rfl)) (fun _ _ _ h => h) (Or.inr ⟨by rfl, rfl⟩) ?_ ?_
                      rotate_left
                      ·simp only [P0, P0n, P2, P3, P4, P5, P6]
                       rfl
                      refine pure_ (i := 17) (N := some 74) (v := undef) (a' := ?_) #[T, T, T, T, T, T, T, T, T, T, T, T, T, T, T, T, T, T, F, F, F, F, F, F, F, F, F, F, F, F, F, F, F, F, F, F, F, F, F, F] rfl rfl (any_of HT_.out (by kernel_rfl)) (fun _ _ _ h => h) (Or.inr ⟨by rfl, rfl⟩) ?_ ?_
                      rotate_left
                      ·simp only [P0, P0n, P2, P3, P4, P5, P6]
                       rfl
                      refine pure_ (i := 18) (N := some 75) (v := undef) (a' := ?_) #[T, T, T, T, T, T, T, T, T, T, T, T, T, T, T, T, T, T, T, F, F, F, F, F, F, F, F, F, F, F, F, F, F, F, F, F, F, F, F, F] rfl rfl (any_of HT_.out (by kernel_rfl)) (fun _ _ _ h => h) (Or.inr ⟨by rfl, rfl⟩) ?_ ?_
                      rotate_left
                      ·simp only [P0, P0n, P2, P3, P4, P5, P6]
                       rfl
                      refine pure_ (i := 19) (N := some 76) (v := undef) (a' := ?_) #[T, T, T, T, T, T, T, T, T, T, T, T, T, T, T, T, T, T, T, T, F, F, F, F, F, F, F, F, F, F, F, F, F, F, F, F, F, F, F, F] rfl rfl (any_of HT_.out (by kernel_rfl)) (fun _ _ _ h => h) (Or.inr ⟨by rfl, rfl⟩) ?_ ?_
                      rotate_left
                      ·simp only [P0, P0n, P2, P3, P4, P5, P6]
                       rfl
                      refine pure_ (i := 20) (N := some 77) (v := undef) (a' := ?_) #[T, T, T, T, T, T, T, T, T, T, T, T, T, T, T, T, T, T, T, T, T, F, F, F, F, F, F, F, F, F, F, F, F, F, F, F, F, F, F, F] rfl rfl (any_of HT_.out (by kernel_rfl)) (fun _ _ _ h => h) (Or.inr ⟨by rfl, rfl⟩) ?_ ?_
                      rotate_left
                      ·simp only [P0, P0n, P2, P3, P4, P5, P6]
                       rfl
                      refine pure_ (i := 21) (N := some 78) (v := undef) (a' := ?_) #[T, T, T, T, T, T, T, T, T, T, T, T, T, T, T, T, T, T, T, T, T, T, F, F, F, F, F, F, F, F, F, F, F, F, F, F, F, F, F, F] rfl rfl (any_of HT_.out (by kernel_rfl)) (fun _ _ _ h => h) (Or.inr ⟨by rfl, rfl⟩) ?_ ?_
                      rotate_left
                      ·simp only [P0, P0n, P2, P3, P4, P5, P6]
                       rfl
                      refine pure_ (i := 22) (N := some 79) (v := undef) (a' := ?_) #[T, T, T, T, T, T, T, T, T, T, T, T, T, T, T, T, T, T, T, T, T, T, T, F, F, F, F, F, F, F, F, F, F, F, F, F, F, F, F, F] rfl rfl (any_of HT_.out (by kernel_rfl)) (fun _ _ _ h => h) (Or.inr ⟨by rfl, rfl⟩) ?_ ?_
                      rotate_left
                      ·simp only [P0, P0n, P2, P3, P4, P5, P6]
                       rfl
                      refine pure_ (i := 23) (N := some 80) (v := undef) (a' := ?_) #[T, T, T, T, T, T, T, T, T, T, T, T, T, T, T, T, T, T, T, T, T, T, T, T, F, F, F, F, F, F, F, F, F, F, F, F, F, F, F, F] rfl rfl (any_of HT_.out (by kernel_rfl)) (fun _ _ _ h => h) (Or.inr ⟨by rfl, rfl⟩) ?_ ?_
                      rotate_left
                      ·simp only [P0, P0n, P2, P3, P4, P5, P6]
                       rfl
                      refine pure_ (i := 24) (N := some 81) (v := undef) (a' := ?_) #[T, T, T, T, T, T, T, T, T, T, T, T, T, T, T, T, T, T, T, T, T, T, T, T, T, F, F, F, F, F, F, F, F, F, F, F, F, F, F, F] rfl rfl (any_of HT_.out (by kernel_rfl)) (fun _ _ _ h => h) (Or.inr ⟨by rfl, rfl⟩) ?_ ?_
                      rotate_left
                      ·simp only [P0, P0n, P2, P3, P4, P5, P6]
                       rfl
                      refine pure_ (i := 25) (N := some 82) (v := undef) (a' := ?_) #[T, T, T, T, T, T, T, T, T, T, T, T, T, T, T, T, T, T, T, T, T, T, T, T, T, T, F, F, F, F, F, F, F, F, F, F, F, F, F, F] rfl rfl (any_of HT_.out (by kernel_rfl)) (fun _ _ _ h => h) (Or.inr ⟨by rfl, rfl⟩) ?_ ?_
                      rotate_left
                      ·simp only [P0, P0n, P2, P3, P4, P5, P6]
                       rfl
                      refine pure_ (i := 26) (N := some 83) (v := undef) (a' := ?_) #[T, T, T, T, T, T, T, T, T, T, T, T, T, T, T, T, T, T, T, T, T, T, T, T, T, T, T, F, F, F, F, F, F, F, F, F, F, F, F, F] rfl rfl (any_of HT_.out (by kernel_rfl)) (fun _ _ _ h => h) (Or.inr ⟨by rfl, rfl⟩) ?_ ?_
                      rotate_left
                      ·simp only [P0, P0n, P2, P3, P4, P5, P6]
                       rfl
                      refine pure_ (i := 27) (N := some 84) (v := undef) (a' := ?_) #[T, T, T, T, T, T, T, T, T, T, T, T, T, T, T, T, T, T, T, T, T, T, T, T, T, T, T, T, F, F, F, F, F, F, F, F, F, F, F, F] rfl rfl (any_of HT_.out (by kernel_rfl)) (fun _ _ _ h => h) (Or.inr ⟨by rfl, rfl⟩) ?_ ?_
                      rotate_left
                      ·simp only [P0, P0n, P2, P3, P4, P5, P6]
                       rfl
                      refine pure_ (i := 28) (N := some 85) (v := undef) (a' := ?_) #[T, T, T, T, T, T, T, T, T, T, T, T, T, T, T, T, T, T, T, T, T, T, T, T, T, T, T, T, T, F, F, F, F, F, F, F, F, F, F, F] rfl rfl (any_of HT_.out (by kernel_rfl)) (fun _ _ _ h => h) (Or.inr ⟨by rfl, rfl⟩) ?_ ?_
                      rotate_left
                      ·simp only [P0, P0n, P2, P3, P4, P5, P6]
                       rfl
                      refine pure_ (i := 29) (N := some 86) (v := undef) (a' := ?_) #[T, T, T, T, T, T, T, T, T, T, T, T, T, T, T, T, T, T, T, T, T, T, T, T, T, T, T, T, T, T, F, F, F, F, F, F, F, F, F, F] rfl rfl (any_of HT_.out (by kernel_rfl)) (fun _ _ _ h => h) (Or.inr ⟨by rfl, rfl⟩) ?_ ?_
                      rotate_left
                      ·simp only [P0, P0n, P2, P3, P4, P5, P6]
                       rfl
                      refine pure_ (i := 30) (N := some 87) (v := undef) (a' := ?_) #[T, T, T, T, T, T, T, T, T, T, T, T, T, T, T, T, T, T, T, T, T, T, T, T, T, T, T, T, T, T, T, F, F, F, F, F, F, F, F, F] rfl rfl (any_of HT_.out (by kernel_rfl)) (fun _ _ _ h => h) (Or.inr ⟨by rfl, rfl⟩) ?_ ?_
                      rotate_left
                      ·simp only [P0, P0n, P2, P3, P4, P5, P6]
                       rfl
                      refine pure_ (i := 31) (N := some 88) (v := undef) (a' := ?_) #[T, T, T, T, T, T, T, T, T, T, T, T, T, T, T, T, T, T, T, T, T, T, T, T, T, T, T, T, T, T, T, T, F, F, F, F, F, F, F, F] rfl rfl (any_of HT_.out (by kernel_rfl)) (fun _ _ _ h => h) (Or.inr ⟨by rfl, rfl⟩) ?_ ?_
                      rotate_left
                      ·simp only [P0, P0n, P2, P3, P4, P5, P6]
                       rfl
                      refine pure_ (i := 32) (N := some 89) (v := undef) (a' := ?_) #[T, T, T, T, T, T, T, T, T, T, T, T, T, T, T, T, T, T, T, T, T, T, T, T, T, T, T, T, T, T, T, T, T, F, F, F, F, F, F, F] rfl rfl (any_of HT_.out (by kernel_rfl)) (fun _ _ _ h => h) (Or.inr ⟨by rfl, rfl⟩) ?_ ?_
                      rotate_left
                      ·simp only [P0, P0n, P2, P3, P4, P5, P6]
                       rfl
                      refine pure_ (i := 33) (N := some 90) (v := undef) (a' := ?_) #[T, T, T, T, T, T, T, T, T, T, T, T, T, T, T, T, T, T, T, T, T, T, T, T, T, T, T, T, T, T, T, T, T, T, F, F, F, F, F, F] rfl rfl (any_of HT_.out (by kernel_rfl)) (fun _ _ _ h => h) (Or.inr ⟨by rfl, rfl⟩) ?_ ?_
                      rotate_left
                      ·simp only [P0, P0n, P2, P3, P4, P5, P6]
                       rfl
                      refine pure_ (i := 34) (N := some 91) (v := undef) (a' := ?_) #[T, T, T, T, T, T, T, T, T, T, T, T, T, T, T, T, T, T, T, T, T, T, T, T, T, T, T, T, T, T, T, T, T, T, T, F, F, F, F, F] rfl rfl (any_of HT_.out (by kernel_rfl)) (fun _ _ _ h => h) (Or.inr ⟨by rfl, rfl⟩) ?_ ?_
                      rotate_left
                      ·simp only [P0, P0n, P2, P3, P4, P5, P6]
                       rfl
                      refine pure_ (i := 35) (N := some 92) (v := undef) (a' := ?_) #[T, T, T, T, T, T, T, T, T, T, T, T, T, T, T, T, T, T, T, T, T, T, T, T, T, T, T, T, T, T, T, T, T, T, T, T, F, F, F, F] rfl rfl (any_of HT_.out (by kernel_rfl)) (fun _ _ _ h => h) (Or.inr ⟨by rfl, rfl⟩) ?_ ?_
                      rotate_left
                      ·simp only [P0, P0n, P2, P3, P4, P5, P6]
                       rfl
                      refine pure_ (i := 36) (N := some 93) (v := undef) (a' := ?_) #[T, T, T, T, T, T, T, T, T, T, T, T, T, T, T, T, T, T, T, T, T, T, T, T, T, T, T, T, T, T, T, T, T, T, T, T, T, F, F, F] rfl rfl (any_of HT_.out (by kernel_rfl)) (fun _ _ _ h => h) (Or.inr ⟨by rfl, rfl⟩) ?_ ?_
                      rotate_left
                      ·simp only [P0, P0n, P2, P3, P4, P5, P6]
                       rfl
                      refine pure_ (i := 37) (N := some 94) (v := undef) (a' := ?_) #[T, T, T, T, T, T, T, T, T, T, T, T, T, T, T, T, T, T, T, T, T, T, T, T, T, T, T, T, T, T, T, T, T, T, T, T, T, T, F, F] rfl rfl (any_of HT_.out (by kernel_rfl)) (fun _ _ _ h => h) (Or.inr ⟨by rfl, rfl⟩) ?_ ?_
                      rotate_left
                      ·simp only [P0, P0n, P2, P3, P4, P5, P6]
                       rfl
                      refine pu (i := 38) (N := some 95) (v := ?_) (a' := ?_) HT_.out rfl rfl (by kernel_rfl) (fun _ _ _ h => h) (Or.inl ⟨by rfl, ?_⟩) ?_ ?_
                      rotate_left; (intro w'; go_simp; with_reducible rfl); rotate_left; (simp only [P0, P0n, P2, P3, P4, P5, P6]; rfl)
                      refine pu (i := 39) (N := some 96) (v := ?_) (a' := ?_) HT_.out rfl rfl (by kernel_rfl) (fun _ _ _ h => h) (Or.inl ⟨by rfl, ?_⟩) ?_ ?_
                      rotate_left; (intro w'; go_simp; with_reducible rfl); rotate_left; (simp only [P0, P0n, P2, P3, P4, P5, P6]; rfl)
                      refine done_ (done_of HT_.out (by kernel_rfl)) ?_
                      try go_wp2
                      go_ret
                      exact ⟨by first | rfl | (simp [errW_none, errW_some] <;> rfl) | (simp [*, errW_none, errW_some] <;> rfl), by repeat (first | (with_reducible first | exact HB.out | apply below_alloc | apply pw_below_drewN | apply below_drew1 | refine below_set ?_ GE103.out | refine below_set ?_ GE108.out) | exact HB.out)⟩
                     ·rw [if_neg c38] at H
                      have c38b0 : ((rd l1 x21_2) == (rd l1 x52_4)) = false := beq_eq_false_iff_ne.mpr c38
                      have c38b1 : ((rd l1 x21_2) != (rd l1 x52_4)) = true := bne_iff_ne.mpr c38
                      by_cases c44 : (rd l1 x21_2) < (rd l1 x52_4)
                      ·rw [if_pos c44] at H
                       have c44b0 : decide ((rd l1 x21_2) < (rd l1 x52_4)) = true := decide_eq_true c44
                       clear c44
                       replace H := Option.bind_eq_some_iff.mp H
                       obtain ⟨t115, A450, H⟩ := H
                       replace H : (if (wrap64 ((rd l1 x52_4) - (rd l1 x21_2))) < t115 then (some false) else (impl_StripFits.l1 k4 l0 l1 x21_2 l0 (l0.length : Int) x21_2 l0 (l0.length : Int) (wrap64 (x52_4 + 1)) ((rd_T54 l0 x21_2).f0) ((rd_T54 l0 x21_2).f1) ((rd_T54 l0 x21_2).f2) ((rd_T54 l0 x21_2).f3) ((rd_T54 l0 x21_2).f4) ((rd_T54 l0 x21_2).f5))) = some r := H
                       have A45 := Aside0.mk A450
                       clear A450
                       by_cases c46 : (wrap64 ((rd l1 x52_4) - (rd l1 x21_2))) < t115
                       ·rw [if_pos c46] at H
                        have c46b0 : decide ((wrap64 ((rd l1 x52_4) - (rd l1 x21_2))) < t115) = true := decide_eq_true c46
                        clear c46
                        obtain rfl := Option.some.inj H
                        have p107 : 0 ≤ (x52_4 : Int) := of_decide_eq_true (by first | (with_reducible assumption) | assumption)
                        have q107 : x52_4 < (l0.length : Int) := of_decide_eq_true (by first | (with_reducible assumption) | assumption)
                        obtain ⟨ad107, e107, hx107_0, hx107_1, hx107_2, hx107_3, hx107_4, hx107_5⟩ := at_T54 HR0.out x52_4 p107 q107
                        obtain rfl : ad102 = ad107 := (by injection e107)
                        replace hx107_0 := pw_cell_below HB.out hx107_0
                        replace hx107_1 := pw_cell_below HB.out hx107_1
                        replace hx107_2 := pw_cell_below HB.out hx107_2
                        replace hx107_3 := pw_cell_below HB.out hx107_3
                        replace hx107_4 := pw_cell_below HB.out hx107_4
                        replace hx107_5 := pw_cell_below HB.out hx107_5
                        replace p107 := eq_true p107
                        replace q107 := eq_true q107
                        try go_wp2_with (first | ((with_reducible refine gate_dst (N := 8) rfl ?_); (try (refine gate_guard (by rfl) ?_; dsimp only)); refine box_event ?hg (N := 8) ?hd (cs := #[.string (⟨#[]⟩ : ByteArray), .bool false, .int .i64 0, .int .i64 0, .int .i64 0, .int .i64 0]) (t := 54) ?hr ?_; (case hd => rfl); (case hg => rfl); (case hr => first | (go_simp; done) | (go_simp; rfl)); intro gb108 hg w47 hbox hb; have n0_ := Aside0.mk (blk_below (g := gb103) (o := .cells #[.string ((rd_T54 l0 x21_2).f0), .bool ((rd_T54 l0 x21_2).f1), .int .i64 ((rd_T54 l0 x21_2).f2), .int .i64 ((rd_T54 l0 x21_2).f3), .int .i64 ((rd_T54 l0 x21_2).f4), .int .i64 ((rd_T54 l0 x21_2).f5)] 54 (0, 0)) (ex BK103.out) hb); have n1_ := Aside0.mk (below_step (by repeat (first | (with_reducible first | exact HB.out | apply below_alloc | apply pw_below_drewN | apply below_drew1 | refine below_set ?_ GE103.out) | exact HB.out)) hb); have n2_ := Aside0.mk (hbox); have n3_ := Aside0.mk ((by rw [hg]; exact (below_size (by repeat (first | (with_reducible first | exact HB.out | apply below_alloc | apply pw_below_drewN | apply below_drew1 | refine below_set ?_ GE103.out) | exact HB.out))) : w.heap.size ≤ gb108)); have n4_ := Aside0.mk ((by rw [hg]; exact (below_size (by repeat (first | (with_reducible first | exact HB.out | apply below_alloc | apply pw_below_drewN | apply below_drew1 | refine below_set ?_ GE103.out) | exact HB.out))) : w.heap.size ≤ gb108)); have n5_ := Aside0.mk ((by rw [hg]; exact Nat.ne_of_lt (blk_lt (g := gb103) (o := .cells #[.string ((rd_T54 l0 x21_2).f0), .bool ((rd_T54 l0 x21_2).f1), .int .i64 ((rd_T54 l0 x21_2).f2), .int .i64 ((rd_T54 l0 x21_2).f3), .int .i64 ((rd_T54 l0 x21_2).f4), .int .i64 ((rd_T54 l0 x21_2).f5)] 54 (0, 0)) (ex BK103.out)) : gb103 ≠ gb108)); have n6_ := Aside0.mk ((by rw [hg]; exact Nat.ne_of_gt (blk_lt (g := gb103) (o := .cells #[.string ((rd_T54 l0 x21_2).f0), .bool ((rd_T54 l0 x21_2).f1), .int .i64 ((rd_T54 l0 x21_2).f2), .int .i64 ((rd_T54 l0 x21_2).f3), .int .i64 ((rd_T54 l0 x21_2).f4), .int .i64 ((rd_T54 l0 x21_2).f5)] 54 (0, 0)) (ex BK103.out)) : gb108 ≠ gb103)); clear BK103; clear HB; have BK103 := n0_; have HB := n1_; have BK108 := n2_; have GW108 := n3_; have GE108 := n4_; have NB103_108 := n5_; have NB108_103 := n6_; clear n0_ n1_ n2_ n3_ n4_ n5_ n6_; clear hb hbox hg; have hnb48 := NB108_103.out; have hnc48 := NB103_108.out; obtain ⟨hcz49_0, hcz49_1, hcz49_2, hcz49_3, hcz49_4, hcz49_5⟩ := bc6 BK108.out; obtain ⟨hfz49_0, hfz49_1, hfz49_2, hfz49_3, hfz49_4, hfz49_5⟩ := bf6 BK108.out))
                        have n0_ : Aside0 (((((((w47.setCell ⟨gb108, 0, none⟩ (.string ((rd_T54 l0 x52_4).f0))).setCell ⟨gb108, 1, none⟩ (.bool ((rd_T54 l0 x52_4).f1))).setCell ⟨gb108, 2, none⟩ (.int .i64 ((rd_T54 l0 x52_4).f2))).setCell ⟨gb108, 3, none⟩ (.int .i64 ((rd_T54 l0 x52_4).f3))).setCell ⟨gb108, 4, none⟩ (.int .i64 ((rd_T54 l0 x52_4).f4))).setCell ⟨gb108, 5, none⟩ (.int .i64 ((rd_T54 l0 x52_4).f5))).heap[gb103]? = some (.cells #[.string ((rd_T54 l0 x21_2).f0), .bool ((rd_T54 l0 x21_2).f1), .int .i64 ((rd_T54 l0 x21_2).f2), .int .i64 ((rd_T54 l0 x21_2).f3), .int .i64 ((rd_T54 l0 x21_2).f4), .int .i64 ((rd_T54 l0 x21_2).f5)] 54 (0, 0))) := ⟨by refine px ?_; refine blk_far ?_ NB103_108.out _; refine px ?_; refine blk_far ?_ NB103_108.out _; refine px ?_; refine blk_far ?_ NB103_108.out _; refine px ?_; refine blk_far ?_ NB103_108.out _; refine px ?_; refine blk_far ?_ NB103_108.out _; refine px ?_; refine blk_far ?_ NB103_108.out _; refine px ?_; exact BK103.out⟩
                        have n1_ : Aside0 (((((((w47.setCell ⟨gb108, 0, none⟩ (.string ((rd_T54 l0 x52_4).f0))).setCell ⟨gb108, 1, none⟩ (.bool ((rd_T54 l0 x52_4).f1))).setCell ⟨gb108, 2, none⟩ (.int .i64 ((rd_T54 l0 x52_4).f2))).setCell ⟨gb108, 3, none⟩ (.int .i64 ((rd_T54 l0 x52_4).f3))).setCell ⟨gb108, 4, none⟩ (.int .i64 ((rd_T54 l0 x52_4).f4))).setCell ⟨gb108, 5, none⟩ (.int .i64 ((rd_T54 l0 x52_4).f5))).heap[gb108]? = some (.cells #[.string ((rd_T54 l0 x52_4).f0), .bool ((rd_T54 l0 x52_4).f1), .int .i64 ((rd_T54 l0 x52_4).f2), .int .i64 ((rd_T54 l0 x52_4).f3), .int .i64 ((rd_T54 l0 x52_4).f4), .int .i64 ((rd_T54 l0 x52_4).f5)] 54 (0, 0))) := ⟨by refine px ?_; refine blk_put (cs := #[.string ((rd_T54 l0 x52_4).f0), .bool ((rd_T54 l0 x52_4).f1), .int .i64 ((rd_T54 l0 x52_4).f2), .int .i64 ((rd_T54 l0 x52_4).f3), .int .i64 ((rd_T54 l0 x52_4).f4), .int .i64 0]) ?_ 5 _ rfl; refine px ?_; refine blk_put (cs := #[.string ((rd_T54 l0 x52_4).f0), .bool ((rd_T54 l0 x52_4).f1), .int .i64 ((rd_T54 l0 x52_4).f2), .int .i64 ((rd_T54 l0 x52_4).f3), .int .i64 0, .int .i64 0]) ?_ 4 _ rfl; refine px ?_; refine blk_put (cs := #[.string ((rd_T54 l0 x52_4).f0), .bool ((rd_T54 l0 x52_4).f1), .int .i64 ((rd_T54 l0 x52_4).f2), .int .i64 0, .int .i64 0, .int .i64 0]) ?_ 3 _ rfl; refine px ?_; refine blk_put (cs := #[.string ((rd_T54 l0 x52_4).f0), .bool ((rd_T54 l0 x52_4).f1), .int .i64 0, .int .i64 0, .int .i64 0, .int .i64 0]) ?_ 2 _ rfl; refine px ?_; refine blk_put (cs := #[.string ((rd_T54 l0 x52_4).f0), .bool false, .int .i64 0, .int .i64 0, .int .i64 0, .int .i64 0]) ?_ 1 _ rfl; refine px ?_; refine blk_put (cs := #[.string (⟨#[]⟩ : ByteArray), .bool false, .int .i64 0, .int .i64 0, .int .i64 0, .int .i64 0]) ?_ 0 _ rfl; refine px ?_; exact BK108.out⟩
                        have n2_ : Aside0 (Below w.heap.size w ((((((w47.setCell ⟨gb108, 0, none⟩ (.string ((rd_T54 l0 x52_4).f0))).setCell ⟨gb108, 1, none⟩ (.bool ((rd_T54 l0 x52_4).f1))).setCell ⟨gb108, 2, none⟩ (.int .i64 ((rd_T54 l0 x52_4).f2))).setCell ⟨gb108, 3, none⟩ (.int .i64 ((rd_T54 l0 x52_4).f3))).setCell ⟨gb108, 4, none⟩ (.int .i64 ((rd_T54 l0 x52_4).f4))).setCell ⟨gb108, 5, none⟩ (.int .i64 ((rd_T54 l0 x52_4).f5)))) := ⟨by repeat (first | (with_reducible first | exact HB.out | apply below_alloc | apply pw_below_drewN | apply below_drew1 | refine below_set ?_ GE103.out | refine below_set ?_ GE108.out) | exact HB.out)⟩
                        (try clear BK103)
                        (try clear BK108)
                        (try clear HB)
                        generalize ((((((w47.setCell ⟨gb108, 0, none⟩ (.string ((rd_T54 l0 x52_4).f0))).setCell ⟨gb108, 1, none⟩ (.bool ((rd_T54 l0 x52_4).f1))).setCell ⟨gb108, 2, none⟩ (.int .i64 ((rd_T54 l0 x52_4).f2))).setCell ⟨gb108, 3, none⟩ (.int .i64 ((rd_T54 l0 x52_4).f3))).setCell ⟨gb108, 4, none⟩ (.int .i64 ((rd_T54 l0 x52_4).f4))).setCell ⟨gb108, 5, none⟩ (.int .i64 ((rd_T54 l0 x52_4).f5))) = w50 at n0_ n1_ n2_ ⊢
                        have BK103 := n0_
                        have BK108 := n1_
                        have HB := n2_
                        clear n0_ n1_ n2_
                        have n0_ := Aside0.mk (blk_drew BK103.out)
                        have n1_ := Aside0.mk (blk_drew BK108.out)
                        have n2_ := Aside0.mk (below_drew1 HB.out)
                        clear BK103
                        clear BK108
                        clear HB
                        have BK103 := n0_
                        have BK108 := n1_
                        have HB := n2_
                        clear n0_ n1_ n2_
                        have p109 : 0 ≤ (x21_2 : Int) := of_decide_eq_true (by first | (with_reducible assumption) | assumption)
                        have q109 : x21_2 < (l1.length : Int) := of_decide_eq_true (by first | (with_reducible assumption) | assumption)
                        obtain ⟨ad109, e109, hx109_0⟩ := Kd.at_int HR1.out x21_2 p109 q109
                        have hw109_0 := hx109_0
                        cases e109
                        replace hx109_0 := pw_cell_below HB.out hx109_0
                        replace p109 := eq_true p109
                        replace q109 := eq_true q109
                        have p110 : 0 ≤ (x52_4 : Int) := of_decide_eq_true (by first | (with_reducible assumption) | assumption)
                        have q110 : x52_4 < (l1.length : Int) := of_decide_eq_true (by first | (with_reducible assumption) | assumption)
                        obtain ⟨ad110, e110, hx110_0⟩ := Kd.at_int HR1.out x52_4 p110 q110
                        have hw110_0 := hx110_0
                        obtain rfl : ad109 = ad110 := (by injection e110)
                        replace hx110_0 := pw_cell_below HB.out hx110_0
                        replace p110 := eq_true p110
                        replace q110 := eq_true q110
                        have p111 : 0 ≤ (x21_2 : Int) := of_decide_eq_true (by first | (with_reducible assumption) | assumption)
                        have q111 : x21_2 < (l1.length : Int) := of_decide_eq_true (by first | (with_reducible assumption) | assumption)
                        obtain ⟨ad111, e111, hx111_0⟩ := Kd.at_int HR1.out x21_2 p111 q111
                        have hw111_0 := hx111_0
                        obtain rfl : ad109 = ad111 := (by injection e111)
                        replace hx111_0 := pw_cell_below HB.out hx111_0
                        replace p111 := eq_true p111
                        replace q111 := eq_true q111
                        have p112 : 0 ≤ (x52_4 : Int) := of_decide_eq_true (by first | (with_reducible assumption) | assumption)
                        have q112 : x52_4 < (l1.length : Int) := of_decide_eq_true (by first | (with_reducible assumption) | assumption)
                        obtain ⟨ad112, e112, hx112_0⟩ := Kd.at_int HR1.out x52_4 p112 q112
                        have hw112_0 := hx112_0
                        obtain rfl : ad109 = ad112 := (by injection e112)
                        replace hx112_0 := pw_cell_below HB.out hx112_0
                        replace p112 := eq_true p112
                        replace q112 := eq_true q112
                        have p113 : 0 ≤ (x52_4 : Int) := of_decide_eq_true (by first | (with_reducible assumption) | assumption)
                        have q113 : x52_4 < (l1.length : Int) := of_decide_eq_true (by first | (with_reducible assumption) | assumption)
                        obtain ⟨ad113, e113, hx113_0⟩ := Kd.at_int HR1.out x52_4 p113 q113
                        have hw113_0 := hx113_0
                        obtain rfl : ad109 = ad113 := (by injection e113)
                        replace hx113_0 := pw_cell_below HB.out hx113_0
                        replace p113 := eq_true p113
                        replace q113 := eq_true q113
                        have p114 : 0 ≤ (x21_2 : Int) := of_decide_eq_true (by first | (with_reducible assumption) | assumption)
                        have q114 : x21_2 < (l1.length : Int) := of_decide_eq_true (by first | (with_reducible assumption) | assumption)
                        obtain ⟨ad114, e114, hx114_0⟩ := Kd.at_int HR1.out x21_2 p114 q114
                        have hw114_0 := hx114_0
                        obtain rfl : ad109 = ad114 := (by injection e114)
                        replace hx114_0 := pw_cell_below HB.out hx114_0
                        replace p114 := eq_true p114
                        replace q114 := eq_true q114
                        refine start_ (n := 40) (S := fun w' => w'.cell? ⟨gb103, 0, none⟩ = some (.string ((rd_T54 l0 x21_2).f0)) ∧ w'.cell? ⟨gb103, 1, none⟩ = some (.bool ((rd_T54 l0 x21_2).f1)) ∧ w'.cell? ⟨gb103, 2, none⟩ = some (.int .i64 ((rd_T54 l0 x21_2).f2)) ∧ w'.cell? ⟨gb103, 3, none⟩ = some (.int .i64 ((rd_T54 l0 x21_2).f3)) ∧ w'.cell? ⟨gb103, 4, none⟩ = some (.int .i64 ((rd_T54 l0 x21_2).f4)) ∧ w'.cell? ⟨gb103, 5, none⟩ = some (.int .i64 ((rd_T54 l0 x21_2).f5)) ∧ w'.cell? ⟨gb108, 0, none⟩ = some (.string ((rd_T54 l0 x52_4).f0)) ∧ w'.cell? ⟨gb108, 1, none⟩ = some (.bool ((rd_T54 l0 x52_4).f1)) ∧ w'.cell? ⟨gb108, 2, none⟩ = some (.int .i64 ((rd_T54 l0 x52_4).f2)) ∧ w'.cell? ⟨gb108, 3, none⟩ = some (.int .i64 ((rd_T54 l0 x52_4).f3)) ∧ w'.cell? ⟨gb108, 4, none⟩ = some (.int .i64 ((rd_T54 l0 x52_4).f4)) ∧ w'.cell? ⟨gb108, 5, none⟩ = some (.int .i64 ((rd_T54 l0 x52_4).f5)) ∧ w'.cell? (ad109.add (x21_2).toNat) = some (.int .i64 (rd l1 x21_2)) ∧ w'.cell? (ad109.add (x52_4).toNat) = some (.int .i64 (rd l1 x52_4)) ∧ w'.cell? (ad109.add (x21_2).toNat) = some (.int .i64 (rd l1 x21_2)) ∧ w'.cell? (ad109.add (x52_4).toNat) = some (.int .i64 (rd l1 x52_4)) ∧ w'.cell? (ad109.add (x52_4).toNat) = some (.int .i64 (rd l1 x52_4)) ∧ w'.cell? (ad109.add (x21_2).toNat) = some (.int .i64 (rd l1 x21_2))) (ds := []) #[F, F, F, F, F, F, F, F, F, F, F, F, F, F, F, F, F, F, F, F, F, F, F, F, F, F, F, F, F, F, F, F, F, F, F, F, F, F, F, F] (by kernel_rfl) rfl rfl ⟨(blk_cell BK103.out 0).trans rfl, (blk_cell BK103.out 1).trans rfl, (blk_cell BK103.out 2).trans rfl, (blk_cell BK103.out 3).trans rfl, (blk_cell BK103.out 4).trans rfl, (blk_cell BK103.out 5).trans rfl, (blk_cell BK108.out 0).trans rfl, (blk_cell BK108.out 1).trans rfl, (blk_cell BK108.out 2).trans rfl, (blk_cell BK108.out 3).trans rfl, (blk_cell BK108.out 4).trans rfl, (blk_cell BK108.out 5).trans rfl, (pw_cell_below HB.out hw109_0), (pw_cell_below HB.out hw110_0), (pw_cell_below HB.out hw111_0), (pw_cell_below HB.out hw112_0), (pw_cell_below HB.out hw113_0), (pw_cell_below HB.out hw114_0)⟩ (fun hHeld => ?_); refine with_tabW impl_StripFits.tab11 impl_StripFits.bits11 (fun HT_ HW_ => ?_)
                        generalize w50.drew = w51 at BK103 BK108 HB hx109_0 hx110_0 hx111_0 hx112_0 hx113_0 hx114_0 hHeld ⊢
                        refine pu (i := 0) (N := some 57) (v := ?_) (a' := ?_) HT_.out rfl rfl (by kernel_rfl) (fun _ _ _ h => h) (Or.inl ⟨by rfl, ?_⟩) ?_ ?_
                        rotate_left; (intro w'; go_simp; with_reducible rfl); rotate_left; (simp only [P0, P0n, P2, P3, P4, P5, P6]; rfl)
                        refine pu (i := 1) (N := some 58) (v := ?_) (a' := ?_) HT_.out rfl rfl (by kernel_rfl) (fun _ _ _ h => h) (Or.inl ⟨by rfl, ?_⟩) ?_ ?_
                        rotate_left; (intro w'; go_simp; with_reducible rfl); rotate_left; (simp only [P0, P0n, P2, P3, P4, P5, P6]; rfl)
                        refine pu (i := 2) (N := some 59) (v := ?_) (a' := ?_) HT_.out rfl rfl (by kernel_rfl) (fun _ _ _ h => h) (Or.inl ⟨by rfl, ?_⟩) ?_ ?_
                        rotate_left; (intro w'; go_simp; with_reducible rfl); rotate_left; (simp only [P0, P0n, P2, P3, P4, P5, P6]; rfl)
                        refine pu (i := 3) (N := some 60) (v := ?_) (a' := ?_) HT_.out rfl rfl (by kernel_rfl) (fun _ _ _ h => h) (Or.inl ⟨by rfl, ?_⟩) ?_ ?_
                        rotate_left; (intro w'; go_simp; with_reducible rfl); rotate_left; (simp only [P0, P0n, P2, P3, P4, P5, P6]; rfl)
                        refine pu (i := 4) (N := some 61) (v := ?_) (a' := ?_) HT_.out rfl rfl (by kernel_rfl) (fun _ _ _ h => h) (Or.inl ⟨by rfl, ?_⟩) ?_ ?_
                        rotate_left; (intro w'; go_simp; with_reducible rfl); rotate_left; (simp only [P0, P0n, P2, P3, P4, P5, P6]; rfl)
                        refine pu (i := 5) (N := some 62) (v := ?_) (a' := ?_) HT_.out rfl rfl (by kernel_rfl) (fun _ _ _ h => h) (Or.inl ⟨by rfl, ?_⟩) ?_ ?_
                        rotate_left; (intro w'; go_simp; with_reducible rfl); rotate_left; (simp only [P0, P0n, P2, P3, P4, P5, P6]; rfl)
                        refine pu (i := 6) (N := some 63) (v := ?_) (a' := ?_) HT_.out rfl rfl (by kernel_rfl) (fun _ _ _ h => h) (Or.inl ⟨by rfl, ?_⟩) ?_ ?_
                        rotate_left; (intro w'; go_simp; with_reducible rfl); rotate_left; (simp only [P0, P0n, P2, P3, P4, P5, P6]; rfl)
                        refine pu (i := 8) (N := some 65) (v := ?_) (a' := ?_) HT_.out rfl rfl (by kernel_rfl) (fun _ _ _ h => h) (Or.inl ⟨by rfl, ?_⟩) ?_ ?_
                        rotate_left; (intro w'; go_simp; with_reducible rfl); rotate_left; (simp only [P0, P0n, P2, P3, P4, P5, P6]; rfl)
                        refine pu (i := 9) (N := some 66) (v := ?_) (a' := ?_) HT_.out rfl rfl (by kernel_rfl) (fun _ _ _ h => h) (Or.inl ⟨by rfl, ?_⟩) ?_ ?_
                        rotate_left; (intro w'; go_simp; with_reducible rfl); rotate_left; (simp only [P0, P0n, P2, P3, P4, P5, P6]; rfl)
                        refine pu (i := 10) (N := some 67) (v := ?_) (a' := ?_) HT_.out rfl rfl (by kernel_rfl) (fun _ _ _ h => h) (Or.inl ⟨by rfl, ?_⟩) ?_ ?_
                        rotate_left; (intro w'; go_simp; with_reducible rfl); rotate_left; (simp only [P0, P0n, P2, P3, P4, P5, P6]; rfl)
                        refine tw (i := 7) (N := some 64) (v := ?_) (a' := ?_) HT_.out HW_.out rfl rfl (by kernel_rfl) (fun _ _ _ h => h) (Or.inl ⟨by rfl, ?_⟩) hHeld ?_ ?_
                        rotate_left
                        ·rintro w' ⟨s0, s1, s2, s3, s4, s5, s6, s7, s8, s9, s10, s11, s12, s13, s14, s15, s16, s17⟩
                         go_simp
                         with_reducible rfl
                        rotate_left
                        ·simp only [P0, P0n, P2, P3, P4, P5, P6]
                         rfl
                        refine tw (i := 11) (N := some 68) (v := ?_) (a' := ?_) HT_.out HW_.out rfl rfl (by kernel_rfl) (fun _ _ _ h => h) (Or.inl ⟨by rfl, ?_⟩) hHeld ?_ ?_
                        rotate_left
                        ·rintro w' ⟨s0, s1, s2, s3, s4, s5, s6, s7, s8, s9, s10, s11, s12, s13, s14, s15, s16, s17⟩
                         go_simp
                         with_reducible rfl
                        rotate_left
                        ·simp only [P0, P0n, P2, P3, P4, P5, P6]
                         rfl
                        refine pu (i := 12) (N := some 69) (v := ?_) (a' := ?_) HT_.out rfl rfl (by kernel_rfl) (fun _ _ _ h => h) (Or.inl ⟨by rfl, ?_⟩) ?_ ?_
                        rotate_left; (intro w'; go_simp; with_reducible rfl); rotate_left; (simp only [P0, P0n, P2, P3, P4, P5, P6]; rfl)
                        refine pu (i := 13) (N := some 70) (v := ?_) (a' := ?_) HT_.out rfl rfl (by kernel_rfl) (fun _ _ _ h => h) (Or.inl ⟨by rfl, ?_⟩) ?_ ?_
                        rotate_left; (intro w'; go_simp; with_reducible rfl); rotate_left; (simp only [P0, P0n, P2, P3, P4, P5, P6]; rfl)
                        refine pu (i := 14) (N := some 71) (v := ?_) (a' := ?_) HT_.out rfl rfl (by kernel_rfl) (fun _ _ _ h => h) (Or.inl ⟨by rfl, ?_⟩) ?_ ?_
                        rotate_left; (intro w'; go_simp; with_reducible rfl); rotate_left; (simp only [P0, P0n, P2, P3, P4, P5, P6]; rfl)
                        refine pu (i := 15) (N := some 72) (v := ?_) (a' := ?_) HT_.out rfl rfl (by kernel_rfl) (fun _ _ _ h => h) (Or.inl ⟨by rfl, ?_⟩) ?_ ?_
                        rotate_left; (intro w'; go_simp; with_reducible rfl); rotate_left; (simp only [P0, P0n, P2, P3, P4, P5, P6]; rfl)
                        refine pu (i := 16) (N := some 73) (v := ?_) (a' := ?_) HT_.out rfl rfl (by kernel_rfl) (fun _ _ _ h => h) (Or.inl ⟨by rfl, ?_⟩) ?_ ?_
                        rotate_left; (intro w'; go_simp; with_reducible rfl); rotate_left; (simp only [P0, P0n, P2, P3, P4, P5, P6]; rfl)
                        refine pu (i := 18) (N := some 75) (v := ?_) (a' := ?_) HT_.out rfl rfl (by kernel_rfl) (fun _ _ _ h => h) (Or.inl ⟨by rfl, ?_⟩) ?_ ?_
                        rotate_left; (intro w'; go_simp; with_reducible rfl); rotate_left; (simp only [P0, P0n, P2, P3, P4, P5, P6]; rfl)
                        refine pu (i := 19) (N := some 76) (v := ?_) (a' := ?_) HT_.out rfl rfl (by kernel_rfl) (fun _ _ _ h => h) (Or.inl ⟨by rfl, ?_⟩) ?_ ?_
                        rotate_left; (intro w'; go_simp; with_reducible rfl); rotate_left; (simp only [P0, P0n, P2, P3, P4, P5, P6]; rfl)
                        refine pu (i := 20) (N := some 77) (v := ?_) (a' := ?_) HT_.out rfl rfl (by kernel_rfl) (fun _ _ _ h => h) (Or.inl ⟨by rfl, ?_⟩) ?_ ?_
                        rotate_left; (intro w'; go_simp; with_reducible rfl); rotate_left; (simp only [P0, P0n, P2, P3, P4, P5, P6]; rfl)
                        refine tw (i := 17) (N := some 74) (v := ?_) (a' := ?_) HT_.out HW_.out rfl rfl (by kernel_rfl) (fun _ _ _ h => h) (Or.inl ⟨by rfl, ?_⟩) hHeld ?_ ?_
                        rotate_left
                        ·rintro w' ⟨s0, s1, s2, s3, s4, s5, s6, s7, s8, s9, s10, s11, s12, s13, s14, s15, s16, s17⟩
                         go_simp
                         with_reducible rfl
                        rotate_left
                        ·simp only [P0, P0n, P2, P3, P4, P5, P6]
                         rfl
                        refine tw (i := 21) (N := some 78) (v := ?_) (a' := ?_) HT_.out HW_.out rfl rfl (by kernel_rfl) (fun _ _ _ h => h) (Or.inl ⟨by rfl, ?_⟩) hHeld ?_ ?_
                        rotate_left
                        ·rintro w' ⟨s0, s1, s2, s3, s4, s5, s6, s7, s8, s9, s10, s11, s12, s13, s14, s15, s16, s17⟩
                         go_simp
                         with_reducible rfl
                        rotate_left
                        ·simp only [P0, P0n, P2, P3, P4, P5, P6]
                         rfl
                        refine pu (i := 22) (N := some 79) (v := ?_) (a' := ?_) HT_.out rfl rfl (by kernel_rfl) (fun _ _ _ h => h) (Or.inl ⟨by rfl, ?_⟩) ?_ ?_
                        rotate_left; (intro w'; go_simp; with_reducible rfl); rotate_left; (simp only [P0, P0n, P2, P3, P4, P5, P6]; rfl)
                        refine pu (i := 23) (N := some 80) (v := ?_) (a' := ?_) HT_.out rfl rfl (by kernel_rfl) (fun _ _ _ h => h) (Or.inl ⟨by rfl, ?_⟩) ?_ ?_
                        rotate_left; (intro w'; go_simp; with_reducible rfl); rotate_left; (simp only [P0, P0n, P2, P3, P4, P5, P6]; rfl)
                        refine pu (i := 24) (N := some 81) (v := ?_) (a' := ?_) HT_.out rfl rfl (by kernel_rfl) (fun _ _ _ h => h) (Or.inl ⟨by rfl, ?_⟩) ?_ ?_
                        rotate_left; (intro w'; go_simp; with_reducible rfl); rotate_left; (simp only [P0, P0n, P2, P3, P4, P5, P6]; rfl)
                        refine pu (i := 25) (N := some 82) (v := ?_) (a' := ?_) HT_.out rfl rfl (by kernel_rfl) (fun _ _ _ h => h) (Or.inl ⟨by rfl, ?_⟩) ?_ ?_
                        rotate_left; (intro w'; go_simp; with_reducible rfl); rotate_left; (simp only [P0, P0n, P2, P3, P4, P5, P6]; rfl)
                        refine pu (i := 26) (N := some 83) (v := ?_) (a' := ?_) HT_.out rfl rfl (by kernel_rfl) (fun _ _ _ h => h) (Or.inl ⟨by rfl, ?_⟩) ?_ ?_
                        rotate_left; (intro w'; go_simp; with_reducible rfl); rotate_left; (simp only [P0, P0n, P2, P3, P4, P5, P6]; rfl)
                        refine pu (i := 28) (N := some 85) (v := ?_) (a' := ?_) HT_.out rfl rfl (by kernel_rfl) (fun _ _ _ h => h) (Or.inl ⟨by rfl, ?_⟩) ?_ ?_
                        rotate_left; (intro w'; go_simp; with_reducible rfl); rotate_left; (simp only [P0, P0n, P2, P3, P4, P5, P6]; rfl)
                        refine pu (i := 29) (N := some 86) (v := ?_) (a' := ?_) HT_.out rfl rfl (by kernel_rfl) (fun _ _ _ h => h) (Or.inl ⟨by rfl, ?_⟩) ?_ ?_
                        rotate_left; (intro w'; go_simp; with_reducible rfl); rotate_left; (simp only [P0, P0n, P2, P3, P4, P5, P6]; rfl)
                        refine pu (i := 30) (N := some 87) (v := ?_) (a' := ?_) HT_.out rfl rfl (by kernel_rfl) (fun _ _ _ h => h) (Or.inl ⟨by rfl, ?_⟩) ?_ ?_
                        rotate_left; (intro w'; go_simp; with_reducible rfl); rotate_left; (simp only [P0, P0n, P2, P3, P4, P5, P6]; rfl)
                        refine tw (i := 27) (N := some 84) (v := ?_) (a' := ?_) HT_.out HW_.out rfl rfl (by kernel_rfl) (fun _ _ _ h => h) (Or.inl ⟨by rfl, ?_⟩) hHeld ?_ ?_
                        rotate_left
                        ·rintro w' ⟨s0, s1, s2, s3, s4, s5, s6, s7, s8, s9, s10, s11, s12, s13, s14, s15, s16, s17⟩
                         go_simp
                         with_reducible rfl
                        rotate_left
                        ·simp only [P0, P0n, P2, P3, P4, P5, P6]
                         rfl
                        refine tw (i := 31) (N := some 88) (v := ?_) (a' := ?_) HT_.out HW_.out rfl rfl (by kernel_rfl) (fun _ _ _ h => h) (Or.inl ⟨by rfl, ?_⟩) hHeld ?_ ?_
                        rotate_left
                        ·rintro w' ⟨s0, s1, s2, s3, s4, s5, s6, s7, s8, s9, s10, s11, s12, s13, s14, s15, s16, s17⟩
                         go_simp
                         with_reducible rfl
                        rotate_left
                        ·simp only [P0, P0n, P2, P3, P4, P5, P6]
                         rfl
                        refine pu (i := 32) (N := some 89) (v := ?_) (a' := ?_) HT_.out rfl rfl (by kernel_rfl) (fun _ _ _ h => h) (Or.inl ⟨by rfl, ?_⟩) ?_ ?_
                        rotate_left; (intro w'; go_simp; with_reducible rfl); rotate_left; (simp only [P0, P0n, P2, P3, P4, P5, P6]; rfl)
                        refine tw (i := 33) (N := some 90) (v := ?_) (a' := ?_) HT_.out HW_.out rfl rfl (by kernel_rfl) (fun _ _ _ h => h) (Or.inl ⟨by rfl, ?_⟩) hHeld ?_ ?_
                        rotate_left
                        ·rintro w' ⟨s0, s1, s2, s3, s4, s5, s6, s7, s8, s9, s10, s11, s12, s13, s14, s15, s16, s17⟩
                         go_simp
                         with_reducible rfl
                        rotate_left
                        ·simp only [P0, P0n, P2, P3, P4, P5, P6]
                         rfl
                        refine tw (i := 34) (N := some 91) (v := ?_) (a' := ?_) HT_.out HW_.out rfl rfl (by kernel_rfl) (fun _ _ _ h => h) (Or.inl ⟨by rfl, ?_⟩) hHeld ?_ ?_
                        rotate_left
                        ·rintro w' ⟨s0, s1, s2, s3, s4, s5, s6, s7, s8, s9, s10, s11, s12, s13, s14, s15, s16, s17⟩
                         go_simp
                         with_reducible rfl
                        rotate_left
                        ·simp only [P0, P0n, P2, P3, P4, P5, P6]
                         rfl
                        refine one_ (i := 35) (N := some 92) #[T, T, T, T, T, T, T, T, T, T, T, T, T, T, T, T, T, T, T, T, T, T, T, T, T, T, T, T, T, T, T, T, T, T, T, T, F, F, F, F] rfl rfl (one_of HT_.out (by kernel_rfl)) (by decide) (fun K hK => ?_)
                        refine goes_ Try.func37 (by kernel_rfl) rfl #[.agg #[.string ((rd_T54 l0 x21_2).f0), .bool ((rd_T54 l0 x21_2).f1), .int .i64 ((rd_T54 l0 x21_2).f2), .int .i64 ((rd_T54 l0 x21_2).f3), .int .i64 ((rd_T54 l0 x21_2).f4), .int .i64 ((rd_T54 l0 x21_2).f5)], .agg #[.string ((rd_T54 l0 x52_4).f0), .bool ((rd_T54 l0 x52_4).f1), .int .i64 ((rd_T54 l0 x52_4).f2), .int .i64 ((rd_T54 l0 x52_4).f3), .int .i64 ((rd_T54 l0 x52_4).f4), .int .i64 ((rd_T54 l0 x52_4).f5)]] (by rfl) rfl rfl (by (try simp only [List.map_toArray, List.map_cons, List.map_nil]); first | done | rfl | (simp only [List.length_drop, List.length_take]; rfl)) ?_
                        with_reducible refine (impl_StripGap.calls k4 ((rd_T54 l0 x21_2).f0) ((rd_T54 l0 x21_2).f1) ((rd_T54 l0 x21_2).f2) ((rd_T54 l0 x21_2).f3) ((rd_T54 l0 x21_2).f4) ((rd_T54 l0 x21_2).f5) ((rd_T54 l0 x52_4).f0) ((rd_T54 l0 x52_4).f1) ((rd_T54 l0 x52_4).f2) ((rd_T54 l0 x52_4).f3) ((rd_T54 l0 x52_4).f4) ((rd_T54 l0 x52_4).f5) t115 _ A45.out).mono ?_
                        rintro e w52 ⟨rfl, hb⟩
                        refine ⟨_, rfl, ?_⟩
                        have n0_ := Aside0.mk (blk_below (g := gb103) (o := .cells #[.string ((rd_T54 l0 x21_2).f0), .bool ((rd_T54 l0 x21_2).f1), .int .i64 ((rd_T54 l0 x21_2).f2), .int .i64 ((rd_T54 l0 x21_2).f3), .int .i64 ((rd_T54 l0 x21_2).f4), .int .i64 ((rd_T54 l0 x21_2).f5)] 54 (0, 0)) (ex BK103.out) hb)
                        have n1_ := Aside0.mk (blk_below (g := gb108) (o := .cells #[.string ((rd_T54 l0 x52_4).f0), .bool ((rd_T54 l0 x52_4).f1), .int .i64 ((rd_T54 l0 x52_4).f2), .int .i64 ((rd_T54 l0 x52_4).f3), .int .i64 ((rd_T54 l0 x52_4).f4), .int .i64 ((rd_T54 l0 x52_4).f5)] 54 (0, 0)) (ex BK108.out) hb)
                        have n2_ := Aside0.mk (below_step (by repeat (first | (with_reducible first | exact HB.out | apply below_alloc | apply pw_below_drewN | apply below_drew1 | refine below_set ?_ GE103.out | refine below_set ?_ GE108.out) | exact HB.out)) hb)
                        clear BK103
                        clear BK108
                        clear HB
                        have BK103 := n0_
                        have BK108 := n1_
                        have HB := n2_
                        clear n0_ n1_ n2_
                        (try clear hb)
                        (try clear hb2)
                        (try clear hk)
                        (try clear hi)
                        refine hK.out _ _ ⟨(blk_cell BK103.out 0).trans rfl, (blk_cell BK103.out 1).trans rfl, (blk_cell BK103.out 2).trans rfl, (blk_cell BK103.out 3).trans rfl, (blk_cell BK103.out 4).trans rfl, (blk_cell BK103.out 5).trans rfl, (blk_cell BK108.out 0).trans rfl, (blk_cell BK108.out 1).trans rfl, (blk_cell BK108.out 2).trans rfl, (blk_cell BK108.out 3).trans rfl, (blk_cell BK108.out 4).trans rfl, (blk_cell BK108.out 5).trans rfl, (pw_cell_below HB.out hw109_0), (pw_cell_below HB.out hw110_0), (pw_cell_below HB.out hw111_0), (pw_cell_below HB.out hw112_0), (pw_cell_below HB.out hw113_0), (pw_cell_below HB.out hw114_0)⟩ (fun hHeld => ?_)
                        clear hK K
                        refine norm_ (a' := ?_) ?_ ?_
                        rotate_left
                        ·show Act.put _ (some 92) _ = _
                         simp only [P0, P0n, P2, P3, P4, P5, P6]
                         rfl
                        refine pu (i := 36) (N := some 93) (v := ?_) (a' := ?_) HT_.out rfl rfl (by kernel_rfl) (fun _ _ _ h => h) (Or.inl ⟨by rfl, ?_⟩) ?_ ?_
                        rotate_left; (intro w'; go_simp; with_reducible rfl); rotate_left; (simp only [P0, P0n, P2, P3, P4, P5, P6]; rfl)
                        refine pu (i := 37) (N := some 94) (v := ?_) (a' := ?_) HT_.out rfl rfl (by kernel_rfl) (fun _ _ _ h => h) (Or.inl ⟨by rfl, ?_⟩) ?_ ?_
                        rotate_left; (intro w'; go_simp; with_reducible rfl); rotate_left; (simp only [P0, P0n, P2, P3, P4, P5, P6]; rfl)
                        refine pu (i := 38) (N := some 95) (v := ?_) (a' := ?_) HT_.out rfl rfl (by kernel_rfl) (fun _ _ _ h => h) (Or.inl ⟨by rfl, ?_⟩) ?_ ?_
                        rotate_left; (intro w'; go_simp; with_reducible rfl); rotate_left; (simp only [P0, P0n, P2, P3, P4, P5, P6]; rfl)
                        refine pu (i := 39) (N := some 96) (v := ?_) (a' := ?_) HT_.out rfl rfl (by kernel_rfl) (fun _ _ _ h => h) (Or.inl ⟨by rfl, ?_⟩) ?_ ?_
                        rotate_left; (intro w'; go_simp; with_reducible rfl); rotate_left; (simp only [P0, P0n, P2, P3, P4, P5, P6]; rfl)
                        refine done_ (done_of HT_.out (by kernel_rfl)) ?_
                        try go_wp2
                        go_ret
                        exact ⟨by first | rfl | (simp [errW_none, errW_some] <;> rfl) | (simp [*, errW_none, errW_some] <;> rfl), by repeat (first | (with_reducible first | exact HB.out | apply below_alloc | apply pw_below_drewN | apply below_drew1 | refine below_set ?_ GE103.out | refine below_set ?_ GE108.out) | exact HB.out)⟩
                       ·rw [if_neg c46] at H
                        have c46b0 : decide ((wrap64 ((rd l1 x52_4) - (rd l1 x21_2))) < t115) = false := decide_eq_false c46
                        clear c46
                        have H' := Aside0.mk H
                        clear H
                        have p107 : 0 ≤ (x52_4 : Int) := of_decide_eq_true (by first | (with_reducible assumption) | assumption)
                        have q107 : x52_4 < (l0.length : Int) := of_decide_eq_true (by first | (with_reducible assumption) | assumption)
                        obtain ⟨ad107, e107, hx107_0, hx107_1, hx107_2, hx107_3, hx107_4, hx107_5⟩ := at_T54 HR0.out x52_4 p107 q107
                        obtain rfl : ad102 = ad107 := (by injection e107)
                        replace hx107_0 := pw_cell_below HB.out hx107_0
                        replace hx107_1 := pw_cell_below HB.out hx107_1
                        replace hx107_2 := pw_cell_below HB.out hx107_2
                        replace hx107_3 := pw_cell_below HB.out hx107_3
                        replace hx107_4 := pw_cell_below HB.out hx107_4
                        replace hx107_5 := pw_cell_below HB.out hx107_5
                        replace p107 := eq_true p107
                        replace q107 := eq_true q107
                        try go_wp2_with (first | ((with_reducible refine gate_dst (N := 8) rfl ?_); (try (refine gate_guard (by rfl) ?_; dsimp only)); refine box_event ?hg (N := 8) ?hd (cs := #[.string (⟨#[]⟩ : ByteArray), .bool false, .int .i64 0, .int .i64 0, .int .i64 0, .int .i64 0]) (t := 54) ?hr ?_; (case hd => rfl); (case hg => rfl); (case hr => first | (go_simp; done) | (go_simp; rfl)); intro gb108 hg w53 hbox hb; have n0_ := Aside0.mk (blk_below (g := gb103) (o := .cells #[.string ((rd_T54 l0 x21_2).f0), .bool ((rd_T54 l0 x21_2).f1), .int .i64 ((rd_T54 l0 x21_2).f2), .int .i64 ((rd_T54 l0 x21_2).f3), .int .i64 ((rd_T54 l0 x21_2).f4), .int .i64 ((rd_T54 l0 x21_2).f5)] 54 (0, 0)) (ex BK103.out) hb); have n1_ := Aside0.mk (below_step (by repeat (first | (with_reducible first | exact HB.out | apply below_alloc | apply pw_below_drewN | apply below_drew1 | refine below_set ?_ GE103.out) | exact HB.out)) hb); have n2_ := Aside0.mk (hbox); have n3_ := Aside0.mk ((by rw [hg]; exact (below_size (by repeat (first | (with_reducible first | exact HB.out | apply below_alloc | apply pw_below_drewN | apply below_drew1 | refine below_set ?_ GE103.out) | exact HB.out))) : w.heap.size ≤ gb108)); have n4_ := Aside0.mk ((by rw [hg]; exact (below_size (by repeat (first | (with_reducible first | exact HB.out | apply below_alloc | apply pw_below_drewN | apply below_drew1 | refine below_set ?_ GE103.out) | exact HB.out))) : w.heap.size ≤ gb108)); have n5_ := Aside0.mk ((by rw [hg]; exact Nat.ne_of_lt (blk_lt (g := gb103) (o := .cells #[.string ((rd_T54 l0 x21_2).f0), .bool ((rd_T54 l0 x21_2).f1), .int .i64 ((rd_T54 l0 x21_2).f2), .int .i64 ((rd_T54 l0 x21_2).f3), .int .i64 ((rd_T54 l0 x21_2).f4), .int .i64 ((rd_T54 l0 x21_2).f5)] 54 (0, 0)) (ex BK103.out)) : gb103 ≠ gb108)); have n6_ := Aside0.mk ((by rw [hg]; exact Nat.ne_of_gt (blk_lt (g := gb103) (o := .cells #[.string ((rd_T54 l0 x21_2).f0), .bool ((rd_T54 l0 x21_2).f1), .int .i64 ((rd_T54 l0 x21_2).f2), .int .i64 ((rd_T54 l0 x21_2).f3), .int .i64 ((rd_T54 l0 x21_2).f4), .int .i64 ((rd_T54 l0 x21_2).f5)] 54 (0, 0)) (ex BK103.out)) : gb108 ≠ gb103)); clear BK103; clear HB; have BK103 := n0_; have HB := n1_; have BK108 := n2_; have GW108 := n3_; have GE108 := n4_; have NB103_108 := n5_; have NB108_103 := n6_; clear n0_ n1_ n2_ n3_ n4_ n5_ n6_; clear hb hbox hg; have hnb54 := NB108_103.out; have hnc54 := NB103_108.out; obtain ⟨hcz55_0, hcz55_1, hcz55_2, hcz55_3, hcz55_4, hcz55_5⟩ := bc6 BK108.out; obtain ⟨hfz55_0, hfz55_1, hfz55_2, hfz55_3, hfz55_4, hfz55_5⟩ := bf6 BK108.out))
                        have n0_ : Aside0 (((((((w53.setCell ⟨gb108, 0, none⟩ (.string ((rd_T54 l0 x52_4).f0))).setCell ⟨gb108, 1, none⟩ (.bool ((rd_T54 l0 x52_4).f1))).setCell ⟨gb108, 2, none⟩ (.int .i64 ((rd_T54 l0 x52_4).f2))).setCell ⟨gb108, 3, none⟩ (.int .i64 ((rd_T54 l0 x52_4).f3))).setCell ⟨gb108, 4, none⟩ (.int .i64 ((rd_T54 l0 x52_4).f4))).setCell ⟨gb108, 5, none⟩ (.int .i64 ((rd_T54 l0 x52_4).f5))).heap[gb103]? = some (.cells #[.string ((rd_T54 l0 x21_2).f0), .bool ((rd_T54 l0 x21_2).f1), .int .i64 ((rd_T54 l0 x21_2).f2), .int .i64 ((rd_T54 l0 x21_2).f3), .int .i64 ((rd_T54 l0 x21_2).f4), .int .i64 ((rd_T54 l0 x21_2).f5)] 54 (0, 0))) := ⟨by refine px ?_; refine blk_far ?_ NB103_108.out _; refine px ?_; refine blk_far ?_ NB103_108.out _; refine px ?_; refine blk_far ?_ NB103_108.out _; refine px ?_; refine blk_far ?_ NB103_108.out _; refine px ?_; refine blk_far ?_ NB103_108.out _; refine px ?_; refine blk_far ?_ NB103_108.out _; refine px ?_; exact BK103.out⟩
                        have n1_ : Aside0 (((((((w53.setCell ⟨gb108, 0, none⟩ (.string ((rd_T54 l0 x52_4).f0))).setCell ⟨gb108, 1, none⟩ (.bool ((rd_T54 l0 x52_4).f1))).setCell ⟨gb108, 2, none⟩ (.int .i64 ((rd_T54 l0 x52_4).f2))).setCell ⟨gb108, 3, none⟩ (.int .i64 ((rd_T54 l0 x52_4).f3))).setCell ⟨gb108, 4, none⟩ (.int .i64 ((rd_T54 l0 x52_4).f4))).setCell ⟨gb108, 5, none⟩ (.int .i64 ((rd_T54 l0 x52_4).f5))).heap[gb108]? = some (.cells #[.string ((rd_T54 l0 x52_4).f0), .bool ((rd_T54 l0 x52_4).f1), .int .i64 ((rd_T54 l0 x52_4).f2), .int .i64 ((rd_T54 l0 x52_4).f3), .int .i64 ((rd_T54 l0 x52_4).f4), .int .i64 ((rd_T54 l0 x52_4).f5)] 54 (0, 0))) := ⟨by refine px ?_; refine blk_put (cs := #[.string ((rd_T54 l0 x52_4).f0), .bool ((rd_T54 l0 x52_4).f1), .int .i64 ((rd_T54 l0 x52_4).f2), .int .i64 ((rd_T54 l0 x52_4).f3), .int .i64 ((rd_T54 l0 x52_4).f4), .int .i64 0]) ?_ 5 _ rfl; refine px ?_; refine blk_put (cs := #[.string ((rd_T54 l0 x52_4).f0), .bool ((rd_T54 l0 x52_4).f1), .int .i64 ((rd_T54 l0 x52_4).f2), .int .i64 ((rd_T54 l0 x52_4).f3), .int .i64 0, .int .i64 0]) ?_ 4 _ rfl; refine px ?_; refine blk_put (cs := #[.string ((rd_T54 l0 x52_4).f0), .bool ((rd_T54 l0 x52_4).f1), .int .i64 ((rd_T54 l0 x52_4).f2), .int .i64 0, .int .i64 0, .int .i64 0]) ?_ 3 _ rfl; refine px ?_; refine blk_put (cs := #[.string ((rd_T54 l0 x52_4).f0), .bool ((rd_T54 l0 x52_4).f1), .int .i64 0, .int .i64 0, .int .i64 0, .int .i64 0]) ?_ 2 _ rfl; refine px ?_; refine blk_put (cs := #[.string ((rd_T54 l0 x52_4).f0), .bool false, .int .i64 0, .int .i64 0, .int .i64 0, .int .i64 0]) ?_ 1 _ rfl; refine px ?_; refine blk_put (cs := #[.string (⟨#[]⟩ : ByteArray), .bool false, .int .i64 0, .int .i64 0, .int .i64 0, .int .i64 0]) ?_ 0 _ rfl; refine px ?_; exact BK108.out⟩
                        have n2_ : Aside0 (Below w.heap.size w ((((((w53.setCell ⟨gb108, 0, none⟩ (.string ((rd_T54 l0 x52_4).f0))).setCell ⟨gb108, 1, none⟩ (.bool ((rd_T54 l0 x52_4).f1))).setCell ⟨gb108, 2, none⟩ (.int .i64 ((rd_T54 l0 x52_4).f2))).setCell ⟨gb108, 3, none⟩ (.int .i64 ((rd_T54 l0 x52_4).f3))).setCell ⟨gb108, 4, none⟩ (.int .i64 ((rd_T54 l0 x52_4).f4))).setCell ⟨gb108, 5, none⟩ (.int .i64 ((rd_T54 l0 x52_4).f5)))) := ⟨by repeat (first | (with_reducible first | exact HB.out | apply below_alloc | apply pw_below_drewN | apply below_drew1 | refine below_set ?_ GE103.out | refine below_set ?_ GE108.out) | exact HB.out)⟩
                        (try clear BK103)
                        (try clear BK108)
                        (try clear HB)
                        generalize ((((((w53.setCell ⟨gb108, 0, none⟩ (.string ((rd_T54 l0 x52_4).f0))).setCell ⟨gb108, 1, none⟩ (.bool ((rd_T54 l0 x52_4).f1))).setCell ⟨gb108, 2, none⟩ (.int .i64 ((rd_T54 l0 x52_4).f2))).setCell ⟨gb108, 3, none⟩ (.int .i64 ((rd_T54 l0 x52_4).f3))).setCell ⟨gb108, 4, none⟩ (.int .i64 ((rd_T54 l0 x52_4).f4))).setCell ⟨gb108, 5, none⟩ (.int .i64 ((rd_T54 l0 x52_4).f5))) = w56 at n0_ n1_ n2_ ⊢
                        have BK103 := n0_
                        have BK108 := n1_
                        have HB := n2_
                        clear n0_ n1_ n2_
                        have n0_ := Aside0.mk (blk_drew BK103.out)
                        have n1_ := Aside0.mk (blk_drew BK108.out)
                        have n2_ := Aside0.mk (below_drew1 HB.out)
                        clear BK103
                        clear BK108
                        clear HB
                        have BK103 := n0_
                        have BK108 := n1_
                        have HB := n2_
                        clear n0_ n1_ n2_
                        have p109 : 0 ≤ (x21_2 : Int) := of_decide_eq_true (by first | (with_reducible assumption) | assumption)
                        have q109 : x21_2 < (l1.length : Int) := of_decide_eq_true (by first | (with_reducible assumption) | assumption)
                        obtain ⟨ad109, e109, hx109_0⟩ := Kd.at_int HR1.out x21_2 p109 q109
                        have hw109_0 := hx109_0
                        cases e109
                        replace hx109_0 := pw_cell_below HB.out hx109_0
                        replace p109 := eq_true p109
                        replace q109 := eq_true q109
                        have p110 : 0 ≤ (x52_4 : Int) := of_decide_eq_true (by first | (with_reducible assumption) | assumption)
                        have q110 : x52_4 < (l1.length : Int) := of_decide_eq_true (by first | (with_reducible assumption) | assumption)
                        obtain ⟨ad110, e110, hx110_0⟩ := Kd.at_int HR1.out x52_4 p110 q110
                        have hw110_0 := hx110_0
                        obtain rfl : ad109 = ad110 := (by injection e110)
                        replace hx110_0 := pw_cell_below HB.out hx110_0
                        replace p110 := eq_true p110
                        replace q110 := eq_true q110
                        have p111 : 0 ≤ (x21_2 : Int) := of_decide_eq_true (by first | (with_reducible assumption) | assumption)
                        have q111 : x21_2 < (l1.length : Int) := of_decide_eq_true (by first | (with_reducible assumption) | assumption)
                        obtain ⟨ad111, e111, hx111_0⟩ := Kd.at_int HR1.out x21_2 p111 q111
                        have hw111_0 := hx111_0
                        obtain rfl : ad109 = ad111 := (by injection e111)
                        replace hx111_0 := pw_cell_below HB.out hx111_0
                        replace p111 := eq_true p111
                        replace q111 := eq_true q111
                        have p112 : 0 ≤ (x52_4 : Int) := of_decide_eq_true (by first | (with_reducible assumption) | assumption)
                        have q112 : x52_4 < (l1.length : Int) := of_decide_eq_true (by first | (with_reducible assumption) | assumption)
                        obtain ⟨ad112, e112, hx112_0⟩ := Kd.at_int HR1.out x52_4 p112 q112
                        have hw112_0 := hx112_0
                        obtain rfl : ad109 = ad112 := (by injection e112)
                        replace hx112_0 := pw_cell_below HB.out hx112_0
                        replace p112 := eq_true p112
                        replace q112 := eq_true q112
                        have p113 : 0 ≤ (x52_4 : Int) := of_decide_eq_true (by first | (with_reducible assumption) | assumption)
                        have q113 : x52_4 < (l1.length : Int) := of_decide_eq_true (by first | (with_reducible assumption) | assumption)
                        obtain ⟨ad113, e113, hx113_0⟩ := Kd.at_int HR1.out x52_4 p113 q113
                        have hw113_0 := hx113_0
                        obtain rfl : ad109 = ad113 := (by injection e113)
                        replace hx113_0 := pw_cell_below HB.out hx113_0
                        replace p113 := eq_true p113
                        replace q113 := eq_true q113
                        have p114 : 0 ≤ (x21_2 : Int) := of_decide_eq_true (by first | (with_reducible assumption) | assumption)
                        have q114 : x21_2 < (l1.length : Int) := of_decide_eq_true (by first | (with_reducible assumption) | assumption)
                        obtain ⟨ad114, e114, hx114_0⟩ := Kd.at_int HR1.out x21_2 p114 q114
                        have hw114_0 := hx114_0
                        obtain rfl : ad109 = ad114 := (by injection e114)
                        replace hx114_0 := pw_cell_below HB.out hx114_0
                        replace p114 := eq_true p114
                        replace q114 := eq_true q114
                        refine start_ (n := 40) (S := fun w' => w'.cell? ⟨gb103, 0, none⟩ = some (.string ((rd_T54 l0 x21_2).f0)) ∧ w'.cell? ⟨gb103, 1, none⟩ = some (.bool ((rd_T54 l0 x21_2).f1)) ∧ w'.cell? ⟨gb103, 2, none⟩ = some (.int .i64 ((rd_T54 l0 x21_2).f2)) ∧ w'.cell? ⟨gb103, 3, none⟩ = some (.int .i64 ((rd_T54 l0 x21_2).f3)) ∧ w'.cell? ⟨gb103, 4, none⟩ = some (.int .i64 ((rd_T54 l0 x21_2).f4)) ∧ w'.cell? ⟨gb103, 5, none⟩ = some (.int .i64 ((rd_T54 l0 x21_2).f5)) ∧ w'.cell? ⟨gb108, 0, none⟩ = some (.string ((rd_T54 l0 x52_4).f0)) ∧ w'.cell? ⟨gb108, 1, none⟩ = some (.bool ((rd_T54 l0 x52_4).f1)) ∧ w'.cell? ⟨gb108, 2, none⟩ = some (.int .i64 ((rd_T54 l0 x52_4).f2)) ∧ w'.cell? ⟨gb108, 3, none⟩ = some (.int .i64 ((rd_T54 l0 x52_4).f3)) ∧ w'.cell? ⟨gb108, 4, none⟩ = some (.int .i64 ((rd_T54 l0 x52_4).f4)) ∧ w'.cell? ⟨gb108, 5, none⟩ = some (.int .i64 ((rd_T54 l0 x52_4).f5)) ∧ w'.cell? (ad109.add (x21_2).toNat) = some (.int .i64 (rd l1 x21_2)) ∧ w'.cell? (ad109.add (x52_4).toNat) = some (.int .i64 (rd l1 x52_4)) ∧ w'.cell? (ad109.add (x21_2).toNat) = some (.int .i64 (rd l1 x21_2)) ∧ w'.cell? (ad109.add (x52_4).toNat) = some (.int .i64 (rd l1 x52_4)) ∧ w'.cell? (ad109.add (x52_4).toNat) = some (.int .i64 (rd l1 x52_4)) ∧ w'.cell? (ad109.add (x21_2).toNat) = some (.int .i64 (rd l1 x21_2))) (ds := []) #[F, F, F, F, F, F, F, F, F, F, F, F, F, F, F, F, F, F, F, F, F, F, F, F, F, F, F, F, F, F, F, F, F, F, F, F, F, F, F, F] (by kernel_rfl) rfl rfl ⟨(blk_cell BK103.out 0).trans rfl, (blk_cell BK103.out 1).trans rfl, (blk_cell BK103.out 2).trans rfl, (blk_cell BK103.out 3).trans rfl, (blk_cell BK103.out 4).trans rfl, (blk_cell BK103.out 5).trans rfl, (blk_cell BK108.out 0).trans rfl, (blk_cell BK108.out 1).trans rfl, (blk_cell BK108.out 2).trans rfl, (blk_cell BK108.out 3).trans rfl, (blk_cell BK108.out 4).trans rfl, (blk_cell BK108.out 5).trans rfl, (pw_cell_below HB.out hw109_0), (pw_cell_below HB.out hw110_0), (pw_cell_below HB.out hw111_0), (pw_cell_below HB.out hw112_0), (pw_cell_below HB.out hw113_0), (pw_cell_below HB.out hw114_0)⟩ (fun hHeld => ?_); refine with_tabW impl_StripFits.tab11 impl_StripFits.bits11 (fun HT_ HW_ => ?_)
                        generalize w56.drew = w57 at BK103 BK108 HB hx109_0 hx110_0 hx111_0 hx112_0 hx113_0 hx114_0 hHeld ⊢
                        refine pu (i := 0) (N := some 57) (v := ?_) (a' := ?_) HT_.out rfl rfl (by kernel_rfl) (fun _ _ _ h => h) (Or.inl ⟨by rfl, ?_⟩) ?_ ?_
                        rotate_left; (intro w'; go_simp; with_reducible rfl); rotate_left; (simp only [P0, P0n, P2, P3, P4, P5, P6]; rfl)
                        refine pu (i := 1) (N := some 58) (v := ?_) (a' := ?_) HT_.out rfl rfl (by kernel_rfl) (fun _ _ _ h => h) (Or.inl ⟨by rfl, ?_⟩) ?_ ?_
                        rotate_left; (intro w'; go_simp; with_reducible rfl); rotate_left; (simp only [P0, P0n, P2, P3, P4, P5, P6]; rfl)
                        refine pu (i := 2) (N := some 59) (v := ?_) (a' := ?_) HT_.out rfl rfl (by kernel_rfl) (fun _ _ _ h => h) (Or.inl ⟨by rfl, ?_⟩) ?_ ?_
                        rotate_left; (intro w'; go_simp; with_reducible rfl); rotate_left; (simp only [P0, P0n, P2, P3, P4, P5, P6]; rfl)
                        refine pu (i := 3) (N := some 60) (v := ?_) (a' := ?_) HT_.out rfl rfl (by kernel_rfl) (fun _ _ _ h => h) (Or.inl ⟨by rfl, ?_⟩) ?_ ?_
                        rotate_left; (intro w'; go_simp; with_reducible rfl); rotate_left; (simp only [P0, P0n, P2, P3, P4, P5, P6]; rfl)
                        refine pu (i := 4) (N := some 61) (v := ?_) (a' := ?_) HT_.out rfl rfl (by kernel_rfl) (fun _ _ _ h => h) (Or.inl ⟨by rfl, ?_⟩) ?_ ?_
                        rotate_left; (intro w'; go_simp; with_reducible rfl); rotate_left; (simp only [P0, P0n, P2, P3, P4, P5, P6]; rfl)
                        refine pu (i := 5) (N := some 62) (v := ?_) (a' := ?_) HT_.out rfl rfl (by kernel_rfl) (fun _ _ _ h => h) (Or.inl ⟨by rfl, ?_⟩) ?_ ?_
                        rotate_left; (intro w'; go_simp; with_reducible rfl); rotate_left; (simp only [P0, P0n, P2, P3, P4, P5, P6]; rfl)
                        refine pu (i := 6) (N := some 63) (v := ?_) (a' := ?_) HT_.out rfl rfl (by kernel_rfl) (fun _ _ _ h => h) (Or.inl ⟨by rfl, ?_⟩) ?_ ?_
                        rotate_left; (intro w'; go_simp; with_reducible rfl); rotate_left; (simp only [P0, P0n, P2, P3, P4, P5, P6]; rfl)
                        refine pu (i := 8) (N := some 65) (v := ?_) (a' := ?_) HT_.out rfl rfl (by kernel_rfl) (fun _ _ _ h => h) (Or.inl ⟨by rfl, ?_⟩) ?_ ?_
                        rotate_left; (intro w'; go_simp; with_reducible rfl); rotate_left; (simp only [P0, P0n, P2, P3, P4, P5, P6]; rfl)
                        refine pu (i := 9) (N := some 66) (v := ?_) (a' := ?_) HT_.out rfl rfl (by kernel_rfl) (fun _ _ _ h => h) (Or.inl ⟨by rfl, ?_⟩) ?_ ?_
                        rotate_left; (intro w'; go_simp; with_reducible rfl); rotate_left; (simp only [P0, P0n, P2, P3, P4, P5, P6]; rfl)
                        refine pu (i := 10) (N := some 67) (v := ?_) (a' := ?_) HT_.out rfl rfl (by kernel_rfl) (fun _ _ _ h => h) (Or.inl ⟨by rfl, ?_⟩) ?_ ?_
                        rotate_left; (intro w'; go_simp; with_reducible rfl); rotate_left; (simp only [P0, P0n, P2, P3, P4, P5, P6]; rfl)
                        refine tw (i := 7) (N := some 64) (v := ?_) (a' := ?_) HT_.out HW_.out rfl rfl (by kernel_rfl) (fun _ _ _ h => h) (Or.inl ⟨by rfl, ?_⟩) hHeld ?_ ?_
                        rotate_left
                        ·rintro w' ⟨s0, s1, s2, s3, s4, s5, s6, s7, s8, s9, s10, s11, s12, s13, s14, s15, s16, s17⟩
                         go_simp
                         with_reducible rfl
                        rotate_left
                        ·simp only [P0, P0n, P2, P3, P4, P5, P6]
                         rfl
                        refine tw (i := 11) (N := some 68) (v := ?_) (a' := ?_) HT_.out HW_.out rfl rfl (by kernel_rfl) (fun _ _ _ h => h) (Or.inl ⟨by rfl, ?_⟩) hHeld ?_ ?_
                        rotate_left
                        ·rintro w' ⟨s0, s1, s2, s3, s4, s5, s6, s7, s8, s9, s10, s11, s12, s13, s14, s15, s16, s17⟩
                         go_simp
                         with_reducible rfl
                        rotate_left
                        ·simp only [P0, P0n, P2, P3, P4, P5, P6]
                         rfl
                        refine pu (i := 12) (N := some 69) (v := ?_) (a' := ?_) HT_.out rfl rfl (by kernel_rfl) (fun _ _ _ h => h) (Or.inl ⟨by rfl, ?_⟩) ?_ ?_
                        rotate_left; (intro w'; go_simp; with_reducible rfl); rotate_left; (simp only [P0, P0n, P2, P3, P4, P5, P6]; rfl)
                        refine pu (i := 13) (N := some 70) (v := ?_) (a' := ?_) HT_.out rfl rfl (by kernel_rfl) (fun _ _ _ h => h) (Or.inl ⟨by rfl, ?_⟩) ?_ ?_
                        rotate_left; (intro w'; go_simp; with_reducible rfl); rotate_left; (simp only [P0, P0n, P2, P3, P4, P5, P6]; rfl)
                        refine pu (i := 14) (N := some 71) (v := ?_) (a' := ?_) HT_.out rfl rfl (by kernel_rfl) (fun _ _ _ h => h) (Or.inl ⟨by rfl, ?_⟩) ?_ ?_
                        rotate_left; (intro w'; go_simp; with_reducible rfl); rotate_left; (simp only [P0, P0n, P2, P3, P4, P5, P6]; rfl)
                        refine pu (i := 15) (N := some 72) (v := ?_) (a' := ?_) HT_.out rfl rfl (by kernel_rfl) (fun _ _ _ h => h) (Or.inl ⟨by rfl, ?_⟩) ?_ ?_
                        rotate_left; (intro w'; go_simp; with_reducible rfl); rotate_left; (simp only [P0, P0n, P2, P3, P4, P5, P6]; rfl)
                        refine pu (i := 16) (N := some 73) (v := ?_) (a' := ?_) HT_.out rfl rfl (by kernel_rfl) (fun _ _ _ h => h) (Or.inl ⟨by rfl, ?_⟩) ?_ ?_
                        rotate_left; (intro w'; go_simp; with_reducible rfl); rotate_left; (simp only [P0, P0n, P2, P3, P4, P5, P6]; rfl)
                        refine pu (i := 18) (N := some 75) (v := ?_) (a' := ?_) HT_.out rfl rfl (by kernel_rfl) (fun _ _ _ h => h) (Or.inl ⟨by rfl, ?_⟩) ?_ ?_
                        rotate_left; (intro w'; go_simp; with_reducible rfl); rotate_left; (simp only [P0, P0n, P2, P3, P4, P5, P6]; rfl)
                        refine pu (i := 19) (N := some 76) (v := ?_) (a' := ?_) HT_.out rfl rfl (by kernel_rfl) (fun _ _ _ h => h) (Or.inl ⟨by rfl, ?_⟩) ?_ ?_
                        rotate_left; (intro w'; go_simp; with_reducible rfl); rotate_left; (simp only [P0, P0n, P2, P3, P4, P5, P6]; rfl)
                        refine pu (i := 20) (N := some 77) (v := ?_) (a' := ?_) HT_.out rfl rfl (by kernel_rfl) (fun _ _ _ h => h) (Or.inl ⟨by rfl, ?_⟩) ?_ ?_
                        rotate_left; (intro w'; go_simp; with_reducible rfl); rotate_left; (simp only [P0, P0n, P2, P3, P4, P5, P6]; rfl)
                        refine tw (i := 17) (N := some 74) (v := ?_) (a' := ?_) HT_.out HW_.out rfl rfl (by kernel_rfl) (fun _ _ _ h => h) (Or.inl ⟨by rfl, ?_⟩) hHeld ?_ ?_
                        rotate_left
                        ·rintro w' ⟨s0, s1, s2, s3, s4, s5, s6, s7, s8, s9, s10, s11, s12, s13, s14, s15, s16, s17⟩
                         go_simp
                         with_reducible rfl
                        rotate_left
                        ·simp only [P0, P0n, P2, P3, P4, P5, P6]
                         rfl
                        refine tw (i := 21) (N := some 78) (v := ?_) (a' := ?_) HT_.out HW_.out rfl rfl (by kernel_rfl) (fun _ _ _ h => h) (Or.inl ⟨by rfl, ?_⟩) hHeld ?_ ?_
                        rotate_left
                        ·rintro w' ⟨s0, s1, s2, s3, s4, s5, s6, s7, s8, s9, s10, s11, s12, s13, s14, s15, s16, s17⟩
                         go_simp
                         with_reducible rfl
                        rotate_left
                        ·simp only [P0, P0n, P2, P3, P4, P5, P6]
                         rfl
                        refine pu (i := 22) (N := some 79) (v := ?_) (a' := ?_) HT_.out rfl rfl (by kernel_rfl) (fun _ _ _ h => h) (Or.inl ⟨by rfl, ?_⟩) ?_ ?_
                        rotate_left; (intro w'; go_simp; with_reducible rfl); rotate_left; (simp only [P0, P0n, P2, P3, P4, P5, P6]; rfl)
                        refine pu (i := 23) (N := some 80) (v := ?_) (a' := ?_) HT_.out rfl rfl (by kernel_rfl) (fun _ _ _ h => h) (Or.inl ⟨by rfl, ?_⟩) ?_ ?_
                        rotate_left; (intro w'; go_simp; with_reducible rfl); rotate_left; (simp only [P0, P0n, P2, P3, P4, P5, P6]; rfl)
                        refine pu (i := 24) (N := some 81) (v := ?_) (a' := ?_) HT_.out rfl rfl (by kernel_rfl) (fun _ _ _ h => h) (Or.inl ⟨by rfl, ?_⟩) ?_ ?_
                        rotate_left; (intro w'; go_simp; with_reducible rfl); rotate_left; (simp only [P0, P0n, P2, P3, P4, P5, P6]; rfl)
                        refine pu (i := 25) (N := some 82) (v := ?_) (a' := ?_) HT_.out rfl rfl (by kernel_rfl) (fun _ _ _ h => h) (Or.inl ⟨by rfl, ?_⟩) ?_ ?_
                        rotate_left; (intro w'; go_simp; with_reducible rfl); rotate_left; (simp only [P0, P0n, P2, P3, P4, P5, P6]; rfl)
                        refine pu (i := 26) (N := some 83) (v := ?_) (a' := ?_) HT_.out rfl rfl (by kernel_rfl) (fun _ _ _ h => h) (Or.inl ⟨by rfl, ?_⟩) ?_ ?_
                        rotate_left; (intro w'; go_simp; with_reducible rfl); rotate_left; (simp only [P0, P0n, P2, P3, P4, P5, P6]; rfl)
                        refine pu (i := 28) (N := some 85) (v := ?_) (a' := ?_) HT_.out rfl rfl (by kernel_rfl) (fun _ _ _ h => h) (Or.inl ⟨by rfl, ?_⟩) ?_ ?_
                        rotate_left; (intro w'; go_simp; with_reducible rfl); rotate_left; (simp only [P0, P0n, P2, P3, P4, P5, P6]; rfl)
                        refine pu (i := 29) (N := some 86) (v := ?_) (a' := ?_) HT_.out rfl rfl (by kernel_rfl) (fun _ _ _ h => h) (Or.inl ⟨by rfl, ?_⟩) ?_ ?_
                        rotate_left; (intro w'; go_simp; with_reducible rfl); rotate_left; (simp only [P0, P0n, P2, P3, P4, P5, P6]; rfl)
                        refine pu (i := 30) (N := some 87) (v := ?_) (a' := ?_) HT_.out rfl rfl (by kernel_rfl) (fun _ _ _ h => h) (Or.inl ⟨by rfl, ?_⟩) ?_ ?_
                        rotate_left; (intro w'; go_simp; with_reducible rfl); rotate_left; (simp only [P0, P0n, P2, P3, P4, P5, P6]; rfl)
                        refine tw (i := 27) (N := some 84) (v := ?_) (a' := ?_) HT_.out HW_.out rfl rfl (by kernel_rfl) (fun _ _ _ h => h) (Or.inl ⟨by rfl, ?_⟩) hHeld ?_ ?_
                        rotate_left
                        ·rintro w' ⟨s0, s1, s2, s3, s4, s5, s6, s7, s8, s9, s10, s11, s12, s13, s14, s15, s16, s17⟩
                         go_simp
                         with_reducible rfl
                        rotate_left
                        ·simp only [P0, P0n, P2, P3, P4, P5, P6]
                         rfl
                        refine tw (i := 31) (N := some 88) (v := ?_) (a' := ?_) HT_.out HW_.out rfl rfl (by kernel_rfl) (fun _ _ _ h => h) (Or.inl ⟨by rfl, ?_⟩) hHeld ?_ ?_
                        rotate_left
                        ·rintro w' ⟨s0, s1, s2, s3, s4, s5, s6, s7, s8, s9, s10, s11, s12, s13, s14, s15, s16, s17⟩
                         go_simp
                         with_reducible rfl
                        rotate_left
                        ·simp only [P0, P0n, P2, P3, P4, P5, P6]
                         rfl
                        refine pu (i := 32) (N := some 89) (v := ?_) (a' := ?_) HT_.out rfl rfl (by kernel_rfl) (fun _ _ _ h => h) (Or.inl ⟨by rfl, ?_⟩) ?_ ?_
                        rotate_left; (intro w'; go_simp; with_reducible rfl); rotate_left; (simp only [P0, P0n, P2, P3, P4, P5, P6]; rfl)
                        refine tw (i := 33) (N := some 90) (v := ?_) (a' := ?_) HT_.out HW_.out rfl rfl (by kernel_rfl) (fun _ _ _ h => h) (Or.inl ⟨by rfl, ?_⟩) hHeld ?_ ?_
                        rotate_left
                        ·rintro w' ⟨s0, s1, s2, s3, s4, s5, s6, s7, s8, s9, s10, s11, s12, s13, s14, s15, s16, s17⟩
                         go_simp
                         with_reducible rfl
                        rotate_left
                        ·simp only [P0, P0n, P2, P3, P4, P5, P6]
                         rfl
                        refine tw (i := 34) (N := some 91) (v := ?_) (a' := ?_) HT_.out HW_.out rfl rfl (by kernel_rfl) (fun _ _ _ h => h) (Or.inl ⟨by rfl, ?_⟩) hHeld ?_ ?_
                        rotate_left
                        ·rintro w' ⟨s0, s1, s2, s3, s4, s5, s6, s7, s8, s9, s10, s11, s12, s13, s14, s15, s16, s17⟩
                         go_simp
                         with_reducible rfl
                        rotate_left
                        ·simp only [P0, P0n, P2, P3, P4, P5, P6]
                         rfl
                        refine one_ (i := 35) (N := some 92) #[T, T, T, T, T, T, T, T, T, T, T, T, T, T, T, T, T, T, T, T, T, T, T, T, T, T, T, T, T, T, T, T, T, T, T, T, F, F, F, F] rfl rfl (one_of HT_.out (by kernel_rfl)) (by decide) (fun K hK => ?_)
                        refine goes_ Try.func37 (by kernel_rfl) rfl #[.agg #[.string ((rd_T54 l0 x21_2).f0), .bool ((rd_T54 l0 x21_2).f1), .int .i64 ((rd_T54 l0 x21_2).f2), .int .i64 ((rd_T54 l0 x21_2).f3), .int .i64 ((rd_T54 l0 x21_2).f4), .int .i64 ((rd_T54 l0 x21_2).f5)], .agg #[.string ((rd_T54 l0 x52_4).f0), .bool ((rd_T54 l0 x52_4).f1), .int .i64 ((rd_T54 l0 x52_4).f2), .int .i64 ((rd_T54 l0 x52_4).f3), .int .i64 ((rd_T54 l0 x52_4).f4), .int .i64 ((rd_T54 l0 x52_4).f5)]] (by rfl) rfl rfl (by (try simp only [List.map_toArray, List.map_cons, List.map_nil]); first | done | rfl | (simp only [List.length_drop, List.length_take]; rfl)) ?_
                        with_reducible refine (impl_StripGap.calls k4 ((rd_T54 l0 x21_2).f0) ((rd_T54 l0 x21_2).f1) ((rd_T54 l0 x21_2).f2) ((rd_T54 l0 x21_2).f3) ((rd_T54 l0 x21_2).f4) ((rd_T54 l0 x21_2).f5) ((rd_T54 l0 x52_4).f0) ((rd_T54 l0 x52_4).f1) ((rd_T54 l0 x52_4).f2) ((rd_T54 l0 x52_4).f3) ((rd_T54 l0 x52_4).f4) ((rd_T54 l0 x52_4).f5) t115 _ A45.out).mono ?_
                        rintro e w58 ⟨rfl, hb⟩
                        refine ⟨_, rfl, ?_⟩
                        have n0_ := Aside0.mk (blk_below (g := gb103) (o := .cells #[.string ((rd_T54 l0 x21_2).f0), .bool ((rd_T54 l0 x21_2).f1), .int .i64 ((rd_T54 l0 x21_2).f2), .int .i64 ((rd_T54 l0 x21_2).f3), .int .i64 ((rd_T54 l0 x21_2).f4), .int .i64 ((rd_T54 l0 x21_2).f5)] 54 (0, 0)) (ex BK103.out) hb)
                        have n1_ := Aside0.mk (blk_below (g := gb108) (o := .cells #[.string ((rd_T54 l0 x52_4).f0), .bool ((rd_T54 l0 x52_4).f1), .int .i64 ((rd_T54 l0 x52_4).f2), .int .i64 ((rd_T54 l0 x52_4).f3), .int .i64 ((rd_T54 l0 x52_4).f4), .int .i64 ((rd_T54 l0 x52_4).f5)] 54 (0, 0)) (ex BK108.out) hb)
                        have n2_ := Aside0.mk (below_step (by repeat (first | (with_reducible first | exact HB.out | apply below_alloc | apply pw_below_drewN | apply below_drew1 | refine below_set ?_ GE103.out | refine below_set ?_ GE108.out) | exact HB.out)) hb)
                        clear BK103
                        clear BK108
                        clear HB
                        have BK103 := n0_
                        have BK108 := n1_
                        have HB := n2_
                        clear n0_ n1_ n2_
                        (try clear hb)
                        (try clear hb2)
                        (try clear hk)
                        (try clear hi)
                        refine hK.out _ _ ⟨(blk_cell BK103.out 0).trans rfl, (blk_cell BK103.out 1).trans rfl, (blk_cell BK103.out 2).trans rfl, (blk_cell BK103.out 3).trans rfl, (blk_cell BK103.out 4).trans rfl, (blk_cell BK103.out 5).trans rfl, (blk_cell BK108.out 0).trans rfl, (blk_cell BK108.out 1).trans rfl, (blk_cell BK108.out 2).trans rfl, (blk_cell BK108.out 3).trans rfl, (blk_cell BK108.out 4).trans rfl, (blk_cell BK108.out 5).trans rfl, (pw_cell_below HB.out hw109_0), (pw_cell_below HB.out hw110_0), (pw_cell_below HB.out hw111_0), (pw_cell_below HB.out hw112_0), (pw_cell_below HB.out hw113_0), (pw_cell_below HB.out hw114_0)⟩ (fun hHeld => ?_)
                        clear hK K
                        refine norm_ (a' := ?_) ?_ ?_
                        rotate_left
                        ·show Act.put _ (some 92) _ = _
                         simp only [P0, P0n, P2, P3, P4, P5, P6]
                         rfl
                        refine pu (i := 36) (N := some 93) (v := ?_) (a' := ?_) HT_.out rfl rfl (by kernel_rfl) (fun _ _ _ h => h) (Or.inl ⟨by rfl, ?_⟩) ?_ ?_
                        rotate_left; (intro w'; go_simp; with_reducible rfl); rotate_left; (simp only [P0, P0n, P2, P3, P4, P5, P6]; rfl)
                        refine pu (i := 37) (N := some 94) (v := ?_) (a' := ?_) HT_.out rfl rfl (by kernel_rfl) (fun _ _ _ h => h) (Or.inl ⟨by rfl, ?_⟩) ?_ ?_
                        rotate_left; (intro w'; go_simp; with_reducible rfl); rotate_left; (simp only [P0, P0n, P2, P3, P4, P5, P6]; rfl)
                        refine pu (i := 38) (N := some 95) (v := ?_) (a' := ?_) HT_.out rfl rfl (by kernel_rfl) (fun _ _ _ h => h) (Or.inl ⟨by rfl, ?_⟩) ?_ ?_
                        rotate_left; (intro w'; go_simp; with_reducible rfl); rotate_left; (simp only [P0, P0n, P2, P3, P4, P5, P6]; rfl)
                        refine pu (i := 39) (N := some 96) (v := ?_) (a' := ?_) HT_.out rfl rfl (by kernel_rfl) (fun _ _ _ h => h) (Or.inl ⟨by rfl, ?_⟩) ?_ ?_
                        rotate_left; (intro w'; go_simp; with_reducible rfl); rotate_left; (simp only [P0, P0n, P2, P3, P4, P5, P6]; rfl)
                        refine done_ (done_of HT_.out (by kernel_rfl)) ?_
                        try go_wp2
                        go_roundg k4
                        case measure => have := HJ2.out; have := HK2.out; have := HJ11.out; have := HK4.out; omega
                        case rel => exact ⟨(wrap64 (x52_4 + 1)), (by first | rfl | (simp; done) | (simp [*]; done)), H', ⟨by have := HJ2.out; have := HK2.out; have := HJ11.out; have := HK4.out; omega⟩, ⟨ex BK103.out⟩, ⟨by repeat (first | (with_reducible first | exact HB.out | apply below_alloc | apply pw_below_drewN | apply below_drew1 | refine below_set ?_ GE103.out | refine below_set ?_ GE108.out) | exact HB.out)⟩⟩
                      ·rw [if_neg c44] at H
                       have c44b0 : decide ((rd l1 x21_2) < (rd l1 x52_4)) = false := decide_eq_false c44
                       clear c44
                       have H' := Aside0.mk H
                       clear H
                       have p107 : 0 ≤ (x52_4 : Int) := of_decide_eq_true (by first | (with_reducible assumption) | assumption)
                       have q107 : x52_4 < (l0.length : Int) := of_decide_eq_true (by first | (with_reducible assumption) | assumption)
                       obtain ⟨ad107, e107, hx107_0, hx107_1, hx107_2, hx107_3, hx107_4, hx107_5⟩ := at_T54 HR0.out x52_4 p107 q107
                       obtain rfl : ad102 = ad107 := (by injection e107)
                       replace hx107_0 := pw_cell_below HB.out hx107_0
                       replace hx107_1 := pw_cell_below HB.out hx107_1
                       replace hx107_2 := pw_cell_below HB.out hx107_2
                       replace hx107_3 := pw_cell_below HB.out hx107_3
                       replace hx107_4 := pw_cell_below HB.out hx107_4
                       replace hx107_5 := pw_cell_below HB.out hx107_5
                       replace p107 := eq_true p107
                       replace q107 := eq_true q107
                       try go_wp2_with (first | ((with_reducible refine gate_dst (N := 8) rfl ?_); (try (refine gate_guard (by rfl) ?_; dsimp only)); refine box_event ?hg (N := 8) ?hd (cs := #[.string (⟨#[]⟩ : ByteArray), .bool false, .int .i64 0, .int .i64 0, .int .i64 0, .int .i64 0]) (t := 54) ?hr ?_; (case hd => rfl); (case hg => rfl); (case hr => first | (go_simp; done) | (go_simp; rfl)); intro gb108 hg w59 hbox hb; have n0_ := Aside0.mk (blk_below (g := gb103) (o := .cells #[.string ((rd_T54 l0 x21_2).f0), .bool ((rd_T54 l0 x21_2).f1), .int .i64 ((rd_T54 l0 x21_2).f2), .int .i64 ((rd_T54 l0 x21_2).f3), .int .i64 ((rd_T54 l0 x21_2).f4), .int .i64 ((rd_T54 l0 x21_2).f5)] 54 (0, 0)) (ex BK103.out) hb); have n1_ := Aside0.mk (below_step (by repeat (first | (with_reducible first | exact HB.out | apply below_alloc | apply pw_below_drewN | apply below_drew1 | refine below_set ?_ GE103.out) | exact HB.out)) hb); have n2_ := Aside0.mk (hbox); have n3_ := Aside0.mk ((by rw [hg]; exact (below_size (by repeat (first | (with_reducible first | exact HB.out | apply below_alloc | apply pw_below_drewN | apply below_drew1 | refine below_set ?_ GE103.out) | exact HB.out))) : w.heap.size ≤ gb108)); have n4_ := Aside0.mk ((by rw [hg]; exact (below_size (by repeat (first | (with_reducible first | exact HB.out | apply below_alloc | apply pw_below_drewN | apply below_drew1 | refine below_set ?_ GE103.out) | exact HB.out))) : w.heap.size ≤ gb108)); have n5_ := Aside0.mk ((by rw [hg]; exact Nat.ne_of_lt (blk_lt (g := gb103) (o := .cells #[.string ((rd_T54 l0 x21_2).f0), .bool ((rd_T54 l0 x21_2).f1), .int .i64 ((rd_T54 l0 x21_2).f2), .int .i64 ((rd_T54 l0 x21_2).f3), .int .i64 ((rd_T54 l0 x21_2).f4), .int .i64 ((rd_T54 l0 x21_2).f5)] 54 (0, 0)) (ex BK103.out)) : gb103 ≠ gb108)); have n6_ := Aside0.mk ((by rw [hg]; exact Nat.ne_of_gt (blk_lt (g := gb103) (o := .cells #[.string ((rd_T54 l0 x21_2).f0), .bool ((rd_T54 l0 x21_2).f1), .int .i64 ((rd_T54 l0 x21_2).f2), .int .i64 ((rd_T54 l0 x21_2).f3), .int .i64 ((rd_T54 l0 x21_2).f4), .int .i64 ((rd_T54 l0 x21_2).f5)] 54 (0, 0)) (ex BK103.out)) : gb108 ≠ gb103)); clear BK103; clear HB; have BK103 := n0_; have HB := n1_; have BK108 := n2_; have GW108 := n3_; have GE108 := n4_; have NB103_108 := n5_; have NB108_103 := n6_; clear n0_ n1_ n2_ n3_ n4_ n5_ n6_; clear hb hbox hg; have hnb60 := NB108_103.out; have hnc60 := NB103_108.out; obtain ⟨hcz61_0, hcz61_1, hcz61_2, hcz61_3, hcz61_4, hcz61_5⟩ := bc6 BK108.out; obtain ⟨hfz61_0, hfz61_1, hfz61_2, hfz61_3, hfz61_4, hfz61_5⟩ := bf6 BK108.out))
                       have n0_ : Aside0 (((((((w59.setCell ⟨gb108, 0, none⟩ (.string ((rd_T54 l0 x52_4).f0))).setCell ⟨gb108, 1, none⟩ (.bool ((rd_T54 l0 x52_4).f1))).setCell ⟨gb108, 2, none⟩ (.int .i64 ((rd_T54 l0 x52_4).f2))).setCell ⟨gb108, 3, none⟩ (.int .i64 ((rd_T54 l0 x52_4).f3))).setCell ⟨gb108, 4, none⟩ (.int .i64 ((rd_T54 l0 x52_4).f4))).setCell ⟨gb108, 5, none⟩ (.int .i64 ((rd_T54 l0 x52_4).f5))).heap[gb103]? = some (.cells #[.string ((rd_T54 l0 x21_2).f0), .bool ((rd_T54 l0 x21_2).f1), .int .i64 ((rd_T54 l0 x21_2).f2), .int .i64 ((rd_T54 l0 x21_2).f3), .int .i64 ((rd_T54 l0 x21_2).f4), .int .i64 ((rd_T54 l0 x21_2).f5)] 54 (0, 0))) := ⟨by refine px ?_; refine blk_far ?_ NB103_108.out _; refine px ?_; refine blk_far ?_ NB103_108.out _; refine px ?_; refine blk_far ?_ NB103_108.out _; refine px ?_; refine blk_far ?_ NB103_108.out _; refine px ?_; refine blk_far ?_ NB103_108.out _; refine px ?_; refine blk_far ?_ NB103_108.out _; refine px ?_; exact BK103.out⟩
                       have n1_ : Aside0 (((((((w59.setCell ⟨gb108, 0, none⟩ (.string ((rd_T54 l0 x52_4).f0))).setCell ⟨gb108, 1, none⟩ (.bool ((rd_T54 l0 x52_4).f1))).setCell ⟨gb108, 2, none⟩ (.int .i64 ((rd_T54 l0 x52_4).f2))).setCell ⟨gb108, 3, none⟩ (.int .i64 ((rd_T54 l0 x52_4).f3))).setCell ⟨gb108, 4, none⟩ (.int .i64 ((rd_T54 l0 x52_4).f4))).setCell ⟨gb108, 5, none⟩ (.int .i64 ((rd_T54 l0 x52_4).f5))).heap[gb108]? = some (.cells #[.string ((rd_T54 l0 x52_4).f0), .bool ((rd_T54 l0 x52_4).f1), .int .i64 ((rd_T54 l0 x52_4).f2), .int .i64 ((rd_T54 l0 x52_4).f3), .int .i64 ((rd_T54 l0 x52_4).f4), .int .i64 ((rd_T54 l0 x52_4).f5)] 54 (0, 0))) := ⟨by refine px ?_; refine blk_put (cs := #[.string ((rd_T54 l0 x52_4).f0), .bool ((rd_T54 l0 x52_4).f1), .int .i64 ((rd_T54 l0 x52_4).f2), .int .i64 ((rd_T54 l0 x52_4).f3), .int .i64 ((rd_T54 l0 x52_4).f4), .int .i64 0]) ?_ 5 _ rfl; refine px ?_; refine blk_put (cs := #[.string ((rd_T54 l0 x52_4).f0), .bool ((rd_T54 l0 x52_4).f1), .int .i64 ((rd_T54 l0 x52_4).f2), .int .i64 ((rd_T54 l0 x52_4).f3), .int .i64 0, .int .i64 0]) ?_ 4 _ rfl; refine px ?_; refine blk_put (cs := #[.string ((rd_T54 l0 x52_4).f0), .bool ((rd_T54 l0 x52_4).f1), .int .i64 ((rd_T54 l0 x52_4).f2), .int .i64 0, .int .i64 0, .int .i64 0]) ?_ 3 _ rfl; refine px ?_; refine blk_put (cs := #[.string ((rd_T54 l0 x52_4).f0), .bool ((rd_T54 l0 x52_4).f1), .int .i64 0, .int .i64 0, .int .i64 0, .int .i64 0]) ?_ 2 _ rfl; refine px ?_; refine blk_put (cs := #[.string ((rd_T54 l0 x52_4).f0), .bool false, .int .i64 0, .int .i64 0, .int .i64 0, .int .i64 0]) ?_ 1 _ rfl; refine px ?_; refine blk_put (cs := #[.string (⟨#[]⟩ : ByteArray), .bool false, .int .i64 0, .int .i64 0, .int .i64 0, .int .i64 0]) ?_ 0 _ rfl; refine px ?_; exact BK108.out⟩
                       have n2_ : Aside0 (Below w.heap.size w ((((((w59.setCell ⟨gb108, 0, none⟩ (.string ((rd_T54 l0 x52_4).f0))).setCell ⟨gb108, 1, none⟩ (.bool ((rd_T54 l0 x52_4).f1))).setCell ⟨gb108, 2, none⟩ (.int .i64 ((rd_T54 l0 x52_4).f2))).setCell ⟨gb108, 3, none⟩ (.int .i64 ((rd_T54 l0 x52_4).f3))).setCell ⟨gb108, 4, none⟩ (.int .i64 ((rd_T54 l0 x52_4).f4))).setCell ⟨gb108, 5, none⟩ (.int .i64 ((rd_T54 l0 x52_4).f5)))) := ⟨by repeat (first | (with_reducible first | exact HB.out | apply below_alloc | apply pw_below_drewN | apply below_drew1 | refine below_set ?_ GE103.out | refine below_set ?_ GE108.out) | exact HB.out)⟩
                       (try clear BK103)
                       (try clear BK108)
                       (try clear HB)
                       generalize ((((((w59.setCell ⟨gb108, 0, none⟩ (.string ((rd_T54 l0 x52_4).f0))).setCell ⟨gb108, 1, none⟩ (.bool ((rd_T54 l0 x52_4).f1))).setCell ⟨gb108, 2, none⟩ (.int .i64 ((rd_T54 l0 x52_4).f2))).setCell ⟨gb108, 3, none⟩ (.int .i64 ((rd_T54 l0 x52_4).f3))).setCell ⟨gb108, 4, none⟩ (.int .i64 ((rd_T54 l0 x52_4).f4))).setCell ⟨gb108, 5, none⟩ (.int .i64 ((rd_T54 l0 x52_4).f5))) = w62 at n0_ n1_ n2_ ⊢
                       have BK103 := n0_
                       have BK108 := n1_
                       have HB := n2_
                       clear n0_ n1_ n2_
                       have n0_ := Aside0.mk (blk_drew BK103.out)
                       have n1_ := Aside0.mk (blk_drew BK108.out)
                       have n2_ := Aside0.mk (below_drew1 HB.out)
                       clear BK103
                       clear BK108
                       clear HB
                       have BK103 := n0_
                       have BK108 := n1_
                       have HB := n2_
                       clear n0_ n1_ n2_
                       have p109 : 0 ≤ (x21_2 : Int) := of_decide_eq_true (by first | (with_reducible assumption) | assumption)
                       have q109 : x21_2 < (l1.length : Int) := of_decide_eq_true (by first | (with_reducible assumption) | assumption)
                       obtain ⟨ad109, e109, hx109_0⟩ := Kd.at_int HR1.out x21_2 p109 q109
                       have hw109_0 := hx109_0
                       cases e109
                       replace hx109_0 := pw_cell_below HB.out hx109_0
                       replace p109 := eq_true p109
                       replace q109 := eq_true q109
                       have p110 : 0 ≤ (x52_4 : Int) := of_decide_eq_true (by first | (with_reducible assumption) | assumption)
                       have q110 : x52_4 < (l1.length : Int) := of_decide_eq_true (by first | (with_reducible assumption) | assumption)
                       obtain ⟨ad110, e110, hx110_0⟩ := Kd.at_int HR1.out x52_4 p110 q110
                       have hw110_0 := hx110_0
                       obtain rfl : ad109 = ad110 := (by injection e110)
                       replace hx110_0 := pw_cell_below HB.out hx110_0
                       replace p110 := eq_true p110
                       replace q110 := eq_true q110
                       have p111 : 0 ≤ (x21_2 : Int) := of_decide_eq_true (by first | (with_reducible assumption) | assumption)
                       have q111 : x21_2 < (l1.length : Int) := of_decide_eq_true (by first | (with_reducible assumption) | assumption)
                       obtain ⟨ad111, e111, hx111_0⟩ := Kd.at_int HR1.out x21_2 p111 q111
                       have hw111_0 := hx111_0
                       obtain rfl : ad109 = ad111 := (by injection e111)
                       replace hx111_0 := pw_cell_below HB.out hx111_0
                       replace p111 := eq_true p111
                       replace q111 := eq_true q111
                       have p112 : 0 ≤ (x52_4 : Int) := of_decide_eq_true (by first | (with_reducible assumption) | assumption)
                       have q112 : x52_4 < (l1.length : Int) := of_decide_eq_true (by first | (with_reducible assumption) | assumption)
                       obtain ⟨ad112, e112, hx112_0⟩ := Kd.at_int HR1.out x52_4 p112 q112
                       have hw112_0 := hx112_0
                       obtain rfl : ad109 = ad112 := (by injection e112)
                       replace hx112_0 := pw_cell_below HB.out hx112_0
                       replace p112 := eq_true p112
                       replace q112 := eq_true q112
                       refine start_ (n := 40) (S := fun w' => w'.cell? (ad109.add (x21_2).toNat) = some (.int .i64 (rd l1 x21_2)) ∧ w'.cell? (ad109.add (x52_4).toNat) = some (.int .i64 (rd l1 x52_4)) ∧ w'.cell? (ad109.add (x21_2).toNat) = some (.int .i64 (rd l1 x21_2)) ∧ w'.cell? (ad109.add (x52_4).toNat) = some (.int .i64 (rd l1 x52_4))) (ds := []) #[F, F, F, F, F, F, F, F, F, F, F, F, F, F, F, F, F, F, F, F, F, F, F, F, F, F, F, F, F, F, F, F, F, F, F, F, F, F, F, F] (by kernel_rfl) rfl rfl ⟨(pw_cell_below HB.out hw109_0), (pw_cell_below HB.out hw110_0), (pw_cell_below HB.out hw111_0), (pw_cell_below HB.out hw112_0)⟩ (fun hHeld => ?_); refine with_tabW impl_StripFits.tab11 impl_StripFits.bits11 (fun HT_ HW_ => ?_)
                       generalize w62.drew = w63 at BK103 BK108 HB hx109_0 hx110_0 hx111_0 hx112_0 hHeld ⊢
                       refine pu (i := 0) (N := some 57) (v := ?_) (a' := ?_) HT_.out rfl rfl (by kernel_rfl) (fun _ _ _ h => h) (Or.inl ⟨by rfl, ?_⟩) ?_ ?_
                       rotate_left; (intro w'; go_simp; with_reducible rfl); rotate_left; (simp only [P0, P0n, P2, P3, P4, P5, P6]; rfl)
                       refine pu (i := 1) (N := some 58) (v := ?_) (a' := ?_) HT_.out rfl rfl (by kernel_rfl) (fun _ _ _ h => h) (Or.inl ⟨by rfl, ?_⟩) ?_ ?_
                       rotate_left; (intro w'; go_simp; with_reducible rfl); rotate_left; (simp only [P0, P0n, P2, P3, P4, P5, P6]; rfl)
                       refine pu (i := 2) (N := some 59) (v := ?_) (a' := ?_) HT_.out rfl rfl (by kernel_rfl) (fun _ _ _ h => h) (Or.inl ⟨by rfl, ?_⟩) ?_ ?_
                       rotate_left; (intro w'; go_simp; with_reducible rfl); rotate_left; (simp only [P0, P0n, P2, P3, P4, P5, P6]; rfl)
                       refine pu (i := 3) (N := some 60) (v := ?_) (a' := ?_) HT_.out rfl rfl (by kernel_rfl) (fun _ _ _ h => h) (Or.inl ⟨by rfl, ?_⟩) ?_ ?_
                       rotate_left; (intro w'; go_simp; with_reducible rfl); rotate_left; (simp only [P0, P0n, P2, P3, P4, P5, P6]; rfl)
                       refine pu (i := 4) (N := some 61) (v := ?_) (a' := ?_) HT_.out rfl rfl (by kernel_rfl) (fun _ _ _ h => h) (Or.inl ⟨by rfl, ?_⟩) ?_ ?_
                       rotate_left; (intro w'; go_simp; with_reducible rfl); rotate_left; (simp only [P0, P0n, P2, P3, P4, P5, P6]; rfl)
                       refine pu (i := 5) (N := some 62) (v := ?_) (a' := ?_) HT_.out rfl rfl (by kernel_rfl) (fun _ _ _ h => h) (Or.inl ⟨by rfl, ?_⟩) ?_ ?_
                       rotate_left; (intro w'; go_simp; with_reducible rfl); rotate_left; (simp only [P0, P0n, P2, P3, P4, P5, P6]; rfl)
                       refine pu (i := 6) (N := some 63) (v := ?_) (a' := ?_) HT_.out rfl rfl (by kernel_rfl) (fun _ _ _ h => h) (Or.inl ⟨by rfl, ?_⟩) ?_ ?_
                       rotate_left; (intro w'; go_simp; with_reducible rfl); rotate_left; (simp only [P0, P0n, P2, P3, P4, P5, P6]; rfl)
                       refine pu (i := 8) (N := some 65) (v := ?_) (a' := ?_) HT_.out rfl rfl (by kernel_rfl) (fun _ _ _ h => h) (Or.inl ⟨by rfl, ?_⟩) ?_ ?_
                       rotate_left; (intro w'; go_simp; with_reducible rfl); rotate_left; (simp only [P0, P0n, P2, P3, P4, P5, P6]; rfl)
                       refine pu (i := 9) (N := some 66) (v := ?_) (a' := ?_) HT_.out rfl rfl (by kernel_rfl) (fun _ _ _ h => h) (Or.inl ⟨by rfl, ?_⟩) ?_ ?_
                       rotate_left; (intro w'; go_simp; with_reducible rfl); rotate_left; (simp only [P0, P0n, P2, P3, P4, P5, P6]; rfl)
                       refine pu (i := 10) (N := some 67) (v := ?_) (a' := ?_) HT_.out rfl rfl (by kernel_rfl) (fun _ _ _ h => h) (Or.inl ⟨by rfl, ?_⟩) ?_ ?_
                       rotate_left; (intro w'; go_simp; with_reducible rfl); rotate_left; (simp only [P0, P0n, P2, P3, P4, P5, P6]; rfl)
                       refine tw (i := 7) (N := some 64) (v := ?_) (a' := ?_) HT_.out HW_.out rfl rfl (by kernel_rfl) (fun _ _ _ h => h) (Or.inl ⟨by rfl, ?_⟩) hHeld ?_ ?_
                       rotate_left
                       ·rintro w' ⟨s0, s1, s2, s3⟩
                        go_simp
                        with_reducible rfl
                       rotate_left
                       ·simp only [P0, P0n, P2, P3, P4, P5, P6]
                        rfl
                       refine tw (i := 11) (N := some 68) (v := ?_) (a' := ?_) HT_.out HW_.out rfl rfl (by kernel_rfl) (fun _ _ _ h => h) (Or.inl ⟨by rfl, ?_⟩) hHeld ?_ ?_
                       rotate_left
                       ·rintro w' ⟨s0, s1, s2, s3⟩
                        go_simp
                        with_reducible rfl
                       rotate_left
                       ·simp only [P0, P0n, P2, P3, P4, P5, P6]
                        rfl
                       refine pu (i := 12) (N := some 69) (v := ?_) (a' := ?_) HT_.out rfl rfl (by kernel_rfl) (fun _ _ _ h => h) (Or.inl ⟨by rfl, ?_⟩) ?_ ?_
                       rotate_left; (intro w'; go_simp; with_reducible rfl); rotate_left; (simp only [P0, P0n, P2, P3, P4, P5, P6]; rfl)
                       refine pu (i := 13) (N := some 70) (v := ?_) (a' := ?_) HT_.out rfl rfl (by kernel_rfl) (fun _ _ _ h => h) (Or.inl ⟨by rfl, ?_⟩) ?_ ?_
                       rotate_left; (intro w'; go_simp; with_reducible rfl); rotate_left; (simp only [P0, P0n, P2, P3, P4, P5, P6]; rfl)
                       refine pu (i := 14) (N := some 71) (v := ?_) (a' := ?_) HT_.out rfl rfl (by kernel_rfl) (fun _ _ _ h => h) (Or.inl ⟨by rfl, ?_⟩) ?_ ?_
                       rotate_left; (intro w'; go_simp; with_reducible rfl); rotate_left; (simp only [P0, P0n, P2, P3, P4, P5, P6]; rfl)
                       refine pu (i := 15) (N := some 72) (v := ?_) (a' := ?_) HT_.out rfl rfl (by kernel_rfl) (fun _ _ _ h => h) (Or.inl ⟨by rfl, ?_⟩) ?_ ?_
                       rotate_left; (intro w'; go_simp; with_reducible rfl); rotate_left; (simp only [P0, P0n, P2, P3, P4, P5, P6]; rfl)
                       refine pu (i := 16) (N := some 73) (v := ?_) (a' := ?_) HT_.out rfl rfl (by kernel_rfl) (fun _ _ _ h => h) (Or.inl ⟨by rfl, ?_⟩) ?_ ?_
                       rotate_left; (intro w'; go_simp; with_reducible rfl); rotate_left; (simp only [P0, P0n, P2, P3, P4, P5, P6]; rfl)
                       refine pu (i := 18) (N := some 75) (v := ?_) (a' := ?_) HT_.out rfl rfl (by kernel_rfl) (fun _ _ _ h => h) (Or.inl ⟨by rfl, ?_⟩) ?_ ?_
                       rotate_left; (intro w'; go_simp; with_reducible rfl); rotate_left; (simp only [P0, P0n, P2, P3, P4, P5, P6]; rfl)
                       refine pu (i := 19) (N := some 76) (v := ?_) (a' := ?_) HT_.out rfl rfl (by kernel_rfl) (fun _ _ _ h => h) (Or.inl ⟨by rfl, ?_⟩) ?_ ?_
                       rotate_left; (intro w'; go_simp; with_reducible rfl); rotate_left; (simp only [P0, P0n, P2, P3, P4, P5, P6]; rfl)
                       refine pu (i := 20) (N := some 77) (v := ?_) (a' := ?_) HT_.out rfl rfl (by kernel_rfl) (fun _ _ _ h => h) (Or.inl ⟨by rfl, ?_⟩) ?_ ?_
                       rotate_left; (intro w'; go_simp; with_reducible rfl); rotate_left; (simp only [P0, P0n, P2, P3, P4, P5, P6]; rfl)
                       refine tw (i := 17) (N := some 74) (v := ?_) (a' := ?_) HT_.out HW_.out rfl rfl (by kernel_rfl) (fun _ _ _ h => h) (Or.inl ⟨by rfl, ?_⟩) hHeld ?_ ?_
                       rotate_left
                       ·rintro w' ⟨s0, s1, s2, s3⟩
                        go_simp
                        with_reducible rfl
                       rotate_left
                       ·simp only [P0, P0n, P2, P3, P4, P5, P6]
                        rfl
                       refine tw (i := 21) (N := some 78) (v := ?_) (a' := ?_) HT_.out HW_.out rfl rfl (by kernel_rfl) (fun _ _ _ h => h) (Or.inl ⟨by rfl, ?_⟩) hHeld ?_ ?_
                       rotate_left
                       ·rintro w' ⟨s0, s1, s2, s3⟩
                        go_simp
                        with_reducible rfl
                       rotate_left
                       ·simp only [P0, P0n, P2, P3, P4, P5, P6]
                        rfl
                       refine pu (i := 22) (N := some 79) (v := ?_) (a' := ?_) HT_.out rfl rfl (by kernel_rfl) (fun _ _ _ h => h) (Or.inl ⟨by rfl, ?_⟩) ?_ ?_
                       rotate_left; (intro w'; go_simp; with_reducible rfl); rotate_left; (simp only [P0, P0n, P2, P3, P4, P5, P6]; rfl)
                       refine pu (i := 23) (N := some 80) (v := ?_) (a' := ?_) HT_.out rfl rfl (by kernel_rfl) (fun _ _ _ h => h) (Or.inl ⟨by rfl, ?_⟩) ?_ ?_
                       rotate_left; (intro w'; go_simp; with_reducible rfl); rotate_left; (simp only [P0, P0n, P2, P3, P4, P5, P6]; rfl)
                       refine pure_ (i := 24) (N := some 81) (v := undef) (a' := ?_) #[T, T, T, T, T, T, T, T, T, T, T, T, T, T, T, T, T, T, T, T, T, T, T, T, T, F, F, F, F, F, F, F, F, F, F, F, F, F, F, F] rfl rfl (any_of HT_.out (by kernel_rfl)) (fun _ _ _ h => h) (Or.inr ⟨by rfl, rfl⟩) ?_ ?_
                       rotate_left
                       ·simp only [P0, P0n, P2, P3, P4, P5, P6]
                        rfl
                       refine pure_ (i := 25) (N := some 82) (v := undef) (a' := ?_) #[T, T, T, T, T, T, T, T, T, T, T, T, T, T, T, T, T, T, T, T, T, T, T, T, T, T, F, F, F, F, F, F, F, F, F, F, F, F, F, F] rfl rfl (any_of HT_.out (by kernel_rfl)) (fun _ _ _ h => h) (Or.inr ⟨by rfl, rfl⟩) ?_ ?_
                       rotate_left
                       ·simp only [P0, P0n, P2, P3, P4, P5, P6]
                        rfl
                       refine pure_ (i := 26) (N := some 83) (v := undef) (a' := ?_) #[T, T, T, T, T, T, T, T, T, T, T, T, T, T, T, T, T, T, T, T, T, T, T, T, T, T, T, F, F, F, F, F, F, F, F, F, F, F, F, F] rfl rfl (any_of HT_.out (by kernel_rfl)) (fun _ _ _ h => h) (Or.inr ⟨by rfl, rfl⟩) ?_ ?_
                       rotate_left
                       ·simp only [P0, P0n, P2, P3, P4, P5, P6]
                        rfl
                       refine pure_ (i := 27) (N := some 84) (v := undef) (a' := ?_) #[T, T, T, T, T, T, T, T, T, T, T, T, T, T, T, T, T, T, T, T, T, T, T, T, T, T, T, T, F, F, F, F, F, F, F, F, F, F, F, F] rfl rfl (any_of HT_.out (by kernel_rfl)) (fun _ _ _ h => h) (Or.inr ⟨by rfl, rfl⟩) ?_ ?_
                       rotate_left
                       ·simp only [P0, P0n, P2, P3, P4, P5, P6]
                        rfl
                       refine pure_ (i := 28) (N := some 85) (v := undef) (a' := ?_) #[T, T, T, T, T, T, T, T, T, T, T, T, T, T, T, T, T, T, T, T, T, T, T, T, T, T, T, T, T, F, F, F, F, F, F, F, F, F, F, F] rfl rfl (any_of HT_.out (by kernel_rfl)) (fun _ _ _ h => h) (Or.inr ⟨by rfl, rfl⟩) ?_ ?_
                       rotate_left
                       ·simp only [P0, P0n, P2, P3, P4, P5, P6]
                        rfl
                       refine pure_ (i := 29) (N := some 86) (v := undef) (a' := ?_) #[T, T, T, T, T, T, T, T, T, T, T, T, T, T, T, T, T, T, T, T, T, T, T, T, T, T, T, T, T, T, F, F, F, F, F, F, F, F, F, F] rfl rfl (any_of HT_.out (by kernel_rfl)) (fun _ _ _ h => h) (Or.inr ⟨by rfl, rfl⟩) ?_ ?_
                       rotate_left
                       ·simp only [P0, P0n, P2, P3, P4, P5, P6]
                        rfl
                       refine pure_ (i := 30) (N := some 87) (v := undef) (a' := ?_) #[T, T, T, T, T, T, T, T, T, T, T, T, T, T, T, T, T, T, T, T, T, T, T, T, T, T, T, T, T, T, T, F, F, F, F, F, F, F, F, F] rfl rfl (any_of HT_.out (by kernel_rfl)) (fun _ _ _ h => h) (Or.inr ⟨by rfl, rfl⟩) ?_ ?_
                       rotate_left
                       ·simp only [P0, P0n, P2, P3, P4, P5, P6]
                        rfl
                       refine pure_ (i := 31) (N := some 88) (v := undef) (a' := ?_) #[T, T, T, T, T, T, T, T, T, T, T, T, T, T, T, T, T, T, T, T, T, T, T, T, T, T, T, T, T, T, T, T, F, F, F, F, F, F, F, F] rfl rfl (any_of HT_.out (by kernel_rfl)) (fun _ _ _ h => h) (Or.inr ⟨by rfl, rfl⟩) ?_ ?_
                       rotate_left
                       ·simp only [P0, P0n, P2, P3, P4, P5, P6]
                        rfl
                       refine pure_ (i := 32) (N := some 89) (v := undef) (a' := ?_) #[T, T, T, T, T, T, T, T, T, T, T, T, T, T, T, T, T, T, T, T, T, T, T, T, T, T, T, T, T, T, T, T, T, F, F, F, F, F, F, F] rfl rfl (any_of HT_.out (by kernel_rfl)) (fun _ _ _ h => h) (Or.inr ⟨by rfl, rfl⟩) ?_ ?_
                       rotate_left
                       ·simp only [P0, P0n, P2, P3, P4, P5, P6]
                        rfl
                       refine pure_ (i := 33) (N := some 90) (v := undef) (a' := ?_) #[T, T, T, T, T, T, T, T, T, T, T, T, T, T, T, T, T, T, T, T, T, T, T, T, T, T, T, T, T, T, T, T, T, T, F, F, F, F, F, F] rfl rfl (any_of HT_.out (by kernel_rfl)) (fun _ _ _ h => h) (Or.inr ⟨by rfl, rfl⟩) ?_ ?_
                       rotate_left
                       ·simp only [P0, P0n, P2, P3, P4, P5, P6]
                        rfl
                       refine pure_ (i := 34) (N := some 91) (v := undef) (a' := ?_) #[T, T, T, T, T, T, T, T, T, T, T, T, T, T, T, T, T, T, T, T, T, T, T, T, T, T, T, T, T, T, T, T, T, T, T, F, F, F, F, F] rfl rfl (any_of HT_.out (by kernel_rfl)) (fun _ _ _ h => h) (Or.inr ⟨by rfl, rfl⟩) ?_ ?_
                       rotate_left
                       ·simp only [P0, P0n, P2, P3, P4, P5, P6]
                        rfl
                       refine pure_ (i := 35) (N := some 92) (v := undef) (a' := ?_) #[T, T, T, T, T, T, T, T, T, T, T, T, T, T, T, T, T, T, T, T, T, T, T, T, T, T, T, T, T, T, T, T, T, T, T, T, F, F, F, F] rfl rfl (any_of HT_.out (by kernel_rfl)) (fun _ _ _ h => h) (Or.inr ⟨by rfl, rfl⟩) ?_ ?_
                       rotate_left
                       ·simp only [P0, P0n, P2, P3, P4, P5, P6]
                        rfl
                       refine pure_ (i := 36) (N := some 93) (v := undef) (a' := ?_) #[T, T, T, T, T, T, T, T, T, T, T, T, T, T, T, T, T, T, T, T, T, T, T, T, T, T, T, T, T, T, T, T, T, T, T, T, T, F, F, F] rfl rfl (any_of HT_.out (by kernel_rfl)) (fun _ _ _ h => h) (Or.inr ⟨by rfl, rfl⟩) ?_ ?_
                       rotate_left
                       ·simp only [P0, P0n, P2, P3, P4, P5, P6]
                        rfl
                       refine pu (i := 37) (N := some 94) (v := ?_) (a' := ?_) HT_.out rfl rfl (by kernel_rfl) (fun _ _ _ h => h) (Or.inl ⟨by rfl, ?_⟩) ?_ ?_
                       rotate_left; (intro w'; go_simp; with_reducible rfl); rotate_left; (simp only [P0, P0n, P2, P3, P4, P5, P6]; rfl)
                       refine pu (i := 38) (N := some 95) (v := ?_) (a' := ?_) HT_.out rfl rfl (by kernel_rfl) (fun _ _ _ h => h) (Or.inl ⟨by rfl, ?_⟩) ?_ ?_
                       rotate_left; (intro w'; go_simp; with_reducible rfl); rotate_left; (simp only [P0, P0n, P2, P3, P4, P5, P6]; rfl)
                       refine pu (i := 39) (N := some 96) (v := ?_) (a' := ?_) HT_.out rfl rfl (by kernel_rfl) (fun _ _ _ h => h) (Or.inl ⟨by rfl, ?_⟩) ?_ ?_
                       rotate_left; (intro w'; go_simp; with_reducible rfl); rotate_left; (simp only [P0, P0n, P2, P3, P4, P5, P6]; rfl)
                       refine done_ (done_of HT_.out (by kernel_rfl)) ?_
                       try go_wp2
                       go_roundg k4
                       case measure => have := HJ2.out; have := HK2.out; have := HJ11.out; have := HK4.out; omega
                       case rel => exact ⟨(wrap64 (x52_4 + 1)), (by first | rfl | (simp; done) | (simp [*]; done)), H', ⟨by have := HJ2.out; have := HK2.out; have := HJ11.out; have := HK4.out; omega⟩, ⟨ex BK103.out⟩, ⟨by repeat (first | (with_reducible first | exact HB.out | apply below_alloc | apply pw_below_drewN | apply below_drew1 | refine below_set ?_ GE103.out | refine below_set ?_ GE108.out) | exact HB.out)⟩⟩
                    ·rw [if_neg c37] at H
                     exact absurd H (by simp)
                   ·rw [if_neg c36] at H
                    exact absurd H (by simp)
                  ·rw [if_neg c35] at H
                   exact absurd H (by simp)
                ·rw [if_neg c28] at H
                 exact absurd H (by simp)
               ·rw [if_neg c27] at H
                exact absurd H (by simp)
              ·rw [if_neg c26] at H
               have c26b0 : decide (x52_4 < (l0.length : Int)) = false := decide_eq_false c26
               clear c26
               have H' := Aside0.mk H
               clear H
               go_wp2
               go_roundg k4
               case measure => have := HJ2.out; have := HK2.out; have := HJ11.out; have := HK4.out; omega
               case rel => exact ⟨(wrap64 (x21_2 + 1)), (by first | rfl | (simp; done) | (simp [*]; done)), H', ⟨by have := HJ2.out; have := HK2.out; have := HJ11.out; have := HK4.out; omega⟩, ⟨by repeat (first | (with_reducible first | exact HB.out | apply below_alloc | apply pw_below_drewN | apply below_drew1 | refine below_set ?_ GE103.out) | exact HB.out)⟩⟩
        ·rw [if_neg c11] at H
         exact absurd H (by simp)
       ·rw [if_neg c10] at H
        exact absurd H (by simp)
      ·rw [if_neg c9] at H
       have c9b0 : decide (x21_2 < (l0.length : Int)) = false := decide_eq_false c9
       clear c9
       obtain rfl := Option.some.inj H
       go_wp2
       go_ret
       exact ⟨by first | rfl | (simp [errW_none, errW_some] <;> rfl) | (simp [*, errW_none, errW_some] <;> rfl), eb HB.out⟩

end Go.Proofs.Ytpdmimlkgmhepaa.G

/- The plain functions of this seat's Go text and, for each, that the call comes to what its plain function says: written for this claim by a program of the session (drv.py) over the kit's print.py. -/
namespace Go.Proofs.Ytpdmimlkgmhepaa.G
open Go.RowKit Go.Proofs.YtpdmimlkgmhepaaW.PrintWords Go.Proofs.YtpdmimlkgmhepaaW.PrintLast Go.Proofs.YtpdmimlkgmhepaaW.PrintMore
attribute [local go_sem] max2_int min2_int max_two min_two max_three min_three max_four min_four   -- for this text's walks alone
set_option linter.unusedVariables false
set_option linter.unusedSimpArgs false

/-! ### impl_StripCost: function 23 -/
def impl_StripCost.l0 : Nat → List Int → Int → Int → List (S54) → Int → Int → Option (Int × Int)
 | 0, _, _, _, _, _, _ => none
 | k + 1, x1, x6, x7, x14, x15, x16 => if x16 < x15 then (if 0 ≤ x16 then (if x16 < (x14.length : Int) then (if x16 < (x1.length : Int) then (impl_StripCost.l0 k x1 (wrap64 (x6 + (wrap64 ((rd x1 x16) - ((rd_T54 x14 x16).f3))))) (mx x7 (wrap64 ((rd x1 x16) - ((rd_T54 x14 x16).f3)))) x14 x15 (wrap64 (x16 + 1))) else (none)) else (none)) else (none)) else (some (x6, x7))
def impl_StripCost.f (k : Nat) (l0 : List (S54)) (l1 : List Int) : Option (Int × Int) := (impl_StripFits.f k l0 l1).bind fun t101 => (if t101 = true then (impl_StripCost.l0 k l1 0 0 l0 (l0.length : Int) 0) else (some (0, 0)))
theorem impl_StripCost.mono_l : ∀ k, (∀ y0 y1 y2 y3 y4 y5, LeO (impl_StripCost.l0 k y0 y1 y2 y3 y4 y5) (impl_StripCost.l0 (k + 1) y0 y1 y2 y3 y4 y5))
 | 0 => fun _ _ _ _ _ _ r h => by simp [impl_StripCost.l0] at h
 | k + 1 => by
  have ih0 := impl_StripCost.mono_l k
  ·intro y0 y1 y2 y3 y4 y5
   unfold impl_StripCost.l0
   repeat' first
   | (with_reducible exact ih0 _ _ _ _ _ _)
   | (with_reducible exact impl_StripFits.mono _ _ _)
   | (with_reducible exact LeO.refl _)
   | (with_reducible exact LeO.none _)
   | (with_reducible refine LeO.ite ?_ ?_)
   | (with_reducible refine LeO.bind ?_ (fun _ => ?_))
   | exact ih0 _ _ _ _ _ _
   | exact impl_StripFits.mono _ _ _
   | exact LeO.none _
   | refine LeO.ite ?_ ?_
   | refine LeO.bind ?_ (fun _ => ?_)
theorem impl_StripCost.mono : ∀ a0 a1 k, LeO (impl_StripCost.f k a0 a1) (impl_StripCost.f (k + 1) a0 a1) := by
 intro a0 a1 k
 have ih0 := impl_StripCost.mono_l k
 unfold impl_StripCost.f
 repeat' first
   | (with_reducible exact ih0 _ _ _ _ _ _)
   | (with_reducible exact impl_StripFits.mono _ _ _)
   | (with_reducible exact LeO.refl _)
   | (with_reducible exact LeO.none _)
   | (with_reducible refine LeO.ite ?_ ?_)
   | (with_reducible refine LeO.bind ?_ (fun _ => ?_))
   | exact ih0 _ _ _ _ _ _
   | exact impl_StripFits.mono _ _ _
   | exact LeO.none _
   | refine LeO.ite ?_ ?_
   | refine LeO.bind ?_ (fun _ => ?_)
set_option maxHeartbeats 8000000 in
set_option maxRecDepth 100000 in
theorem impl_StripCost.calls (k : Nat) (A0 : Option Addr) (c0 : Nat) (l0 : List (S54)) (A1 : Option Addr) (c1 : Nat) (l1 : List Int) (r1 : Int) (r2 : Int) (w : World) (hr0 : Kd.C k54 w A0 l0.length l0) (hc0 : l0.length ≤ c0) (hr1 : Kd.C (Kd.int .i64) w A1 l1.length l1) (hc1 : l1.length ≤ c1) (h : impl_StripCost.f k l0 l1 = some (r1, r2)) :
  Calls Try.prog 23 #[.slice A0 l0.length c0, .slice A1 l1.length c1] w fun e w' => e = .returned (.tuple #[.int .i64 r1, .int .i64 r2]) ∧ Below w.heap.size w w' := by
 have hu54 := Try.underlying54
 have HR0 := Aside0.mk hr0
 have HC0 := Aside0.mk hc0
 clear hr0 hc0
 have HR1 := Aside0.mk hr1
 have HC1 := Aside0.mk hc1
 clear hr1 hc1
 have HB := Aside0.mk (Below.refl w.heap.size w)
 have H : ((impl_StripFits.f k l0 l1).bind fun t101 => (if t101 = true then (impl_StripCost.l0 k l1 0 0 l0 (l0.length : Int) 0) else (some (0, 0)))) = some (r1, r2) := h
 clear h
 replace H := Option.bind_eq_some_iff.mp H
 obtain ⟨t101, A30, H⟩ := H
 replace H : (if t101 = true then (impl_StripCost.l0 k l1 0 0 l0 (l0.length : Int) 0) else (some (0, 0))) = some (r1, r2) := H
 have A3 := Aside0.mk A30
 clear A30
 by_cases c4 : t101 = true
 ·subst c4
  have H1 : (impl_StripCost.l0 k l1 0 0 l0 (l0.length : Int) 0) = some (r1, r2) := by rw [if_pos rfl] at H; exact H
  clear H
  have H := H1
  clear H1
  have H' := Aside0.mk H
  clear H
  go_enter Try.func23, Try.ntmps23
  go_wp2_with (first | (go_at_call 21; (with_reducible refine (impl_StripFits.calls k _ _ l0 _ _ l1 true _ ?side1 ?side2 ?side3 ?side4 A3.out).mono ?_); (case side1 => repeat (first | exact HR0.out | (with_reducible refine Kd.C_alloc ?_ _) | (with_reducible refine Kd.C_drewN ?_ _) | (with_reducible refine Kd.C_drew ?_))); (case side2 => exact HC0.out); (case side3 => repeat (first | exact HR1.out | (with_reducible refine Kd.C_alloc ?_ _) | (with_reducible refine Kd.C_drewN ?_ _) | (with_reducible refine Kd.C_drew ?_))); (case side4 => exact HC1.out); rintro e w5 ⟨rfl, hb⟩; have n0_ := Aside0.mk (below_step (eb HB.out) hb); clear HB; have HB := n0_; clear n0_; (try clear hb); (try clear hb2); (try clear hk); (try clear hi)))
  repeat (go_quiet (first | (go_at_call 21; (with_reducible refine (impl_StripFits.calls k _ _ l0 _ _ l1 true _ ?side1 ?side2 ?side3 ?side4 A3.out).mono ?_); (case side1 => repeat (first | exact HR0.out | (with_reducible refine Kd.C_alloc ?_ _) | (with_reducible refine Kd.C_drewN ?_ _) | (with_reducible refine Kd.C_drew ?_))); (case side2 => exact HC0.out); (case side3 => repeat (first | exact HR1.out | (with_reducible refine Kd.C_alloc ?_ _) | (with_reducible refine Kd.C_drewN ?_ _) | (with_reducible refine Kd.C_drew ?_))); (case side4 => exact HC1.out); rintro e w5 ⟨rfl, hb⟩; have n0_ := Aside0.mk (below_step (eb HB.out) hb); clear HB; have HB := n0_; clear n0_; (try clear hb); (try clear hb2); (try clear hk); (try clear hi))); try go_wp2_with (first | (go_at_call 21; (with_reducible refine (impl_StripFits.calls k _ _ l0 _ _ l1 true _ ?side1 ?side2 ?side3 ?side4 A3.out).mono ?_); (case side1 => repeat (first | exact HR0.out | (with_reducible refine Kd.C_alloc ?_ _) | (with_reducible refine Kd.C_drewN ?_ _) | (with_reducible refine Kd.C_drew ?_))); (case side2 => exact HC0.out); (case side3 => repeat (first | exact HR1.out | (with_reducible refine Kd.C_alloc ?_ _) | (with_reducible refine Kd.C_drewN ?_ _) | (with_reducible refine Kd.C_drew ?_))); (case side4 => exact HC1.out); rintro e w5 ⟨rfl, hb⟩; have n0_ := Aside0.mk (below_step (eb HB.out) hb); clear HB; have HB := n0_; clear n0_; (try clear hb); (try clear hb2); (try clear hk); (try clear hi))))
  go_loopg [6, 7, 16] k (fun kq v6 v7 v16 w' => ∃ (x6_1 : Int) (x7_1 : Int) (x16_1 : Int), v6 = .int .i64 x6_1 ∧ v7 = .int .i64 x7_1 ∧ v16 = .int .i64 x16_1 ∧ Aside0 (impl_StripCost.l0 kq l1 x6_1 x7_1 l0 (l0.length : Int) x16_1 = some (r1, r2)) ∧ Aside0 (kq ≤ k) ∧ Aside0 (Below w.heap.size w w'))
  case atStart => exact ⟨(0), (0), (0), (by first | rfl | (simp; done) | (simp [*]; done)), (by first | rfl | (simp; done) | (simp [*]; done)), (by first | rfl | (simp; done) | (simp [*]; done)), H', ⟨Nat.le_refl _⟩, ⟨eb HB.out⟩⟩
  case round =>
   clear H'
   try clear c1
   try clear c2
   try clear p2
   try clear c4
   obtain ⟨x6_1, x7_1, x16_1, rfl, rfl, rfl, HA, HK1, HB⟩ := hrel
   cases gk with
   | zero => exact absurd HA.out (by simp [impl_StripCost.l0])
   | succ k1 =>
    have H := HA.out
    clear HA
    simp only [impl_StripCost.l0] at H
    by_cases c6 : x16_1 < (l0.length : Int)
    ·rw [if_pos c6] at H
     have c6b0 : decide (x16_1 < (l0.length : Int)) = true := decide_eq_true c6
     clear c6
     by_cases c7 : 0 ≤ x16_1
     ·rw [if_pos c7] at H
      have c7b0 : decide (0 ≤ x16_1) = true := decide_eq_true c7
      clear c7
      by_cases c8 : x16_1 < (l0.length : Int)
      ·rw [if_pos c8] at H
       have c8b0 : decide (x16_1 < (l0.length : Int)) = true := decide_eq_true c8
       clear c8
       by_cases c9 : x16_1 < (l1.length : Int)
       ·rw [if_pos c9] at H
        have c9b0 : decide (x16_1 < (l1.length : Int)) = true := decide_eq_true c9
        clear c9
        obtain ⟨ji10, hji10⟩ : ∃ j_ : Int, (mx x7_1 (wrap64 ((rd l1 x16_1) - ((rd_T54 l0 x16_1).f3)))) = j_ := ⟨_, rfl⟩
        replace H : (impl_StripCost.l0 k1 l1 (wrap64 (x6_1 + (wrap64 ((rd l1 x16_1) - ((rd_T54 l0 x16_1).f3))))) ji10 l0 (l0.length : Int) (wrap64 (x16_1 + 1))) = some (r1, r2) := by first | (rw [hji10] at H; exact H) | (simp only [hji10] at H ⊢; exact H)
        have hji10_ : (if x7_1 < (wrap64 ((rd l1 x16_1) - ((rd_T54 l0 x16_1).f3))) then (wrap64 ((rd l1 x16_1) - ((rd_T54 l0 x16_1).f3))) else x7_1) = ji10 := hji10
        have H' := Aside0.mk H
        clear H
        have p102 : 0 ≤ (x16_1 : Int) := of_decide_eq_true (by first | (with_reducible assumption) | assumption)
        have q102 : x16_1 < (l0.length : Int) := of_decide_eq_true (by first | (with_reducible assumption) | assumption)
        obtain ⟨ad102, e102, hx102_0, hx102_1, hx102_2, hx102_3, hx102_4, hx102_5⟩ := at_T54 HR0.out x16_1 p102 q102
        cases e102
        replace hx102_0 := pw_cell_below HB.out hx102_0
        replace hx102_1 := pw_cell_below HB.out hx102_1
        replace hx102_2 := pw_cell_below HB.out hx102_2
        replace hx102_3 := pw_cell_below HB.out hx102_3
        replace hx102_4 := pw_cell_below HB.out hx102_4
        replace hx102_5 := pw_cell_below HB.out hx102_5
        replace p102 := eq_true p102
        replace q102 := eq_true q102
        go_upto_region 6 with (fail)
        go_cut [8, 9] (fun v8 v9 wc => ∃ gb : Nat, v8 = .int .i64 x16_1 ∧ v9 = .pointer (some ⟨gb, 0, none⟩) ∧ Aside0 (wc.heap[gb]? = some (.cells #[.string (rd_T54 l0 x16_1).f0, .bool (rd_T54 l0 x16_1).f1, .int .i64 (rd_T54 l0 x16_1).f2, .int .i64 (rd_T54 l0 x16_1).f3, .int .i64 (rd_T54 l0 x16_1).f4, .int .i64 (rd_T54 l0 x16_1).f5] 54 (0, 0))) ∧ Aside0 (Below w.heap.size w wc))
        case first =>
         go_wp2
         go_meet
         case rel => exact ⟨wr.heap.size, rfl, rfl, ⟨blk_new wr _⟩, ⟨below_alloc HB.out _⟩⟩
        case rest =>
         clear HB hx102_0 hx102_1 hx102_2 hx102_3 hx102_4 hx102_5
         obtain ⟨gb, rfl, rfl, BK, HB⟩ := hcut
         have p104 : 0 ≤ (x16_1 : Int) := of_decide_eq_true (by assumption)
         have q104 : x16_1 < (l1.length : Int) := of_decide_eq_true (by assumption)
         obtain ⟨ad104, e104, hx104_0⟩ := Kd.at_int HR1.out x16_1 p104 q104
         cases e104
         replace hx104_0 := (HB.out.cell (World.block_lt_of_cell? w _ hx104_0)).trans hx104_0
         have c3_ : wc.cell? ⟨gb, 3, none⟩ = some (.int .i64 (rd_T54 l0 x16_1).f3) := (blk_cell BK.out 3).trans rfl
         replace p104 := eq_true p104
         replace q104 := eq_true q104
         go_wp2
         go_quiet (fail)
         go_wp2
         go_quiet (fail)
         go_wp2
         go_roundg k1
         case measure => have := HK1.out; omega
         case rel => exact ⟨_, ji10, _, rfl, (by first | rfl | (simp only [← hji10] <;> (first | rfl | simp)) | (simp [*]; done)), rfl, H', ⟨by have := HK1.out; omega⟩, ⟨by repeat (first | exact HB.out | apply below_alloc | apply pw_below_drewN | apply below_drew1)⟩⟩
       ·rw [if_neg c9] at H
        exact absurd H (by simp)
      ·rw [if_neg c8] at H
       exact absurd H (by simp)
     ·rw [if_neg c7] at H
      exact absurd H (by simp)
    ·rw [if_neg c6] at H
     have c6b0 : decide (x16_1 < (l0.length : Int)) = false := decide_eq_false c6
     clear c6
     simp only [Option.some.injEq, Prod.mk.injEq] at H
     obtain ⟨rfl, rfl⟩ := H
     go_wp2
     repeat (go_quiet (fail); try go_wp2)
     go_ret2
     exact ⟨by first | rfl | (simp [errW_none, errW_some] <;> rfl) | (simp [*, errW_none, errW_some] <;> rfl), eb HB.out⟩
 ·replace c4 := Bool.eq_false_iff.mpr c4
  subst c4
  have H1 : (some (0, 0)) = some (r1, r2) := by rw [if_neg (show ¬ (false = true) by decide)] at H; exact H
  clear H
  have H := H1
  clear H1
  simp only [Option.some.injEq, Prod.mk.injEq] at H
  obtain ⟨rfl, rfl⟩ := H
  go_enter Try.func23, Try.ntmps23
  go_wp2_with (first | (go_at_call 21; (with_reducible refine (impl_StripFits.calls k _ _ l0 _ _ l1 false _ ?side1 ?side2 ?side3 ?side4 A3.out).mono ?_); (case side1 => repeat (first | exact HR0.out | (with_reducible refine Kd.C_alloc ?_ _) | (with_reducible refine Kd.C_drewN ?_ _) | (with_reducible refine Kd.C_drew ?_))); (case side2 => exact HC0.out); (case side3 => repeat (first | exact HR1.out | (with_reducible refine Kd.C_alloc ?_ _) | (with_reducible refine Kd.C_drewN ?_ _) | (with_reducible refine Kd.C_drew ?_))); (case side4 => exact HC1.out); rintro e w13 ⟨rfl, hb⟩; have n0_ := Aside0.mk (below_step (eb HB.out) hb); clear HB; have HB := n0_; clear n0_; (try clear hb); (try clear hb2); (try clear hk); (try clear hi)))
  repeat (go_quiet (first | (go_at_call 21; (with_reducible refine (impl_StripFits.calls k _ _ l0 _ _ l1 false _ ?side1 ?side2 ?side3 ?side4 A3.out).mono ?_); (case side1 => repeat (first | exact HR0.out | (with_reducible refine Kd.C_alloc ?_ _) | (with_reducible refine Kd.C_drewN ?_ _) | (with_reducible refine Kd.C_drew ?_))); (case side2 => exact HC0.out); (case side3 => repeat (first | exact HR1.out | (with_reducible refine Kd.C_alloc ?_ _) | (with_reducible refine Kd.C_drewN ?_ _) | (with_reducible refine Kd.C_drew ?_))); (case side4 => exact HC1.out); rintro e w13 ⟨rfl, hb⟩; have n0_ := Aside0.mk (below_step (eb HB.out) hb); clear HB; have HB := n0_; clear n0_; (try clear hb); (try clear hb2); (try clear hk); (try clear hi))); try go_wp2_with (first | (go_at_call 21; (with_reducible refine (impl_StripFits.calls k _ _ l0 _ _ l1 false _ ?side1 ?side2 ?side3 ?side4 A3.out).mono ?_); (case side1 => repeat (first | exact HR0.out | (with_reducible refine Kd.C_alloc ?_ _) | (with_reducible refine Kd.C_drewN ?_ _) | (with_reducible refine Kd.C_drew ?_))); (case side2 => exact HC0.out); (case side3 => repeat (first | exact HR1.out | (with_reducible refine Kd.C_alloc ?_ _) | (with_reducible refine Kd.C_drewN ?_ _) | (with_reducible refine Kd.C_drew ?_))); (case side4 => exact HC1.out); rintro e w13 ⟨rfl, hb⟩; have n0_ := Aside0.mk (below_step (eb HB.out) hb); clear HB; have HB := n0_; clear n0_; (try clear hb); (try clear hb2); (try clear hk); (try clear hi))))
  go_ret2
  exact ⟨by first | rfl | (simp [errW_none, errW_some] <;> rfl) | (simp [*, errW_none, errW_some] <;> rfl), eb HB.out⟩

end Go.Proofs.Ytpdmimlkgmhepaa.G

/- The plain functions of this seat's Go text and, for each, that the call comes to what its plain function says: written for this claim by a program of the session (drv.py) over the kit's print.py. -/
namespace Go.Proofs.Ytpdmimlkgmhepaa.G
open Go.RowKit Go.Proofs.YtpdmimlkgmhepaaW.PrintWords Go.Proofs.YtpdmimlkgmhepaaW.PrintLast Go.Proofs.YtpdmimlkgmhepaaW.PrintMore
attribute [local go_sem] max2_int min2_int max_two min_two max_three min_three max_four min_four   -- for this text's walks alone
set_option linter.unusedVariables false
set_option linter.unusedSimpArgs false

/-! ### laws_FnExactStripCost: function 6 -/
def laws_FnExactStripCost.j0 : Nat → List (S71) → List Int → List (S54) → List Int → Bool → Option (Bool)
 | 0, _, _, _, _, _ => none
 | k + 1, x0, x1, x8, x9, x45 => if x45 = true then (some false) else ((laws_toStripMoveS.f k x0).bind fun t118 => ((laws_eqStripMoveS.f k x8 t118).bind fun t121 => (if t121 = true then ((laws_toIntS.f k x1).bind fun t122 => ((laws_eqIntS.f k x9 t122).bind fun t125 => (if t125 = true then (some true) else (some false)))) else (some false))))
def laws_FnExactStripCost.f (k : Nat) (l0 : List (S71)) (l1 : List Int) : Option (Bool) := if (l1.length : Int) > 1048576 then (some true) else ((laws_szStripMoveS.f k l0 1048576).bind fun t101 => (if t101 < 0 then (some true) else ((laws_toStripMoveS.f k l0).bind fun t102 => ((laws_toIntS.f k l1).bind fun t105 => ((spec_StripCost.f k t102 t105).bind fun bt108 => ((laws_toStripMoveS.f k l0).bind fun t110 => ((laws_toIntS.f k l1).bind fun t113 => ((impl_StripCost.f k t110 t113).bind fun bt116 => (if bt116.1 = bt108.1 then (laws_FnExactStripCost.j0 k l0 l1 t110 t113 (bt116.2 != bt108.2)) else (laws_FnExactStripCost.j0 k l0 l1 t110 t113 true))))))))))
theorem laws_FnExactStripCost.mono_l : ∀ k, (∀ y0 y1 y2 y3 y4, LeO (laws_FnExactStripCost.j0 k y0 y1 y2 y3 y4) (laws_FnExactStripCost.j0 (k + 1) y0 y1 y2 y3 y4))
 | 0 => fun _ _ _ _ _ r h => by simp [laws_FnExactStripCost.j0] at h
 | k + 1 => by
  have ih0 := laws_FnExactStripCost.mono_l k
  ·intro y0 y1 y2 y3 y4
   unfold laws_FnExactStripCost.j0
   repeat' first
   | (with_reducible exact ih0 _ _ _ _ _)
   | (with_reducible exact impl_StripCost.mono _ _ _)
   | (with_reducible exact laws_eqIntS.mono _ _ _)
   | (with_reducible exact laws_eqStripMoveS.mono _ _ _)
   | (with_reducible exact laws_szStripMoveS.mono _ _ _)
   | (with_reducible exact laws_toIntS.mono _ _)
   | (with_reducible exact laws_toStripMoveS.mono _ _)
   | (with_reducible exact spec_StripCost.mono _ _ _)
   | (with_reducible exact LeO.refl _)
   | (with_reducible exact LeO.none _)
   | (with_reducible refine LeO.ite ?_ ?_)
   | (with_reducible refine LeO.bind ?_ (fun _ => ?_))
   | exact ih0 _ _ _ _ _
   | exact impl_StripCost.mono _ _ _
   | exact laws_eqIntS.mono _ _ _
   | exact laws_eqStripMoveS.mono _ _ _
   | exact laws_szStripMoveS.mono _ _ _
   | exact laws_toIntS.mono _ _
   | exact laws_toStripMoveS.mono _ _
   | exact spec_StripCost.mono _ _ _
   | exact LeO.none _
   | refine LeO.ite ?_ ?_
   | refine LeO.bind ?_ (fun _ => ?_)
theorem laws_FnExactStripCost.mono : ∀ a0 a1 k, LeO (laws_FnExactStripCost.f k a0 a1) (laws_FnExactStripCost.f (k + 1) a0 a1) := by
 intro a0 a1 k
 have ih0 := laws_FnExactStripCost.mono_l k
 unfold laws_FnExactStripCost.f
 repeat' first
   | (with_reducible exact ih0 _ _ _ _ _)
   | (with_reducible exact impl_StripCost.mono _ _ _)
   | (with_reducible exact laws_eqIntS.mono _ _ _)
   | (with_reducible exact laws_eqStripMoveS.mono _ _ _)
   | (with_reducible exact laws_szStripMoveS.mono _ _ _)
   | (with_reducible exact laws_toIntS.mono _ _)
   | (with_reducible exact laws_toStripMoveS.mono _ _)
   | (with_reducible exact spec_StripCost.mono _ _ _)
   | (with_reducible exact LeO.refl _)
   | (with_reducible exact LeO.none _)
   | (with_reducible refine LeO.ite ?_ ?_)
   | (with_reducible refine LeO.bind ?_ (fun _ => ?_))
   | exact ih0 _ _ _ _ _
   | exact impl_StripCost.mono _ _ _
   | exact laws_eqIntS.mono _ _ _
   | exact laws_eqStripMoveS.mono _ _ _
   | exact laws_szStripMoveS.mono _ _ _
   | exact laws_toIntS.mono _ _
   | exact laws_toStripMoveS.mono _ _
   | exact spec_StripCost.mono _ _ _
   | exact LeO.none _
   | refine LeO.ite ?_ ?_
   | refine LeO.bind ?_ (fun _ => ?_)
set_option maxHeartbeats 8000000 in
set_option maxRecDepth 100000 in
theorem laws_FnExactStripCost.calls (k : Nat) (A0 : Option Addr) (c0 : Nat) (l0 : List (S71)) (A1 : Option Addr) (c1 : Nat) (l1 : List Int) (r : Bool) (w : World) (hr0 : Kd.C k71 w A0 l0.length l0) (hc0 : l0.length ≤ c0) (hr1 : Kd.C (Kd.int .i64) w A1 l1.length l1) (hc1 : l1.length ≤ c1) (h : laws_FnExactStripCost.f k l0 l1 = some r) :
  Calls Try.prog 6 #[.slice A0 l0.length c0, .slice A1 l1.length c1] w fun e w' => e = .returned (.bool r) ∧ Below w.heap.size w w' := by
 have HR0 := Aside0.mk hr0
 have HC0 := Aside0.mk hc0
 clear hr0 hc0
 have HR1 := Aside0.mk hr1
 have HC1 := Aside0.mk hc1
 clear hr1 hc1
 have HB := Aside0.mk (Below.refl w.heap.size w)
 have H : (if (l1.length : Int) > 1048576 then (some true) else ((laws_szStripMoveS.f k l0 1048576).bind fun t101 => (if t101 < 0 then (some true) else ((laws_toStripMoveS.f k l0).bind fun t102 => ((laws_toIntS.f k l1).bind fun t105 => ((spec_StripCost.f k t102 t105).bind fun bt108 => ((laws_toStripMoveS.f k l0).bind fun t110 => ((laws_toIntS.f k l1).bind fun t113 => ((impl_StripCost.f k t110 t113).bind fun bt116 => (if bt116.1 = bt108.1 then (laws_FnExactStripCost.j0 k l0 l1 t110 t113 (bt116.2 != bt108.2)) else (laws_FnExactStripCost.j0 k l0 l1 t110 t113 true))))))))))) = some r := h
 clear h
 by_cases c3 : (l1.length : Int) > 1048576
 ·rw [if_pos c3] at H
  have c3b0 : decide (1048576 < (l1.length : Int)) = true := decide_eq_true c3
  have c3b1 : decide (1048576 < l1.length) = true := decide_eq_true (by omega)
  clear c3
  obtain rfl := Option.some.inj H
  go_enter Try.func6, Try.ntmps6
  go_wp2
  go_ret
  exact ⟨by first | rfl | (simp [errW_none, errW_some] <;> rfl) | (simp [*, errW_none, errW_some] <;> rfl), eb HB.out⟩
 ·rw [if_neg c3] at H
  have c3b0 : decide (1048576 < (l1.length : Int)) = false := decide_eq_false c3
  have c3b1 : decide (1048576 < l1.length) = false := decide_eq_false (by omega)
  clear c3
  replace H := Option.bind_eq_some_iff.mp H
  obtain ⟨t101, A40, H⟩ := H
  replace H : (if t101 < 0 then (some true) else ((laws_toStripMoveS.f k l0).bind fun t102 => ((laws_toIntS.f k l1).bind fun t105 => ((spec_StripCost.f k t102 t105).bind fun bt108 => ((laws_toStripMoveS.f k l0).bind fun t110 => ((laws_toIntS.f k l1).bind fun t113 => ((impl_StripCost.f k t110 t113).bind fun bt116 => (if bt116.1 = bt108.1 then (laws_FnExactStripCost.j0 k l0 l1 t110 t113 (bt116.2 != bt108.2)) else (laws_FnExactStripCost.j0 k l0 l1 t110 t113 true))))))))) = some r := H
  have A4 := Aside0.mk A40
  clear A40
  by_cases c5 : t101 < 0
  ·rw [if_pos c5] at H
   have c5b0 : decide (t101 < 0) = true := decide_eq_true c5
   clear c5
   obtain rfl := Option.some.inj H
   go_enter Try.func6, Try.ntmps6
   go_wp2_with (first | ((with_reducible refine gate_callee (f := 15) rfl ?_); refine goesL_ (some 17) rfl rfl Try.func15 (by kernel_rfl) rfl #[.slice A0 l0.length c0, .int .i64 1048576] rfl (by (try simp only [List.map_toArray, List.map_cons, List.map_nil]); first | done | rfl | (simp only [List.length_drop, List.length_take]; rfl)) ?_; (with_reducible refine (laws_szStripMoveS.calls k _ _ l0 1048576 t101 _ ?side1 ?side2 A4.out).mono ?_); (case side1 => repeat (first | exact HR0.out | (with_reducible refine Kd.C_alloc ?_ _) | (with_reducible refine Kd.C_drewN ?_ _) | (with_reducible refine Kd.C_drew ?_))); (case side2 => exact HC0.out); rintro e w6 ⟨rfl, hb⟩; refine ⟨_, rfl, ?_⟩; have n0_ := Aside0.mk (below_step (eb HB.out) hb); clear HB; have HB := n0_; clear n0_; (try clear hb); (try clear hb2); (try clear hk); (try clear hi)))
   go_ret
   exact ⟨by first | rfl | (simp [errW_none, errW_some] <;> rfl) | (simp [*, errW_none, errW_some] <;> rfl), eb HB.out⟩
  ·rw [if_neg c5] at H
   have c5b0 : decide (t101 < 0) = false := decide_eq_false c5
   clear c5
   replace H := Option.bind_eq_some_iff.mp H
   obtain ⟨t102, A70, H⟩ := H
   replace H : ((laws_toIntS.f k l1).bind fun t105 => ((spec_StripCost.f k t102 t105).bind fun bt108 => ((laws_toStripMoveS.f k l0).bind fun t110 => ((laws_toIntS.f k l1).bind fun t113 => ((impl_StripCost.f k t110 t113).bind fun bt116 => (if bt116.1 = bt108.1 then (laws_FnExactStripCost.j0 k l0 l1 t110 t113 (bt116.2 != bt108.2)) else (laws_FnExactStripCost.j0 k l0 l1 t110 t113 true))))))) = some r := H
   have A7 := Aside0.mk A70
   clear A70
   replace H := Option.bind_eq_some_iff.mp H
   obtain ⟨t105, A80, H⟩ := H
   replace H : ((spec_StripCost.f k t102 t105).bind fun bt108 => ((laws_toStripMoveS.f k l0).bind fun t110 => ((laws_toIntS.f k l1).bind fun t113 => ((impl_StripCost.f k t110 t113).bind fun bt116 => (if bt116.1 = bt108.1 then (laws_FnExactStripCost.j0 k l0 l1 t110 t113 (bt116.2 != bt108.2)) else (laws_FnExactStripCost.j0 k l0 l1 t110 t113 true)))))) = some r := H
   have A8 := Aside0.mk A80
   clear A80
   replace H := Option.bind_eq_some_iff.mp H
   obtain ⟨⟨t108, t109⟩, A90, H⟩ := H
   replace H : ((laws_toStripMoveS.f k l0).bind fun t110 => ((laws_toIntS.f k l1).bind fun t113 => ((impl_StripCost.f k t110 t113).bind fun bt116 => (if bt116.1 = t108 then (laws_FnExactStripCost.j0 k l0 l1 t110 t113 (bt116.2 != t109)) else (laws_FnExactStripCost.j0 k l0 l1 t110 t113 true))))) = some r := H
   have A9 := Aside0.mk A90
   clear A90
   replace H := Option.bind_eq_some_iff.mp H
   obtain ⟨t110, A100, H⟩ := H
   replace H : ((laws_toIntS.f k l1).bind fun t113 => ((impl_StripCost.f k t110 t113).bind fun bt116 => (if bt116.1 = t108 then (laws_FnExactStripCost.j0 k l0 l1 t110 t113 (bt116.2 != t109)) else (laws_FnExactStripCost.j0 k l0 l1 t110 t113 true)))) = some r := H
   have A10 := Aside0.mk A100
   clear A100
   replace H := Option.bind_eq_some_iff.mp H
   obtain ⟨t113, A110, H⟩ := H
   replace H : ((impl_StripCost.f k t110 t113).bind fun bt116 => (if bt116.1 = t108 then (laws_FnExactStripCost.j0 k l0 l1 t110 t113 (bt116.2 != t109)) else (laws_FnExactStripCost.j0 k l0 l1 t110 t113 true))) = some r := H
   have A11 := Aside0.mk A110
   clear A110
   replace H := Option.bind_eq_some_iff.mp H
   obtain ⟨⟨t116, t117⟩, A120, H⟩ := H
   replace H : (if t116 = t108 then (laws_FnExactStripCost.j0 k l0 l1 t110 t113 (t117 != t109)) else (laws_FnExactStripCost.j0 k l0 l1 t110 t113 true)) = some r := H
   have A12 := Aside0.mk A120
   clear A120
   have HC13 := Aside0.mk H
   clear H
   go_enter Try.func6, Try.ntmps6
   go_upto_region 11 with (first | ((with_reducible refine gate_callee (f := 15) rfl ?_); refine goesL_ (some 17) rfl rfl Try.func15 (by kernel_rfl) rfl #[.slice A0 l0.length c0, .int .i64 1048576] rfl (by (try simp only [List.map_toArray, List.map_cons, List.map_nil]); first | done | rfl | (simp only [List.length_drop, List.length_take]; rfl)) ?_; (with_reducible refine (laws_szStripMoveS.calls k _ _ l0 1048576 t101 _ ?side1 ?side2 A4.out).mono ?_); (case side1 => repeat (first | exact HR0.out | (with_reducible refine Kd.C_alloc ?_ _) | (with_reducible refine Kd.C_drewN ?_ _) | (with_reducible refine Kd.C_drew ?_))); (case side2 => exact HC0.out); rintro e w14 ⟨rfl, hb⟩; refine ⟨_, rfl, ?_⟩; have n0_ := Aside0.mk (below_step (eb HB.out) hb); clear HB; have HB := n0_; clear n0_; (try clear hb); (try clear hb2); (try clear hk); (try clear hi)) | ((with_reducible refine gate_callee (f := 17) rfl ?_); refine goesL_ (some 22) rfl rfl Try.func17 (by kernel_rfl) rfl #[.slice A0 l0.length c0] rfl (by (try simp only [List.map_toArray, List.map_cons, List.map_nil]); first | done | rfl | (simp only [List.length_drop, List.length_take]; rfl)) ?_; (with_reducible refine (laws_toStripMoveS.calls k _ _ l0 t102 _ ?side1 ?side2 A7.out).mono ?_); (case side1 => repeat (first | exact (Kd.C_below HR0.out HB.out) | (with_reducible refine Kd.C_alloc ?_ _) | (with_reducible refine Kd.C_drewN ?_ _) | (with_reducible refine Kd.C_drew ?_))); (case side2 => exact HC0.out); rintro e w15 ⟨v103, rfl, ho0, hb⟩; refine ⟨_, rfl, ?_⟩; have n0_ := Aside0.mk (Kd.R_lower ho0 (below_size (eb HB.out))); have n1_ := Aside0.mk (below_step (eb HB.out) hb); clear HB; have HO104 := n0_; have HB := n1_; clear n0_ n1_; (try clear hb); (try clear hb2); (try clear hk); (try clear hi); (try clear ho0)) | ((with_reducible refine gate_callee (f := 12) rfl ?_); refine goesL_ (some 24) rfl rfl Try.func12 (by kernel_rfl) rfl #[.slice A1 l1.length c1] rfl (by (try simp only [List.map_toArray, List.map_cons, List.map_nil]); first | done | rfl | (simp only [List.length_drop, List.length_take]; rfl)) ?_; (with_reducible refine (laws_toIntS.calls k _ _ l1 t105 _ ?side1 ?side2 A8.out).mono ?_); (case side1 => repeat (first | exact (Kd.C_below HR1.out HB.out) | (with_reducible refine Kd.C_alloc ?_ _) | (with_reducible refine Kd.C_drewN ?_ _) | (with_reducible refine Kd.C_drew ?_))); (case side2 => exact HC1.out); rintro e w16 ⟨v106, rfl, ho0, hb⟩; refine ⟨_, rfl, ?_⟩; have n0_ := Aside0.mk (Kd.R_below (er HO104.out) hb); have n1_ := Aside0.mk (Kd.R_lower ho0 (below_size (eb HB.out))); have n2_ := Aside0.mk (below_step (eb HB.out) hb); clear HO104; clear HB; have HO104 := n0_; have HO107 := n1_; have HB := n2_; clear n0_ n1_ n2_; (try clear hb); (try clear hb2); (try clear hk); (try clear hi); (try clear ho0); obtain ⟨Ao17, co17, eo17⟩ := Kd.R_slice HO104.out; subst eo17; obtain ⟨Ao18, co18, eo18⟩ := Kd.R_slice HO107.out; subst eo18) | ((with_reducible refine gate_callee (f := 22) rfl ?_); refine goesL_ (some 25) rfl rfl Try.func22 (by kernel_rfl) rfl #[.slice Ao17 t102.length co17, .slice Ao18 t105.length co18] rfl (by (try simp only [List.map_toArray, List.map_cons, List.map_nil]); first | done | rfl | (simp only [List.length_drop, List.length_take]; rfl)) ?_; (with_reducible refine (spec_StripCost.calls k _ _ t102 _ _ t105 t108 t109 _ ?side1 ?side2 ?side3 ?side4 A9.out).mono ?_); (case side1 => repeat (first | exact (Kd.R_reads' HO104.out).2.2 | (with_reducible refine Kd.C_alloc ?_ _) | (with_reducible refine Kd.C_drewN ?_ _) | (with_reducible refine Kd.C_drew ?_))); (case side2 => exact (Kd.R_reads' HO104.out).2.1); (case side3 => repeat (first | exact (Kd.R_reads' HO107.out).2.2 | (with_reducible refine Kd.C_alloc ?_ _) | (with_reducible refine Kd.C_drewN ?_ _) | (with_reducible refine Kd.C_drew ?_))); (case side4 => exact (Kd.R_reads' HO107.out).2.1); rintro e w19 ⟨rfl, hb⟩; refine ⟨_, rfl, ?_⟩; have n0_ := Aside0.mk (Kd.R_below (er HO104.out) hb); have n1_ := Aside0.mk (Kd.R_below (er HO107.out) hb); have n2_ := Aside0.mk (below_step (eb HB.out) hb); clear HO104; clear HO107; clear HB; have HO104 := n0_; have HO107 := n1_; have HB := n2_; clear n0_ n1_ n2_; (try clear hb); (try clear hb2); (try clear hk); (try clear hi)) | ((with_reducible refine gate_callee (f := 17) rfl ?_); refine goesL_ (some 29) rfl rfl Try.func17 (by kernel_rfl) rfl #[.slice A0 l0.length c0] rfl (by (try simp only [List.map_toArray, List.map_cons, List.map_nil]); first | done | rfl | (simp only [List.length_drop, List.length_take]; rfl)) ?_; (with_reducible refine (laws_toStripMoveS.calls k _ _ l0 t110 _ ?side1 ?side2 A10.out).mono ?_); (case side1 => repeat (first | exact (Kd.C_below HR0.out HB.out) | (with_reducible refine Kd.C_alloc ?_ _) | (with_reducible refine Kd.C_drewN ?_ _) | (with_reducible refine Kd.C_drew ?_))); (case side2 => exact HC0.out); rintro e w20 ⟨v111, rfl, ho0, hb⟩; refine ⟨_, rfl, ?_⟩; have n0_ := Aside0.mk (Kd.R_elder' (er HO104.out) (Kd.R_base ho0) hb); have n1_ := Aside0.mk (Kd.R_below (er HO107.out) hb); have n2_ := Aside0.mk (Kd.R_lower (Kd.R_new' ho0 (Kd.R_lt (er HO104.out))) (below_size (eb HB.out))); have n3_ := Aside0.mk (below_step (eb HB.out) hb); clear HO104; clear HO107; clear HB; have HO104 := n0_; have HO107 := n1_; have HO112 := n2_; have HB := n3_; clear n0_ n1_ n2_ n3_; (try clear hb); (try clear hb2); (try clear hk); (try clear hi); (try clear ho0)) | ((with_reducible refine gate_callee (f := 12) rfl ?_); refine goesL_ (some 31) rfl rfl Try.func12 (by kernel_rfl) rfl #[.slice A1 l1.length c1] rfl (by (try simp only [List.map_toArray, List.map_cons, List.map_nil]); first | done | rfl | (simp only [List.length_drop, List.length_take]; rfl)) ?_; (with_reducible refine (laws_toIntS.calls k _ _ l1 t113 _ ?side1 ?side2 A11.out).mono ?_); (case side1 => repeat (first | exact (Kd.C_below HR1.out HB.out) | (with_reducible refine Kd.C_alloc ?_ _) | (with_reducible refine Kd.C_drewN ?_ _) | (with_reducible refine Kd.C_drew ?_))); (case side2 => exact HC1.out); rintro e w21 ⟨v114, rfl, ho0, hb⟩; refine ⟨_, rfl, ?_⟩; have n0_ := Aside0.mk (Kd.R_below (er HO104.out) hb); have n1_ := Aside0.mk (Kd.R_elder' (er HO107.out) (Kd.R_base ho0) hb); have n2_ := Aside0.mk (Kd.R_below (er HO112.out) hb); have n3_ := Aside0.mk (Kd.R_lower (Kd.R_new' ho0 (Kd.R_lt (er HO107.out))) (below_size (eb HB.out))); have n4_ := Aside0.mk (below_step (eb HB.out) hb); clear HO104; clear HO107; clear HO112; clear HB; have HO104 := n0_; have HO107 := n1_; have HO112 := n2_; have HO115 := n3_; have HB := n4_; clear n0_ n1_ n2_ n3_ n4_; (try clear hb); (try clear hb2); (try clear hk); (try clear hi); (try clear ho0); obtain ⟨Ao22, co22, eo22⟩ := Kd.R_slice HO112.out; subst eo22; obtain ⟨Ao23, co23, eo23⟩ := Kd.R_slice HO115.out; subst eo23) | ((with_reducible refine gate_callee (f := 23) rfl ?_); refine goesL_ (some 35) rfl rfl Try.func23 (by kernel_rfl) rfl #[.slice Ao22 t110.length co22, .slice Ao23 t113.length co23] rfl (by (try simp only [List.map_toArray, List.map_cons, List.map_nil]); first | done | rfl | (simp only [List.length_drop, List.length_take]; rfl)) ?_; (with_reducible refine (impl_StripCost.calls k _ _ t110 _ _ t113 t116 t117 _ ?side1 ?side2 ?side3 ?side4 A12.out).mono ?_); (case side1 => repeat (first | exact (Kd.R_reads' HO112.out).2.2 | (with_reducible refine Kd.C_alloc ?_ _) | (with_reducible refine Kd.C_drewN ?_ _) | (with_reducible refine Kd.C_drew ?_))); (case side2 => exact (Kd.R_reads' HO112.out).2.1); (case side3 => repeat (first | exact (Kd.R_reads' HO115.out).2.2 | (with_reducible refine Kd.C_alloc ?_ _) | (with_reducible refine Kd.C_drewN ?_ _) | (with_reducible refine Kd.C_drew ?_))); (case side4 => exact (Kd.R_reads' HO115.out).2.1); rintro e w24 ⟨rfl, hb⟩; refine ⟨_, rfl, ?_⟩; have n0_ := Aside0.mk (Kd.R_below (er HO104.out) hb); have n1_ := Aside0.mk (Kd.R_below (er HO107.out) hb); have n2_ := Aside0.mk (Kd.R_below (er HO112.out) hb); have n3_ := Aside0.mk (Kd.R_below (er HO115.out) hb); have n4_ := Aside0.mk (below_step (eb HB.out) hb); clear HO104; clear HO107; clear HO112; clear HO115; clear HB; have HO104 := n0_; have HO107 := n1_; have HO112 := n2_; have HO115 := n3_; have HB := n4_; clear n0_ n1_ n2_ n3_ n4_; (try clear hb); (try clear hb2); (try clear hk); (try clear hi)))
   (try simp only [Act.put, List.setIfInBounds_toArray, List.set_cons_zero, List.set_cons_succ])
   go_cut [45] (fun v45 wc => ∃ (kq : Nat) (x45_12 : Bool), v45 = .bool x45_12 ∧ Aside0 (laws_FnExactStripCost.j0 kq l0 l1 t110 t113 x45_12 = some r) ∧ Aside0 (kq ≤ k) ∧ Aside0 (Kd.R k54 54 wc w.heap.size (fun _ => True) (.slice Ao22 t110.length co22) t110) ∧ Aside0 (Kd.R (Kd.int .i64) 3 wc w.heap.size (fun _ => True) (.slice Ao23 t113.length co23) t113) ∧ Aside0 (Below w.heap.size w wc))
   case first =>
    have H := HC13.out
    clear HC13
    by_cases c25 : t116 = t108
    ·rw [if_pos c25] at H
     have c25b0 : (t116 == t108) = true := beq_iff_eq.mpr c25
     have c25b1 : (t116 != t108) = false := bne_eq_false_iff_eq.mpr c25
     clear c25
     (first | rw [c25b0] | (simp only [i64_w, i32_w]; rw [c25b0]) | skip)
     have H' := Aside0.mk H
     clear H
     go_wp2
     go_meet
     case rel => exact ⟨_, ((t117 != t109)), (by first | rfl | (simp; done) | (simp [*]; done)), H', ⟨by first | omega | exact Nat.le_refl _⟩, ⟨by (with_reducible repeat (first | apply Kd.R_alloc | apply Kd.R_drewN | apply Kd.R_drew)); exact Kd.R_mono HO112.out (fun _ hk => trivial)⟩, ⟨by (with_reducible repeat (first | apply Kd.R_alloc | apply Kd.R_drewN | apply Kd.R_drew)); exact Kd.R_mono HO115.out (fun _ hk => trivial)⟩, ⟨eb HB.out⟩⟩
    ·rw [if_neg c25] at H
     have c25b0 : (t116 == t108) = false := beq_eq_false_iff_ne.mpr c25
     have c25b1 : (t116 != t108) = true := bne_iff_ne.mpr c25
     (first | rw [c25b0] | (simp only [i64_w, i32_w]; rw [c25b0]) | skip)
     have H' := Aside0.mk H
     clear H
     go_wp2
     go_meet
     case rel => exact ⟨_, (true), (by first | rfl | (simp; done) | (simp [*]; done)), H', ⟨by first | omega | exact Nat.le_refl _⟩, ⟨by (with_reducible repeat (first | apply Kd.R_alloc | apply Kd.R_drewN | apply Kd.R_drew)); exact Kd.R_mono HO112.out (fun _ hk => trivial)⟩, ⟨by (with_reducible repeat (first | apply Kd.R_alloc | apply Kd.R_drewN | apply Kd.R_drew)); exact Kd.R_mono HO115.out (fun _ hk => trivial)⟩, ⟨eb HB.out⟩⟩
   case rest =>
    clear HC13
    try clear c1
    try clear c2
    try clear p2
    try clear c3
    try clear c3b0
    try clear c3b1
    try clear c5
    try clear c5b0
    try clear c6
    try clear c12
    try clear c15
    try clear c17
    try clear c22
    try clear c23
    try clear c25
    try clear c25b0
    try clear c25b1
    obtain ⟨kq, x45_12, rfl, HA, HJ12, HO_8, HO_9, HB⟩ := hcut
    cases kq with
    | zero => exact absurd HA.out (by simp [laws_FnExactStripCost.j0])
    | succ kj12 =>
     have H := HA.out
     clear HA
     simp only [laws_FnExactStripCost.j0] at H
     by_cases c26 : x45_12 = true
     ·subst c26
      have H1 : (some false) = some r := by rw [if_pos rfl] at H; exact H
      clear H
      have H := H1
      clear H1
      obtain rfl := Option.some.inj H
      go_wp2
      go_ret
      exact ⟨by first | rfl | (simp [errW_none, errW_some] <;> rfl) | (simp [*, errW_none, errW_some] <;> rfl), eb HB.out⟩
     ·replace c26 := Bool.eq_false_iff.mpr c26
      subst c26
      have H1 : ((laws_toStripMoveS.f kj12 l0).bind fun t118 => ((laws_eqStripMoveS.f kj12 t110 t118).bind fun t121 => (if t121 = true then ((laws_toIntS.f kj12 l1).bind fun t122 => ((laws_eqIntS.f kj12 t113 t122).bind fun t125 => (if t125 = true then (some true) else (some false)))) else (some false)))) = some r := by rw [if_neg (show ¬ (false = true) by decide)] at H; exact H
      clear H
      have H := H1
      clear H1
      replace H := Option.bind_eq_some_iff.mp H
      obtain ⟨t118, A270, H⟩ := H
      replace H : ((laws_eqStripMoveS.f kj12 t110 t118).bind fun t121 => (if t121 = true then ((laws_toIntS.f kj12 l1).bind fun t122 => ((laws_eqIntS.f kj12 t113 t122).bind fun t125 => (if t125 = true then (some true) else (some false)))) else (some false))) = some r := H
      have A27 := Aside0.mk A270
      clear A270
      replace H := Option.bind_eq_some_iff.mp H
      obtain ⟨t121, A280, H⟩ := H
      replace H : (if t121 = true then ((laws_toIntS.f kj12 l1).bind fun t122 => ((laws_eqIntS.f kj12 t113 t122).bind fun t125 => (if t125 = true then (some true) else (some false)))) else (some false)) = some r := H
      have A28 := Aside0.mk A280
      clear A280
      by_cases c29 : t121 = true
      ·subst c29
       have H1 : ((laws_toIntS.f kj12 l1).bind fun t122 => ((laws_eqIntS.f kj12 t113 t122).bind fun t125 => (if t125 = true then (some true) else (some false)))) = some r := by rw [if_pos rfl] at H; exact H
       clear H
       have H := H1
       clear H1
       replace H := Option.bind_eq_some_iff.mp H
       obtain ⟨t122, A300, H⟩ := H
       replace H : ((laws_eqIntS.f kj12 t113 t122).bind fun t125 => (if t125 = true then (some true) else (some false))) = some r := H
       have A30 := Aside0.mk A300
       clear A300
       replace H := Option.bind_eq_some_iff.mp H
       obtain ⟨t125, A310, H⟩ := H
       replace H : (if t125 = true then (some true) else (some false)) = some r := H
       have A31 := Aside0.mk A310
       clear A310
       by_cases c32 : t125 = true
       ·subst c32
        have H1 : (some true) = some r := by rw [if_pos rfl] at H; exact H
        clear H
        have H := H1
        clear H1
        obtain rfl := Option.some.inj H
        go_wp2_with (first | ((with_reducible refine gate_callee (f := 17) rfl ?_); refine goesL_ (some 48) rfl rfl Try.func17 (by kernel_rfl) rfl #[.slice A0 l0.length c0] rfl (by (try simp only [List.map_toArray, List.map_cons, List.map_nil]); first | done | rfl | (simp only [List.length_drop, List.length_take]; rfl)) ?_; (with_reducible refine (laws_toStripMoveS.calls kj12 _ _ l0 t118 _ ?side1 ?side2 A27.out).mono ?_); (case side1 => repeat (first | exact (Kd.C_below HR0.out HB.out) | (with_reducible refine Kd.C_alloc ?_ _) | (with_reducible refine Kd.C_drewN ?_ _) | (with_reducible refine Kd.C_drew ?_))); (case side2 => exact HC0.out); rintro e w33 ⟨v119, rfl, ho0, hb⟩; refine ⟨_, rfl, ?_⟩; have n0_ := Aside0.mk (Kd.R_elder' (er HO_8.out) (Kd.R_base ho0) hb); have n1_ := Aside0.mk (Kd.R_below (er HO_9.out) hb); have n2_ := Aside0.mk (Kd.R_lower (Kd.R_new' ho0 (Kd.R_lt (er HO_8.out))) (below_size (eb HB.out))); have n3_ := Aside0.mk (below_step (eb HB.out) hb); clear HO_8; clear HO_9; clear HB; have HO_8 := n0_; have HO_9 := n1_; have HO120 := n2_; have HB := n3_; clear n0_ n1_ n2_ n3_; (try clear hb); (try clear hb2); (try clear hk); (try clear hi); (try clear ho0); obtain ⟨Ao34, co34, eo34⟩ := Kd.R_slice HO120.out; subst eo34) | ((with_reducible refine gate_callee (f := 19) rfl ?_); refine goesL_ (some 49) rfl rfl Try.func19 (by kernel_rfl) rfl #[.slice Ao22 t110.length co22, .slice Ao34 t118.length co34] rfl (by (try simp only [List.map_toArray, List.map_cons, List.map_nil]); first | done | rfl | (simp only [List.length_drop, List.length_take]; rfl)) ?_; (with_reducible refine (laws_eqStripMoveS.calls kj12 _ _ t110 _ _ t118 true _ ?side1 ?side2 ?side3 ?side4 A28.out).mono ?_); (case side1 => repeat (first | exact (Kd.R_reads' HO_8.out).2.2 | (with_reducible refine Kd.C_alloc ?_ _) | (with_reducible refine Kd.C_drewN ?_ _) | (with_reducible refine Kd.C_drew ?_))); (case side2 => exact (Kd.R_reads' HO_8.out).2.1); (case side3 => repeat (first | exact (Kd.R_reads' HO120.out).2.2 | (with_reducible refine Kd.C_alloc ?_ _) | (with_reducible refine Kd.C_drewN ?_ _) | (with_reducible refine Kd.C_drew ?_))); (case side4 => exact (Kd.R_reads' HO120.out).2.1); rintro e w35 ⟨rfl, hb⟩; refine ⟨_, rfl, ?_⟩; have n0_ := Aside0.mk (Kd.R_below (er HO_8.out) hb); have n1_ := Aside0.mk (Kd.R_below (er HO_9.out) hb); have n2_ := Aside0.mk (Kd.R_below (er HO120.out) hb); have n3_ := Aside0.mk (below_step (eb HB.out) hb); clear HO_8; clear HO_9; clear HO120; clear HB; have HO_8 := n0_; have HO_9 := n1_; have HO120 := n2_; have HB := n3_; clear n0_ n1_ n2_ n3_; (try clear hb); (try clear hb2); (try clear hk); (try clear hi)) | ((with_reducible refine gate_callee (f := 12) rfl ?_); refine goesL_ (some 53) rfl rfl Try.func12 (by kernel_rfl) rfl #[.slice A1 l1.length c1] rfl (by (try simp only [List.map_toArray, List.map_cons, List.map_nil]); first | done | rfl | (simp only [List.length_drop, List.length_take]; rfl)) ?_; (with_reducible refine (laws_toIntS.calls kj12 _ _ l1 t122 _ ?side1 ?side2 A30.out).mono ?_); (case side1 => repeat (first | exact (Kd.C_below HR1.out HB.out) | (with_reducible refine Kd.C_alloc ?_ _) | (with_reducible refine Kd.C_drewN ?_ _) | (with_reducible refine Kd.C_drew ?_))); (case side2 => exact HC1.out); rintro e w36 ⟨v123, rfl, ho0, hb⟩; refine ⟨_, rfl, ?_⟩; have n0_ := Aside0.mk (Kd.R_below (er HO_8.out) hb); have n1_ := Aside0.mk (Kd.R_elder' (er HO_9.out) (Kd.R_base ho0) hb); have n2_ := Aside0.mk (Kd.R_below (er HO120.out) hb); have n3_ := Aside0.mk (Kd.R_lower (Kd.R_new' ho0 (Kd.R_lt (er HO_9.out))) (below_size (eb HB.out))); have n4_ := Aside0.mk (below_step (eb HB.out) hb); clear HO_8; clear HO_9; clear HO120; clear HB; have HO_8 := n0_; have HO_9 := n1_; have HO120 := n2_; have HO124 := n3_; have HB := n4_; clear n0_ n1_ n2_ n3_ n4_; (try clear hb); (try clear hb2); (try clear hk); (try clear hi); (try clear ho0); obtain ⟨Ao37, co37, eo37⟩ := Kd.R_slice HO124.out; subst eo37) | ((with_reducible refine gate_callee (f := 14) rfl ?_); refine goesL_ (some 54) rfl rfl Try.func14 (by kernel_rfl) rfl #[.slice Ao23 t113.length co23, .slice Ao37 t122.length co37] rfl (by (try simp only [List.map_toArray, List.map_cons, List.map_nil]); first | done | rfl | (simp only [List.length_drop, List.length_take]; rfl)) ?_; (with_reducible refine (laws_eqIntS.calls kj12 _ _ t113 _ _ t122 true _ ?side1 ?side2 ?side3 ?side4 A31.out).mono ?_); (case side1 => repeat (first | exact (Kd.R_reads' HO_9.out).2.2 | (with_reducible refine Kd.C_alloc ?_ _) | (with_reducible refine Kd.C_drewN ?_ _) | (with_reducible refine Kd.C_drew ?_))); (case side2 => exact (Kd.R_reads' HO_9.out).2.1); (case side3 => repeat (first | exact (Kd.R_reads' HO124.out).2.2 | (with_reducible refine Kd.C_alloc ?_ _) | (with_reducible refine Kd.C_drewN ?_ _) | (with_reducible refine Kd.C_drew ?_))); (case side4 => exact (Kd.R_reads' HO124.out).2.1); rintro e w' ⟨rfl, ⟨nd, rfl⟩⟩; refine ⟨_, rfl, ?_⟩))
        go_ret
        exact ⟨by first | rfl | (simp [errW_none, errW_some] <;> rfl) | (simp [*, errW_none, errW_some] <;> rfl), eb HB.out⟩
       ·replace c32 := Bool.eq_false_iff.mpr c32
        subst c32
        have H1 : (some false) = some r := by rw [if_neg (show ¬ (false = true) by decide)] at H; exact H
        clear H
        have H := H1
        clear H1
        obtain rfl := Option.some.inj H
        go_wp2_with (first | ((with_reducible refine gate_callee (f := 17) rfl ?_); refine goesL_ (some 48) rfl rfl Try.func17 (by kernel_rfl) rfl #[.slice A0 l0.length c0] rfl (by (try simp only [List.map_toArray, List.map_cons, List.map_nil]); first | done | rfl | (simp only [List.length_drop, List.length_take]; rfl)) ?_; (with_reducible refine (laws_toStripMoveS.calls kj12 _ _ l0 t118 _ ?side1 ?side2 A27.out).mono ?_); (case side1 => repeat (first | exact (Kd.C_below HR0.out HB.out) | (with_reducible refine Kd.C_alloc ?_ _) | (with_reducible refine Kd.C_drewN ?_ _) | (with_reducible refine Kd.C_drew ?_))); (case side2 => exact HC0.out); rintro e w38 ⟨v119, rfl, ho0, hb⟩; refine ⟨_, rfl, ?_⟩; have n0_ := Aside0.mk (Kd.R_elder' (er HO_8.out) (Kd.R_base ho0) hb); have n1_ := Aside0.mk (Kd.R_below (er HO_9.out) hb); have n2_ := Aside0.mk (Kd.R_lower (Kd.R_new' ho0 (Kd.R_lt (er HO_8.out))) (below_size (eb HB.out))); have n3_ := Aside0.mk (below_step (eb HB.out) hb); clear HO_8; clear HO_9; clear HB; have HO_8 := n0_; have HO_9 := n1_; have HO120 := n2_; have HB := n3_; clear n0_ n1_ n2_ n3_; (try clear hb); (try clear hb2); (try clear hk); (try clear hi); (try clear ho0); obtain ⟨Ao39, co39, eo39⟩ := Kd.R_slice HO120.out; subst eo39) | ((with_reducible refine gate_callee (f := 19) rfl ?_); refine goesL_ (some 49) rfl rfl Try.func19 (by kernel_rfl) rfl #[.slice Ao22 t110.length co22, .slice Ao39 t118.length co39] rfl (by (try simp only [List.map_toArray, List.map_cons, List.map_nil]); first | done | rfl | (simp only [List.length_drop, List.length_take]; rfl)) ?_; (with_reducible refine (laws_eqStripMoveS.calls kj12 _ _ t110 _ _ t118 true _ ?side1 ?side2 ?side3 ?side4 A28.out).mono ?_); (case side1 => repeat (first | exact (Kd.R_reads' HO_8.out).2.2 | (with_reducible refine Kd.C_alloc ?_ _) | (with_reducible refine Kd.C_drewN ?_ _) | (with_reducible refine Kd.C_drew ?_))); (case side2 => exact (Kd.R_reads' HO_8.out).2.1); (case side3 => repeat (first | exact (Kd.R_reads' HO120.out).2.2 | (with_reducible refine Kd.C_alloc ?_ _) | (with_reducible refine Kd.C_drewN ?_ _) | (with_reducible refine Kd.C_drew ?_))); (case side4 => exact (Kd.R_reads' HO120.out).2.1); rintro e w40 ⟨rfl, hb⟩; refine ⟨_, rfl, ?_⟩; have n0_ := Aside0.mk (Kd.R_below (er HO_8.out) hb); have n1_ := Aside0.mk (Kd.R_below (er HO_9.out) hb); have n2_ := Aside0.mk (Kd.R_below (er HO120.out) hb); have n3_ := Aside0.mk (below_step (eb HB.out) hb); clear HO_8; clear HO_9; clear HO120; clear HB; have HO_8 := n0_; have HO_9 := n1_; have HO120 := n2_; have HB := n3_; clear n0_ n1_ n2_ n3_; (try clear hb); (try clear hb2); (try clear hk); (try clear hi)) | ((with_reducible refine gate_callee (f := 12) rfl ?_); refine goesL_ (some 53) rfl rfl Try.func12 (by kernel_rfl) rfl #[.slice A1 l1.length c1] rfl (by (try simp only [List.map_toArray, List.map_cons, List.map_nil]); first | done | rfl | (simp only [List.length_drop, List.length_take]; rfl)) ?_; (with_reducible refine (laws_toIntS.calls kj12 _ _ l1 t122 _ ?side1 ?side2 A30.out).mono ?_); (case side1 => repeat (first | exact (Kd.C_below HR1.out HB.out) | (with_reducible refine Kd.C_alloc ?_ _) | (with_reducible refine Kd.C_drewN ?_ _) | (with_reducible refine Kd.C_drew ?_))); (case side2 => exact HC1.out); rintro e w41 ⟨v123, rfl, ho0, hb⟩; refine ⟨_, rfl, ?_⟩; have n0_ := Aside0.mk (Kd.R_below (er HO_8.out) hb); have n1_ := Aside0.mk (Kd.R_elder' (er HO_9.out) (Kd.R_base ho0) hb); have n2_ := Aside0.mk (Kd.R_below (er HO120.out) hb); have n3_ := Aside0.mk (Kd.R_lower (Kd.R_new' ho0 (Kd.R_lt (er HO_9.out))) (below_size (eb HB.out))); have n4_ := Aside0.mk (below_step (eb HB.out) hb); clear HO_8; clear HO_9; clear HO120; clear HB; have HO_8 := n0_; have HO_9 := n1_; have HO120 := n2_; have HO124 := n3_; have HB := n4_; clear n0_ n1_ n2_ n3_ n4_; (try clear hb); (try clear hb2); (try clear hk); (try clear hi); (try clear ho0); obtain ⟨Ao42, co42, eo42⟩ := Kd.R_slice HO124.out; subst eo42) | ((with_reducible refine gate_callee (f := 14) rfl ?_); refine goesL_ (some 54) rfl rfl Try.func14 (by kernel_rfl) rfl #[.slice Ao23 t113.length co23, .slice Ao42 t122.length co42] rfl (by (try simp only [List.map_toArray, List.map_cons, List.map_nil]); first | done | rfl | (simp only [List.length_drop, List.length_take]; rfl)) ?_; (with_reducible refine (laws_eqIntS.calls kj12 _ _ t113 _ _ t122 false _ ?side1 ?side2 ?side3 ?side4 A31.out).mono ?_); (case side1 => repeat (first | exact (Kd.R_reads' HO_9.out).2.2 | (with_reducible refine Kd.C_alloc ?_ _) | (with_reducible refine Kd.C_drewN ?_ _) | (with_reducible refine Kd.C_drew ?_))); (case side2 => exact (Kd.R_reads' HO_9.out).2.1); (case side3 => repeat (first | exact (Kd.R_reads' HO124.out).2.2 | (with_reducible refine Kd.C_alloc ?_ _) | (with_reducible refine Kd.C_drewN ?_ _) | (with_reducible refine Kd.C_drew ?_))); (case side4 => exact (Kd.R_reads' HO124.out).2.1); rintro e w' ⟨rfl, ⟨nd, rfl⟩⟩; refine ⟨_, rfl, ?_⟩))
        go_ret
        exact ⟨by first | rfl | (simp [errW_none, errW_some] <;> rfl) | (simp [*, errW_none, errW_some] <;> rfl), eb HB.out⟩
      ·replace c29 := Bool.eq_false_iff.mpr c29
       subst c29
       have H1 : (some false) = some r := by rw [if_neg (show ¬ (false = true) by decide)] at H; exact H
       clear H
       have H := H1
       clear H1
       obtain rfl := Option.some.inj H
       go_wp2_with (first | ((with_reducible refine gate_callee (f := 17) rfl ?_); refine goesL_ (some 48) rfl rfl Try.func17 (by kernel_rfl) rfl #[.slice A0 l0.length c0] rfl (by (try simp only [List.map_toArray, List.map_cons, List.map_nil]); first | done | rfl | (simp only [List.length_drop, List.length_take]; rfl)) ?_; (with_reducible refine (laws_toStripMoveS.calls kj12 _ _ l0 t118 _ ?side1 ?side2 A27.out).mono ?_); (case side1 => repeat (first | exact (Kd.C_below HR0.out HB.out) | (with_reducible refine Kd.C_alloc ?_ _) | (with_reducible refine Kd.C_drewN ?_ _) | (with_reducible refine Kd.C_drew ?_))); (case side2 => exact HC0.out); rintro e w43 ⟨v119, rfl, ho0, hb⟩; refine ⟨_, rfl, ?_⟩; have n0_ := Aside0.mk (Kd.R_elder' (er HO_8.out) (Kd.R_base ho0) hb); have n1_ := Aside0.mk (Kd.R_below (er HO_9.out) hb); have n2_ := Aside0.mk (Kd.R_lower (Kd.R_new' ho0 (Kd.R_lt (er HO_8.out))) (below_size (eb HB.out))); have n3_ := Aside0.mk (below_step (eb HB.out) hb); clear HO_8; clear HO_9; clear HB; have HO_8 := n0_; have HO_9 := n1_; have HO120 := n2_; have HB := n3_; clear n0_ n1_ n2_ n3_; (try clear hb); (try clear hb2); (try clear hk); (try clear hi); (try clear ho0); obtain ⟨Ao44, co44, eo44⟩ := Kd.R_slice HO120.out; subst eo44) | ((with_reducible refine gate_callee (f := 19) rfl ?_); refine goesL_ (some 49) rfl rfl Try.func19 (by kernel_rfl) rfl #[.slice Ao22 t110.length co22, .slice Ao44 t118.length co44] rfl (by (try simp only [List.map_toArray, List.map_cons, List.map_nil]); first | done | rfl | (simp only [List.length_drop, List.length_take]; rfl)) ?_; (with_reducible refine (laws_eqStripMoveS.calls kj12 _ _ t110 _ _ t118 false _ ?side1 ?side2 ?side3 ?side4 A28.out).mono ?_); (case side1 => repeat (first | exact (Kd.R_reads' HO_8.out).2.2 | (with_reducible refine Kd.C_alloc ?_ _) | (with_reducible refine Kd.C_drewN ?_ _) | (with_reducible refine Kd.C_drew ?_))); (case side2 => exact (Kd.R_reads' HO_8.out).2.1); (case side3 => repeat (first | exact (Kd.R_reads' HO120.out).2.2 | (with_reducible refine Kd.C_alloc ?_ _) | (with_reducible refine Kd.C_drewN ?_ _) | (with_reducible refine Kd.C_drew ?_))); (case side4 => exact (Kd.R_reads' HO120.out).2.1); rintro e w45 ⟨rfl, hb⟩; refine ⟨_, rfl, ?_⟩; have n0_ := Aside0.mk (Kd.R_below (er HO_8.out) hb); have n1_ := Aside0.mk (Kd.R_below (er HO_9.out) hb); have n2_ := Aside0.mk (Kd.R_below (er HO120.out) hb); have n3_ := Aside0.mk (below_step (eb HB.out) hb); clear HO_8; clear HO_9; clear HO120; clear HB; have HO_8 := n0_; have HO_9 := n1_; have HO120 := n2_; have HB := n3_; clear n0_ n1_ n2_ n3_; (try clear hb); (try clear hb2); (try clear hk); (try clear hi)))
       go_ret
       exact ⟨by first | rfl | (simp [errW_none, errW_some] <;> rfl) | (simp [*, errW_none, errW_some] <;> rfl), eb HB.out⟩

end Go.Proofs.Ytpdmimlkgmhepaa.G

/- What comes in as a struct, a slice of structs or a book reads as plain values: shape, cells and bounds; conditions: the argument reads as data of its type. -/
namespace Go.Proofs.Ytpdmimlkgmhepaa.G
open Go.Joins Go.ChangeShapes Go.WideShapes Go.RowKit Go.Deep Go.Proofs.YtpdmimlkgmhepaaW.PrintWords

section
variable {H : Type} {enc : TypeId × Value → H} {P : Program} {w : World} {base : Nat} {spare : Nat → Bool} {held : Bool}

theorem cells_split {cs : List Value} (j : Nat) (h : j < cs.length) : (cs.drop j).take 1 = [cs[j]'h] := by
  rw [List.drop_eq_getElem_cons h]
  rfl

/-- A slice whose elements read as plain values. -/
theorem open_rows {α : Type} (d : Kd α) (Wf : α → Prop) {t e : TypeId} {fuel : Nat} {cs : List Value} {x : DataW H × List MemPlace} (ht : P.underlying t = some (.slice e)) (hC : P.cellsOf e = d.sz)
    (hel : ∀ n cs' y, DataW.trod enc P w base spare held n e cs' = some y → ∃ z : α, d.K w z cs' ∧ Wf z) (h : DataW.trod enc P w base spare held fuel t cs = some x) :
    ∃ A c xs, cs = [.slice A xs.length c] ∧ xs.length ≤ c ∧ c ≤ maxLen ∧ d.C w A xs.length xs ∧ (∀ z ∈ xs, Wf z) := by
  classical
  rcases open_slice ht h with ⟨h0, _⟩ | ⟨a, len, cap, m, n, D, Pl, hcs, hb, hl, hm, hmm, hx, hi⟩
  · refine ⟨none, 0, [], by simpa using h0, by simp, by simp [maxLen], ⟨rfl, by simp, fun h => absurd h (by simp)⟩, fun z hz => by simp at hz⟩
  · have hlm : len ≤ m := by rw [hmm]; split <;> omega
    have key : ∀ i, i < len → ∃ z : α, Wf z ∧ ∃ cs', cs'.length = d.sz ∧ d.K w z cs' ∧ ∀ j u, cs'[j]? = some u → w.cell? (a.add (i * d.sz + j)) = some u := by
      intro i hil
      obtain ⟨cs', hc, ht'⟩ := hi i (by omega)
      obtain ⟨z, hz, hw⟩ := hel _ _ _ ht'
      obtain ⟨_, hcl, hat⟩ := World.cells?_some hc
      rw [hC] at hcl hat
      refine ⟨z, hw, cs', hcl, hz, fun j u hu => ?_⟩
      have hj : j < d.sz := by
        have := (List.getElem?_eq_some_iff.1 hu).1
        omega
      have h1 := hat j hj
      rw [Go.Deep.add_add] at h1
      rw [h1, hu]
    let f : Nat → Option α := fun i => if hil : i < len then some (Classical.choose (key i hil)) else none
    have hsome : ∀ i, (h : i < len) → f i = some (Classical.choose (key i h)) := fun i h => by simp [f, h]
    let xs : List α := (List.range len).pmap (fun i h => Classical.choose (key i h)) (fun i hi => List.mem_range.1 hi)
    have hxl : xs.length = len := by simp [xs]
    have hxi : ∀ i (h : i < len), xs[i]? = some (Classical.choose (key i h)) := by
      intro i h
      have hh : i < xs.length := by omega
      rw [List.getElem?_eq_getElem hh]
      simp [xs]
    refine ⟨some a, cap, xs, by rw [hcs, hxl], by omega, hm, ⟨rfl, by rw [hxl]; simp only [maxLen] at hm; omega, fun _ => ⟨a, rfl, fun j p hj => ?_⟩⟩, fun z hz => ?_⟩
    · have hjl : j < len := by
        have := (List.getElem?_eq_some_iff.1 hj).1
        omega
      have e := hxi j hjl
      rw [hj] at e
      injection e with e
      subst e
      obtain ⟨_, cs', h1, h2, h3⟩ := Classical.choose_spec (key j hjl)
      exact ⟨cs', h1, h2, h3⟩
    · obtain ⟨j, hj, e⟩ := List.getElem_of_mem hz
      have hjl : j < len := by omega
      have e2 := hxi j hjl
      rw [List.getElem?_eq_getElem hj, e] at e2
      injection e2 with e2
      subst e2
      exact (Classical.choose_spec (key j hjl)).1

theorem open_ints_rows {t e : TypeId} {fuel : Nat} {cs : List Value} {x : DataW H × List MemPlace} (ht : P.underlying t = some (.slice e)) (he : P.underlying e = some (.int .i64)) (hC : P.cellsOf e = 1) (h : DataW.trod enc P w base spare held fuel t cs = some x) :
    ∃ A c, ∃ xs : List Int, cs = [.slice A xs.length c] ∧ xs.length ≤ c ∧ c ≤ maxLen ∧ (Kd.int .i64).C w A xs.length xs ∧ (∀ z ∈ xs, (Lit.int .i64 z).wf = true) :=
  open_rows (Kd.int .i64) (fun z => (Lit.int .i64 z).wf = true) ht hC (fun n cs' y hy => by
    obtain ⟨z, h1, _, h2⟩ := DataW.trod_int he hy
    exact ⟨z, h1, h2⟩) h
end

section
variable {H : Type} {enc : TypeId × Value → H} {w : World} {base : Nat} {spare : Nat → Bool} {held : Bool}
theorem open_move {n : Nat} {cs : List Value} {y : DataW H × List MemPlace} (h : DataW.trod enc Try.prog w base spare held n 71 cs = some y) (hl : cs.length = 6) :
    ∃ (a0 : ByteArray) (a1 : Bool) (a2 a3 a4 a5 : Int), cs = [.string a0, .bool a1, .int .i64 a2, .int .i64 a3, .int .i64 a4, .int .i64 a5] ∧ a0.size ≤ maxLen ∧
      (Lit.int .i64 a2).wf = true ∧ (Lit.int .i64 a3).wf = true ∧ (Lit.int .i64 a4).wf = true ∧ (Lit.int .i64 a5).wf = true := by
  obtain ⟨xs, n', _, _, _, hxl, hf⟩ := DataW.trod_struct Try.underlying71 h
  match cs, hl with
  | [c0, c1, c2, c3, c4, c5], _ =>
    have h0 := hf 0 _ rfl
    have h1 := hf 1 _ rfl
    have h2 := hf 2 _ rfl
    have h3 := hf 3 _ rfl
    have h4 := hf 4 _ rfl
    have h5 := hf 5 _ rfl
    have k1 : Try.prog.cellsOf 9 = 1 := by kernel_rfl
    have k2 : Try.prog.cellsOf 4 = 1 := by kernel_rfl
    have k3 : Try.prog.cellsOf 3 = 1 := by kernel_rfl
    have e0 : xs[0]? = some (xs[0]'(by rw [hxl]; decide)) := List.getElem?_eq_getElem _
    have e1 : xs[1]? = some (xs[1]'(by rw [hxl]; decide)) := List.getElem?_eq_getElem _
    have e2 : xs[2]? = some (xs[2]'(by rw [hxl]; decide)) := List.getElem?_eq_getElem _
    have e3 : xs[3]? = some (xs[3]'(by rw [hxl]; decide)) := List.getElem?_eq_getElem _
    have e4 : xs[4]? = some (xs[4]'(by rw [hxl]; decide)) := List.getElem?_eq_getElem _
    have e5 : xs[5]? = some (xs[5]'(by rw [hxl]; decide)) := List.getElem?_eq_getElem _
    obtain ⟨a0, q0, _, w0⟩ := DataW.trod_string Try.underlying9 (h0.trans e0)
    obtain ⟨a1, q1, _⟩ := DataW.trod_bool Try.underlying4 (h1.trans e1)
    obtain ⟨a2, q2, _, w2⟩ := DataW.trod_int Try.underlying3 (h2.trans e2)
    obtain ⟨a3, q3, _, w3⟩ := DataW.trod_int Try.underlying3 (h3.trans e3)
    obtain ⟨a4, q4, _, w4⟩ := DataW.trod_int Try.underlying3 (h4.trans e4)
    obtain ⟨a5, q5, _, w5⟩ := DataW.trod_int Try.underlying3 (h5.trans e5)
    simp [k1, k2, k3] at q0 q1 q2 q3 q4 q5
    subst q0 q1 q2 q3 q4 q5
    exact ⟨a0, a1, a2, a3, a4, a5, rfl, w0, w2, w3, w4, w5⟩
end
end Go.Proofs.Ytpdmimlkgmhepaa.G

/- Small plain lemmas on 'from some number of rounds on' and on numbers; no condition. -/
namespace Go.Proofs.Ytpdmimlkgmhepaa.Pure
set_option linter.unusedVariables false
set_option linter.unusedSimpArgs false
open Go.RowKit Go.Proofs.YtpdmimlkgmhepaaW.PrintWords
theorem Ev.some {α : Type} {r s : α} (h : r = s) : Ev (fun _ => some r) s := h ▸ Ev.now r
theorem Ev.eq {α : Type} {g : Nat → Option α} {r s : α} (h : Ev g r) (e : r = s) : Ev g s := e ▸ h
theorem Ev.ite {α : Type} {c : Prop} [Decidable c] {a b : Nat → Option α} {r : α} (h1 : c → Ev a r) (h2 : ¬ c → Ev b r) : Ev (fun k => if c then a k else b k) r := by
  by_cases h : c
  · simpa only [if_pos h] using h1 h
  · simpa only [if_neg h] using h2 h
theorem Ev.pos {α : Type} {c : Prop} [Decidable c] {a b : Nat → Option α} {r : α} (h : c) (h1 : Ev a r) : Ev (fun k => if c then a k else b k) r := by simpa only [if_pos h] using h1
theorem Ev.neg {α : Type} {c : Prop} [Decidable c] {a b : Nat → Option α} {r : α} (h : ¬ c) (h1 : Ev b r) : Ev (fun k => if c then a k else b k) r := by simpa only [if_neg h] using h1
/-- A call without rounds. -/
theorem Ev.call {α β : Type} {g : Option α} {f : Nat → α → Option β} {a : α} {r : β} (h : g = Option.some a) (k : Ev (fun n => f n a) r) : Ev (fun n => g.bind (f n)) r := by
  subst h
  exact k
theorem wf_range {x : Int} (h : (Lit.int .i64 x).wf = true) : -9223372036854775808 ≤ x ∧ x ≤ 9223372036854775807 := by
  exact bounds_i64 h
theorem wrap_eq {x : Int} (h : -9223372036854775808 ≤ x) (h' : x ≤ 9223372036854775807) : wrap64 x = x := by unfold wrap64; omega
end Go.Proofs.Ytpdmimlkgmhepaa.Pure
