/- FnExactStripOrder, part 6 of 6: for every input the law returns true and each argument reads behind the call as it read before; no condition -/
import Derived.Test.YtpdmimlkgmhepaaRows
import Derived.WalkKit
import Derived.ProofKit
import Derived.OpenShut
import Derived.ShutString
import Derived.ChangeOld
import Derived.Below
import Derived.SizedLaws
import Derived.Test.YtpdmimlkgmhepaaYXOrder0
import Derived.Test.YtpdmimlkgmhepaaYXOrder1
import Derived.Test.YtpdmimlkgmhepaaYXOrder2
import Derived.Test.YtpdmimlkgmhepaaYXOrder3
import Derived.Test.YtpdmimlkgmhepaaYXOrder5
/- The plain functions of this seat's Go text and, for each, that the call comes to what its plain function says: written for this claim by a program of the session (drv.py) over the kit's print.py. -/
namespace Go.Proofs.Ytpdmimlkgmhepaa.G
open Go.RowKit Go.Proofs.YtpdmimlkgmhepaaW.PrintWords Go.Proofs.YtpdmimlkgmhepaaW.PrintLast Go.Proofs.YtpdmimlkgmhepaaW.PrintMore
attribute [local go_sem] max2_int min2_int max_two min_two max_three min_three max_four min_four   -- for this text's walks alone
set_option linter.unusedVariables false
set_option linter.unusedSimpArgs false

/-! ### laws_eqStripBook: function 28 -/
def laws_eqStripBook.f (k : Nat) (a0_0 : Int) (a0_1 : Int) (l0_2 : List (S54)) (l0_3 : List Int) (a1_0 : Int) (a1_1 : Int) (l1_2 : List (S54)) (l1_3 : List Int) : Option (Bool) := if a0_0 = a1_0 then (if a0_1 = a1_1 then ((laws_eqStripMoveS.f k l0_2 l1_2).bind fun t103 => (if t103 = true then ((laws_eqIntS.f k l0_3 l1_3).bind fun t104 => (if t104 = true then (some true) else (some false))) else (some false))) else (some false)) else (some false)
theorem laws_eqStripBook.mono : ∀ a0 a1 a2 a3 a4 a5 a6 a7 k, LeO (laws_eqStripBook.f k a0 a1 a2 a3 a4 a5 a6 a7) (laws_eqStripBook.f (k + 1) a0 a1 a2 a3 a4 a5 a6 a7) := by
 intro a0 a1 a2 a3 a4 a5 a6 a7 k
 unfold laws_eqStripBook.f
 repeat' first
   | (with_reducible exact laws_eqIntS.mono _ _ _)
   | (with_reducible exact laws_eqStripMoveS.mono _ _ _)
   | (with_reducible exact LeO.refl _)
   | (with_reducible exact LeO.none _)
   | (with_reducible refine LeO.ite ?_ ?_)
   | (with_reducible refine LeO.bind ?_ (fun _ => ?_))
   | exact laws_eqIntS.mono _ _ _
   | exact laws_eqStripMoveS.mono _ _ _
   | exact LeO.none _
   | refine LeO.ite ?_ ?_
   | refine LeO.bind ?_ (fun _ => ?_)
set_option maxHeartbeats 8000000 in
set_option maxRecDepth 100000 in
theorem laws_eqStripBook.calls (k : Nat) (a0_0 : Int) (a0_1 : Int) (A0_2 : Option Addr) (c0_2 : Nat) (l0_2 : List (S54)) (A0_3 : Option Addr) (c0_3 : Nat) (l0_3 : List Int) (a1_0 : Int) (a1_1 : Int) (A1_2 : Option Addr) (c1_2 : Nat) (l1_2 : List (S54)) (A1_3 : Option Addr) (c1_3 : Nat) (l1_3 : List Int) (r : Bool) (w : World) (hr0_2 : Kd.C k54 w A0_2 l0_2.length l0_2) (hc0_2 : l0_2.length ≤ c0_2) (hr0_3 : Kd.C (Kd.int .i64) w A0_3 l0_3.length l0_3) (hc0_3 : l0_3.length ≤ c0_3) (hr1_2 : Kd.C k54 w A1_2 l1_2.length l1_2) (hc1_2 : l1_2.length ≤ c1_2) (hr1_3 : Kd.C (Kd.int .i64) w A1_3 l1_3.length l1_3) (hc1_3 : l1_3.length ≤ c1_3) (h : laws_eqStripBook.f k a0_0 a0_1 l0_2 l0_3 a1_0 a1_1 l1_2 l1_3 = some r) :
  Calls Try.prog 28 #[.agg #[.int .i64 a0_0, .int .i64 a0_1, .slice A0_2 l0_2.length c0_2, .slice A0_3 l0_3.length c0_3], .agg #[.int .i64 a1_0, .int .i64 a1_1, .slice A1_2 l1_2.length c1_2, .slice A1_3 l1_3.length c1_3]] w fun e w' => e = .returned (.bool r) ∧ Below w.heap.size w w' := by
 have hu42 := Try.underlying42
 have HR0_2 := Aside0.mk hr0_2
 have HC0_2 := Aside0.mk hc0_2
 clear hr0_2 hc0_2
 have HR0_3 := Aside0.mk hr0_3
 have HC0_3 := Aside0.mk hc0_3
 clear hr0_3 hc0_3
 have HR1_2 := Aside0.mk hr1_2
 have HC1_2 := Aside0.mk hc1_2
 clear hr1_2 hc1_2
 have HR1_3 := Aside0.mk hr1_3
 have HC1_3 := Aside0.mk hc1_3
 clear hr1_3 hc1_3
 have HB := Aside0.mk (Below.refl w.heap.size w)
 have H : (if a0_0 = a1_0 then (if a0_1 = a1_1 then ((laws_eqStripMoveS.f k l0_2 l1_2).bind fun t103 => (if t103 = true then ((laws_eqIntS.f k l0_3 l1_3).bind fun t104 => (if t104 = true then (some true) else (some false))) else (some false))) else (some false)) else (some false)) = some r := h
 clear h
 by_cases c3 : a0_0 = a1_0
 ·rw [if_pos c3] at H
  have c3b0 : (a0_0 == a1_0) = true := beq_iff_eq.mpr c3
  have c3b1 : (a0_0 != a1_0) = false := bne_eq_false_iff_eq.mpr c3
  clear c3
  by_cases c4 : a0_1 = a1_1
  ·rw [if_pos c4] at H
   have c4b0 : (a0_1 == a1_1) = true := beq_iff_eq.mpr c4
   have c4b1 : (a0_1 != a1_1) = false := bne_eq_false_iff_eq.mpr c4
   clear c4
   replace H := Option.bind_eq_some_iff.mp H
   obtain ⟨t103, A50, H⟩ := H
   replace H : (if t103 = true then ((laws_eqIntS.f k l0_3 l1_3).bind fun t104 => (if t104 = true then (some true) else (some false))) else (some false)) = some r := H
   have A5 := Aside0.mk A50
   clear A50
   by_cases c6 : t103 = true
   ·subst c6
    have H1 : ((laws_eqIntS.f k l0_3 l1_3).bind fun t104 => (if t104 = true then (some true) else (some false))) = some r := by rw [if_pos rfl] at H; exact H
    clear H
    have H := H1
    clear H1
    replace H := Option.bind_eq_some_iff.mp H
    obtain ⟨t104, A70, H⟩ := H
    replace H : (if t104 = true then (some true) else (some false)) = some r := H
    have A7 := Aside0.mk A70
    clear A70
    by_cases c8 : t104 = true
    ·subst c8
     have H1 : (some true) = some r := by rw [if_pos rfl] at H; exact H
     clear H
     have H := H1
     clear H1
     obtain rfl := Option.some.inj H
     go_enter Try.func28, Try.ntmps28
     go_wp2_with (first | ((with_reducible refine gate_dst (N := 2) rfl ?_); refine box_event ?hg (N := 2) ?hd (cs := #[.int .i64 a0_0, .int .i64 a0_1, .slice A0_2 l0_2.length c0_2, .slice A0_3 l0_3.length c0_3]) (t := 42) ?hr ?_; (case hd => rfl); (case hg => rfl); (case hr => first | (go_simp; done) | (go_simp; rfl)); intro gb101 hg w9 hbox hb; have n0_ := Aside0.mk (below_step (eb HB.out) hb); have n1_ := Aside0.mk (hbox); have n2_ := Aside0.mk ((by rw [hg]; exact (below_size (eb HB.out)) : w.heap.size ≤ gb101)); have n3_ := Aside0.mk ((by rw [hg]; exact (below_size (eb HB.out)) : w.heap.size ≤ gb101)); clear HB; have HB := n0_; have BK101 := n1_; have GW101 := n2_; have GE101 := n3_; clear n0_ n1_ n2_ n3_; clear hb hbox hg) | ((with_reducible refine gate_dst (N := 3) rfl ?_); refine box_event ?hg (N := 3) ?hd (cs := #[.int .i64 a1_0, .int .i64 a1_1, .slice A1_2 l1_2.length c1_2, .slice A1_3 l1_3.length c1_3]) (t := 42) ?hr ?_; (case hd => rfl); (case hg => rfl); (case hr => first | (go_simp; done) | (go_simp; rfl)); intro gb102 hg w10 hbox hb; have n0_ := Aside0.mk (blk_below (g := gb101) (o := .cells #[.int .i64 a0_0, .int .i64 a0_1, .slice A0_2 l0_2.length c0_2, .slice A0_3 l0_3.length c0_3] 42 (0, 0)) (ex BK101.out) hb); have n1_ := Aside0.mk (below_step (by repeat (first | (with_reducible first | exact HB.out | apply below_alloc | apply pw_below_drewN | apply below_drew1 | refine below_set ?_ GE101.out) | exact HB.out)) hb); have n2_ := Aside0.mk (hbox); have n3_ := Aside0.mk ((by rw [hg]; exact (below_size (by repeat (first | (with_reducible first | exact HB.out | apply below_alloc | apply pw_below_drewN | apply below_drew1 | refine below_set ?_ GE101.out) | exact HB.out))) : w.heap.size ≤ gb102)); have n4_ := Aside0.mk ((by rw [hg]; exact (below_size (by repeat (first | (with_reducible first | exact HB.out | apply below_alloc | apply pw_below_drewN | apply below_drew1 | refine below_set ?_ GE101.out) | exact HB.out))) : w.heap.size ≤ gb102)); have n5_ := Aside0.mk ((by rw [hg]; exact Nat.ne_of_lt (blk_lt (g := gb101) (o := .cells #[.int .i64 a0_0, .int .i64 a0_1, .slice A0_2 l0_2.length c0_2, .slice A0_3 l0_3.length c0_3] 42 (0, 0)) (ex BK101.out)) : gb101 ≠ gb102)); have n6_ := Aside0.mk ((by rw [hg]; exact Nat.ne_of_gt (blk_lt (g := gb101) (o := .cells #[.int .i64 a0_0, .int .i64 a0_1, .slice A0_2 l0_2.length c0_2, .slice A0_3 l0_3.length c0_3] 42 (0, 0)) (ex BK101.out)) : gb102 ≠ gb101)); clear BK101; clear HB; have BK101 := n0_; have HB := n1_; have BK102 := n2_; have GW102 := n3_; have GE102 := n4_; have NB101_102 := n5_; have NB102_101 := n6_; clear n0_ n1_ n2_ n3_ n4_ n5_ n6_; clear hb hbox hg; have hnb11 := NB101_102.out; have hnc11 := NB102_101.out; obtain ⟨hcz12_0, hcz12_1, hcz12_2, hcz12_3⟩ := bc4 BK101.out; obtain ⟨hfz12_0, hfz12_1, hfz12_2, hfz12_3⟩ := bf4 BK101.out; obtain ⟨hcz13_0, hcz13_1, hcz13_2, hcz13_3⟩ := bc4 BK102.out; obtain ⟨hfz13_0, hfz13_1, hfz13_2, hfz13_3⟩ := bf4 BK102.out) | ((with_reducible refine gate_callee (f := 19) rfl ?_); refine goesL_ (some 19) rfl rfl Try.func19 (by kernel_rfl) rfl #[.slice A0_2 l0_2.length c0_2, .slice A1_2 l1_2.length c1_2] rfl (by (try simp only [List.map_toArray, List.map_cons, List.map_nil]); first | done | rfl | (simp only [List.length_drop, List.length_take]; rfl)) ?_; (with_reducible refine (laws_eqStripMoveS.calls k _ _ l0_2 _ _ l1_2 true _ ?side1 ?side2 ?side3 ?side4 A5.out).mono ?_); (case side1 => repeat (first | exact (Kd.C_below HR0_2.out HB.out) | (with_reducible refine Kd.C_alloc ?_ _) | (with_reducible refine Kd.C_drewN ?_ _) | (with_reducible refine Kd.C_drew ?_))); (case side2 => exact HC0_2.out); (case side3 => repeat (first | exact (Kd.C_below HR1_2.out HB.out) | (with_reducible refine Kd.C_alloc ?_ _) | (with_reducible refine Kd.C_drewN ?_ _) | (with_reducible refine Kd.C_drew ?_))); (case side4 => exact HC1_2.out); rintro e w14 ⟨rfl, hb⟩; refine ⟨_, rfl, ?_⟩; have n0_ := Aside0.mk (blk_below (g := gb101) (o := .cells #[.int .i64 a0_0, .int .i64 a0_1, .slice A0_2 l0_2.length c0_2, .slice A0_3 l0_3.length c0_3] 42 (0, 0)) (ex BK101.out) hb); have n1_ := Aside0.mk (blk_below (g := gb102) (o := .cells #[.int .i64 a1_0, .int .i64 a1_1, .slice A1_2 l1_2.length c1_2, .slice A1_3 l1_3.length c1_3] 42 (0, 0)) (ex BK102.out) hb); have n2_ := Aside0.mk (below_step (by repeat (first | (with_reducible first | exact HB.out | apply below_alloc | apply pw_below_drewN | apply below_drew1 | refine below_set ?_ GE101.out | refine below_set ?_ GE102.out) | exact HB.out)) hb); clear BK101; clear BK102; clear HB; have BK101 := n0_; have BK102 := n1_; have HB := n2_; clear n0_ n1_ n2_; (try clear hb); (try clear hb2); (try clear hk); (try clear hi); obtain ⟨hcz15_0, hcz15_1, hcz15_2, hcz15_3⟩ := bc4 BK101.out; obtain ⟨hfz15_0, hfz15_1, hfz15_2, hfz15_3⟩ := bf4 BK101.out; obtain ⟨hcz16_0, hcz16_1, hcz16_2, hcz16_3⟩ := bc4 BK102.out; obtain ⟨hfz16_0, hfz16_1, hfz16_2, hfz16_3⟩ := bf4 BK102.out) | ((with_reducible refine gate_callee (f := 14) rfl ?_); refine goesL_ (some 25) rfl rfl Try.func14 (by kernel_rfl) rfl #[.slice A0_3 l0_3.length c0_3, .slice A1_3 l1_3.length c1_3] rfl (by (try simp only [List.map_toArray, List.map_cons, List.map_nil]); first | done | rfl | (simp only [List.length_drop, List.length_take]; rfl)) ?_; (with_reducible refine (laws_eqIntS.calls k _ _ l0_3 _ _ l1_3 true _ ?side1 ?side2 ?side3 ?side4 A7.out).mono ?_); (case side1 => repeat (first | exact (Kd.C_below HR0_3.out HB.out) | (with_reducible refine Kd.C_alloc ?_ _) | (with_reducible refine Kd.C_drewN ?_ _) | (with_reducible refine Kd.C_drew ?_))); (case side2 => exact HC0_3.out); (case side3 => repeat (first | exact (Kd.C_below HR1_3.out HB.out) | (with_reducible refine Kd.C_alloc ?_ _) | (with_reducible refine Kd.C_drewN ?_ _) | (with_reducible refine Kd.C_drew ?_))); (case side4 => exact HC1_3.out); rintro e w' ⟨rfl, ⟨nd, rfl⟩⟩; refine ⟨_, rfl, ?_⟩))
     go_ret
     exact ⟨by first | rfl | (simp [errW_none, errW_some] <;> rfl) | (simp [*, errW_none, errW_some] <;> rfl), by repeat (first | (with_reducible first | exact HB.out | apply below_alloc | apply pw_below_drewN | apply below_drew1 | refine below_set ?_ GE101.out | refine below_set ?_ GE102.out) | exact HB.out)⟩
    ·replace c8 := Bool.eq_false_iff.mpr c8
     subst c8
     have H1 : (some false) = some r := by rw [if_neg (show ¬ (false = true) by decide)] at H; exact H
     clear H
     have H := H1
     clear H1
     obtain rfl := Option.some.inj H
     go_enter Try.func28, Try.ntmps28
     go_wp2_with (first | ((with_reducible refine gate_dst (N := 2) rfl ?_); refine box_event ?hg (N := 2) ?hd (cs := #[.int .i64 a0_0, .int .i64 a0_1, .slice A0_2 l0_2.length c0_2, .slice A0_3 l0_3.length c0_3]) (t := 42) ?hr ?_; (case hd => rfl); (case hg => rfl); (case hr => first | (go_simp; done) | (go_simp; rfl)); intro gb101 hg w17 hbox hb; have n0_ := Aside0.mk (below_step (eb HB.out) hb); have n1_ := Aside0.mk (hbox); have n2_ := Aside0.mk ((by rw [hg]; exact (below_size (eb HB.out)) : w.heap.size ≤ gb101)); have n3_ := Aside0.mk ((by rw [hg]; exact (below_size (eb HB.out)) : w.heap.size ≤ gb101)); clear HB; have HB := n0_; have BK101 := n1_; have GW101 := n2_; have GE101 := n3_; clear n0_ n1_ n2_ n3_; clear hb hbox hg) | ((with_reducible refine gate_dst (N := 3) rfl ?_); refine box_event ?hg (N := 3) ?hd (cs := #[.int .i64 a1_0, .int .i64 a1_1, .slice A1_2 l1_2.length c1_2, .slice A1_3 l1_3.length c1_3]) (t := 42) ?hr ?_; (case hd => rfl); (case hg => rfl); (case hr => first | (go_simp; done) | (go_simp; rfl)); intro gb102 hg w18 hbox hb; have n0_ := Aside0.mk (blk_below (g := gb101) (o := .cells #[.int .i64 a0_0, .int .i64 a0_1, .slice A0_2 l0_2.length c0_2, .slice A0_3 l0_3.length c0_3] 42 (0, 0)) (ex BK101.out) hb); have n1_ := Aside0.mk (below_step (by repeat (first | (with_reducible first | exact HB.out | apply below_alloc | apply pw_below_drewN | apply below_drew1 | refine below_set ?_ GE101.out) | exact HB.out)) hb); have n2_ := Aside0.mk (hbox); have n3_ := Aside0.mk ((by rw [hg]; exact (below_size (by repeat (first | (with_reducible first | exact HB.out | apply below_alloc | apply pw_below_drewN | apply below_drew1 | refine below_set ?_ GE101.out) | exact HB.out))) : w.heap.size ≤ gb102)); have n4_ := Aside0.mk ((by rw [hg]; exact (below_size (by repeat (first | (with_reducible first | exact HB.out | apply below_alloc | apply pw_below_drewN | apply below_drew1 | refine below_set ?_ GE101.out) | exact HB.out))) : w.heap.size ≤ gb102)); have n5_ := Aside0.mk ((by rw [hg]; exact Nat.ne_of_lt (blk_lt (g := gb101) (o := .cells #[.int .i64 a0_0, .int .i64 a0_1, .slice A0_2 l0_2.length c0_2, .slice A0_3 l0_3.length c0_3] 42 (0, 0)) (ex BK101.out)) : gb101 ≠ gb102)); have n6_ := Aside0.mk ((by rw [hg]; exact Nat.ne_of_gt (blk_lt (g := gb101) (o := .cells #[.int .i64 a0_0, .int .i64 a0_1, .slice A0_2 l0_2.length c0_2, .slice A0_3 l0_3.length c0_3] 42 (0, 0)) (ex BK101.out)) : gb102 ≠ gb101)); clear BK101; clear HB; have BK101 := n0_; have HB := n1_; have BK102 := n2_; have GW102 := n3_; have GE102 := n4_; have NB101_102 := n5_; have NB102_101 := n6_; clear n0_ n1_ n2_ n3_ n4_ n5_ n6_; clear hb hbox hg; have hnb19 := NB101_102.out; have hnc19 := NB102_101.out; obtain ⟨hcz20_0, hcz20_1, hcz20_2, hcz20_3⟩ := bc4 BK101.out; obtain ⟨hfz20_0, hfz20_1, hfz20_2, hfz20_3⟩ := bf4 BK101.out; obtain ⟨hcz21_0, hcz21_1, hcz21_2, hcz21_3⟩ := bc4 BK102.out; obtain ⟨hfz21_0, hfz21_1, hfz21_2, hfz21_3⟩ := bf4 BK102.out) | ((with_reducible refine gate_callee (f := 19) rfl ?_); refine goesL_ (some 19) rfl rfl Try.func19 (by kernel_rfl) rfl #[.slice A0_2 l0_2.length c0_2, .slice A1_2 l1_2.length c1_2] rfl (by (try simp only [List.map_toArray, List.map_cons, List.map_nil]); first | done | rfl | (simp only [List.length_drop, List.length_take]; rfl)) ?_; (with_reducible refine (laws_eqStripMoveS.calls k _ _ l0_2 _ _ l1_2 true _ ?side1 ?side2 ?side3 ?side4 A5.out).mono ?_); (case side1 => repeat (first | exact (Kd.C_below HR0_2.out HB.out) | (with_reducible refine Kd.C_alloc ?_ _) | (with_reducible refine Kd.C_drewN ?_ _) | (with_reducible refine Kd.C_drew ?_))); (case side2 => exact HC0_2.out); (case side3 => repeat (first | exact (Kd.C_below HR1_2.out HB.out) | (with_reducible refine Kd.C_alloc ?_ _) | (with_reducible refine Kd.C_drewN ?_ _) | (with_reducible refine Kd.C_drew ?_))); (case side4 => exact HC1_2.out); rintro e w22 ⟨rfl, hb⟩; refine ⟨_, rfl, ?_⟩; have n0_ := Aside0.mk (blk_below (g := gb101) (o := .cells #[.int .i64 a0_0, .int .i64 a0_1, .slice A0_2 l0_2.length c0_2, .slice A0_3 l0_3.length c0_3] 42 (0, 0)) (ex BK101.out) hb); have n1_ := Aside0.mk (blk_below (g := gb102) (o := .cells #[.int .i64 a1_0, .int .i64 a1_1, .slice A1_2 l1_2.length c1_2, .slice A1_3 l1_3.length c1_3] 42 (0, 0)) (ex BK102.out) hb); have n2_ := Aside0.mk (below_step (by repeat (first | (with_reducible first | exact HB.out | apply below_alloc | apply pw_below_drewN | apply below_drew1 | refine below_set ?_ GE101.out | refine below_set ?_ GE102.out) | exact HB.out)) hb); clear BK101; clear BK102; clear HB; have BK101 := n0_; have BK102 := n1_; have HB := n2_; clear n0_ n1_ n2_; (try clear hb); (try clear hb2); (try clear hk); (try clear hi); obtain ⟨hcz23_0, hcz23_1, hcz23_2, hcz23_3⟩ := bc4 BK101.out; obtain ⟨hfz23_0, hfz23_1, hfz23_2, hfz23_3⟩ := bf4 BK101.out; obtain ⟨hcz24_0, hcz24_1, hcz24_2, hcz24_3⟩ := bc4 BK102.out; obtain ⟨hfz24_0, hfz24_1, hfz24_2, hfz24_3⟩ := bf4 BK102.out) | ((with_reducible refine gate_callee (f := 14) rfl ?_); refine goesL_ (some 25) rfl rfl Try.func14 (by kernel_rfl) rfl #[.slice A0_3 l0_3.length c0_3, .slice A1_3 l1_3.length c1_3] rfl (by (try simp only [List.map_toArray, List.map_cons, List.map_nil]); first | done | rfl | (simp only [List.length_drop, List.length_take]; rfl)) ?_; (with_reducible refine (laws_eqIntS.calls k _ _ l0_3 _ _ l1_3 false _ ?side1 ?side2 ?side3 ?side4 A7.out).mono ?_); (case side1 => repeat (first | exact (Kd.C_below HR0_3.out HB.out) | (with_reducible refine Kd.C_alloc ?_ _) | (with_reducible refine Kd.C_drewN ?_ _) | (with_reducible refine Kd.C_drew ?_))); (case side2 => exact HC0_3.out); (case side3 => repeat (first | exact (Kd.C_below HR1_3.out HB.out) | (with_reducible refine Kd.C_alloc ?_ _) | (with_reducible refine Kd.C_drewN ?_ _) | (with_reducible refine Kd.C_drew ?_))); (case side4 => exact HC1_3.out); rintro e w' ⟨rfl, ⟨nd, rfl⟩⟩; refine ⟨_, rfl, ?_⟩))
     go_ret
     exact ⟨by first | rfl | (simp [errW_none, errW_some] <;> rfl) | (simp [*, errW_none, errW_some] <;> rfl), by repeat (first | (with_reducible first | exact HB.out | apply below_alloc | apply pw_below_drewN | apply below_drew1 | refine below_set ?_ GE101.out | refine below_set ?_ GE102.out) | exact HB.out)⟩
   ·replace c6 := Bool.eq_false_iff.mpr c6
    subst c6
    have H1 : (some false) = some r := by rw [if_neg (show ¬ (false = true) by decide)] at H; exact H
    clear H
    have H := H1
    clear H1
    obtain rfl := Option.some.inj H
    go_enter Try.func28, Try.ntmps28
    go_wp2_with (first | ((with_reducible refine gate_dst (N := 2) rfl ?_); refine box_event ?hg (N := 2) ?hd (cs := #[.int .i64 a0_0, .int .i64 a0_1, .slice A0_2 l0_2.length c0_2, .slice A0_3 l0_3.length c0_3]) (t := 42) ?hr ?_; (case hd => rfl); (case hg => rfl); (case hr => first | (go_simp; done) | (go_simp; rfl)); intro gb101 hg w25 hbox hb; have n0_ := Aside0.mk (below_step (eb HB.out) hb); have n1_ := Aside0.mk (hbox); have n2_ := Aside0.mk ((by rw [hg]; exact (below_size (eb HB.out)) : w.heap.size ≤ gb101)); have n3_ := Aside0.mk ((by rw [hg]; exact (below_size (eb HB.out)) : w.heap.size ≤ gb101)); clear HB; have HB := n0_; have BK101 := n1_; have GW101 := n2_; have GE101 := n3_; clear n0_ n1_ n2_ n3_; clear hb hbox hg) | ((with_reducible refine gate_dst (N := 3) rfl ?_); refine box_event ?hg (N := 3) ?hd (cs := #[.int .i64 a1_0, .int .i64 a1_1, .slice A1_2 l1_2.length c1_2, .slice A1_3 l1_3.length c1_3]) (t := 42) ?hr ?_; (case hd => rfl); (case hg => rfl); (case hr => first | (go_simp; done) | (go_simp; rfl)); intro gb102 hg w26 hbox hb; have n0_ := Aside0.mk (blk_below (g := gb101) (o := .cells #[.int .i64 a0_0, .int .i64 a0_1, .slice A0_2 l0_2.length c0_2, .slice A0_3 l0_3.length c0_3] 42 (0, 0)) (ex BK101.out) hb); have n1_ := Aside0.mk (below_step (by repeat (first | (with_reducible first | exact HB.out | apply below_alloc | apply pw_below_drewN | apply below_drew1 | refine below_set ?_ GE101.out) | exact HB.out)) hb); have n2_ := Aside0.mk (hbox); have n3_ := Aside0.mk ((by rw [hg]; exact (below_size (by repeat (first | (with_reducible first | exact HB.out | apply below_alloc | apply pw_below_drewN | apply below_drew1 | refine below_set ?_ GE101.out) | exact HB.out))) : w.heap.size ≤ gb102)); have n4_ := Aside0.mk ((by rw [hg]; exact (below_size (by repeat (first | (with_reducible first | exact HB.out | apply below_alloc | apply pw_below_drewN | apply below_drew1 | refine below_set ?_ GE101.out) | exact HB.out))) : w.heap.size ≤ gb102)); have n5_ := Aside0.mk ((by rw [hg]; exact Nat.ne_of_lt (blk_lt (g := gb101) (o := .cells #[.int .i64 a0_0, .int .i64 a0_1, .slice A0_2 l0_2.length c0_2, .slice A0_3 l0_3.length c0_3] 42 (0, 0)) (ex BK101.out)) : gb101 ≠ gb102)); have n6_ := Aside0.mk ((by rw [hg]; exact Nat.ne_of_gt (blk_lt (g := gb101) (o := .cells #[.int .i64 a0_0, .int .i64 a0_1, .slice A0_2 l0_2.length c0_2, .slice A0_3 l0_3.length c0_3] 42 (0, 0)) (ex BK101.out)) : gb102 ≠ gb101)); clear BK101; clear HB; have BK101 := n0_; have HB := n1_; have BK102 := n2_; have GW102 := n3_; have GE102 := n4_; have NB101_102 := n5_; have NB102_101 := n6_; clear n0_ n1_ n2_ n3_ n4_ n5_ n6_; clear hb hbox hg; have hnb27 := NB101_102.out; have hnc27 := NB102_101.out; obtain ⟨hcz28_0, hcz28_1, hcz28_2, hcz28_3⟩ := bc4 BK101.out; obtain ⟨hfz28_0, hfz28_1, hfz28_2, hfz28_3⟩ := bf4 BK101.out; obtain ⟨hcz29_0, hcz29_1, hcz29_2, hcz29_3⟩ := bc4 BK102.out; obtain ⟨hfz29_0, hfz29_1, hfz29_2, hfz29_3⟩ := bf4 BK102.out) | ((with_reducible refine gate_callee (f := 19) rfl ?_); refine goesL_ (some 19) rfl rfl Try.func19 (by kernel_rfl) rfl #[.slice A0_2 l0_2.length c0_2, .slice A1_2 l1_2.length c1_2] rfl (by (try simp only [List.map_toArray, List.map_cons, List.map_nil]); first | done | rfl | (simp only [List.length_drop, List.length_take]; rfl)) ?_; (with_reducible refine (laws_eqStripMoveS.calls k _ _ l0_2 _ _ l1_2 false _ ?side1 ?side2 ?side3 ?side4 A5.out).mono ?_); (case side1 => repeat (first | exact (Kd.C_below HR0_2.out HB.out) | (with_reducible refine Kd.C_alloc ?_ _) | (with_reducible refine Kd.C_drewN ?_ _) | (with_reducible refine Kd.C_drew ?_))); (case side2 => exact HC0_2.out); (case side3 => repeat (first | exact (Kd.C_below HR1_2.out HB.out) | (with_reducible refine Kd.C_alloc ?_ _) | (with_reducible refine Kd.C_drewN ?_ _) | (with_reducible refine Kd.C_drew ?_))); (case side4 => exact HC1_2.out); rintro e w30 ⟨rfl, hb⟩; refine ⟨_, rfl, ?_⟩; have n0_ := Aside0.mk (blk_below (g := gb101) (o := .cells #[.int .i64 a0_0, .int .i64 a0_1, .slice A0_2 l0_2.length c0_2, .slice A0_3 l0_3.length c0_3] 42 (0, 0)) (ex BK101.out) hb); have n1_ := Aside0.mk (blk_below (g := gb102) (o := .cells #[.int .i64 a1_0, .int .i64 a1_1, .slice A1_2 l1_2.length c1_2, .slice A1_3 l1_3.length c1_3] 42 (0, 0)) (ex BK102.out) hb); have n2_ := Aside0.mk (below_step (by repeat (first | (with_reducible first | exact HB.out | apply below_alloc | apply pw_below_drewN | apply below_drew1 | refine below_set ?_ GE101.out | refine below_set ?_ GE102.out) | exact HB.out)) hb); clear BK101; clear BK102; clear HB; have BK101 := n0_; have BK102 := n1_; have HB := n2_; clear n0_ n1_ n2_; (try clear hb); (try clear hb2); (try clear hk); (try clear hi)))
    go_ret
    exact ⟨by first | rfl | (simp [errW_none, errW_some] <;> rfl) | (simp [*, errW_none, errW_some] <;> rfl), by repeat (first | (with_reducible first | exact HB.out | apply below_alloc | apply pw_below_drewN | apply below_drew1 | refine below_set ?_ GE101.out | refine below_set ?_ GE102.out) | exact HB.out)⟩
  ·rw [if_neg c4] at H
   have c4b0 : (a0_1 == a1_1) = false := beq_eq_false_iff_ne.mpr c4
   have c4b1 : (a0_1 != a1_1) = true := bne_iff_ne.mpr c4
   obtain rfl := Option.some.inj H
   go_enter Try.func28, Try.ntmps28
   go_wp2_with (first | ((with_reducible refine gate_dst (N := 2) rfl ?_); refine box_event ?hg (N := 2) ?hd (cs := #[.int .i64 a0_0, .int .i64 a0_1, .slice A0_2 l0_2.length c0_2, .slice A0_3 l0_3.length c0_3]) (t := 42) ?hr ?_; (case hd => rfl); (case hg => rfl); (case hr => first | (go_simp; done) | (go_simp; rfl)); intro gb101 hg w31 hbox hb; have n0_ := Aside0.mk (below_step (eb HB.out) hb); have n1_ := Aside0.mk (hbox); have n2_ := Aside0.mk ((by rw [hg]; exact (below_size (eb HB.out)) : w.heap.size ≤ gb101)); have n3_ := Aside0.mk ((by rw [hg]; exact (below_size (eb HB.out)) : w.heap.size ≤ gb101)); clear HB; have HB := n0_; have BK101 := n1_; have GW101 := n2_; have GE101 := n3_; clear n0_ n1_ n2_ n3_; clear hb hbox hg) | ((with_reducible refine gate_dst (N := 3) rfl ?_); refine box_event ?hg (N := 3) ?hd (cs := #[.int .i64 a1_0, .int .i64 a1_1, .slice A1_2 l1_2.length c1_2, .slice A1_3 l1_3.length c1_3]) (t := 42) ?hr ?_; (case hd => rfl); (case hg => rfl); (case hr => first | (go_simp; done) | (go_simp; rfl)); intro gb102 hg w32 hbox hb; have n0_ := Aside0.mk (blk_below (g := gb101) (o := .cells #[.int .i64 a0_0, .int .i64 a0_1, .slice A0_2 l0_2.length c0_2, .slice A0_3 l0_3.length c0_3] 42 (0, 0)) (ex BK101.out) hb); have n1_ := Aside0.mk (below_step (by repeat (first | (with_reducible first | exact HB.out | apply below_alloc | apply pw_below_drewN | apply below_drew1 | refine below_set ?_ GE101.out) | exact HB.out)) hb); have n2_ := Aside0.mk (hbox); have n3_ := Aside0.mk ((by rw [hg]; exact (below_size (by repeat (first | (with_reducible first | exact HB.out | apply below_alloc | apply pw_below_drewN | apply below_drew1 | refine below_set ?_ GE101.out) | exact HB.out))) : w.heap.size ≤ gb102)); have n4_ := Aside0.mk ((by rw [hg]; exact (below_size (by repeat (first | (with_reducible first | exact HB.out | apply below_alloc | apply pw_below_drewN | apply below_drew1 | refine below_set ?_ GE101.out) | exact HB.out))) : w.heap.size ≤ gb102)); have n5_ := Aside0.mk ((by rw [hg]; exact Nat.ne_of_lt (blk_lt (g := gb101) (o := .cells #[.int .i64 a0_0, .int .i64 a0_1, .slice A0_2 l0_2.length c0_2, .slice A0_3 l0_3.length c0_3] 42 (0, 0)) (ex BK101.out)) : gb101 ≠ gb102)); have n6_ := Aside0.mk ((by rw [hg]; exact Nat.ne_of_gt (blk_lt (g := gb101) (o := .cells #[.int .i64 a0_0, .int .i64 a0_1, .slice A0_2 l0_2.length c0_2, .slice A0_3 l0_3.length c0_3] 42 (0, 0)) (ex BK101.out)) : gb102 ≠ gb101)); clear BK101; clear HB; have BK101 := n0_; have HB := n1_; have BK102 := n2_; have GW102 := n3_; have GE102 := n4_; have NB101_102 := n5_; have NB102_101 := n6_; clear n0_ n1_ n2_ n3_ n4_ n5_ n6_; clear hb hbox hg; have hnb33 := NB101_102.out; have hnc33 := NB102_101.out; obtain ⟨hcz34_0, hcz34_1, hcz34_2, hcz34_3⟩ := bc4 BK101.out; obtain ⟨hfz34_0, hfz34_1, hfz34_2, hfz34_3⟩ := bf4 BK101.out; obtain ⟨hcz35_0, hcz35_1, hcz35_2, hcz35_3⟩ := bc4 BK102.out; obtain ⟨hfz35_0, hfz35_1, hfz35_2, hfz35_3⟩ := bf4 BK102.out))
   go_ret
   exact ⟨by first | rfl | (simp [errW_none, errW_some] <;> rfl) | (simp [*, errW_none, errW_some] <;> rfl), by repeat (first | (with_reducible first | exact HB.out | apply below_alloc | apply pw_below_drewN | apply below_drew1 | refine below_set ?_ GE101.out | refine below_set ?_ GE102.out) | exact HB.out)⟩
 ·rw [if_neg c3] at H
  have c3b0 : (a0_0 == a1_0) = false := beq_eq_false_iff_ne.mpr c3
  have c3b1 : (a0_0 != a1_0) = true := bne_iff_ne.mpr c3
  obtain rfl := Option.some.inj H
  go_enter Try.func28, Try.ntmps28
  go_wp2_with (first | ((with_reducible refine gate_dst (N := 2) rfl ?_); refine box_event ?hg (N := 2) ?hd (cs := #[.int .i64 a0_0, .int .i64 a0_1, .slice A0_2 l0_2.length c0_2, .slice A0_3 l0_3.length c0_3]) (t := 42) ?hr ?_; (case hd => rfl); (case hg => rfl); (case hr => first | (go_simp; done) | (go_simp; rfl)); intro gb101 hg w36 hbox hb; have n0_ := Aside0.mk (below_step (eb HB.out) hb); have n1_ := Aside0.mk (hbox); have n2_ := Aside0.mk ((by rw [hg]; exact (below_size (eb HB.out)) : w.heap.size ≤ gb101)); have n3_ := Aside0.mk ((by rw [hg]; exact (below_size (eb HB.out)) : w.heap.size ≤ gb101)); clear HB; have HB := n0_; have BK101 := n1_; have GW101 := n2_; have GE101 := n3_; clear n0_ n1_ n2_ n3_; clear hb hbox hg) | ((with_reducible refine gate_dst (N := 3) rfl ?_); refine box_event ?hg (N := 3) ?hd (cs := #[.int .i64 a1_0, .int .i64 a1_1, .slice A1_2 l1_2.length c1_2, .slice A1_3 l1_3.length c1_3]) (t := 42) ?hr ?_; (case hd => rfl); (case hg => rfl); (case hr => first | (go_simp; done) | (go_simp; rfl)); intro gb102 hg w37 hbox hb; have n0_ := Aside0.mk (blk_below (g := gb101) (o := .cells #[.int .i64 a0_0, .int .i64 a0_1, .slice A0_2 l0_2.length c0_2, .slice A0_3 l0_3.length c0_3] 42 (0, 0)) (ex BK101.out) hb); have n1_ := Aside0.mk (below_step (by repeat (first | (with_reducible first | exact HB.out | apply below_alloc | apply pw_below_drewN | apply below_drew1 | refine below_set ?_ GE101.out) | exact HB.out)) hb); have n2_ := Aside0.mk (hbox); have n3_ := Aside0.mk ((by rw [hg]; exact (below_size (by repeat (first | (with_reducible first | exact HB.out | apply below_alloc | apply pw_below_drewN | apply below_drew1 | refine below_set ?_ GE101.out) | exact HB.out))) : w.heap.size ≤ gb102)); have n4_ := Aside0.mk ((by rw [hg]; exact (below_size (by repeat (first | (with_reducible first | exact HB.out | apply below_alloc | apply pw_below_drewN | apply below_drew1 | refine below_set ?_ GE101.out) | exact HB.out))) : w.heap.size ≤ gb102)); have n5_ := Aside0.mk ((by rw [hg]; exact Nat.ne_of_lt (blk_lt (g := gb101) (o := .cells #[.int .i64 a0_0, .int .i64 a0_1, .slice A0_2 l0_2.length c0_2, .slice A0_3 l0_3.length c0_3] 42 (0, 0)) (ex BK101.out)) : gb101 ≠ gb102)); have n6_ := Aside0.mk ((by rw [hg]; exact Nat.ne_of_gt (blk_lt (g := gb101) (o := .cells #[.int .i64 a0_0, .int .i64 a0_1, .slice A0_2 l0_2.length c0_2, .slice A0_3 l0_3.length c0_3] 42 (0, 0)) (ex BK101.out)) : gb102 ≠ gb101)); clear BK101; clear HB; have BK101 := n0_; have HB := n1_; have BK102 := n2_; have GW102 := n3_; have GE102 := n4_; have NB101_102 := n5_; have NB102_101 := n6_; clear n0_ n1_ n2_ n3_ n4_ n5_ n6_; clear hb hbox hg; have hnb38 := NB101_102.out; have hnc38 := NB102_101.out; obtain ⟨hcz39_0, hcz39_1, hcz39_2, hcz39_3⟩ := bc4 BK101.out; obtain ⟨hfz39_0, hfz39_1, hfz39_2, hfz39_3⟩ := bf4 BK101.out; obtain ⟨hcz40_0, hcz40_1, hcz40_2, hcz40_3⟩ := bc4 BK102.out; obtain ⟨hfz40_0, hfz40_1, hfz40_2, hfz40_3⟩ := bf4 BK102.out))
  go_ret
  exact ⟨by first | rfl | (simp [errW_none, errW_some] <;> rfl) | (simp [*, errW_none, errW_some] <;> rfl), by repeat (first | (with_reducible first | exact HB.out | apply below_alloc | apply pw_below_drewN | apply below_drew1 | refine below_set ?_ GE101.out | refine below_set ?_ GE102.out) | exact HB.out)⟩

end Go.Proofs.Ytpdmimlkgmhepaa.G

/- The laws' helpers on books: a copy, equal books, sizes; condition: what the laws' own guard lets by. -/
namespace Go.Proofs.Ytpdmimlkgmhepaa.Pure
set_option linter.unusedVariables false
set_option linter.unusedSimpArgs false
open Go.RowKit Go.Proofs.YtpdmimlkgmhepaaW.PrintWords Go.Proofs.Ytpdmimlkgmhepaa.G
theorem tkWf {t : List Int} (h : ∀ z ∈ t, (Lit.int .i64 z).wf = true) : TkWf t := by
  intro i hi
  have e : tk t i = t[i] := by simp [tk, List.getD_eq_getElem?_getD, List.getElem?_eq_getElem hi]
  rw [e]
  exact wf_range (h _ (List.getElem_mem _))
theorem szBook (a0 a1 : Int) (l : List Lm) (t : List Int) (hl : l.length ≤ maxLen) (hw : ∀ x ∈ l, LmWf x) (ht : t.length ≤ maxLen) :
    ∃ r : Int, Ev (fun k => laws_szStripBook.f k a0 a1 l t 1048576) r ∧ r ≤ 1048576 ∧ (0 ≤ r → l.length ≤ 1048576 ∧ t.length ≤ 1048576 ∧ ∀ i, i < l.length → (lat l i).f0.size ≤ 1048576) := by
  unfold maxLen at ht
  unfold laws_szStripBook.f
  obtain ⟨r, h1, h2, h3⟩ := szMoves l 1048576 (by omega) (by omega) hl hw
  by_cases h0 : r < 0
  · exact ⟨-1, Ev.bind h1 (Ev.pos h0 (Ev.some rfl)), by omega, fun h => absurd h (by omega)⟩
  · obtain ⟨h4, h5⟩ := h3 (by omega)
    by_cases h6 : r - (t.length : Int) < 0
    · refine ⟨-1, Ev.bind h1 (Ev.neg h0 ?_), by omega, fun h => absurd h (by omega)⟩
      simp only [laws_szIntS.f, wrap_eq (x := r - (t.length : Int)) (by omega) (by omega), if_pos h6, Option.bind_some]
      exact Ev.pos (by decide) (Ev.some rfl)
    · refine ⟨r - t.length, Ev.bind h1 (Ev.neg h0 ?_), by omega, fun h => ⟨by omega, by omega, h5⟩⟩
      simp only [laws_szIntS.f, wrap_eq (x := r - (t.length : Int)) (by omega) (by omega), if_neg h6, Option.bind_some]
      exact Ev.some rfl
theorem toBook (a0 a1 : Int) (l : List Lm) (t : List Int) (hl : l.length ≤ 1048576) (ht : t.length ≤ 1048576) : Ev (fun k => laws_toStripBook.f k a0 a1 l t) (a0, a1, l.map toM, t) := by
  unfold laws_toStripBook.f
  exact Ev.bind (toMoves l hl) (Ev.bind (toInts t ht) (Ev.some rfl))
theorem eqBook (a0 a1 : Int) (l : List Mv) (t : List Int) (hl : l.length ≤ 1048576) (ht : t.length ≤ 1048576) : Ev (fun k => laws_eqStripBook.f k a0 a1 l t a0 a1 l t) true := by
  unfold laws_eqStripBook.f
  exact Ev.pos rfl (Ev.pos rfl (Ev.bind (eqMoves l hl) (Ev.pos rfl (Ev.bind (eqInts t ht) (Ev.pos rfl (Ev.some rfl))))))
end Go.Proofs.Ytpdmimlkgmhepaa.Pure

/- The laws' marks: what was marked is held; condition: at most 2^20 elements. -/
namespace Go.Proofs.Ytpdmimlkgmhepaa.Pure
set_option linter.unusedVariables false
set_option linter.unusedSimpArgs false
open Go.RowKit Go.Proofs.YtpdmimlkgmhepaaW.PrintWords Go.Proofs.Ytpdmimlkgmhepaa.G
/-- The numbers from a on. -/
def mk (a : Int) (n : Nat) : List Int := (List.range n).map fun i : Nat => a + (i : Int)
theorem mk_len (a : Int) (n : Nat) : (mk a n).length = n := by simp [mk]
theorem mk_at (a : Int) (n : Nat) {i : Nat} (h : i < n) : (mk a n).getD i 0 = a + i := by simp [mk, List.getD_eq_getElem?_getD, h]
theorem markInts (l : List Int) (a : Int) (ha : 0 ≤ a) (ha' : a ≤ 1000000000000) (hl : l.length ≤ 1048576) : Ev (fun k => laws_markIntS.f k l a) (a + l.length, mk a l.length) := by
  unfold laws_markIntS.f
  have key : ∀ d i (x : List Int), i + d = l.length → x.length = l.length → (∀ j, j < i → x.getD j 0 = a + (j : Int)) → Ev (fun k => laws_markIntS.l0 k x (a + (i : Int)) i) (a + l.length, mk a l.length) := by
    intro d
    induction d with
    | zero =>
      intro i x hi hx hp
      obtain rfl : i = l.length := by omega
      refine Ev.step (fun _ => laws_markIntS.l0.eq_2 ..) (Ev.neg (by omega) (Ev.some ?_))
      rw [show x = mk a l.length from list_eq_getD 0 (by rw [hx, mk_len]) fun j hj => by rw [hp j (by omega), mk_at a _ (by omega)]]
    | succ d ih =>
      intro i x hi hx hp
      refine Ev.step (fun _ => laws_markIntS.l0.eq_2 ..) (Ev.pos (by omega) (Ev.pos (by omega) ?_))
      simp only [Int.toNat_natCast, wrap_succ (show i < l.length by omega) (show l.length ≤ 1000000000000000000 by omega), wrap_eq (x := a + (i : Int) + 1) (by omega) (by omega)]
      obtain ⟨h1, h2⟩ := copy_step (fun j => a + (j : Int)) 0 hx hp (show i < l.length by omega)
      have := ih (i + 1) _ (by omega) h1 h2
      rwa [show a + ((i + 1 : Nat) : Int) = a + (i : Int) + 1 by omega] at this
  have := key l.length 0 l (by omega) rfl (fun j hj => absurd hj (by omega))
  simpa using this
theorem heldInts (a : Int) (n : Nat) (ha : 0 ≤ a) (ha' : a ≤ 1000000000000) (hn : n ≤ 1048576) : Ev (fun k => laws_heldIntS.f k (mk a n) a) (a + n) := by
  unfold laws_heldIntS.f
  have key : ∀ d i, i + d = n → Ev (fun k => laws_heldIntS.l0 k (mk a n) (a + (i : Int)) i) (a + n) := by
    intro d
    induction d with
    | zero =>
      intro i hi
      obtain rfl : i = n := by omega
      have := mk_len a i
      exact Ev.step (fun _ => laws_heldIntS.l0.eq_2 ..) (Ev.neg (by omega) (Ev.some rfl))
    | succ d ih =>
      intro i hi
      have := mk_len a n
      refine Ev.step (fun _ => laws_heldIntS.l0.eq_2 ..) (Ev.pos (by omega) (Ev.pos (by omega) ?_))
      simp only [rd_nat, wrap_succ (show i < n by omega) (show n ≤ 1000000000000000000 by omega), wrap_eq (x := a + (i : Int) + 1) (by omega) (by omega)]
      refine Ev.pos (mk_at a n (by omega)) ?_
      have := ih (i + 1) (by omega)
      rwa [show a + ((i + 1 : Nat) : Int) = a + (i : Int) + 1 by omega] at this
  have := key n 0 (by omega)
  simpa using this

theorem strOfNums_size (l : List Int) : (strOfNums l).size = l.length := by
  unfold strOfNums
  simp [ByteArray.size]
/-- A mark's text is made. -/
theorem markText_ex (x : Int) (hx : x ≤ 1000000000000) : ∃ s, Ev (fun k => laws_markText.f k x) s := by
  unfold laws_markText.f
  by_cases h : x ≤ 0
  · exact ⟨_, Ev.pos h (Ev.some rfl)⟩
  · have key : ∀ (n : Nat) (x : Int) (s : ByteArray), 0 ≤ x → x ≤ n → s.size + n ≤ 2000000000000 → ∃ r, Ev (fun k => laws_markText.l0 k x s) r := by
      intro n
      induction n with
      | zero =>
        intro x s h0 h1 h2
        exact ⟨_, Ev.step (fun _ => laws_markText.l0.eq_2 ..) (Ev.neg (by omega) (Ev.pos (by omega) (Ev.some rfl)))⟩
      | succ n ih =>
        intro x s h0 h1 h2
        by_cases hp : x > 0
        · have ht : Int.tdiv x 10 = x / 10 := Int.tdiv_eq_ediv_of_nonneg (by omega)
          obtain ⟨r, hr⟩ := ih (Int.tdiv x 10) (strOfNums [wrap64 (48 + Int.tmod x 10) % 256] ++ s) (by omega) (by omega) (by rw [ByteArray.size_append, strOfNums_size, List.length_singleton]; omega)
          refine ⟨r, Ev.step (fun _ => laws_markText.l0.eq_2 ..) (Ev.pos hp ?_)⟩
          simp only [Option.bind_some, wrap_eq (x := Int.tdiv x 10) (by omega) (by omega), strOfNums_size]
          exact Ev.pos (by rw [List.length_singleton]; omega) hr
        · exact ⟨_, Ev.step (fun _ => laws_markText.l0.eq_2 ..) (Ev.neg hp (Ev.pos (by omega) (Ev.some rfl)))⟩
    obtain ⟨r, hr⟩ := key x.toNat x (⟨#[]⟩ : ByteArray) (by omega) (by omega) (by show 0 + x.toNat ≤ _; omega)
    exact ⟨r, Ev.neg h hr⟩
/-- The marks of moves: as many as there are numbers. -/
theorem markMoves_ex (l : List Mv) (a : Int) (ha : 0 ≤ a) (ha' : a ≤ 10000000) (hl : l.length ≤ 1048576) : ∃ r, Ev (fun k => laws_markStripMoveS.f k l a) (a + 6 * (l.length : Int), r) := by
  unfold laws_markStripMoveS.f
  have key : ∀ d i (x : List Mv), i + d = l.length → x.length = l.length → ∃ r, Ev (fun k => laws_markStripMoveS.l0 k x (a + 6 * (i : Int)) i) (a + 6 * (l.length : Int), r) := by
    intro d
    induction d with
    | zero =>
      intro i x hi hx
      obtain rfl : i = l.length := by omega
      exact ⟨x, Ev.step (fun _ => laws_markStripMoveS.l0.eq_2 ..) (Ev.neg (by omega) (Ev.some rfl))⟩
    | succ d ih =>
      intro i x hi hx
      obtain ⟨s, hs⟩ := markText_ex (a + 6 * (i : Int)) (by omega)
      have e : a + 6 * (((i + 1 : Nat)) : Int) = a + 6 * (i : Int) + 1 + 1 + 1 + 1 + 1 + 1 := by omega
      refine ⟨?r, Ev.step (fun _ => laws_markStripMoveS.l0.eq_2 ..) (Ev.pos (by omega) (Ev.bind hs (Ev.pos (by omega) ?_)))⟩
      rotate_left
      simp only [Option.bind_some, Int.toNat_natCast, wrap_succ (show i < l.length by omega) (show l.length ≤ 1000000000000000000 by omega)]
      rw [wrap_eq (x := a + 6 * (i : Int) + 1) (by omega) (by omega), wrap_eq (x := a + 6 * (i : Int) + 1 + 1) (by omega) (by omega), wrap_eq (x := a + 6 * (i : Int) + 1 + 1 + 1) (by omega) (by omega), wrap_eq (x := a + 6 * (i : Int) + 1 + 1 + 1 + 1) (by omega) (by omega), wrap_eq (x := a + 6 * (i : Int) + 1 + 1 + 1 + 1 + 1) (by omega) (by omega), wrap_eq (x := a + 6 * (i : Int) + 1 + 1 + 1 + 1 + 1 + 1) (by omega) (by omega), ← e]
      refine Classical.choose_spec (ih (i + 1) _ (by omega) ?_)
      simp only [List.length_set]
      exact hx
  obtain ⟨r, hr⟩ := key l.length 0 l (by omega) rfl
  exact ⟨r, by simpa using hr⟩
end Go.Proofs.Ytpdmimlkgmhepaa.Pure

/- The plain functions of this seat's Go text and, for each, that the call comes to what its plain function says: written for this claim by a program of the session (drv.py) over the kit's print.py. -/
namespace Go.Proofs.Ytpdmimlkgmhepaa.G
open Go.RowKit Go.Proofs.YtpdmimlkgmhepaaW.PrintWords Go.Proofs.YtpdmimlkgmhepaaW.PrintLast Go.Proofs.YtpdmimlkgmhepaaW.PrintMore
attribute [local go_sem] max2_int min2_int max_two min_two max_three min_three max_four min_four   -- for this text's walks alone
set_option linter.unusedVariables false
set_option linter.unusedSimpArgs false

/-! ### spec_StripShift: function 11 -/
mutual
def spec_StripShift.j0 : Nat → List Int → List Int → Bool → Option (Int)
 | 0, _, _, _ => none
 | k + 1, x0, x1, x19 => if x19 = true then (some (-1)) else (spec_StripShift.l0 k x0 x1 0 0)
def spec_StripShift.l0 : Nat → List Int → List Int → Int → Int → Option (Int)
 | 0, _, _, _, _ => none
 | k + 1, x0, x1, x5, x6 => if x6 < (x0.length : Int) then (spec_StripShift.l1 k x0 x1 x5 x6 0) else (some x5)
def spec_StripShift.l1 : Nat → List Int → List Int → Int → Int → Int → Option (Int)
 | 0, _, _, _, _, _ => none
 | k + 1, x0, x1, x5, x6, x7 => if x7 < (x1.length : Int) then (if 0 ≤ x6 then (if x6 < (x0.length : Int) then (if 0 ≤ x7 then (if (rd x0 x6) = (rd x1 x7) then (spec_StripShift.j3 k x0 x1 x5 x6 x7 (decide ((wrap64 (x6 - x7)) > x5))) else (spec_StripShift.j3 k x0 x1 x5 x6 x7 false)) else (none)) else (none)) else (none)) else (spec_StripShift.l0 k x0 x1 x5 (wrap64 (x6 + 1)))
def spec_StripShift.j3 : Nat → List Int → List Int → Int → Int → Int → Bool → Option (Int)
 | 0, _, _, _, _, _, _ => none
 | k + 1, x0, x1, x5, x6, x7, x47 => if x47 = true then (if 0 ≤ x6 then (if x6 < (x0.length : Int) then (if 0 ≤ x7 then (if x7 < (x1.length : Int) then (if (rd x0 x6) = (rd x1 x7) then (if (wrap64 (x7 - x6)) > (wrap64 (x6 - x7)) then (spec_StripShift.l1 k x0 x1 (wrap64 (x7 - x6)) x6 (wrap64 (x7 + 1))) else (spec_StripShift.l1 k x0 x1 (wrap64 (x6 - x7)) x6 (wrap64 (x7 + 1)))) else (spec_StripShift.l1 k x0 x1 (wrap64 (x6 - x7)) x6 (wrap64 (x7 + 1)))) else (none)) else (none)) else (none)) else (none)) else (if 0 ≤ x6 then (if x6 < (x0.length : Int) then (if 0 ≤ x7 then (if x7 < (x1.length : Int) then (if (rd x0 x6) = (rd x1 x7) then (if (wrap64 (x7 - x6)) > x5 then (spec_StripShift.l1 k x0 x1 (wrap64 (x7 - x6)) x6 (wrap64 (x7 + 1))) else (spec_StripShift.l1 k x0 x1 x5 x6 (wrap64 (x7 + 1)))) else (spec_StripShift.l1 k x0 x1 x5 x6 (wrap64 (x7 + 1)))) else (none)) else (none)) else (none)) else (none))
end
def spec_StripShift.f (k : Nat) (l0 : List Int) (l1 : List Int) : Option (Int) := (spec_l3OrderOk.f k (l1.length : Int) l0).bind fun t101 => (if t101 = true then ((spec_l3OrderOk.f k (l0.length : Int) l1).bind fun t102 => (spec_StripShift.j0 k l0 l1 (!t102))) else (spec_StripShift.j0 k l0 l1 true))
theorem spec_StripShift.mono_l : ∀ k, (∀ y0 y1 y2, LeO (spec_StripShift.j0 k y0 y1 y2) (spec_StripShift.j0 (k + 1) y0 y1 y2)) ∧ (∀ y0 y1 y2 y3, LeO (spec_StripShift.l0 k y0 y1 y2 y3) (spec_StripShift.l0 (k + 1) y0 y1 y2 y3)) ∧ (∀ y0 y1 y2 y3 y4, LeO (spec_StripShift.l1 k y0 y1 y2 y3 y4) (spec_StripShift.l1 (k + 1) y0 y1 y2 y3 y4)) ∧ (∀ y0 y1 y2 y3 y4 y5, LeO (spec_StripShift.j3 k y0 y1 y2 y3 y4 y5) (spec_StripShift.j3 (k + 1) y0 y1 y2 y3 y4 y5))
 | 0 => ⟨fun _ _ _ r h => by simp [spec_StripShift.j0] at h, fun _ _ _ _ r h => by simp [spec_StripShift.l0] at h, fun _ _ _ _ _ r h => by simp [spec_StripShift.l1] at h, fun _ _ _ _ _ _ r h => by simp [spec_StripShift.j3] at h⟩
 | k + 1 => by
  obtain ⟨ih0, ih1, ih2, ih3⟩ := spec_StripShift.mono_l k
  refine ⟨?_, ?_, ?_, ?_⟩
  ·intro y0 y1 y2
   unfold spec_StripShift.j0
   repeat' first
   | (with_reducible exact ih0 _ _ _)
   | (with_reducible exact ih1 _ _ _ _)
   | (with_reducible exact ih2 _ _ _ _ _)
   | (with_reducible exact ih3 _ _ _ _ _ _)
   | (with_reducible exact spec_l3OrderOk.mono _ _ _)
   | (with_reducible exact LeO.refl _)
   | (with_reducible exact LeO.none _)
   | (with_reducible refine LeO.ite ?_ ?_)
   | (with_reducible refine LeO.bind ?_ (fun _ => ?_))
   | exact ih0 _ _ _
   | exact ih1 _ _ _ _
   | exact ih2 _ _ _ _ _
   | exact ih3 _ _ _ _ _ _
   | exact spec_l3OrderOk.mono _ _ _
   | exact LeO.none _
   | refine LeO.ite ?_ ?_
   | refine LeO.bind ?_ (fun _ => ?_)
  ·intro y0 y1 y2 y3
   unfold spec_StripShift.l0
   repeat' first
   | (with_reducible exact ih0 _ _ _)
   | (with_reducible exact ih1 _ _ _ _)
   | (with_reducible exact ih2 _ _ _ _ _)
   | (with_reducible exact ih3 _ _ _ _ _ _)
   | (with_reducible exact spec_l3OrderOk.mono _ _ _)
   | (with_reducible exact LeO.refl _)
   | (with_reducible exact LeO.none _)
   | (with_reducible refine LeO.ite ?_ ?_)
   | (with_reducible refine LeO.bind ?_ (fun _ => ?_))
   | exact ih0 _ _ _
   | exact ih1 _ _ _ _
   | exact ih2 _ _ _ _ _
   | exact ih3 _ _ _ _ _ _
   | exact spec_l3OrderOk.mono _ _ _
   | exact LeO.none _
   | refine LeO.ite ?_ ?_
   | refine LeO.bind ?_ (fun _ => ?_)
  ·intro y0 y1 y2 y3 y4
   unfold spec_StripShift.l1
   repeat' first
   | (with_reducible exact ih0 _ _ _)
   | (with_reducible exact ih1 _ _ _ _)
   | (with_reducible exact ih2 _ _ _ _ _)
   | (with_reducible exact ih3 _ _ _ _ _ _)
   | (with_reducible exact spec_l3OrderOk.mono _ _ _)
   | (with_reducible exact LeO.refl _)
   | (with_reducible exact LeO.none _)
   | (with_reducible refine LeO.ite ?_ ?_)
   | (with_reducible refine LeO.bind ?_ (fun _ => ?_))
   | exact ih0 _ _ _
   | exact ih1 _ _ _ _
   | exact ih2 _ _ _ _ _
   | exact ih3 _ _ _ _ _ _
   | exact spec_l3OrderOk.mono _ _ _
   | exact LeO.none _
   | refine LeO.ite ?_ ?_
   | refine LeO.bind ?_ (fun _ => ?_)
  ·intro y0 y1 y2 y3 y4 y5
   unfold spec_StripShift.j3
   repeat' first
   | (with_reducible exact ih0 _ _ _)
   | (with_reducible exact ih1 _ _ _ _)
   | (with_reducible exact ih2 _ _ _ _ _)
   | (with_reducible exact ih3 _ _ _ _ _ _)
   | (with_reducible exact spec_l3OrderOk.mono _ _ _)
   | (with_reducible exact LeO.refl _)
   | (with_reducible exact LeO.none _)
   | (with_reducible refine LeO.ite ?_ ?_)
   | (with_reducible refine LeO.bind ?_ (fun _ => ?_))
   | exact ih0 _ _ _
   | exact ih1 _ _ _ _
   | exact ih2 _ _ _ _ _
   | exact ih3 _ _ _ _ _ _
   | exact spec_l3OrderOk.mono _ _ _
   | exact LeO.none _
   | refine LeO.ite ?_ ?_
   | refine LeO.bind ?_ (fun _ => ?_)
theorem spec_StripShift.mono : ∀ a0 a1 k, LeO (spec_StripShift.f k a0 a1) (spec_StripShift.f (k + 1) a0 a1) := by
 intro a0 a1 k
 obtain ⟨ih0, ih1, ih2, ih3⟩ := spec_StripShift.mono_l k
 unfold spec_StripShift.f
 repeat' first
   | (with_reducible exact ih0 _ _ _)
   | (with_reducible exact ih1 _ _ _ _)
   | (with_reducible exact ih2 _ _ _ _ _)
   | (with_reducible exact ih3 _ _ _ _ _ _)
   | (with_reducible exact spec_l3OrderOk.mono _ _ _)
   | (with_reducible exact LeO.refl _)
   | (with_reducible exact LeO.none _)
   | (with_reducible refine LeO.ite ?_ ?_)
   | (with_reducible refine LeO.bind ?_ (fun _ => ?_))
   | exact ih0 _ _ _
   | exact ih1 _ _ _ _
   | exact ih2 _ _ _ _ _
   | exact ih3 _ _ _ _ _ _
   | exact spec_l3OrderOk.mono _ _ _
   | exact LeO.none _
   | refine LeO.ite ?_ ?_
   | refine LeO.bind ?_ (fun _ => ?_)
set_option maxHeartbeats 8000000 in
set_option maxRecDepth 100000 in
theorem spec_StripShift.calls (k : Nat) (A0 : Option Addr) (c0 : Nat) (l0 : List Int) (A1 : Option Addr) (c1 : Nat) (l1 : List Int) (r : Int) (w : World) (hr0 : Kd.C (Kd.int .i64) w A0 l0.length l0) (hc0 : l0.length ≤ c0) (hr1 : Kd.C (Kd.int .i64) w A1 l1.length l1) (hc1 : l1.length ≤ c1) (h : spec_StripShift.f k l0 l1 = some r) :
  Calls Try.prog 11 #[.slice A0 l0.length c0, .slice A1 l1.length c1] w fun e w' => e = .returned (.int .i64 r) ∧ Drawn0 w w' := by
 have HR0 := Aside0.mk hr0
 have HC0 := Aside0.mk hc0
 clear hr0 hc0
 have HR1 := Aside0.mk hr1
 have HC1 := Aside0.mk hc1
 clear hr1 hc1
 have H : ((spec_l3OrderOk.f k (l1.length : Int) l0).bind fun t101 => (if t101 = true then ((spec_l3OrderOk.f k (l0.length : Int) l1).bind fun t102 => (spec_StripShift.j0 k l0 l1 (!t102))) else (spec_StripShift.j0 k l0 l1 true))) = some r := h
 clear h
 have HC3 := Aside0.mk H
 clear H
 go_enter Try.func11, Try.ntmps11
 go_upto_region 1 with (fail)
 repeat (go_quiet (fail); go_upto_region 1 with (fail))
 go_cut [19] (fun v19 wc => ∃ (kq : Nat) (x19_2 : Bool), v19 = .bool x19_2 ∧ Aside0 (spec_StripShift.j0 kq l0 l1 x19_2 = some r) ∧ Aside0 (kq ≤ k) ∧ Drawn0 w wc)
 case first =>
  have H := HC3.out
  clear HC3
  replace H := Option.bind_eq_some_iff.mp H
  obtain ⟨t101, A40, H⟩ := H
  replace H : (if t101 = true then ((spec_l3OrderOk.f k (l0.length : Int) l1).bind fun t102 => (spec_StripShift.j0 k l0 l1 (!t102))) else (spec_StripShift.j0 k l0 l1 true)) = some r := H
  have A4 := Aside0.mk A40
  clear A40
  by_cases c5 : t101 = true
  ·subst c5
   have H1 : ((spec_l3OrderOk.f k (l0.length : Int) l1).bind fun t102 => (spec_StripShift.j0 k l0 l1 (!t102))) = some r := by rw [if_pos rfl] at H; exact H
   clear H
   have H := H1
   clear H1
   replace H := Option.bind_eq_some_iff.mp H
   obtain ⟨t102, A60, H⟩ := H
   replace H : (spec_StripShift.j0 k l0 l1 (!t102)) = some r := H
   have A6 := Aside0.mk A60
   clear A60
   have H' := Aside0.mk H
   clear H
   go_wp2_with (first | (go_at_call 49; (with_reducible refine (spec_l3OrderOk.calls k (l1.length : Int) _ _ l0 true _ ?side1 ?side2 A4.out).mono ?_); (case side1 => repeat (first | exact HR0.out | (with_reducible refine Kd.C_alloc ?_ _) | (with_reducible refine Kd.C_drewN ?_ _) | (with_reducible refine Kd.C_drew ?_))); (case side2 => exact HC0.out); rintro e w' ⟨rfl, ⟨nd, rfl⟩⟩; (try first | exact ⟨rfl, _, World.drewN_drewN _ _ _⟩ | exact ⟨rfl, _, Eq.trans (World.drewN_drewN _ _ _) (congrArg (World.drewN _) (Nat.add_assoc _ _ _))⟩)) | (go_at_call 49; (with_reducible refine (spec_l3OrderOk.calls k (l0.length : Int) _ _ l1 t102 _ ?side1 ?side2 A6.out).mono ?_); (case side1 => repeat (first | exact HR1.out | (with_reducible refine Kd.C_alloc ?_ _) | (with_reducible refine Kd.C_drewN ?_ _) | (with_reducible refine Kd.C_drew ?_))); (case side2 => exact HC1.out); rintro e w' ⟨rfl, ⟨nd, rfl⟩⟩; (try first | exact ⟨rfl, _, World.drewN_drewN _ _ _⟩ | exact ⟨rfl, _, Eq.trans (World.drewN_drewN _ _ _) (congrArg (World.drewN _) (Nat.add_assoc _ _ _))⟩)))
   repeat (go_quiet (first | (go_at_call 49; (with_reducible refine (spec_l3OrderOk.calls k (l1.length : Int) _ _ l0 true _ ?side1 ?side2 A4.out).mono ?_); (case side1 => repeat (first | exact HR0.out | (with_reducible refine Kd.C_alloc ?_ _) | (with_reducible refine Kd.C_drewN ?_ _) | (with_reducible refine Kd.C_drew ?_))); (case side2 => exact HC0.out); rintro e w' ⟨rfl, ⟨nd, rfl⟩⟩; (try first | exact ⟨rfl, _, World.drewN_drewN _ _ _⟩ | exact ⟨rfl, _, Eq.trans (World.drewN_drewN _ _ _) (congrArg (World.drewN _) (Nat.add_assoc _ _ _))⟩)) | (go_at_call 49; (with_reducible refine (spec_l3OrderOk.calls k (l0.length : Int) _ _ l1 t102 _ ?side1 ?side2 A6.out).mono ?_); (case side1 => repeat (first | exact HR1.out | (with_reducible refine Kd.C_alloc ?_ _) | (with_reducible refine Kd.C_drewN ?_ _) | (with_reducible refine Kd.C_drew ?_))); (case side2 => exact HC1.out); rintro e w' ⟨rfl, ⟨nd, rfl⟩⟩; (try first | exact ⟨rfl, _, World.drewN_drewN _ _ _⟩ | exact ⟨rfl, _, Eq.trans (World.drewN_drewN _ _ _) (congrArg (World.drewN _) (Nat.add_assoc _ _ _))⟩))); try go_wp2_with (first | (go_at_call 49; (with_reducible refine (spec_l3OrderOk.calls k (l1.length : Int) _ _ l0 true _ ?side1 ?side2 A4.out).mono ?_); (case side1 => repeat (first | exact HR0.out | (with_reducible refine Kd.C_alloc ?_ _) | (with_reducible refine Kd.C_drewN ?_ _) | (with_reducible refine Kd.C_drew ?_))); (case side2 => exact HC0.out); rintro e w' ⟨rfl, ⟨nd, rfl⟩⟩; (try first | exact ⟨rfl, _, World.drewN_drewN _ _ _⟩ | exact ⟨rfl, _, Eq.trans (World.drewN_drewN _ _ _) (congrArg (World.drewN _) (Nat.add_assoc _ _ _))⟩)) | (go_at_call 49; (with_reducible refine (spec_l3OrderOk.calls k (l0.length : Int) _ _ l1 t102 _ ?side1 ?side2 A6.out).mono ?_); (case side1 => repeat (first | exact HR1.out | (with_reducible refine Kd.C_alloc ?_ _) | (with_reducible refine Kd.C_drewN ?_ _) | (with_reducible refine Kd.C_drew ?_))); (case side2 => exact HC1.out); rintro e w' ⟨rfl, ⟨nd, rfl⟩⟩; (try first | exact ⟨rfl, _, World.drewN_drewN _ _ _⟩ | exact ⟨rfl, _, Eq.trans (World.drewN_drewN _ _ _) (congrArg (World.drewN _) (Nat.add_assoc _ _ _))⟩))))
   go_meet
   case rel => exact ⟨_, (!t102), (by first | rfl | (simp; done) | (simp [*]; done)), H', ⟨by first | omega | exact Nat.le_refl _⟩, by repeat (first | exact Drawn0.refl _ | apply Drawn0.step)⟩
  ·replace c5 := Bool.eq_false_iff.mpr c5
   subst c5
   have H1 : (spec_StripShift.j0 k l0 l1 true) = some r := by rw [if_neg (show ¬ (false = true) by decide)] at H; exact H
   clear H
   have H := H1
   clear H1
   have H' := Aside0.mk H
   clear H
   go_wp2_with (first | (go_at_call 49; (with_reducible refine (spec_l3OrderOk.calls k (l1.length : Int) _ _ l0 false _ ?side1 ?side2 A4.out).mono ?_); (case side1 => repeat (first | exact HR0.out | (with_reducible refine Kd.C_alloc ?_ _) | (with_reducible refine Kd.C_drewN ?_ _) | (with_reducible refine Kd.C_drew ?_))); (case side2 => exact HC0.out); rintro e w' ⟨rfl, ⟨nd, rfl⟩⟩; (try first | exact ⟨rfl, _, World.drewN_drewN _ _ _⟩ | exact ⟨rfl, _, Eq.trans (World.drewN_drewN _ _ _) (congrArg (World.drewN _) (Nat.add_assoc _ _ _))⟩)))
   repeat (go_quiet (first | (go_at_call 49; (with_reducible refine (spec_l3OrderOk.calls k (l1.length : Int) _ _ l0 false _ ?side1 ?side2 A4.out).mono ?_); (case side1 => repeat (first | exact HR0.out | (with_reducible refine Kd.C_alloc ?_ _) | (with_reducible refine Kd.C_drewN ?_ _) | (with_reducible refine Kd.C_drew ?_))); (case side2 => exact HC0.out); rintro e w' ⟨rfl, ⟨nd, rfl⟩⟩; (try first | exact ⟨rfl, _, World.drewN_drewN _ _ _⟩ | exact ⟨rfl, _, Eq.trans (World.drewN_drewN _ _ _) (congrArg (World.drewN _) (Nat.add_assoc _ _ _))⟩))); try go_wp2_with (first | (go_at_call 49; (with_reducible refine (spec_l3OrderOk.calls k (l1.length : Int) _ _ l0 false _ ?side1 ?side2 A4.out).mono ?_); (case side1 => repeat (first | exact HR0.out | (with_reducible refine Kd.C_alloc ?_ _) | (with_reducible refine Kd.C_drewN ?_ _) | (with_reducible refine Kd.C_drew ?_))); (case side2 => exact HC0.out); rintro e w' ⟨rfl, ⟨nd, rfl⟩⟩; (try first | exact ⟨rfl, _, World.drewN_drewN _ _ _⟩ | exact ⟨rfl, _, Eq.trans (World.drewN_drewN _ _ _) (congrArg (World.drewN _) (Nat.add_assoc _ _ _))⟩))))
   go_meet
   case rel => exact ⟨_, (true), (by first | rfl | (simp; done) | (simp [*]; done)), H', ⟨by first | omega | exact Nat.le_refl _⟩, by repeat (first | exact Drawn0.refl _ | apply Drawn0.step)⟩
 case rest =>
  clear HC3
  try clear c1
  try clear p2
  try clear c5
  obtain ⟨kq, x19_2, rfl, HA, HJ2, ⟨mc2, rfl⟩⟩ := hcut
  cases kq with
  | zero => exact absurd HA.out (by simp [spec_StripShift.j0])
  | succ kj2 =>
   have H := HA.out
   clear HA
   simp only [spec_StripShift.j0] at H
   by_cases c7 : x19_2 = true
   ·subst c7
    have H1 : (some (-1)) = some r := by rw [if_pos rfl] at H; exact H
    clear H
    have H := H1
    clear H1
    obtain rfl := Option.some.inj H
    go_wp2
    repeat (go_quiet (fail); try go_wp2)
    go_ret
    exact ⟨by first | rfl | (simp; done) | (simp [*]; done), by repeat (first | exact Drawn0.refl _ | apply Drawn0.step)⟩
   ·replace c7 := Bool.eq_false_iff.mpr c7
    subst c7
    have H1 : (spec_StripShift.l0 kj2 l0 l1 0 0) = some r := by rw [if_neg (show ¬ (false = true) by decide)] at H; exact H
    clear H
    have H := H1
    clear H1
    have H' := Aside0.mk H
    clear H
    go_wp2
    repeat (go_quiet (fail); try go_wp2)
    go_loopg [5, 6] kj2 (fun kq v5 v6 w' => ∃ (x5_2 : Int) (x6_2 : Int), v5 = .int .i64 x5_2 ∧ v6 = .int .i64 x6_2 ∧ Aside0 (spec_StripShift.l0 kq l0 l1 x5_2 x6_2 = some r) ∧ Aside0 (kq ≤ kj2) ∧ Drawn0 w w')
    case atStart => exact ⟨(0), (0), (by first | rfl | (simp; done) | (simp [*]; done)), (by first | rfl | (simp; done) | (simp [*]; done)), H', ⟨Nat.le_refl _⟩, by repeat (first | exact Drawn0.refl _ | apply Drawn0.step)⟩
    case round =>
     clear H'
     try clear c1
     try clear c2
     try clear p2
     try clear c5
     try clear c7
     try clear p2
     obtain ⟨x5_2, x6_2, rfl, rfl, HA, HK2, ⟨m2, rfl⟩⟩ := hrel
     cases gk with
     | zero => exact absurd HA.out (by simp [spec_StripShift.l0])
     | succ k2 =>
      have H := HA.out
      clear HA
      simp only [spec_StripShift.l0] at H
      by_cases c8 : x6_2 < (l0.length : Int)
      ·rw [if_pos c8] at H
       have c8b0 : decide (x6_2 < (l0.length : Int)) = true := decide_eq_true c8
       clear c8
       have H' := Aside0.mk H
       clear H
       go_wp2
       repeat (go_quiet (fail); try go_wp2)
       go_loopg [5, 7] k2 (fun kq v5 v7 w' => ∃ (x5_3 : Int) (x7_3 : Int), v5 = .int .i64 x5_3 ∧ v7 = .int .i64 x7_3 ∧ Aside0 (spec_StripShift.l1 kq l0 l1 x5_3 x6_2 x7_3 = some r) ∧ Aside0 (kq ≤ k2) ∧ Drawn0 w w')
       case atStart => exact ⟨(x5_2), (0), (by first | rfl | (simp; done) | (simp [*]; done)), (by first | rfl | (simp; done) | (simp [*]; done)), H', ⟨Nat.le_refl _⟩, by repeat (first | exact Drawn0.refl _ | apply Drawn0.step)⟩
       case round =>
        clear H'
        try clear c1
        try clear c2
        try clear p2
        try clear c5
        try clear c7
        try clear c8
        try clear c8b0
        try clear p2
        obtain ⟨x5_3, x7_3, rfl, rfl, HA, HK3, ⟨m3, rfl⟩⟩ := hrel
        cases gk with
        | zero => exact absurd HA.out (by simp [spec_StripShift.l1])
        | succ k3 =>
         have H := HA.out
         clear HA
         simp only [spec_StripShift.l1] at H
         by_cases c9 : x7_3 < (l1.length : Int)
         ·rw [if_pos c9] at H
          have c9b0 : decide (x7_3 < (l1.length : Int)) = true := decide_eq_true c9
          clear c9
          have HC10 := Aside0.mk H
          clear H
          go_upto_region 10 with (fail)
          repeat (go_quiet (fail); go_upto_region 10 with (fail))
          go_cut [47] (fun v47 wc => ∃ (kq : Nat) (x47_9 : Bool), v47 = .bool x47_9 ∧ Aside0 (spec_StripShift.j3 kq l0 l1 x5_3 x6_2 x7_3 x47_9 = some r) ∧ Aside0 (kq ≤ k3) ∧ Drawn0 w wc)
          case first =>
           have H := HC10.out
           clear HC10
           by_cases c11 : 0 ≤ x6_2
           ·rw [if_pos c11] at H
            have c11b0 : decide (0 ≤ x6_2) = true := decide_eq_true c11
            clear c11
            (first | rw [c11b0] | (simp only [i64_w, i32_w]; rw [c11b0]) | skip)
            by_cases c12 : x6_2 < (l0.length : Int)
            ·rw [if_pos c12] at H
             have c12b0 : decide (x6_2 < (l0.length : Int)) = true := decide_eq_true c12
             clear c12
             by_cases c13 : 0 ≤ x7_3
             ·rw [if_pos c13] at H
              have c13b0 : decide (0 ≤ x7_3) = true := decide_eq_true c13
              clear c13
              by_cases c14 : (rd l0 x6_2) = (rd l1 x7_3)
              ·rw [if_pos c14] at H
               have c14b0 : ((rd l0 x6_2) == (rd l1 x7_3)) = true := beq_iff_eq.mpr c14
               have c14b1 : ((rd l0 x6_2) != (rd l1 x7_3)) = false := bne_eq_false_iff_eq.mpr c14
               clear c14
               have H' := Aside0.mk H
               clear H
               have p103 : 0 ≤ (x6_2 : Int) := of_decide_eq_true (by first | (with_reducible assumption) | assumption)
               have q103 : x6_2 < (l0.length : Int) := of_decide_eq_true (by first | (with_reducible assumption) | assumption)
               obtain ⟨ad103, e103, hx103_0⟩ := Kd.at_int HR0.out x6_2 p103 q103
               cases e103
               replace p103 := eq_true p103
               replace q103 := eq_true q103
               have p104 : 0 ≤ (x7_3 : Int) := of_decide_eq_true (by first | (with_reducible assumption) | assumption)
               have q104 : x7_3 < (l1.length : Int) := of_decide_eq_true (by first | (with_reducible assumption) | assumption)
               obtain ⟨ad104, e104, hx104_0⟩ := Kd.at_int HR1.out x7_3 p104 q104
               cases e104
               replace p104 := eq_true p104
               replace q104 := eq_true q104
               go_wp2
               repeat (go_quiet (fail); try go_wp2)
               go_meet
               case rel => exact ⟨_, (decide ((wrap64 (x6_2 - x7_3)) > x5_3)), (by first | rfl | (simp; done) | (simp [*]; done)), H', ⟨by have := HJ2.out; have := HK2.out; have := HK3.out; first | omega | exact Nat.le_refl _⟩, by repeat (first | exact Drawn0.refl _ | apply Drawn0.step)⟩
              ·rw [if_neg c14] at H
               have c14b0 : ((rd l0 x6_2) == (rd l1 x7_3)) = false := beq_eq_false_iff_ne.mpr c14
               have c14b1 : ((rd l0 x6_2) != (rd l1 x7_3)) = true := bne_iff_ne.mpr c14
               have H' := Aside0.mk H
               clear H
               have p103 : 0 ≤ (x6_2 : Int) := of_decide_eq_true (by first | (with_reducible assumption) | assumption)
               have q103 : x6_2 < (l0.length : Int) := of_decide_eq_true (by first | (with_reducible assumption) | assumption)
               obtain ⟨ad103, e103, hx103_0⟩ := Kd.at_int HR0.out x6_2 p103 q103
               cases e103
               replace p103 := eq_true p103
               replace q103 := eq_true q103
               have p104 : 0 ≤ (x7_3 : Int) := of_decide_eq_true (by first | (with_reducible assumption) | assumption)
               have q104 : x7_3 < (l1.length : Int) := of_decide_eq_true (by first | (with_reducible assumption) | assumption)
               obtain ⟨ad104, e104, hx104_0⟩ := Kd.at_int HR1.out x7_3 p104 q104
               cases e104
               replace p104 := eq_true p104
               replace q104 := eq_true q104
               go_wp2
               repeat (go_quiet (fail); try go_wp2)
               go_meet
               case rel => exact ⟨_, (false), (by first | rfl | (simp; done) | (simp [*]; done)), H', ⟨by have := HJ2.out; have := HK2.out; have := HK3.out; first | omega | exact Nat.le_refl _⟩, by repeat (first | exact Drawn0.refl _ | apply Drawn0.step)⟩
             ·rw [if_neg c13] at H
              exact absurd H (by simp)
            ·rw [if_neg c12] at H
             exact absurd H (by simp)
           ·rw [if_neg c11] at H
            exact absurd H (by simp)
          case rest =>
           clear HC10
           try clear c1
           try clear p1
           try clear q1
           try clear hx1
           try clear c2
           try clear p2
           try clear c5
           try clear p6
           try clear c7
           try clear c8
           try clear c8b0
           try clear c9
           try clear c9b0
           try clear p10
           try clear q10
           try clear hx10
           try clear c11
           try clear c11b0
           try clear c12
           try clear c12b0
           try clear c13
           try clear c13b0
           try clear c14
           try clear c14b0
           try clear c14b1
           try clear hx103_0
           try clear hx104_0
           try clear p103
           try clear p104
           try clear p2
           try clear q103
           try clear q104
           obtain ⟨kq, x47_9, rfl, HA, HJ9, ⟨mc9, rfl⟩⟩ := hcut
           cases kq with
           | zero => exact absurd HA.out (by simp [spec_StripShift.j3])
           | succ kj9 =>
            have H := HA.out
            clear HA
            simp only [spec_StripShift.j3] at H
            by_cases c15 : x47_9 = true
            ·subst c15
             have H1 : (if 0 ≤ x6_2 then (if x6_2 < (l0.length : Int) then (if 0 ≤ x7_3 then (if x7_3 < (l1.length : Int) then (if (rd l0 x6_2) = (rd l1 x7_3) then (if (wrap64 (x7_3 - x6_2)) > (wrap64 (x6_2 - x7_3)) then (spec_StripShift.l1 kj9 l0 l1 (wrap64 (x7_3 - x6_2)) x6_2 (wrap64 (x7_3 + 1))) else (spec_StripShift.l1 kj9 l0 l1 (wrap64 (x6_2 - x7_3)) x6_2 (wrap64 (x7_3 + 1)))) else (spec_StripShift.l1 kj9 l0 l1 (wrap64 (x6_2 - x7_3)) x6_2 (wrap64 (x7_3 + 1)))) else (none)) else (none)) else (none)) else (none)) = some r := by rw [if_pos rfl] at H; exact H
             clear H
             have H := H1
             clear H1
             by_cases c16 : 0 ≤ x6_2
             ·rw [if_pos c16] at H
              have c16b0 : decide (0 ≤ x6_2) = true := decide_eq_true c16
              clear c16
              by_cases c17 : x6_2 < (l0.length : Int)
              ·rw [if_pos c17] at H
               have c17b0 : decide (x6_2 < (l0.length : Int)) = true := decide_eq_true c17
               clear c17
               by_cases c18 : 0 ≤ x7_3
               ·rw [if_pos c18] at H
                have c18b0 : decide (0 ≤ x7_3) = true := decide_eq_true c18
                clear c18
                by_cases c19 : x7_3 < (l1.length : Int)
                ·rw [if_pos c19] at H
                 have c19b0 : decide (x7_3 < (l1.length : Int)) = true := decide_eq_true c19
                 clear c19
                 by_cases c20 : (rd l0 x6_2) = (rd l1 x7_3)
                 ·rw [if_pos c20] at H
                  have c20b0 : ((rd l0 x6_2) == (rd l1 x7_3)) = true := beq_iff_eq.mpr c20
                  have c20b1 : ((rd l0 x6_2) != (rd l1 x7_3)) = false := bne_eq_false_iff_eq.mpr c20
                  clear c20
                  by_cases c21 : (wrap64 (x7_3 - x6_2)) > (wrap64 (x6_2 - x7_3))
                  ·rw [if_pos c21] at H
                   have c21b0 : decide ((wrap64 (x6_2 - x7_3)) < (wrap64 (x7_3 - x6_2))) = true := decide_eq_true c21
                   clear c21
                   have H' := Aside0.mk H
                   clear H
                   have p105 : 0 ≤ (x6_2 : Int) := of_decide_eq_true (by first | (with_reducible assumption) | assumption)
                   have q105 : x6_2 < (l0.length : Int) := of_decide_eq_true (by first | (with_reducible assumption) | assumption)
                   obtain ⟨ad105, e105, hx105_0⟩ := Kd.at_int HR0.out x6_2 p105 q105
                   cases e105
                   replace p105 := eq_true p105
                   replace q105 := eq_true q105
                   have p106 : 0 ≤ (x7_3 : Int) := of_decide_eq_true (by first | (with_reducible assumption) | assumption)
                   have q106 : x7_3 < (l1.length : Int) := of_decide_eq_true (by first | (with_reducible assumption) | assumption)
                   obtain ⟨ad106, e106, hx106_0⟩ := Kd.at_int HR1.out x7_3 p106 q106
                   cases e106
                   replace p106 := eq_true p106
                   replace q106 := eq_true q106
                   go_wp2
                   repeat (go_quiet (fail); try go_wp2)
                   go_roundg kj9
                   case measure => have := HJ2.out; have := HK2.out; have := HK3.out; have := HJ9.out; omega
                   case rel => exact ⟨(wrap64 (x7_3 - x6_2)), (wrap64 (x7_3 + 1)), (by first | rfl | (simp; done) | (simp [*]; done)), (by first | rfl | (simp; done) | (simp [*]; done)), H', ⟨by have := HJ2.out; have := HK2.out; have := HK3.out; have := HJ9.out; omega⟩, by repeat (first | exact Drawn0.refl _ | apply Drawn0.step)⟩
                  ·rw [if_neg c21] at H
                   have c21b0 : decide ((wrap64 (x6_2 - x7_3)) < (wrap64 (x7_3 - x6_2))) = false := decide_eq_false c21
                   clear c21
                   have H' := Aside0.mk H
                   clear H
                   have p105 : 0 ≤ (x6_2 : Int) := of_decide_eq_true (by first | (with_reducible assumption) | assumption)
                   have q105 : x6_2 < (l0.length : Int) := of_decide_eq_true (by first | (with_reducible assumption) | assumption)
                   obtain ⟨ad105, e105, hx105_0⟩ := Kd.at_int HR0.out x6_2 p105 q105
                   cases e105
                   replace p105 := eq_true p105
                   replace q105 := eq_true q105
                   have p106 : 0 ≤ (x7_3 : Int) := of_decide_eq_true (by first | (with_reducible assumption) | assumption)
                   have q106 : x7_3 < (l1.length : Int) := of_decide_eq_true (by first | (with_reducible assumption) | assumption)
                   obtain ⟨ad106, e106, hx106_0⟩ := Kd.at_int HR1.out x7_3 p106 q106
                   cases e106
                   replace p106 := eq_true p106
                   replace q106 := eq_true q106
                   go_wp2
                   repeat (go_quiet (fail); try go_wp2)
                   go_roundg kj9
                   case measure => have := HJ2.out; have := HK2.out; have := HK3.out; have := HJ9.out; omega
                   case rel => exact ⟨(wrap64 (x6_2 - x7_3)), (wrap64 (x7_3 + 1)), (by first | rfl | (simp; done) | (simp [*]; done)), (by first | rfl | (simp; done) | (simp [*]; done)), H', ⟨by have := HJ2.out; have := HK2.out; have := HK3.out; have := HJ9.out; omega⟩, by repeat (first | exact Drawn0.refl _ | apply Drawn0.step)⟩
                 ·rw [if_neg c20] at H
                  have c20b0 : ((rd l0 x6_2) == (rd l1 x7_3)) = false := beq_eq_false_iff_ne.mpr c20
                  have c20b1 : ((rd l0 x6_2) != (rd l1 x7_3)) = true := bne_iff_ne.mpr c20
                  have H' := Aside0.mk H
                  clear H
                  have p105 : 0 ≤ (x6_2 : Int) := of_decide_eq_true (by first | (with_reducible assumption) | assumption)
                  have q105 : x6_2 < (l0.length : Int) := of_decide_eq_true (by first | (with_reducible assumption) | assumption)
                  obtain ⟨ad105, e105, hx105_0⟩ := Kd.at_int HR0.out x6_2 p105 q105
                  cases e105
                  replace p105 := eq_true p105
                  replace q105 := eq_true q105
                  have p106 : 0 ≤ (x7_3 : Int) := of_decide_eq_true (by first | (with_reducible assumption) | assumption)
                  have q106 : x7_3 < (l1.length : Int) := of_decide_eq_true (by first | (with_reducible assumption) | assumption)
                  obtain ⟨ad106, e106, hx106_0⟩ := Kd.at_int HR1.out x7_3 p106 q106
                  cases e106
                  replace p106 := eq_true p106
                  replace q106 := eq_true q106
                  go_wp2
                  repeat (go_quiet (fail); try go_wp2)
                  go_roundg kj9
                  case measure => have := HJ2.out; have := HK2.out; have := HK3.out; have := HJ9.out; omega
                  case rel => exact ⟨(wrap64 (x6_2 - x7_3)), (wrap64 (x7_3 + 1)), (by first | rfl | (simp; done) | (simp [*]; done)), (by first | rfl | (simp; done) | (simp [*]; done)), H', ⟨by have := HJ2.out; have := HK2.out; have := HK3.out; have := HJ9.out; omega⟩, by repeat (first | exact Drawn0.refl _ | apply Drawn0.step)⟩
                ·rw [if_neg c19] at H
                 exact absurd H (by simp)
               ·rw [if_neg c18] at H
                exact absurd H (by simp)
              ·rw [if_neg c17] at H
               exact absurd H (by simp)
             ·rw [if_neg c16] at H
              exact absurd H (by simp)
            ·replace c15 := Bool.eq_false_iff.mpr c15
             subst c15
             have H1 : (if 0 ≤ x6_2 then (if x6_2 < (l0.length : Int) then (if 0 ≤ x7_3 then (if x7_3 < (l1.length : Int) then (if (rd l0 x6_2) = (rd l1 x7_3) then (if (wrap64 (x7_3 - x6_2)) > x5_3 then (spec_StripShift.l1 kj9 l0 l1 (wrap64 (x7_3 - x6_2)) x6_2 (wrap64 (x7_3 + 1))) else (spec_StripShift.l1 kj9 l0 l1 x5_3 x6_2 (wrap64 (x7_3 + 1)))) else (spec_StripShift.l1 kj9 l0 l1 x5_3 x6_2 (wrap64 (x7_3 + 1)))) else (none)) else (none)) else (none)) else (none)) = some r := by rw [if_neg (show ¬ (false = true) by decide)] at H; exact H
             clear H
             have H := H1
             clear H1
             by_cases c22 : 0 ≤ x6_2
             ·rw [if_pos c22] at H
              have c22b0 : decide (0 ≤ x6_2) = true := decide_eq_true c22
              clear c22
              by_cases c23 : x6_2 < (l0.length : Int)
              ·rw [if_pos c23] at H
               have c23b0 : decide (x6_2 < (l0.length : Int)) = true := decide_eq_true c23
               clear c23
               by_cases c24 : 0 ≤ x7_3
               ·rw [if_pos c24] at H
                have c24b0 : decide (0 ≤ x7_3) = true := decide_eq_true c24
                clear c24
                by_cases c25 : x7_3 < (l1.length : Int)
                ·rw [if_pos c25] at H
                 have c25b0 : decide (x7_3 < (l1.length : Int)) = true := decide_eq_true c25
                 clear c25
                 by_cases c26 : (rd l0 x6_2) = (rd l1 x7_3)
                 ·rw [if_pos c26] at H
                  have c26b0 : ((rd l0 x6_2) == (rd l1 x7_3)) = true := beq_iff_eq.mpr c26
                  have c26b1 : ((rd l0 x6_2) != (rd l1 x7_3)) = false := bne_eq_false_iff_eq.mpr c26
                  clear c26
                  by_cases c27 : (wrap64 (x7_3 - x6_2)) > x5_3
                  ·rw [if_pos c27] at H
                   have c27b0 : decide (x5_3 < (wrap64 (x7_3 - x6_2))) = true := decide_eq_true c27
                   clear c27
                   have H' := Aside0.mk H
                   clear H
                   have p107 : 0 ≤ (x6_2 : Int) := of_decide_eq_true (by first | (with_reducible assumption) | assumption)
                   have q107 : x6_2 < (l0.length : Int) := of_decide_eq_true (by first | (with_reducible assumption) | assumption)
                   obtain ⟨ad107, e107, hx107_0⟩ := Kd.at_int HR0.out x6_2 p107 q107
                   cases e107
                   replace p107 := eq_true p107
                   replace q107 := eq_true q107
                   have p108 : 0 ≤ (x7_3 : Int) := of_decide_eq_true (by first | (with_reducible assumption) | assumption)
                   have q108 : x7_3 < (l1.length : Int) := of_decide_eq_true (by first | (with_reducible assumption) | assumption)
                   obtain ⟨ad108, e108, hx108_0⟩ := Kd.at_int HR1.out x7_3 p108 q108
                   cases e108
                   replace p108 := eq_true p108
                   replace q108 := eq_true q108
                   go_wp2
                   repeat (go_quiet (fail); try go_wp2)
                   go_roundg kj9
                   case measure => have := HJ2.out; have := HK2.out; have := HK3.out; have := HJ9.out; omega
                   case rel => exact ⟨(wrap64 (x7_3 - x6_2)), (wrap64 (x7_3 + 1)), (by first | rfl | (simp; done) | (simp [*]; done)), (by first | rfl | (simp; done) | (simp [*]; done)), H', ⟨by have := HJ2.out; have := HK2.out; have := HK3.out; have := HJ9.out; omega⟩, by repeat (first | exact Drawn0.refl _ | apply Drawn0.step)⟩
                  ·rw [if_neg c27] at H
                   have c27b0 : decide (x5_3 < (wrap64 (x7_3 - x6_2))) = false := decide_eq_false c27
                   clear c27
                   have H' := Aside0.mk H
                   clear H
                   have p107 : 0 ≤ (x6_2 : Int) := of_decide_eq_true (by first | (with_reducible assumption) | assumption)
                   have q107 : x6_2 < (l0.length : Int) := of_decide_eq_true (by first | (with_reducible assumption) | assumption)
                   obtain ⟨ad107, e107, hx107_0⟩ := Kd.at_int HR0.out x6_2 p107 q107
                   cases e107
                   replace p107 := eq_true p107
                   replace q107 := eq_true q107
                   have p108 : 0 ≤ (x7_3 : Int) := of_decide_eq_true (by first | (with_reducible assumption) | assumption)
                   have q108 : x7_3 < (l1.length : Int) := of_decide_eq_true (by first | (with_reducible assumption) | assumption)
                   obtain ⟨ad108, e108, hx108_0⟩ := Kd.at_int HR1.out x7_3 p108 q108
                   cases e108
                   replace p108 := eq_true p108
                   replace q108 := eq_true q108
                   go_wp2
                   repeat (go_quiet (fail); try go_wp2)
                   go_roundg kj9
                   case measure => have := HJ2.out; have := HK2.out; have := HK3.out; have := HJ9.out; omega
                   case rel => exact ⟨(x5_3), (wrap64 (x7_3 + 1)), (by first | rfl | (simp; done) | (simp [*]; done)), (by first | rfl | (simp; done) | (simp [*]; done)), H', ⟨by have := HJ2.out; have := HK2.out; have := HK3.out; have := HJ9.out; omega⟩, by repeat (first | exact Drawn0.refl _ | apply Drawn0.step)⟩
                 ·rw [if_neg c26] at H
                  have c26b0 : ((rd l0 x6_2) == (rd l1 x7_3)) = false := beq_eq_false_iff_ne.mpr c26
                  have c26b1 : ((rd l0 x6_2) != (rd l1 x7_3)) = true := bne_iff_ne.mpr c26
                  have H' := Aside0.mk H
                  clear H
                  have p107 : 0 ≤ (x6_2 : Int) := of_decide_eq_true (by first | (with_reducible assumption) | assumption)
                  have q107 : x6_2 < (l0.length : Int) := of_decide_eq_true (by first | (with_reducible assumption) | assumption)
                  obtain ⟨ad107, e107, hx107_0⟩ := Kd.at_int HR0.out x6_2 p107 q107
                  cases e107
                  replace p107 := eq_true p107
                  replace q107 := eq_true q107
                  have p108 : 0 ≤ (x7_3 : Int) := of_decide_eq_true (by first | (with_reducible assumption) | assumption)
                  have q108 : x7_3 < (l1.length : Int) := of_decide_eq_true (by first | (with_reducible assumption) | assumption)
                  obtain ⟨ad108, e108, hx108_0⟩ := Kd.at_int HR1.out x7_3 p108 q108
                  cases e108
                  replace p108 := eq_true p108
                  replace q108 := eq_true q108
                  go_wp2
                  repeat (go_quiet (fail); try go_wp2)
                  go_roundg kj9
                  case measure => have := HJ2.out; have := HK2.out; have := HK3.out; have := HJ9.out; omega
                  case rel => exact ⟨(x5_3), (wrap64 (x7_3 + 1)), (by first | rfl | (simp; done) | (simp [*]; done)), (by first | rfl | (simp; done) | (simp [*]; done)), H', ⟨by have := HJ2.out; have := HK2.out; have := HK3.out; have := HJ9.out; omega⟩, by repeat (first | exact Drawn0.refl _ | apply Drawn0.step)⟩
                ·rw [if_neg c25] at H
                 exact absurd H (by simp)
               ·rw [if_neg c24] at H
                exact absurd H (by simp)
              ·rw [if_neg c23] at H
               exact absurd H (by simp)
             ·rw [if_neg c22] at H
              exact absurd H (by simp)
         ·rw [if_neg c9] at H
          have c9b0 : decide (x7_3 < (l1.length : Int)) = false := decide_eq_false c9
          clear c9
          have H' := Aside0.mk H
          clear H
          go_wp2
          repeat (go_quiet (fail); try go_wp2)
          go_roundg k3
          case measure => have := HJ2.out; have := HK2.out; have := HK3.out; omega
          case rel => exact ⟨(x5_3), (wrap64 (x6_2 + 1)), (by first | rfl | (simp; done) | (simp [*]; done)), (by first | rfl | (simp; done) | (simp [*]; done)), H', ⟨by have := HJ2.out; have := HK2.out; have := HK3.out; omega⟩, by repeat (first | exact Drawn0.refl _ | apply Drawn0.step)⟩
      ·rw [if_neg c8] at H
       have c8b0 : decide (x6_2 < (l0.length : Int)) = false := decide_eq_false c8
       clear c8
       obtain rfl := Option.some.inj H
       go_wp2
       repeat (go_quiet (fail); try go_wp2)
       go_ret
       exact ⟨by first | rfl | (simp; done) | (simp [*]; done), by repeat (first | exact Drawn0.refl _ | apply Drawn0.step)⟩

end Go.Proofs.Ytpdmimlkgmhepaa.G

/- The plain functions of this seat's Go text and, for each, that the call comes to what its plain function says: written for this claim by a program of the session (drv.py) over the kit's print.py. -/
namespace Go.Proofs.Ytpdmimlkgmhepaa.G
open Go.RowKit Go.Proofs.YtpdmimlkgmhepaaW.PrintWords Go.Proofs.YtpdmimlkgmhepaaW.PrintLast Go.Proofs.YtpdmimlkgmhepaaW.PrintMore
attribute [local go_sem] max2_int min2_int max_two min_two max_three min_three max_four min_four   -- for this text's walks alone
set_option linter.unusedVariables false
set_option linter.unusedSimpArgs false

/-! ### slices_Index_int_int: function 51 -/
def slices_Index_int_int.l0 : Nat → List Int → Int → Int → Int → Option (Int)
 | 0, _, _, _, _ => none
 | k + 1, x0, x1, x7, x8 => if x8 < x7 then (if 0 ≤ x8 then (if x8 < (x0.length : Int) then (if x1 = (rd x0 x8) then (some x8) else (slices_Index_int_int.l0 k x0 x1 x7 (wrap64 (x8 + 1)))) else (none)) else (none)) else (some (-1))
def slices_Index_int_int.f (k : Nat) (l0 : List Int) (a1 : Int) : Option (Int) := slices_Index_int_int.l0 k l0 a1 (l0.length : Int) 0
theorem slices_Index_int_int.mono_l : ∀ k, (∀ y0 y1 y2 y3, LeO (slices_Index_int_int.l0 k y0 y1 y2 y3) (slices_Index_int_int.l0 (k + 1) y0 y1 y2 y3))
 | 0 => fun _ _ _ _ r h => by simp [slices_Index_int_int.l0] at h
 | k + 1 => by
  have ih0 := slices_Index_int_int.mono_l k
  ·intro y0 y1 y2 y3
   unfold slices_Index_int_int.l0
   repeat' first
   | (with_reducible exact ih0 _ _ _ _)
   | (with_reducible exact LeO.refl _)
   | (with_reducible exact LeO.none _)
   | (with_reducible refine LeO.ite ?_ ?_)
   | (with_reducible refine LeO.bind ?_ (fun _ => ?_))
   | exact ih0 _ _ _ _
   | exact LeO.none _
   | refine LeO.ite ?_ ?_
   | refine LeO.bind ?_ (fun _ => ?_)
theorem slices_Index_int_int.mono : ∀ a0 a1 k, LeO (slices_Index_int_int.f k a0 a1) (slices_Index_int_int.f (k + 1) a0 a1) := by
 intro a0 a1 k
 have ih0 := slices_Index_int_int.mono_l k
 unfold slices_Index_int_int.f
 repeat' first
   | (with_reducible exact ih0 _ _ _ _)
   | (with_reducible exact LeO.refl _)
   | (with_reducible exact LeO.none _)
   | (with_reducible refine LeO.ite ?_ ?_)
   | (with_reducible refine LeO.bind ?_ (fun _ => ?_))
   | exact ih0 _ _ _ _
   | exact LeO.none _
   | refine LeO.ite ?_ ?_
   | refine LeO.bind ?_ (fun _ => ?_)
set_option maxHeartbeats 8000000 in
set_option maxRecDepth 100000 in
theorem slices_Index_int_int.calls (k : Nat) (A0 : Option Addr) (c0 : Nat) (l0 : List Int) (a1 : Int) (r : Int) (w : World) (hr0 : Kd.C (Kd.int .i64) w A0 l0.length l0) (hc0 : l0.length ≤ c0) (h : slices_Index_int_int.f k l0 a1 = some r) :
  Calls Try.prog 51 #[.slice A0 l0.length c0, .int .i64 a1] w fun e w' => e = .returned (.int .i64 r) ∧ Drawn0 w w' := by
 have HR0 := Aside0.mk hr0
 have HC0 := Aside0.mk hc0
 clear hr0 hc0
 have H : (slices_Index_int_int.l0 k l0 a1 (l0.length : Int) 0) = some r := h
 clear h
 have H' := Aside0.mk H
 clear H
 go_enter Try.func51, Try.ntmps51
 go_wp2
 go_loopg [8] k (fun kq v8 w' => ∃ (x8_1 : Int), v8 = .int .i64 x8_1 ∧ Aside0 (slices_Index_int_int.l0 kq l0 a1 (l0.length : Int) x8_1 = some r) ∧ Aside0 (kq ≤ k) ∧ Drawn0 w w')
 case atStart => exact ⟨(0), (by first | rfl | (simp; done) | (simp [*]; done)), H', ⟨Nat.le_refl _⟩, by repeat (first | exact Drawn0.refl _ | apply Drawn0.step)⟩
 case round =>
  clear H'
  try clear p2
  obtain ⟨x8_1, rfl, HA, HK1, ⟨m1, rfl⟩⟩ := hrel
  cases gk with
  | zero => exact absurd HA.out (by simp [slices_Index_int_int.l0])
  | succ k1 =>
   have H := HA.out
   clear HA
   simp only [slices_Index_int_int.l0] at H
   by_cases c3 : x8_1 < (l0.length : Int)
   ·rw [if_pos c3] at H
    have c3b0 : decide (x8_1 < (l0.length : Int)) = true := decide_eq_true c3
    clear c3
    by_cases c4 : 0 ≤ x8_1
    ·rw [if_pos c4] at H
     have c4b0 : decide (0 ≤ x8_1) = true := decide_eq_true c4
     clear c4
     by_cases c5 : x8_1 < (l0.length : Int)
     ·rw [if_pos c5] at H
      have c5b0 : decide (x8_1 < (l0.length : Int)) = true := decide_eq_true c5
      clear c5
      by_cases c6 : a1 = (rd l0 x8_1)
      ·rw [if_pos c6] at H
       have c6b0 : (a1 == (rd l0 x8_1)) = true := beq_iff_eq.mpr c6
       have c6b1 : (a1 != (rd l0 x8_1)) = false := bne_eq_false_iff_eq.mpr c6
       clear c6
       obtain rfl := Option.some.inj H
       have p101 : 0 ≤ (x8_1 : Int) := of_decide_eq_true (by first | (with_reducible assumption) | assumption)
       have q101 : x8_1 < (l0.length : Int) := of_decide_eq_true (by first | (with_reducible assumption) | assumption)
       obtain ⟨ad101, e101, hx101_0⟩ := Kd.at_int HR0.out x8_1 p101 q101
       cases e101
       replace p101 := eq_true p101
       replace q101 := eq_true q101
       go_wp2
       go_ret
       exact ⟨by first | rfl | (simp; done) | (simp [*]; done), by repeat (first | exact Drawn0.refl _ | apply Drawn0.step)⟩
      ·rw [if_neg c6] at H
       have c6b0 : (a1 == (rd l0 x8_1)) = false := beq_eq_false_iff_ne.mpr c6
       have c6b1 : (a1 != (rd l0 x8_1)) = true := bne_iff_ne.mpr c6
       have H' := Aside0.mk H
       clear H
       have p101 : 0 ≤ (x8_1 : Int) := of_decide_eq_true (by first | (with_reducible assumption) | assumption)
       have q101 : x8_1 < (l0.length : Int) := of_decide_eq_true (by first | (with_reducible assumption) | assumption)
       obtain ⟨ad101, e101, hx101_0⟩ := Kd.at_int HR0.out x8_1 p101 q101
       cases e101
       replace p101 := eq_true p101
       replace q101 := eq_true q101
       go_wp2
       go_roundg k1
       case measure => have := HK1.out; omega
       case rel => exact ⟨(wrap64 (x8_1 + 1)), (by first | rfl | (simp; done) | (simp [*]; done)), H', ⟨by have := HK1.out; omega⟩, by repeat (first | exact Drawn0.refl _ | apply Drawn0.step)⟩
     ·rw [if_neg c5] at H
      exact absurd H (by simp)
    ·rw [if_neg c4] at H
     exact absurd H (by simp)
   ·rw [if_neg c3] at H
    have c3b0 : decide (x8_1 < (l0.length : Int)) = false := decide_eq_false c3
    clear c3
    obtain rfl := Option.some.inj H
    go_wp2
    go_ret
    exact ⟨by first | rfl | (simp; done) | (simp [*]; done), by repeat (first | exact Drawn0.refl _ | apply Drawn0.step)⟩

end Go.Proofs.Ytpdmimlkgmhepaa.G

/- The plain functions of this seat's Go text and, for each, that the call comes to what its plain function says: written for this claim by a program of the session (drv.py) over the kit's print.py. -/
namespace Go.Proofs.Ytpdmimlkgmhepaa.G
open Go.RowKit Go.Proofs.YtpdmimlkgmhepaaW.PrintWords Go.Proofs.YtpdmimlkgmhepaaW.PrintLast Go.Proofs.YtpdmimlkgmhepaaW.PrintMore
attribute [local go_sem] max2_int min2_int max_two min_two max_three min_three max_four min_four   -- for this text's walks alone
set_option linter.unusedVariables false
set_option linter.unusedSimpArgs false

/-! ### impl_StripShift: function 13 -/
mutual
def impl_StripShift.j0 : Nat → List Int → List Int → Bool → Option (Int)
 | 0, _, _, _ => none
 | k + 1, x0, x1, x23 => if x23 = true then (some (-1)) else (impl_StripShift.l0 k x1 0 x0 (x0.length : Int) 0)
def impl_StripShift.l0 : Nat → List Int → Int → List Int → Int → Int → Option (Int)
 | 0, _, _, _, _, _ => none
 | k + 1, x1, x5, x24, x25, x26 => if x26 < x25 then (if 0 ≤ x26 then (if x26 < (x24.length : Int) then ((slices_Index_int_int.f k x1 (rd x24 x26)).bind fun t104 => (impl_StripShift.l0 k x1 (mx (mx x5 (wrap64 (x26 - t104))) (wrap64 (t104 - x26))) x24 x25 (wrap64 (x26 + 1)))) else (none)) else (none)) else (some x5)
end
def impl_StripShift.f (k : Nat) (l0 : List Int) (l1 : List Int) : Option (Int) := if (l0.length : Int) = (l1.length : Int) then ((impl_isOrder.f k l0).bind fun t101 => (if t101 = true then ((impl_isOrder.f k l1).bind fun t102 => (impl_StripShift.j0 k l0 l1 (!t102))) else (impl_StripShift.j0 k l0 l1 true))) else (impl_StripShift.j0 k l0 l1 true)
theorem impl_StripShift.mono_l : ∀ k, (∀ y0 y1 y2, LeO (impl_StripShift.j0 k y0 y1 y2) (impl_StripShift.j0 (k + 1) y0 y1 y2)) ∧ (∀ y0 y1 y2 y3 y4, LeO (impl_StripShift.l0 k y0 y1 y2 y3 y4) (impl_StripShift.l0 (k + 1) y0 y1 y2 y3 y4))
 | 0 => ⟨fun _ _ _ r h => by simp [impl_StripShift.j0] at h, fun _ _ _ _ _ r h => by simp [impl_StripShift.l0] at h⟩
 | k + 1 => by
  obtain ⟨ih0, ih1⟩ := impl_StripShift.mono_l k
  refine ⟨?_, ?_⟩
  ·intro y0 y1 y2
   unfold impl_StripShift.j0
   repeat' first
   | (with_reducible exact ih0 _ _ _)
   | (with_reducible exact ih1 _ _ _ _ _)
   | (with_reducible exact impl_isOrder.mono _ _)
   | (with_reducible exact slices_Index_int_int.mono _ _ _)
   | (with_reducible exact LeO.refl _)
   | (with_reducible exact LeO.none _)
   | (with_reducible refine LeO.ite ?_ ?_)
   | (with_reducible refine LeO.bind ?_ (fun _ => ?_))
   | exact ih0 _ _ _
   | exact ih1 _ _ _ _ _
   | exact impl_isOrder.mono _ _
   | exact slices_Index_int_int.mono _ _ _
   | exact LeO.none _
   | refine LeO.ite ?_ ?_
   | refine LeO.bind ?_ (fun _ => ?_)
  ·intro y0 y1 y2 y3 y4
   unfold impl_StripShift.l0
   repeat' first
   | (with_reducible exact ih0 _ _ _)
   | (with_reducible exact ih1 _ _ _ _ _)
   | (with_reducible exact impl_isOrder.mono _ _)
   | (with_reducible exact slices_Index_int_int.mono _ _ _)
   | (with_reducible exact LeO.refl _)
   | (with_reducible exact LeO.none _)
   | (with_reducible refine LeO.ite ?_ ?_)
   | (with_reducible refine LeO.bind ?_ (fun _ => ?_))
   | exact ih0 _ _ _
   | exact ih1 _ _ _ _ _
   | exact impl_isOrder.mono _ _
   | exact slices_Index_int_int.mono _ _ _
   | exact LeO.none _
   | refine LeO.ite ?_ ?_
   | refine LeO.bind ?_ (fun _ => ?_)
theorem impl_StripShift.mono : ∀ a0 a1 k, LeO (impl_StripShift.f k a0 a1) (impl_StripShift.f (k + 1) a0 a1) := by
 intro a0 a1 k
 obtain ⟨ih0, ih1⟩ := impl_StripShift.mono_l k
 unfold impl_StripShift.f
 repeat' first
   | (with_reducible exact ih0 _ _ _)
   | (with_reducible exact ih1 _ _ _ _ _)
   | (with_reducible exact impl_isOrder.mono _ _)
   | (with_reducible exact slices_Index_int_int.mono _ _ _)
   | (with_reducible exact LeO.refl _)
   | (with_reducible exact LeO.none _)
   | (with_reducible refine LeO.ite ?_ ?_)
   | (with_reducible refine LeO.bind ?_ (fun _ => ?_))
   | exact ih0 _ _ _
   | exact ih1 _ _ _ _ _
   | exact impl_isOrder.mono _ _
   | exact slices_Index_int_int.mono _ _ _
   | exact LeO.none _
   | refine LeO.ite ?_ ?_
   | refine LeO.bind ?_ (fun _ => ?_)
set_option maxHeartbeats 8000000 in
set_option maxRecDepth 100000 in
theorem impl_StripShift.calls (k : Nat) (A0 : Option Addr) (c0 : Nat) (l0 : List Int) (A1 : Option Addr) (c1 : Nat) (l1 : List Int) (r : Int) (w : World) (hr0 : Kd.C (Kd.int .i64) w A0 l0.length l0) (hc0 : l0.length ≤ c0) (hr1 : Kd.C (Kd.int .i64) w A1 l1.length l1) (hc1 : l1.length ≤ c1) (h : impl_StripShift.f k l0 l1 = some r) :
  Calls Try.prog 13 #[.slice A0 l0.length c0, .slice A1 l1.length c1] w fun e w' => e = .returned (.int .i64 r) ∧ Below w.heap.size w w' := by
 have HR0 := Aside0.mk hr0
 have HC0 := Aside0.mk hc0
 clear hr0 hc0
 have HR1 := Aside0.mk hr1
 have HC1 := Aside0.mk hc1
 clear hr1 hc1
 have HB := Aside0.mk (Below.refl w.heap.size w)
 have H : (if (l0.length : Int) = (l1.length : Int) then ((impl_isOrder.f k l0).bind fun t101 => (if t101 = true then ((impl_isOrder.f k l1).bind fun t102 => (impl_StripShift.j0 k l0 l1 (!t102))) else (impl_StripShift.j0 k l0 l1 true))) else (impl_StripShift.j0 k l0 l1 true)) = some r := h
 clear h
 have HC3 := Aside0.mk H
 clear H
 go_enter Try.func13, Try.ntmps13
 go_upto_region 1 with (fail)
 go_cut [23] (fun v23 wc => ∃ (kq : Nat) (x23_2 : Bool), v23 = .bool x23_2 ∧ Aside0 (impl_StripShift.j0 kq l0 l1 x23_2 = some r) ∧ Aside0 (kq ≤ k) ∧ Aside0 (Below w.heap.size w wc))
 case first =>
  have H := HC3.out
  clear HC3
  by_cases c4 : (l0.length : Int) = (l1.length : Int)
  ·rw [if_pos c4] at H
   have c4b0 : ((l0.length : Int) == (l1.length : Int)) = true := beq_iff_eq.mpr c4
   have c4b1 : ((l0.length : Int) != (l1.length : Int)) = false := bne_eq_false_iff_eq.mpr c4
   have c4b2 : (l0.length == l1.length) = true := by first | simpa using c4 | (simp at c4 ⊢; omega)
   clear c4
   (first | rw [c4b0] | (simp only [i64_w, i32_w]; rw [c4b0]) | skip)
   replace H := Option.bind_eq_some_iff.mp H
   obtain ⟨t101, A50, H⟩ := H
   replace H : (if t101 = true then ((impl_isOrder.f k l1).bind fun t102 => (impl_StripShift.j0 k l0 l1 (!t102))) else (impl_StripShift.j0 k l0 l1 true)) = some r := H
   have A5 := Aside0.mk A50
   clear A50
   by_cases c6 : t101 = true
   ·subst c6
    have H1 : ((impl_isOrder.f k l1).bind fun t102 => (impl_StripShift.j0 k l0 l1 (!t102))) = some r := by rw [if_pos rfl] at H; exact H
    clear H
    have H := H1
    clear H1
    replace H := Option.bind_eq_some_iff.mp H
    obtain ⟨t102, A70, H⟩ := H
    replace H : (impl_StripShift.j0 k l0 l1 (!t102)) = some r := H
    have A7 := Aside0.mk A70
    clear A70
    have H' := Aside0.mk H
    clear H
    go_wp2_with (first | (go_at_call 50; (with_reducible refine (impl_isOrder.calls k _ _ l0 true _ ?side1 ?side2 A5.out).mono ?_); (case side1 => repeat (first | exact (Kd.C_below HR0.out HB.out) | (with_reducible refine Kd.C_alloc ?_ _) | (with_reducible refine Kd.C_drewN ?_ _) | (with_reducible refine Kd.C_drew ?_))); (case side2 => exact HC0.out); rintro e w8 ⟨rfl, hb⟩; have n0_ := Aside0.mk (below_step (eb HB.out) hb); clear HB; have HB := n0_; clear n0_; (try clear hb); (try clear hb2); (try clear hk); (try clear hi)) | (go_at_call 50; (with_reducible refine (impl_isOrder.calls k _ _ l1 t102 _ ?side1 ?side2 A7.out).mono ?_); (case side1 => repeat (first | exact (Kd.C_below HR1.out HB.out) | (with_reducible refine Kd.C_alloc ?_ _) | (with_reducible refine Kd.C_drewN ?_ _) | (with_reducible refine Kd.C_drew ?_))); (case side2 => exact HC1.out); rintro e w9 ⟨rfl, hb⟩; have n0_ := Aside0.mk (below_step (eb HB.out) hb); clear HB; have HB := n0_; clear n0_; (try clear hb); (try clear hb2); (try clear hk); (try clear hi)))
    go_meet
    case rel => exact ⟨_, (!t102), (by first | rfl | (simp; done) | (simp [*]; done)), H', ⟨by first | omega | exact Nat.le_refl _⟩, ⟨eb HB.out⟩⟩
   ·replace c6 := Bool.eq_false_iff.mpr c6
    subst c6
    have H1 : (impl_StripShift.j0 k l0 l1 true) = some r := by rw [if_neg (show ¬ (false = true) by decide)] at H; exact H
    clear H
    have H := H1
    clear H1
    have H' := Aside0.mk H
    clear H
    go_wp2_with (first | (go_at_call 50; (with_reducible refine (impl_isOrder.calls k _ _ l0 false _ ?side1 ?side2 A5.out).mono ?_); (case side1 => repeat (first | exact (Kd.C_below HR0.out HB.out) | (with_reducible refine Kd.C_alloc ?_ _) | (with_reducible refine Kd.C_drewN ?_ _) | (with_reducible refine Kd.C_drew ?_))); (case side2 => exact HC0.out); rintro e w10 ⟨rfl, hb⟩; have n0_ := Aside0.mk (below_step (eb HB.out) hb); clear HB; have HB := n0_; clear n0_; (try clear hb); (try clear hb2); (try clear hk); (try clear hi)))
    go_meet
    case rel => exact ⟨_, (true), (by first | rfl | (simp; done) | (simp [*]; done)), H', ⟨by first | omega | exact Nat.le_refl _⟩, ⟨eb HB.out⟩⟩
  ·rw [if_neg c4] at H
   have c4b0 : ((l0.length : Int) == (l1.length : Int)) = false := beq_eq_false_iff_ne.mpr c4
   have c4b1 : ((l0.length : Int) != (l1.length : Int)) = true := bne_iff_ne.mpr c4
   have c4b2 : (l0.length == l1.length) = false := by first | simpa using c4 | (simp at c4 ⊢; omega)
   (first | rw [c4b0] | (simp only [i64_w, i32_w]; rw [c4b0]) | skip)
   have H' := Aside0.mk H
   clear H
   go_wp2
   go_meet
   case rel => exact ⟨_, (true), (by first | rfl | (simp; done) | (simp [*]; done)), H', ⟨by first | omega | exact Nat.le_refl _⟩, ⟨eb HB.out⟩⟩
 case rest =>
  clear HC3
  try clear c1
  try clear p2
  try clear c4
  try clear c4b0
  try clear c4b1
  try clear c4b2
  try clear c6
  obtain ⟨kq, x23_2, rfl, HA, HJ2, HB⟩ := hcut
  cases kq with
  | zero => exact absurd HA.out (by simp [impl_StripShift.j0])
  | succ kj2 =>
   have H := HA.out
   clear HA
   simp only [impl_StripShift.j0] at H
   by_cases c11 : x23_2 = true
   ·subst c11
    have H1 : (some (-1)) = some r := by rw [if_pos rfl] at H; exact H
    clear H
    have H := H1
    clear H1
    obtain rfl := Option.some.inj H
    go_wp2
    go_ret
    exact ⟨by first | rfl | (simp [errW_none, errW_some] <;> rfl) | (simp [*, errW_none, errW_some] <;> rfl), eb HB.out⟩
   ·replace c11 := Bool.eq_false_iff.mpr c11
    subst c11
    have H1 : (impl_StripShift.l0 kj2 l1 0 l0 (l0.length : Int) 0) = some r := by rw [if_neg (show ¬ (false = true) by decide)] at H; exact H
    clear H
    have H := H1
    clear H1
    have H' := Aside0.mk H
    clear H
    go_wp2
    go_loopg [5, 26] kj2 (fun kq v5 v26 w' => ∃ (x5_2 : Int) (x26_2 : Int), v5 = .int .i64 x5_2 ∧ v26 = .int .i64 x26_2 ∧ Aside0 (impl_StripShift.l0 kq l1 x5_2 l0 (l0.length : Int) x26_2 = some r) ∧ Aside0 (kq ≤ kj2) ∧ Aside0 (Below w.heap.size w w'))
    case atStart => exact ⟨(0), (0), (by first | rfl | (simp; done) | (simp [*]; done)), (by first | rfl | (simp; done) | (simp [*]; done)), H', ⟨Nat.le_refl _⟩, ⟨eb HB.out⟩⟩
    case round =>
     clear H'
     try clear c1
     try clear p2
     try clear c4
     try clear c4b0
     try clear c4b1
     try clear c4b2
     try clear c6
     try clear c11
     try clear p2
     obtain ⟨x5_2, x26_2, rfl, rfl, HA, HK2, HB⟩ := hrel
     cases gk with
     | zero => exact absurd HA.out (by simp [impl_StripShift.l0])
     | succ k2 =>
      have H := HA.out
      clear HA
      simp only [impl_StripShift.l0] at H
      by_cases c12 : x26_2 < (l0.length : Int)
      ·rw [if_pos c12] at H
       have c12b0 : decide (x26_2 < (l0.length : Int)) = true := decide_eq_true c12
       clear c12
       by_cases c13 : 0 ≤ x26_2
       ·rw [if_pos c13] at H
        have c13b0 : decide (0 ≤ x26_2) = true := decide_eq_true c13
        clear c13
        by_cases c14 : x26_2 < (l0.length : Int)
        ·rw [if_pos c14] at H
         have c14b0 : decide (x26_2 < (l0.length : Int)) = true := decide_eq_true c14
         clear c14
         replace H := Option.bind_eq_some_iff.mp H
         obtain ⟨t104, A150, H⟩ := H
         replace H : (impl_StripShift.l0 k2 l1 (mx (mx x5_2 (wrap64 (x26_2 - t104))) (wrap64 (t104 - x26_2))) l0 (l0.length : Int) (wrap64 (x26_2 + 1))) = some r := H
         have A15 := Aside0.mk A150
         clear A150
         obtain ⟨ji16, hji16⟩ : ∃ j_ : Int, (mx x5_2 (wrap64 (x26_2 - t104))) = j_ := ⟨_, rfl⟩
         replace H : (impl_StripShift.l0 k2 l1 (mx (ji16) (wrap64 (t104 - x26_2))) l0 (l0.length : Int) (wrap64 (x26_2 + 1))) = some r := by first | (rw [hji16] at H; exact H) | (simp only [hji16] at H ⊢; exact H)
         (try rw [hji16] at A15)
         have hji16_ : (if x5_2 < (wrap64 (x26_2 - t104)) then (wrap64 (x26_2 - t104)) else x5_2) = ji16 := hji16
         obtain ⟨ji17, hji17⟩ : ∃ j_ : Int, (mx (ji16) (wrap64 (t104 - x26_2))) = j_ := ⟨_, rfl⟩
         replace H : (impl_StripShift.l0 k2 l1 ji17 l0 (l0.length : Int) (wrap64 (x26_2 + 1))) = some r := by first | (rw [hji17] at H; exact H) | (simp only [hji17] at H ⊢; exact H)
         (try rw [hji17] at A15)
         have hji17_ : (if (ji16) < (wrap64 (t104 - x26_2)) then (wrap64 (t104 - x26_2)) else (ji16)) = ji17 := hji17
         have H' := Aside0.mk H
         clear H
         have p103 : 0 ≤ (x26_2 : Int) := of_decide_eq_true (by first | (with_reducible assumption) | assumption)
         have q103 : x26_2 < (l0.length : Int) := of_decide_eq_true (by first | (with_reducible assumption) | assumption)
         obtain ⟨ad103, e103, hx103_0⟩ := Kd.at_int HR0.out x26_2 p103 q103
         cases e103
         replace hx103_0 := pw_cell_below HB.out hx103_0
         replace p103 := eq_true p103
         replace q103 := eq_true q103
         go_wp2_with (first | ((with_reducible refine gate_callee (f := 51) rfl ?_); refine goesL_ (some 33) rfl rfl Try.func51 (by kernel_rfl) rfl #[.slice A1 l1.length c1, .int .i64 (rd l0 x26_2)] rfl (by (try simp only [List.map_toArray, List.map_cons, List.map_nil]); first | done | rfl | (simp only [List.length_drop, List.length_take]; rfl)) ?_; (with_reducible refine (slices_Index_int_int.calls k2 _ _ l1 (rd l0 x26_2) t104 _ ?side1 ?side2 A15.out).mono ?_); (case side1 => repeat (first | exact (Kd.C_below HR1.out HB.out) | (with_reducible refine Kd.C_alloc ?_ _) | (with_reducible refine Kd.C_drewN ?_ _) | (with_reducible refine Kd.C_drew ?_))); (case side2 => exact HC1.out); rintro e w' ⟨rfl, ⟨nd, rfl⟩⟩; refine ⟨_, rfl, ?_⟩))
         go_roundg k2
         case measure => have := HJ2.out; have := HK2.out; omega
         case rel => exact ⟨(ji17), (wrap64 (x26_2 + 1)), (by first | rfl | (simp; done) | (simp only [← hji17] <;> (first | rfl | simp)) | (simp [*]; done)), (by first | rfl | (simp; done) | (simp [*]; done)), H', ⟨by have := HJ2.out; have := HK2.out; omega⟩, ⟨eb HB.out⟩⟩
        ·rw [if_neg c14] at H
         exact absurd H (by simp)
       ·rw [if_neg c13] at H
        exact absurd H (by simp)
      ·rw [if_neg c12] at H
       have c12b0 : decide (x26_2 < (l0.length : Int)) = false := decide_eq_false c12
       clear c12
       obtain rfl := Option.some.inj H
       go_wp2
       go_ret
       exact ⟨by first | rfl | (simp [errW_none, errW_some] <;> rfl) | (simp [*, errW_none, errW_some] <;> rfl), eb HB.out⟩

end Go.Proofs.Ytpdmimlkgmhepaa.G

/- Orders, the program's and the reference's test and shift, plainly; condition: lists no longer than 10^18. -/
namespace Go.Proofs.Ytpdmimlkgmhepaa.Pure
set_option linter.unusedVariables false
set_option linter.unusedSimpArgs false
open Go.RowKit Go.Proofs.YtpdmimlkgmhepaaW.PrintWords Go.Proofs.Ytpdmimlkgmhepaa.G
/-- Each of 0 to its length - 1 once. -/
def IsOrd (a : List Int) : Prop := ∀ i, i < a.length → (0 ≤ a.getD i 0 ∧ a.getD i 0 ≤ (a.length : Int) - 1) ∧ ∀ k, k < i → a.getD k 0 ≠ a.getD i 0
instance (a : List Int) : Decidable (IsOrd a) := by unfold IsOrd; infer_instance

theorem spec_ordOk (a : List Int) (n : Nat) (hn : a.length ≤ 1000000000000000000) : Ev (fun k => spec_l3OrderOk.f k (n : Int) a) (decide (a.length = n ∧ IsOrd a)) := by
  unfold spec_l3OrderOk.f
  by_cases hl : a.length = n
  · refine Ev.pos (by omega) ?_
    subst hl
    by_cases ho : IsOrd a
    · rw [decide_eq_true ⟨rfl, ho⟩]
      refine ev_yes (n := a.length) (fun i k => spec_l3OrderOk.l0 k a.length a i) ho ?_ ?_
      · refine Ev.step (fun _ => spec_l3OrderOk.l0.eq_2 ..) (Ev.neg (by omega) (Ev.some rfl))
      · rintro i hi ⟨h1, h2⟩ hr
        refine Ev.step (fun _ => spec_l3OrderOk.l0.eq_2 ..) (Ev.pos (by omega) (Ev.pos (by omega) (Ev.pos (by omega) ?_)))
        simp only [spec_in, rd_nat, wrap_eq (x := (a.length : Int) - 1) (by omega) (by omega)]
        refine Ev.pos ⟨h1.1, h1.2⟩ ?_
        simp only [if_true]
        refine ev_yes (n := i) (P := fun k => a.getD k 0 ≠ a.getD i 0) (fun j k => spec_l3OrderOk.l1 k a.length a i j) h2 ?_ ?_
        · refine Ev.step (fun _ => spec_l3OrderOk.l1.eq_2 ..) (Ev.neg (by omega) ?_)
          simpa only [wrap_succ hi hn] using hr
        · intro j hj hne hr'
          refine Ev.step (fun _ => spec_l3OrderOk.l1.eq_2 ..) (Ev.pos (by omega) (Ev.pos (by omega) (Ev.pos (by omega) (Ev.pos (by omega) (Ev.pos (by omega) ?_)))))
          simp only [rd_nat, wrap_succ (Nat.lt_trans hj hi) hn]
          exact Ev.neg hne hr'
    · rw [decide_eq_false (fun h => ho h.2)]
      refine ev_no (n := a.length) (fun i k => spec_l3OrderOk.l0 k a.length a i) ho ?_ ?_
      · rintro i hi ⟨h1, h2⟩ hr
        refine Ev.step (fun _ => spec_l3OrderOk.l0.eq_2 ..) (Ev.pos (by omega) (Ev.pos (by omega) (Ev.pos (by omega) ?_)))
        simp only [spec_in, rd_nat, wrap_eq (x := (a.length : Int) - 1) (by omega) (by omega)]
        refine Ev.pos ⟨h1.1, h1.2⟩ ?_
        simp only [if_true]
        refine ev_yes (n := i) (P := fun k => a.getD k 0 ≠ a.getD i 0) (fun j k => spec_l3OrderOk.l1 k a.length a i j) h2 ?_ ?_
        · refine Ev.step (fun _ => spec_l3OrderOk.l1.eq_2 ..) (Ev.neg (by omega) ?_)
          simpa only [wrap_succ hi hn] using hr
        · intro j hj hne hr'
          refine Ev.step (fun _ => spec_l3OrderOk.l1.eq_2 ..) (Ev.pos (by omega) (Ev.pos (by omega) (Ev.pos (by omega) (Ev.pos (by omega) (Ev.pos (by omega) ?_)))))
          simp only [rd_nat, wrap_succ (Nat.lt_trans hj hi) hn]
          exact Ev.neg hne hr'
      · intro i hi _ hno
        refine Ev.step (fun _ => spec_l3OrderOk.l0.eq_2 ..) (Ev.pos (by omega) (Ev.pos (by omega) (Ev.pos (by omega) ?_)))
        simp only [spec_in, rd_nat, wrap_eq (x := (a.length : Int) - 1) (by omega) (by omega)]
        by_cases h1 : 0 ≤ a.getD i 0 ∧ a.getD i 0 ≤ (a.length : Int) - 1
        · refine Ev.pos h1 ?_
          simp only [if_true]
          have hx : ¬ ∀ k, k < i → a.getD k 0 ≠ a.getD i 0 := fun h => hno ⟨h1, h⟩
          refine ev_no (n := i) (P := fun k => a.getD k 0 ≠ a.getD i 0) (fun j k => spec_l3OrderOk.l1 k a.length a i j) hx ?_ ?_
          · intro j hj hne hr'
            refine Ev.step (fun _ => spec_l3OrderOk.l1.eq_2 ..) (Ev.pos (by omega) (Ev.pos (by omega) (Ev.pos (by omega) (Ev.pos (by omega) (Ev.pos (by omega) ?_)))))
            simp only [rd_nat, wrap_succ (Nat.lt_trans hj hi) hn]
            exact Ev.neg hne hr'
          · intro j hj _ hne
            refine Ev.step (fun _ => spec_l3OrderOk.l1.eq_2 ..) (Ev.pos (by omega) (Ev.pos (by omega) (Ev.pos (by omega) (Ev.pos (by omega) (Ev.pos (by omega) ?_)))))
            simp only [rd_nat]
            exact Ev.pos (Classical.not_not.1 hne) (Ev.some rfl)
        · refine Ev.neg h1 ?_
          simp only [Bool.false_eq_true, if_false]
          exact Ev.some rfl
  · rw [decide_eq_false (fun h => hl h.1)]
    exact Ev.neg (by omega) (Ev.some rfl)

/-- What the program's test has seen. -/
def Seen (a : List Int) (n i : Nat) (s : List Bool) : Prop := s.length = n ∧ ∀ v : Nat, v < n → (s.getD v false = true ↔ ∃ j, j < i ∧ a.getD j 0 = v)
theorem seen_set {a : List Int} {n i : Nat} {s : List Bool} (h : Seen a n i s) {v : Nat} (hv : v < n) (e : a.getD i 0 = v) : Seen a n (i + 1) (s.set v true) := by
  refine ⟨by rw [List.length_set]; exact h.1, fun u hu => ?_⟩
  have hs := h.1
  by_cases huv : u = v
  · subst huv
    constructor
    · exact fun _ => ⟨i, by omega, e⟩
    · intro _
      rw [List.getD_eq_getElem?_getD, List.getElem?_set_self (by omega)]
      rfl
  · rw [List.getD_eq_getElem?_getD, List.getElem?_set_ne (fun h => huv h.symm), ← List.getD_eq_getElem?_getD, h.2 u hu]
    constructor
    · rintro ⟨j, hj, e2⟩
      exact ⟨j, by omega, e2⟩
    · rintro ⟨j, hj, e2⟩
      by_cases hji : j = i
      · subst hji
        omega
      · exact ⟨j, by omega, e2⟩

theorem impl_ordOk (a : List Int) (hn : a.length ≤ 1048576) : Ev (fun k => impl_isOrder.f k a) (decide (IsOrd a)) := by
  unfold impl_isOrder.f
  refine Ev.pos (by omega) (Ev.pos (by omega) ?_)
  have key : ∀ (d i : Nat) (s : List Bool), i + d = a.length → Seen a a.length i s → (∀ j, j < i → (0 ≤ a.getD j 0 ∧ a.getD j 0 ≤ (a.length : Int) - 1) ∧ ∀ k, k < j → a.getD k 0 ≠ a.getD j 0) →
      Ev (fun k => impl_isOrder.l0 k a s a a.length i) (decide (IsOrd a)) := by
    intro d
    induction d with
    | zero =>
      intro i s hi _ hp
      obtain rfl : i = a.length := by omega
      rw [decide_eq_true (show IsOrd a from hp)]
      exact Ev.step (fun _ => impl_isOrder.l0.eq_2 ..) (Ev.neg (by omega) (Ev.some rfl))
    | succ d ih =>
      intro i s hi hs hp
      refine Ev.step (fun _ => impl_isOrder.l0.eq_2 ..) (Ev.pos (by omega) (Ev.pos (by omega) (Ev.pos (by omega) ?_)))
      simp only [impl_in, rd_nat, wrap_eq (x := (a.length : Int) - 1) (by omega) (by omega)]
      by_cases h1 : 0 ≤ a.getD i 0 ∧ a.getD i 0 ≤ (a.length : Int) - 1
      · refine Ev.pos h1 ?_
        simp only [if_true]
        obtain ⟨v, hv⟩ : ∃ v : Nat, a.getD i 0 = v := ⟨(a.getD i 0).toNat, by omega⟩
        have hvl : v < a.length := by omega
        have hsl := hs.1
        simp only [hv, rdOf_nat, Int.toNat_natCast, wrap_succ (show i < a.length by omega) (show a.length ≤ 1000000000000000000 by omega)]
        refine Ev.pos (by omega) (Ev.pos (by omega) ?_)
        by_cases hx : s.getD v false = true
        · refine Ev.pos hx ?_
          obtain ⟨j, hj, e⟩ := (hs.2 v hvl).1 hx
          rw [decide_eq_false (fun ho : IsOrd a => (ho i (by omega)).2 j hj (by rw [e, hv]))]
          exact Ev.some rfl
        · refine Ev.neg hx (ih (i + 1) _ (by omega) (seen_set hs hvl hv) fun j hj => ?_)
          by_cases hji : j = i
          · subst hji
            exact ⟨h1, fun k hk e => hx ((hs.2 v hvl).2 ⟨k, hk, by rw [e, hv]⟩)⟩
          · exact hp j (by omega)
      · refine Ev.neg h1 ?_
        simp only [Bool.false_eq_true, if_false]
        rw [decide_eq_false (fun ho : IsOrd a => h1 (ho i (by omega)).1)]
        exact Ev.some rfl
  refine key a.length 0 _ (by omega) ⟨by simp, fun v hv => ?_⟩ (fun j hj => absurd hj (by omega))
  constructor
  · intro h
    simp [List.getD_eq_getElem?_getD, hv] at h
  · rintro ⟨j, hj, _⟩
    exact absurd hj (by omega)

/-- Where a value stands first from place i on, -1 if nowhere. -/
def posFrom (b : List Int) (v : Int) : Nat → Nat → Int
  | _, 0 => -1
  | i, d + 1 => if v = b.getD i 0 then (i : Int) else posFrom b v (i + 1) d
def pos (b : List Int) (v : Int) : Int := posFrom b v 0 b.length
theorem impl_index (b : List Int) (v : Int) (hn : b.length ≤ 1048576) : Ev (fun k => slices_Index_int_int.f k b v) (pos b v) := by
  unfold slices_Index_int_int.f pos
  have key : ∀ d i, i + d = b.length → Ev (fun k => slices_Index_int_int.l0 k b v b.length i) (posFrom b v i d) := by
    intro d
    induction d with
    | zero =>
      intro i hi
      exact Ev.step (fun _ => slices_Index_int_int.l0.eq_2 ..) (Ev.neg (by omega) (Ev.some rfl))
    | succ d ih =>
      intro i hi
      refine Ev.step (fun _ => slices_Index_int_int.l0.eq_2 ..) (Ev.pos (by omega) (Ev.pos (by omega) (Ev.pos (by omega) ?_)))
      simp only [rd_nat, wrap_succ (show i < b.length by omega) (show b.length ≤ 1000000000000000000 by omega)]
      unfold posFrom
      by_cases h : v = b.getD i 0
      · rw [if_pos h]
        exact Ev.pos h (Ev.some rfl)
      · rw [if_neg h]
        exact Ev.neg h (ih (i + 1) (by omega))
  exact key b.length 0 (by omega)
theorem posFrom_range (b : List Int) (v : Int) : ∀ d i, i + d = b.length → (posFrom b v i d = -1 ∧ ∀ j, i ≤ j → j < b.length → b.getD j 0 ≠ v) ∨ (∃ j : Nat, posFrom b v i d = j ∧ i ≤ j ∧ j < b.length ∧ b.getD j 0 = v) := by
  intro d
  induction d with
  | zero => exact fun i hi => .inl ⟨rfl, fun j h1 h2 => absurd h1 (by omega)⟩
  | succ d ih =>
    intro i hi
    unfold posFrom
    by_cases h : v = b.getD i 0
    · rw [if_pos h]
      exact .inr ⟨i, rfl, Nat.le_refl _, by omega, h.symm⟩
    · rw [if_neg h]
      rcases ih (i + 1) (by omega) with ⟨h1, h2⟩ | ⟨j, h1, h2, h3, h4⟩
      · refine .inl ⟨h1, fun j hj hl => ?_⟩
        by_cases e : j = i
        · exact e ▸ fun h' => h h'.symm
        · exact h2 j (by omega) hl
      · exact .inr ⟨j, h1, by omega, h3, h4⟩
theorem pos_range (b : List Int) (v : Int) : (pos b v = -1 ∧ ∀ j, j < b.length → b.getD j 0 ≠ v) ∨ (∃ j : Nat, pos b v = j ∧ j < b.length ∧ b.getD j 0 = v) := by
  rcases posFrom_range b v b.length 0 (by omega) with ⟨h1, h2⟩ | ⟨j, h1, _, h3, h4⟩
  · exact .inl ⟨h1, fun j hj => h2 j (by omega) hj⟩
  · exact .inr ⟨j, h1, h3, h4⟩

/-- One step of the shift. -/
def shStep (a b : List Int) (i : Nat) (s : Int) : Int := mx (mx s ((i : Int) - pos b (a.getD i 0))) (pos b (a.getD i 0) - (i : Int))
def shiftM (a b : List Int) : Int := if a.length = b.length ∧ IsOrd a ∧ IsOrd b then foldFrom (shStep a b) 0 a.length 0 else -1

theorem impl_shift (a b : List Int) (ha : a.length ≤ 1048576) (hb : b.length ≤ 1048576) : Ev (fun k => impl_StripShift.f k a b) (shiftM a b) := by
  unfold impl_StripShift.f shiftM
  by_cases hl : a.length = b.length
  · refine Ev.pos (by omega) (Ev.bind (impl_ordOk a ha) ?_)
    by_cases h1 : IsOrd a
    · rw [decide_eq_true h1]
      refine Ev.pos rfl (Ev.bind (impl_ordOk b hb) ?_)
      by_cases h2 : IsOrd b
      · rw [decide_eq_true h2, if_pos ⟨hl, h1, h2⟩]
        refine Ev.step (fun _ => impl_StripShift.j0.eq_2 ..) (Ev.neg (by decide) ?_)
        refine ev_fold (n := a.length) (fun _ _ => True) (shStep a b) (fun i s k => impl_StripShift.l0 k b s a a.length i) (fun _ _ _ _ => trivial) ?_ 0 _ trivial ?_
        · intro i s r hi _ hr
          refine Ev.step (fun _ => impl_StripShift.l0.eq_2 ..) (Ev.pos (by omega) (Ev.pos (by omega) (Ev.pos (by omega) ?_)))
          simp only [rd_nat]
          refine Ev.bind (impl_index b _ hb) ?_
          have hp : -1 ≤ pos b (a.getD i 0) ∧ pos b (a.getD i 0) ≤ 1048576 := by
            rcases pos_range b (a.getD i 0) with ⟨h, _⟩ | ⟨j, h, hj, _⟩ <;> omega
          simp only [wrap_succ hi (show a.length ≤ 1000000000000000000 by omega), wrap_eq (x := (i : Int) - pos b (a.getD i 0)) (by omega) (by omega), wrap_eq (x := pos b (a.getD i 0) - (i : Int)) (by omega) (by omega)]
          exact hr
        · intro _
          exact Ev.step (fun _ => impl_StripShift.l0.eq_2 ..) (Ev.neg (by omega) (Ev.some rfl))
      · rw [decide_eq_false h2, if_neg (fun h => h2 h.2.2)]
        exact Ev.step (fun _ => impl_StripShift.j0.eq_2 ..) (Ev.pos rfl (Ev.some rfl))
    · rw [decide_eq_false h1, if_neg (fun h => h1 h.2.1)]
      refine Ev.neg (by decide) ?_
      exact Ev.step (fun _ => impl_StripShift.j0.eq_2 ..) (Ev.pos rfl (Ev.some rfl))
  · rw [if_neg (fun h => hl h.1)]
    refine Ev.neg (by omega) ?_
    exact Ev.step (fun _ => impl_StripShift.j0.eq_2 ..) (Ev.pos rfl (Ev.some rfl))

theorem ord_inj {b : List Int} (h : IsOrd b) {i j : Nat} (hi : i < b.length) (hj : j < b.length) (e : b.getD i 0 = b.getD j 0) : i = j := by
  rcases Nat.lt_trichotomy i j with hlt | he | hgt
  · exact absurd e ((h j hj).2 i hlt)
  · exact he
  · exact absurd e.symm ((h i hi).2 j hgt)

/-- What the reference's inner loop does with one place. -/
def shUpd (a b : List Int) (i j : Nat) (s : Int) : Int := if a.getD i 0 = b.getD j 0 then mx (mx s ((i : Int) - j)) ((j : Int) - i) else s
theorem shUpd_none (a b : List Int) (i : Nat) : ∀ d j s, (∀ q, j ≤ q → q < j + d → b.getD q 0 ≠ a.getD i 0) → foldFrom (shUpd a b i) j d s = s := by
  intro d
  induction d with
  | zero => exact fun _ _ _ => rfl
  | succ d ih =>
    intro j s h
    show foldFrom (shUpd a b i) (j + 1) d (shUpd a b i j s) = s
    have e : shUpd a b i j s = s := if_neg (fun e => h j (Nat.le_refl _) (by omega) e.symm)
    rw [e]
    exact ih _ _ fun q h1 h2 => h q (by omega) (by omega)
theorem foldFrom_split {σ : Type} (step : Nat → σ → σ) (d e : Nat) : ∀ i s, foldFrom step i (d + e) s = foldFrom step (i + d) e (foldFrom step i d s) := by
  induction d with
  | zero => intro i s; rw [Nat.zero_add]; rfl
  | succ d ih =>
    intro i s
    rw [show d + 1 + e = (d + e) + 1 by omega]
    show foldFrom step (i + 1) (d + e) (step i s) = _
    rw [ih, show i + 1 + d = i + (d + 1) by omega]
    rfl
theorem shUpd_all (a b : List Int) (hb : IsOrd b) (i : Nat) (hs : ∀ s, 0 ≤ s → 0 ≤ shStep a b i s) (hex : ∃ j, j < b.length ∧ b.getD j 0 = a.getD i 0) (s : Int) : foldFrom (shUpd a b i) 0 b.length s = shStep a b i s := by
  obtain ⟨j, hj, e⟩ := hex
  have hp : pos b (a.getD i 0) = j := by
    rcases pos_range b (a.getD i 0) with ⟨_, h⟩ | ⟨q, h, hq, hv⟩
    · exact absurd e (h j hj)
    · rw [h, ord_inj hb hq hj (by rw [hv, e])]
  rw [show b.length = j + (1 + (b.length - j - 1)) by omega, foldFrom_split, foldFrom_split]
  rw [shUpd_none a b i j 0 s (fun q _ h2 h => by
    have := ord_inj hb (show q < b.length by omega) hj (by rw [h, e])
    omega)]
  rw [shUpd_none a b i (b.length - j - 1) (0 + j + 1) _ (fun q h1 h2 h => by
    have := ord_inj hb (show q < b.length by omega) hj (by rw [h, e])
    omega)]
  show shUpd a b i (0 + j) s = _
  rw [Nat.zero_add]
  unfold shUpd shStep
  rw [if_pos e.symm, hp]

/-- Places below n, each once: every number below n is there. -/
theorem ord_onto {b : List Int} (h : IsOrd b) (v : Nat) (hv : v < b.length) : ∃ j, j < b.length ∧ b.getD j 0 = v := by
  classical
  by_cases hx : ∃ j, j < b.length ∧ b.getD j 0 = v
  · exact hx
  · exfalso
    let l : List Nat := b.map Int.toNat
    have hnd : l.Nodup := by
      refine List.pairwise_iff_getElem.2 ?_
      intro i j hi hj hij e
      have hjl : j < b.length := by simpa [l] using hj
      have hil : i < b.length := by omega
      have e' : (b.getD i 0).toNat = (b.getD j 0).toNat := by
        simpa [l, List.getD_eq_getElem?_getD, List.getElem?_eq_getElem hil, List.getElem?_eq_getElem hjl] using e
      have h1 := (h i hil).1
      have h2 := (h j hjl).1
      exact (h j hjl).2 i hij (by omega)
    have hsub : ∀ x ∈ l, x ∈ (List.range b.length).erase v := by
      intro x hxm
      obtain ⟨y, hy, rfl⟩ := List.mem_map.1 hxm
      obtain ⟨j, hj, e⟩ := List.getElem_of_mem hy
      have e2 : b.getD j 0 = y := by rw [List.getD_eq_getElem?_getD, List.getElem?_eq_getElem hj, e]; rfl
      have h1 := (h j hj).1
      rw [e2] at h1
      refine (List.mem_erase_of_ne (fun he => hx ⟨j, hj, ?_⟩)).2 (List.mem_range.2 (by omega))
      rw [e2, ← he]
      omega
    have hlen := List.Nodup.length_le_of_subset (l₁ := l) hnd hsub
    rw [List.length_erase_of_mem (List.mem_range.2 hv), List.length_range] at hlen
    simp [l] at hlen
    omega

theorem spec_shift (a b : List Int) (ha : a.length ≤ 1048576) (hb : b.length ≤ 1048576) : Ev (fun k => spec_StripShift.f k a b) (shiftM a b) := by
  unfold spec_StripShift.f shiftM
  refine Ev.bind (spec_ordOk a b.length (by omega)) ?_
  by_cases h1 : a.length = b.length ∧ IsOrd a
  · rw [decide_eq_true h1]
    refine Ev.pos rfl (Ev.bind (spec_ordOk b a.length (by omega)) ?_)
    obtain ⟨hl, h1⟩ := h1
    by_cases h2 : IsOrd b
    · rw [decide_eq_true ⟨hl.symm, h2⟩, if_pos ⟨hl, h1, h2⟩]
      refine Ev.step (fun _ => spec_StripShift.j0.eq_2 ..) (Ev.neg (by decide) ?_)
      refine ev_fold (n := a.length) (fun _ s => 0 ≤ s ∧ s ≤ 1048576) (shStep a b) (fun i s k => spec_StripShift.l0 k a b s i) ?_ ?_ 0 _ (by omega) ?_
      · intro i s hi hs
        unfold shStep mx
        rcases pos_range b (a.getD i 0) with ⟨h, h'⟩ | ⟨j, h, hj, _⟩
        · obtain ⟨j, hj, e⟩ := ord_onto h2 (a.getD i 0).toNat (by have := (h1 i hi).1; omega)
          exact absurd (by rw [e]; have := (h1 i hi).1; omega) (h' j hj)
        · rw [h]
          (repeat' split) <;> omega
      · intro i s r hi hs hr
        have hex : ∃ j, j < b.length ∧ b.getD j 0 = a.getD i 0 := by
          obtain ⟨j, hj, e⟩ := ord_onto h2 (a.getD i 0).toNat (by have := (h1 i hi).1; omega)
          exact ⟨j, hj, by rw [e]; have := (h1 i hi).1; omega⟩
        refine Ev.step (fun _ => spec_StripShift.l0.eq_2 ..) (Ev.pos (by omega) ?_)
        refine ev_fold (n := b.length) (fun _ s => 0 ≤ s ∧ s ≤ 1048576) (shUpd a b i) (fun j s k => spec_StripShift.l1 k a b s i j) ?_ ?_ s r hs ?_
        · intro j s hj hs
          unfold shUpd mx
          (repeat' split) <;> omega
        · intro j s r' hj hs hr'
          refine Ev.step (fun _ => spec_StripShift.l1.eq_2 ..) (Ev.pos (by omega) (Ev.pos (by omega) (Ev.pos (by omega) (Ev.pos (by omega) ?_))))
          simp only [rd_nat, wrap_eq (x := (i : Int) - j) (by omega) (by omega)]
          unfold shUpd mx at hr'
          by_cases he : a.getD i 0 = b.getD j 0
          · refine Ev.pos he (Ev.step (fun _ => spec_StripShift.j3.eq_2 ..) ?_)
            simp only [rd_nat, wrap_eq (x := (i : Int) - j) (by omega) (by omega), wrap_eq (x := (j : Int) - i) (by omega) (by omega), wrap_succ hj (show b.length ≤ 1000000000000000000 by omega)]
            rw [if_pos he] at hr'
            refine Ev.ite (fun hd => ?_) (fun hd => ?_)
            · have hd' := of_decide_eq_true hd
              rw [if_pos (show s < (i : Int) - j by omega)] at hr'
              refine Ev.pos (by omega) (Ev.pos (by omega) (Ev.pos (by omega) (Ev.pos (by omega) (Ev.pos he ?_))))
              refine Ev.ite (fun h => ?_) (fun h => ?_)
              · rwa [if_pos (by omega)] at hr'
              · rwa [if_neg (by omega)] at hr'
            · have hd' : ¬ ((i : Int) - j > s) := fun h => hd (decide_eq_true h)
              rw [if_neg (show ¬ s < (i : Int) - j by omega)] at hr'
              refine Ev.pos (by omega) (Ev.pos (by omega) (Ev.pos (by omega) (Ev.pos (by omega) (Ev.pos he ?_))))
              refine Ev.ite (fun h => ?_) (fun h => ?_)
              · rwa [if_pos (by omega)] at hr'
              · rwa [if_neg (by omega)] at hr'
          · refine Ev.neg he (Ev.step (fun _ => spec_StripShift.j3.eq_2 ..) (Ev.neg (by decide) ?_))
            simp only [rd_nat, wrap_eq (x := (i : Int) - j) (by omega) (by omega), wrap_succ hj (show b.length ≤ 1000000000000000000 by omega)]
            rw [if_neg he] at hr'
            exact Ev.pos (by omega) (Ev.pos (by omega) (Ev.pos (by omega) (Ev.pos (by omega) (Ev.neg he hr'))))
        · intro _
          rw [shUpd_all a b h2 i (fun s hs => by
            unfold shStep mx
            (repeat' split) <;> omega) hex]
          refine Ev.step (fun _ => spec_StripShift.l1.eq_2 ..) (Ev.neg (by omega) ?_)
          simpa only [wrap_succ hi (show a.length ≤ 1000000000000000000 by omega)] using hr
      · intro _
        exact Ev.step (fun _ => spec_StripShift.l0.eq_2 ..) (Ev.neg (by omega) (Ev.some rfl))
    · rw [decide_eq_false (fun h => h2 h.2), if_neg (fun h => h2 h.2.2)]
      exact Ev.step (fun _ => spec_StripShift.j0.eq_2 ..) (Ev.pos rfl (Ev.some rfl))
  · rw [decide_eq_false h1, if_neg (fun h => h1 ⟨h.1, h.2.1⟩)]
    refine Ev.neg (by decide) ?_
    exact Ev.step (fun _ => spec_StripShift.j0.eq_2 ..) (Ev.pos rfl (Ev.some rfl))
end Go.Proofs.Ytpdmimlkgmhepaa.Pure

/- StripOrder, the program's and the reference's, plainly; condition: moves that are ok, an order of them. -/
namespace Go.Proofs.Ytpdmimlkgmhepaa.Pure
set_option linter.unusedVariables false
set_option linter.unusedSimpArgs false
open Go.RowKit Go.Proofs.YtpdmimlkgmhepaaW.PrintWords Go.Proofs.YtpdmimlkgmhepaaW.PrintMore Go.Proofs.Ytpdmimlkgmhepaa.G

/-- The place that comes at i in an order. -/
def pl (o : List Int) (i : Nat) : Nat := (o.getD i 0).toNat
def lStep (l : List Mv) (o ts : List Int) (m : Mv) (q : Nat) (t : Int) : Int := mx t (tk ts (pl o q) + gap (at' l (pl o q)) m)
/-- The least tick of the move at i, behind all that come ahead. -/
def leastT (l : List Mv) (o ts : List Int) (i : Nat) : Int := foldFrom (lStep l o ts (at' l (pl o i))) 0 i (at' l (pl o i)).f3
/-- Its tick, if there is one. -/
def tickOf (m : Mv) (t : Int) : Option Int := if m.f5 ≥ 0 then (if t > m.f5 then none else if m.f5 > m.f4 then none else some m.f5) else if t > m.f4 then none else some t
def ordFrom (l : List Mv) (o : List Int) : Nat → Nat → List Int → List Int × Bool
  | 0, _, ts => (ts, true)
  | d + 1, i, ts => match tickOf (at' l (pl o i)) (leastT l o ts i) with
    | none => ([], false)
    | some t => ordFrom l o d (i + 1) (ts.set (pl o i) t)
def ordM (l : List Mv) (o : List Int) : List Int × Bool := ordFrom l o l.length 0 (List.replicate l.length 0)
def AllOk (l : List Mv) : Prop := ∀ i, i < l.length → mvOk (at' l i) = true
def Ts (n : Nat) (ts : List Int) : Prop := ts.length = n ∧ ∀ j, j < n → 0 ≤ tk ts j ∧ tk ts j ≤ 10000
theorem ts_set {n : Nat} {ts : List Int} (h : Ts n ts) (p : Nat) {t : Int} (h0 : 0 ≤ t) (h1 : t ≤ 10000) : Ts n (ts.set p t) := by
  refine ⟨by rw [List.length_set]; exact h.1, fun j hj => ?_⟩
  unfold tk
  by_cases e : p = j
  · subst e
    rw [List.getD_eq_getElem?_getD, List.getElem?_set_self (by have := h.1; omega)]
    exact ⟨h0, h1⟩
  · rw [List.getD_eq_getElem?_getD, List.getElem?_set_ne e, ← List.getD_eq_getElem?_getD]
    exact h.2 j hj
theorem tickOf_range {m : Mv} {t u : Int} (hm : mvOk m = true) (h : tickOf m t = some u) (ht : 0 ≤ t) : 0 ≤ u ∧ u ≤ 10000 ∧ m.f3 ≤ m.f4 ∧ u ≤ m.f4 ∧ t ≤ u := by
  have := mvOk_range hm
  unfold tickOf at h
  (repeat' split at h) <;> simp at h <;> omega
theorem lStep_inv {l : List Mv} {o ts : List Int} {m : Mv} {q : Nat} {t : Int} (h : 0 ≤ tk ts (pl o q) ∧ tk ts (pl o q) ≤ 10000) (ht : 0 ≤ t ∧ t ≤ 10004) : 0 ≤ lStep l o ts m q t ∧ lStep l o ts m q t ≤ 10004 ∧ t ≤ lStep l o ts m q t := by
  have := gap_range (at' l (pl o q)) m
  unfold lStep mx
  split <;> omega
theorem pl_lt {o : List Int} (h : IsOrd o) {i : Nat} (hi : i < o.length) : pl o i < o.length ∧ (pl o i : Int) = o.getD i 0 := by
  have := (h i hi).1
  unfold pl
  omega
theorem rdO {o : List Int} (h : IsOrd o) {i : Nat} (hi : i < o.length) : rd o (i : Int) = (pl o i : Int) := by rw [rd_nat, (pl_lt h hi).2]

theorem spec_order3 (l : List Mv) (o : List Int) (hm : AllOk l) (hl : l.length ≤ 1048576) (ho : IsOrd o) (hlen : o.length = l.length) : Ev (fun k => spec_l3Order.f k l o) (ordM l o) := by
  unfold spec_l3Order.f ordM
  refine Ev.pos (by omega) (Ev.pos (by omega) ?_)
  simp only [Int.toNat_natCast]
  have key : ∀ d i ts, i + d = l.length → Ts l.length ts → Ev (fun k => spec_l3Order.l0 k l o ts i) (ordFrom l o d i ts) := by
    intro d
    induction d with
    | zero =>
      intro i ts hi _
      exact Ev.step (fun _ => spec_l3Order.l0.eq_2 ..) (Ev.neg (by omega) (Ev.some rfl))
    | succ d ih =>
      intro i ts hi hts
      have hio : i < o.length := by omega
      obtain ⟨hp, hpe⟩ := pl_lt ho hio
      have hmi := mvOk_range (hm _ (show pl o i < l.length by omega))
      refine Ev.step (fun _ => spec_l3Order.l0.eq_2 ..) (Ev.pos (by omega) (Ev.pos (by omega) ?_))
      simp only [rdO ho hio, rdM]
      refine Ev.pos (by omega) (Ev.pos (by omega) ?_)
      refine ev_fold (n := i) (fun _ t => 0 ≤ t ∧ t ≤ 10004) (lStep l o ts (at' l (pl o i))) (fun q t k => spec_l3Order.l1 k l o ts i t q (at' l (pl o i)).f0 (at' l (pl o i)).f1 (at' l (pl o i)).f2 (at' l (pl o i)).f3 (at' l (pl o i)).f4 (at' l (pl o i)).f5) ?_ ?_ _ _ (by omega) ?_
      · intro q t hq ht
        have := pl_lt ho (show q < o.length by omega)
        have := lStep_inv (l := l) (m := at' l (pl o i)) (hts.2 (pl o q) (by omega)) ht
        omega
      · intro q t r hq ht hr
        have hqo : q < o.length := by omega
        obtain ⟨hq1, hq2⟩ := pl_lt ho hqo
        have htq := hts.2 (pl o q) (by omega)
        have hg := gap_range (at' l (pl o q)) (at' l (pl o i))
        have hlt := hts.1
        refine Ev.step (fun _ => spec_l3Order.l1.eq_2 ..) (Ev.pos (by omega) (Ev.pos (by omega) (Ev.pos (by omega) ?_)))
        simp only [rdO ho hqo, rdM, rdT]
        refine Ev.pos (by omega) (Ev.pos (by omega) (Ev.pos (by omega) (Ev.bind (spec_gapE _ _) ?_)))
        simp only [wrap_eq (x := tk ts (pl o q) + gap (at' l (pl o q)) (at' l (pl o i))) (by omega) (by omega), wrap_succ hq (show i ≤ 1000000000000000000 by omega)]
        unfold lStep mx at hr
        refine Ev.ite (fun h => ?_) (fun h => ?_)
        · rwa [if_pos h] at hr
        · rwa [if_neg h] at hr
      · intro hT
        have hlt := hts.1
        refine Ev.step (fun _ => spec_l3Order.l1.eq_2 ..) (Ev.neg (by omega) ?_)
        simp only [rdO ho hio, Int.toNat_natCast, wrap_succ (show i < l.length by omega) (show l.length ≤ 1000000000000000000 by omega)]
        show Ev _ (match tickOf (at' l (pl o i)) (leastT l o ts i) with | none => ([], false) | some t => ordFrom l o d (i + 1) (ts.set (pl o i) t))
        have h0 : foldFrom (lStep l o ts (at' l (pl o i))) 0 i (at' l (pl o i)).f3 = leastT l o ts i := rfl
        rw [h0] at hT ⊢
        unfold tickOf
        refine Ev.ite (fun h1 => ?_) (fun h1 => ?_)
        · rw [if_pos h1]
          refine Ev.ite (fun h2 => ?_) (fun h2 => ?_)
          · rw [if_pos h2]; exact Ev.some rfl
          · rw [if_neg h2]
            refine Ev.ite (fun h3 => ?_) (fun h3 => ?_)
            · rw [if_pos h3]; exact Ev.some rfl
            · rw [if_neg h3]
              exact Ev.pos (by omega) (Ev.pos (by omega) (Ev.pos (by omega) (Ev.pos (by omega) (ih (i + 1) _ (by omega) (ts_set hts _ (by omega) (by omega))))))
        · rw [if_neg h1]
          refine Ev.ite (fun h2 => ?_) (fun h2 => ?_)
          · rw [if_pos h2]; exact Ev.some rfl
          · rw [if_neg h2]
            exact Ev.pos (by omega) (Ev.pos (by omega) (Ev.pos (by omega) (Ev.pos (by omega) (ih (i + 1) _ (by omega) (ts_set hts _ (by omega) (by omega))))))
  exact key l.length 0 _ (by omega) ⟨by simp, fun j hj => by simp [tk, List.getD_eq_getElem?_getD, hj]⟩

theorem impl_order3 (l : List Mv) (o : List Int) (hm : AllOk l) (hl : l.length ≤ 1048576) (ho : IsOrd o) (hlen : o.length = l.length) : Ev (fun k => impl_ordered.f k l o) (ordM l o) := by
  unfold impl_ordered.f ordM
  refine Ev.pos (by omega) (Ev.pos (by omega) ?_)
  simp only [Int.toNat_natCast]
  have key : ∀ d i ts, i + d = l.length → Ts l.length ts → Ev (fun k => impl_ordered.l0 k l o ts o o.length i) (ordFrom l o d i ts) := by
    intro d
    induction d with
    | zero =>
      intro i ts hi _
      exact Ev.step (fun _ => impl_ordered.l0.eq_2 ..) (Ev.neg (by omega) (Ev.some rfl))
    | succ d ih =>
      intro i ts hi hts
      have hio : i < o.length := by omega
      obtain ⟨hp, hpe⟩ := pl_lt ho hio
      have hmi := mvOk_range (hm _ (show pl o i < l.length by omega))
      have htk : (o.take i).length = i := by rw [List.length_take]; omega
      refine Ev.step (fun _ => impl_ordered.l0.eq_2 ..) (Ev.pos (by omega) (Ev.pos (by omega) (Ev.pos (by omega) ?_)))
      simp only [rdO ho hio, rdM, Int.toNat_natCast, htk]
      refine Ev.pos (by omega) (Ev.pos (by omega) (Ev.pos (by omega) ?_))
      refine ev_fold (n := i) (fun _ t => 0 ≤ t ∧ t ≤ 10004) (lStep l o ts (at' l (pl o i))) (fun q t k => impl_ordered.l1 k l o ts (pl o i) t o o.length i (o.take i) i q (at' l (pl o i)).f0 (at' l (pl o i)).f1 (at' l (pl o i)).f2 (at' l (pl o i)).f3 (at' l (pl o i)).f4 (at' l (pl o i)).f5) ?_ ?_ _ _ (by omega) ?_
      · intro q t hq ht
        have := pl_lt ho (show q < o.length by omega)
        have := lStep_inv (l := l) (m := at' l (pl o i)) (hts.2 (pl o q) (by omega)) ht
        omega
      · intro q t r hq ht hr
        have hqo : q < o.length := by omega
        obtain ⟨hq1, hq2⟩ := pl_lt ho hqo
        have htq := hts.2 (pl o q) (by omega)
        have hg := gap_range (at' l (pl o q)) (at' l (pl o i))
        have hlt := hts.1
        have hrd : rd (o.take i) (q : Int) = (pl o q : Int) := by
          rw [← rdO ho hqo, rd_nat, rd_nat, List.getD_eq_getElem?_getD, List.getD_eq_getElem?_getD, List.getElem?_take_of_lt hq]
        refine Ev.step (fun _ => impl_ordered.l1.eq_2 ..) (Ev.pos (by omega) (Ev.pos (by omega) (Ev.pos (by omega) ?_)))
        simp only [hrd, rdM, rdT]
        refine Ev.pos (by omega) (Ev.pos (by omega) (Ev.pos (by omega) (Ev.bind (impl_gapE _ _) ?_)))
        simp only [wrap_eq (x := tk ts (pl o q) + gap (at' l (pl o q)) (at' l (pl o i))) (by omega) (by omega), wrap_succ hq (show i ≤ 1000000000000000000 by omega)]
        exact hr
      · intro hT
        have hlt := hts.1
        refine Ev.step (fun _ => impl_ordered.l1.eq_2 ..) (Ev.neg (by omega) ?_)
        simp only [Int.toNat_natCast, wrap_succ (show i < l.length by omega) (show l.length ≤ 1000000000000000000 by omega)]
        show Ev _ (match tickOf (at' l (pl o i)) (leastT l o ts i) with | none => ([], false) | some t => ordFrom l o d (i + 1) (ts.set (pl o i) t))
        have h0 : foldFrom (lStep l o ts (at' l (pl o i))) 0 i (at' l (pl o i)).f3 = leastT l o ts i := rfl
        rw [h0] at hT ⊢
        unfold tickOf
        refine Ev.ite (fun h1 => ?_) (fun h1 => ?_)
        · rw [if_pos h1]
          refine Ev.ite (fun h2 => ?_) (fun h2 => ?_)
          · rw [if_pos h2]; exact Ev.some rfl
          · rw [if_neg h2]
            refine Ev.ite (fun h3 => ?_) (fun h3 => ?_)
            · rw [if_pos h3]; exact Ev.some rfl
            · rw [if_neg h3]
              exact Ev.pos (by omega) (Ev.pos (by omega) (ih (i + 1) _ (by omega) (ts_set hts _ (by omega) (by omega))))
        · rw [if_neg h1]
          refine Ev.ite (fun h2 => ?_) (fun h2 => ?_)
          · rw [if_pos h2]; exact Ev.some rfl
          · rw [if_neg h2]
            exact Ev.pos (by omega) (Ev.pos (by omega) (ih (i + 1) _ (by omega) (ts_set hts _ (by omega) (by omega))))
  exact key l.length 0 _ (by omega) ⟨by simp, fun j hj => by simp [tk, List.getD_eq_getElem?_getD, hj]⟩

def ordF (l : List Mv) (o : List Int) : List Int × Bool := if MovesOk l ∧ o.length = l.length ∧ IsOrd o then ordM l o else ([], false)
theorem movesOk_all {l : List Mv} (h : MovesOk l) : AllOk l := fun i hi => (h.2 i hi).1
theorem spec_order (l : List Mv) (o : List Int) (hl : l.length ≤ 1048576) (hol : o.length ≤ 1048576) : Ev (fun k => spec_StripOrder.f k l o) (ordF l o) := by
  unfold spec_StripOrder.f ordF
  refine Ev.bind (spec_movesOk l) ?_
  by_cases hm : MovesOk l
  · refine Ev.pos (decide_eq_true hm) (Ev.bind (spec_ordOk o l.length (by omega)) ?_)
    by_cases ho : o.length = l.length ∧ IsOrd o
    · rw [if_pos ⟨hm, ho⟩]
      exact Ev.pos (decide_eq_true ho) (Ev.bind (spec_order3 l o (movesOk_all hm) hl ho.2 ho.1) (Ev.some rfl))
    · rw [if_neg (fun h => ho h.2)]
      exact Ev.neg (by simp [ho]) (Ev.some rfl)
  · rw [if_neg (fun h => hm h.1)]
    exact Ev.neg (by simp [hm]) (Ev.some rfl)
theorem impl_order (l : List Mv) (o : List Int) (hl : l.length ≤ 1048576) (hol : o.length ≤ 1048576) : Ev (fun k => impl_StripOrder.f k l o) (ordF l o) := by
  unfold impl_StripOrder.f ordF
  refine Ev.bind (impl_movesOk l) ?_
  by_cases hm : MovesOk l
  · refine Ev.pos (decide_eq_true hm) ?_
    by_cases hlen : o.length = l.length
    · refine Ev.pos (by omega) (Ev.bind (impl_ordOk o hol) ?_)
      by_cases ho : IsOrd o
      · rw [if_pos ⟨hm, hlen, ho⟩]
        exact Ev.pos (decide_eq_true ho) (Ev.bind (impl_order3 l o (movesOk_all hm) hl ho hlen) (Ev.some rfl))
      · rw [if_neg (fun h => ho h.2.2)]
        exact Ev.neg (by simp [ho]) (Ev.some rfl)
    · rw [if_neg (fun h => hlen h.2.1)]
      exact Ev.neg (by omega) (Ev.some rfl)
  · rw [if_neg (fun h => hm h.1)]
    exact Ev.neg (by simp [hm]) (Ev.some rfl)
theorem ordFrom_len (l : List Mv) (o : List Int) : ∀ d i ts, ts.length ≤ l.length → (ordFrom l o d i ts).1.length ≤ l.length := by
  intro d
  induction d with
  | zero => exact fun i ts h => h
  | succ d ih =>
    intro i ts h
    unfold ordFrom
    split
    · simp
    · exact ih _ _ (by rw [List.length_set]; exact h)
theorem ordF_len (l : List Mv) (o : List Int) : (ordF l o).1.length ≤ l.length := by
  unfold ordF ordM
  split
  · exact ordFrom_len l o _ _ _ (by simp)
  · simp
end Go.Proofs.Ytpdmimlkgmhepaa.Pure

/- FnExactStripOrder, the pure statement: both answers are the same, the lists read as before, the answer is its own; no condition but the arguments' kinds. -/
namespace Go.Proofs.Ytpdmimlkgmhepaa.Pure
set_option linter.unusedVariables false
set_option linter.unusedSimpArgs false
open Go.RowKit Go.Proofs.YtpdmimlkgmhepaaW.PrintWords Go.Proofs.Ytpdmimlkgmhepaa.G
theorem FnExactStripOrder (l : List Lm) (hl : l.length ≤ maxLen) (hw : ∀ x ∈ l, LmWf x) (t : List Int) (ht : t.length ≤ maxLen) (hwt : ∀ z ∈ t, (Lit.int .i64 z).wf = true) : ∃ k, laws_FnExactStripOrder.f k l t = some true := by
  refine Ev.rounds (r := true) ?_
  unfold laws_FnExactStripOrder.f
  refine Ev.ite (fun _ => Ev.some rfl) (fun hlt => ?_)
  obtain ⟨r, h1, h2, h3⟩ := szMoves l 1048576 (by omega) (by omega) hl hw
  refine Ev.bind h1 (Ev.ite (fun _ => Ev.some rfl) (fun h0 => ?_))
  obtain ⟨h4, _⟩ := h3 (by omega)
  have k0 : l.length ≤ 1048576 := by omega
  have k1 : (l.map toM).length ≤ 1048576 := by rw [List.length_map]; exact k0
  have k2 : t.length ≤ 1048576 := by omega
  have k3 : (ordF (l.map toM) t).1.length ≤ 1048576 := Nat.le_trans (ordF_len _ _) k1
  refine Ev.bind (toMoves l k0) (Ev.bind (toInts t k2) (Ev.bind (spec_order _ _ k1 k2) (Ev.bind (toMoves l k0) (Ev.bind (toInts t k2) (Ev.bind (impl_order _ _ k1 k2) (Ev.bind (eqInts _ k3) (Ev.pos rfl ?_)))))))
  obtain ⟨ms, hms⟩ := markMoves_ex (l.map toM) 1 (by omega) (by omega) k1
  refine Ev.step (fun _ => laws_FnExactStripOrder.j0.eq_2 ..) (Ev.neg (by simp) ?_)
  refine Ev.bind (toMoves l k0) (Ev.bind (eqMoves _ k1) (Ev.pos rfl (Ev.bind (toInts t k2) (Ev.bind (eqInts t k2) (Ev.pos rfl (Ev.bind hms ?_))))))
  refine Ev.bind (markInts t _ (by omega) (by omega) k2) (Ev.neg (by omega) (Ev.bind (eqInts _ k3) (Ev.pos rfl ?_)))
  refine Ev.step (fun _ => laws_FnExactStripOrder.j1.eq_2 ..) (Ev.neg (by simp) ?_)
  refine Ev.bind (markInts _ 1 (by omega) (by omega) k3) (Ev.bind (heldInts 1 _ (by omega) (by omega) k3) (Ev.neg (by omega) (Ev.pos rfl ?_)))
  refine Ev.bind (toMoves l k0) (Ev.bind (toInts t k2) (Ev.bind (impl_order _ _ k1 k2) (Ev.bind (eqInts _ k3) (Ev.pos rfl ?_))))
  refine Ev.step (fun _ => laws_FnExactStripOrder.j2.eq_2 ..) (Ev.neg (by simp) ?_)
  exact Ev.bind (heldInts 1 _ (by omega) (by omega) k3) (Ev.neg (by omega) (Ev.pos rfl (Ev.some rfl)))
end Go.Proofs.Ytpdmimlkgmhepaa.Pure

/- FnExactStripOrder: for every input the law returns true and each argument reads behind the call as it read before; no condition. -/
namespace Go.Proofs.Ytpdmimlkgmhepaa.fnExactStripOrder
open Go.ChangeShapes Go.WideShapes Go.ChangeAt Go.RowKit
open Go.ChangeMaps (open_string shut_string)
set_option linter.unusedVariables false
theorem own : ownKnob Try.prog.godebug = none := by kernel_rfl
theorem laidOut : laidOutB Try.prog = true := by kernel_rfl
set_option maxRecDepth 100000 in
theorem lifted (os : Os) (started : os.Started) (H : Type) (enc : TypeId × Value → H) :
    ReturnsInHanded {} Try.checked os 8 .any (Rows.fnExactStripOrderSpec.pre6 enc Try.prog Try.f8 Rows.fnExactStripOrderRow.domain false) (Rows.fnExactStripOrderSpec.post enc Try.prog Try.f8 false true false false) := by
  refine returnsInHanded_of_change_sized (C := Try.checked) own started (by kernel_rfl) Try.func8
    (ChangeSpec.witness6 (enc := enc) (C := Try.checked) false ⟨#[], #[.slice none 0 0, .slice none 0 0], []⟩ 8 (by kernel_rfl) (by kernel_rfl) (by kernel_rfl) (by kernel_rfl)) ?_
  intro W base args ds gs before hval0 hW hcnd hsz0 _
  have hval : ∀ (j : Nat) t v, Try.f8.params[j]? = some t → args[j]? = some v → Value.okWide Try.prog W .any base t v := hval0
  have hW' := hW
  obtain ⟨p, q, hA0, hV, rfl, hfz, hnd⟩ := hW
  have hA : DataW.TrodAll enc Try.prog W 0 (fun _ => true) true Try.f8.params.toList args.toList ds p := hA0
  rw [Try.params8] at hA hval
  obtain ⟨v0, vs0, d0, ds0, p0, q0, hargs, rfl, rfl, h0, r0⟩ := trodAll_cons hA
  obtain ⟨v1, vs1, d1, ds1, p1, q1, rfl, rfl, rfl, h1, r1⟩ := trodAll_cons r0
  obtain ⟨rfl, rfl, rfl⟩ := trodAll_nil r1
  obtain rfl : args = #[v0, v1] := by cases args; simp_all
  obtain ⟨rfl, rfl⟩ := trodVars_none hV
  have k0 := h0
  have lt0 : ∀ x ∈ p0, x.block < W.heap.size := by obtain ⟨m, hm⟩ := k0; exact DataW.trod_lt m _ _ _ hm
  obtain ⟨A0, len0, cap0, rfl⟩ := okWide_slice Try.underlying26 (hval 0 26 v0 rfl rfl)
  obtain ⟨fuel0, hf0⟩ := h0
  obtain ⟨A0', c0, l0, e0, hc0, hm0, hr0, w0⟩ := G.open_moves (t := 26) Try.underlying26 hf0
  simp [Value.cells] at e0
  obtain ⟨rfl, rfl, rfl⟩ := e0
  have hm0' : l0.length ≤ maxLen := Nat.le_trans hc0 hm0
  have k1 := h1
  have lt1 : ∀ x ∈ p1, x.block < W.heap.size := by obtain ⟨m, hm⟩ := k1; exact DataW.trod_lt m _ _ _ hm
  obtain ⟨A1, len1, cap1, rfl⟩ := okWide_slice Try.underlying22 (hval 1 22 v1 rfl rfl)
  obtain ⟨fuel1, hf1⟩ := h1
  obtain ⟨A1', c1, l1, e1, hc1, hm1, hr1, w1⟩ := G.open_ints_rows Try.underlying22 Try.underlying3 (by kernel_rfl) hf1
  simp [Value.cells] at e1
  obtain ⟨rfl, rfl, rfl⟩ := e1
  have hm1' : l1.length ≤ maxLen := Nat.le_trans hc1 hm1
  obtain ⟨k, hp⟩ := Pure.FnExactStripOrder l0 hm0' w0 l1 hm1' w1
  refine (G.laws_FnExactStripOrder.calls k _ _ l0 _ _ l1 true W hr0 hc0 hr1 hc1 hp).mono fun e W' ⟨he, bel0⟩ => ?_
  have bel : Below W.heap.size W W' := by first | exact bel0 | exact bel0.below
  subst he
  exact ⟨_, rfl, _, _, _, [], _, [], hW', trodAll_mk1 (shut_bool Try.underlying4 _), (trodAll_cons_mk (Below.trod laidOut (by kernel_rfl) (of_decide_eq_true (by kernel_rfl)) k0 bel lt0) (trodAll_cons_mk (Below.trod laidOut (by kernel_rfl) (of_decide_eq_true (by kernel_rfl)) k1 bel lt1) trodAll_mk0)), rfl, bel.frame _, fun h => by cases h⟩
theorem over : Rows.fnExactStripOrderRow.holds Try.pinned (OpenSpec.ofChange Rows.fnExactStripOrderSpec) :=
  OpenClaim.holds_of_wide 8 Try.f8 rfl rfl rfl rfl rfl rfl rfl ⟨rfl, rfl, rfl, rfl, rfl⟩ rfl rfl rfl rfl rfl (by kernel_rfl) Try.func8 (by kernel_rfl)
    (of_decide_eq_true (by kernel_rfl)) (by unfold Func.isWrapper; first | (rw [if_pos (by decide +kernel)]; kernel_rfl) | (rw [if_neg (by decide +kernel)]; exact ⟨rfl, rfl⟩))
    (fun os started H enc _ => lifted os started H enc)
theorem proved : Rows.FnExactStripOrderSaid := over
end Go.Proofs.Ytpdmimlkgmhepaa.fnExactStripOrder
namespace Go.Proofs.Ytpdmimlkgmhepaa
theorem fnExactStripOrder_holds : Rows.FnExactStripOrderSaid := fnExactStripOrder.proved
#print axioms fnExactStripOrder_holds
end Go.Proofs.Ytpdmimlkgmhepaa
