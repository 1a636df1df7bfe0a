/- FnExactStripOrder, part 4 of 6: the plain functions of the Go text that the law reaches, what the calls come to, and plain lemmas on them; no condition -/
import Derived.Test.YtpdmimlkgmhepaaYXOrder0
import Derived.Test.YtpdmimlkgmhepaaYXOrder1
/- The plain functions of this seat's Go text and, for each, that the call comes to what its plain function says: written for this claim by a program of the session (drv.py) over the kit's print.py. -/
namespace Go.Proofs.Ytpdmimlkgmhepaa.G
open Go.RowKit Go.Proofs.YtpdmimlkgmhepaaW.PrintWords Go.Proofs.YtpdmimlkgmhepaaW.PrintLast Go.Proofs.YtpdmimlkgmhepaaW.PrintMore
attribute [local go_sem] max2_int min2_int max_two min_two max_three min_three max_four min_four   -- for this text's walks alone
set_option linter.unusedVariables false
set_option linter.unusedSimpArgs false

/-! ### spec_l2Apart: function 57 -/
def spec_l2Apart.f (k : Nat) (a0_0 : ByteArray) (a0_1 : Bool) (a0_2 : Int) (a0_3 : Int) (a0_4 : Int) (a0_5 : Int) (a1 : Int) (a2_0 : ByteArray) (a2_1 : Bool) (a2_2 : Int) (a2_3 : Int) (a2_4 : Int) (a2_5 : Int) (a3 : Int) : Option (Bool) := if a1 = a3 then (some false) else (if a1 < a3 then ((spec_StripGap.f k a0_0 a0_1 a0_2 a0_3 a0_4 a0_5 a2_0 a2_1 a2_2 a2_3 a2_4 a2_5).bind fun t103 => (some (decide ((wrap64 (a3 - a1)) ≥ t103)))) else ((spec_StripGap.f k a2_0 a2_1 a2_2 a2_3 a2_4 a2_5 a0_0 a0_1 a0_2 a0_3 a0_4 a0_5).bind fun t104 => (some (decide ((wrap64 (a1 - a3)) ≥ t104)))))
theorem spec_l2Apart.mono : ∀ a0 a1 a2 a3 a4 a5 a6 a7 a8 a9 a10 a11 a12 a13 k, LeO (spec_l2Apart.f k a0 a1 a2 a3 a4 a5 a6 a7 a8 a9 a10 a11 a12 a13) (spec_l2Apart.f (k + 1) a0 a1 a2 a3 a4 a5 a6 a7 a8 a9 a10 a11 a12 a13) := by
 intro a0 a1 a2 a3 a4 a5 a6 a7 a8 a9 a10 a11 a12 a13 k
 unfold spec_l2Apart.f
 repeat' first
   | (with_reducible exact spec_StripGap.mono _ _ _ _ _ _ _ _ _ _ _ _ _)
   | (with_reducible exact LeO.refl _)
   | (with_reducible exact LeO.none _)
   | (with_reducible refine LeO.ite ?_ ?_)
   | (with_reducible refine LeO.bind ?_ (fun _ => ?_))
   | exact spec_StripGap.mono _ _ _ _ _ _ _ _ _ _ _ _ _
   | exact LeO.none _
   | refine LeO.ite ?_ ?_
   | refine LeO.bind ?_ (fun _ => ?_)
set_option maxHeartbeats 8000000 in
set_option maxRecDepth 100000 in
theorem spec_l2Apart.calls (k : Nat) (a0_0 : ByteArray) (a0_1 : Bool) (a0_2 : Int) (a0_3 : Int) (a0_4 : Int) (a0_5 : Int) (a1 : Int) (a2_0 : ByteArray) (a2_1 : Bool) (a2_2 : Int) (a2_3 : Int) (a2_4 : Int) (a2_5 : Int) (a3 : Int) (r : Bool) (w : World) (h : spec_l2Apart.f k a0_0 a0_1 a0_2 a0_3 a0_4 a0_5 a1 a2_0 a2_1 a2_2 a2_3 a2_4 a2_5 a3 = some r) :
  Calls Try.prog 57 #[.agg #[.string a0_0, .bool a0_1, .int .i64 a0_2, .int .i64 a0_3, .int .i64 a0_4, .int .i64 a0_5], .int .i64 a1, .agg #[.string a2_0, .bool a2_1, .int .i64 a2_2, .int .i64 a2_3, .int .i64 a2_4, .int .i64 a2_5], .int .i64 a3] w fun e w' => e = .returned (.bool r) ∧ Below w.heap.size w w' := by
 have hu54 := Try.underlying54
 have HB := Aside0.mk (Below.refl w.heap.size w)
 have H : (if a1 = a3 then (some false) else (if a1 < a3 then ((spec_StripGap.f k a0_0 a0_1 a0_2 a0_3 a0_4 a0_5 a2_0 a2_1 a2_2 a2_3 a2_4 a2_5).bind fun t103 => (some (decide ((wrap64 (a3 - a1)) ≥ t103)))) else ((spec_StripGap.f k a2_0 a2_1 a2_2 a2_3 a2_4 a2_5 a0_0 a0_1 a0_2 a0_3 a0_4 a0_5).bind fun t104 => (some (decide ((wrap64 (a1 - a3)) ≥ t104)))))) = some r := h
 clear h
 by_cases c5 : a1 = a3
 ·rw [if_pos c5] at H
  have c5b0 : (a1 == a3) = true := beq_iff_eq.mpr c5
  have c5b1 : (a1 != a3) = false := bne_eq_false_iff_eq.mpr c5
  clear c5
  obtain rfl := Option.some.inj H
  go_enter Try.func57, Try.ntmps57
  go_wp2_with (first | ((with_reducible refine gate_dst (N := 4) rfl ?_); refine box_event ?hg (N := 4) ?hd (cs := #[.string a0_0, .bool a0_1, .int .i64 a0_2, .int .i64 a0_3, .int .i64 a0_4, .int .i64 a0_5]) (t := 54) ?hr ?_; (case hd => rfl); (case hg => rfl); (case hr => first | (go_simp; done) | (go_simp; rfl)); intro gb101 hg w6 hbox hb; have n0_ := Aside0.mk (below_step (eb HB.out) hb); have n1_ := Aside0.mk (hbox); have n2_ := Aside0.mk ((by rw [hg]; exact (below_size (eb HB.out)) : w.heap.size ≤ gb101)); have n3_ := Aside0.mk ((by rw [hg]; exact (below_size (eb HB.out)) : w.heap.size ≤ gb101)); clear HB; have HB := n0_; have BK101 := n1_; have GW101 := n2_; have GE101 := n3_; clear n0_ n1_ n2_ n3_; clear hb hbox hg) | ((with_reducible refine gate_dst (N := 6) rfl ?_); refine box_event ?hg (N := 6) ?hd (cs := #[.string a2_0, .bool a2_1, .int .i64 a2_2, .int .i64 a2_3, .int .i64 a2_4, .int .i64 a2_5]) (t := 54) ?hr ?_; (case hd => rfl); (case hg => rfl); (case hr => first | (go_simp; done) | (go_simp; rfl)); intro gb102 hg w7 hbox hb; have n0_ := Aside0.mk (blk_below (g := gb101) (o := .cells #[.string a0_0, .bool a0_1, .int .i64 a0_2, .int .i64 a0_3, .int .i64 a0_4, .int .i64 a0_5] 54 (0, 0)) (ex BK101.out) hb); have n1_ := Aside0.mk (below_step (by repeat (first | (with_reducible first | exact HB.out | apply below_alloc | apply pw_below_drewN | apply below_drew1 | refine below_set ?_ GE101.out) | exact HB.out)) hb); have n2_ := Aside0.mk (hbox); have n3_ := Aside0.mk ((by rw [hg]; exact (below_size (by repeat (first | (with_reducible first | exact HB.out | apply below_alloc | apply pw_below_drewN | apply below_drew1 | refine below_set ?_ GE101.out) | exact HB.out))) : w.heap.size ≤ gb102)); have n4_ := Aside0.mk ((by rw [hg]; exact (below_size (by repeat (first | (with_reducible first | exact HB.out | apply below_alloc | apply pw_below_drewN | apply below_drew1 | refine below_set ?_ GE101.out) | exact HB.out))) : w.heap.size ≤ gb102)); have n5_ := Aside0.mk ((by rw [hg]; exact Nat.ne_of_lt (blk_lt (g := gb101) (o := .cells #[.string a0_0, .bool a0_1, .int .i64 a0_2, .int .i64 a0_3, .int .i64 a0_4, .int .i64 a0_5] 54 (0, 0)) (ex BK101.out)) : gb101 ≠ gb102)); have n6_ := Aside0.mk ((by rw [hg]; exact Nat.ne_of_gt (blk_lt (g := gb101) (o := .cells #[.string a0_0, .bool a0_1, .int .i64 a0_2, .int .i64 a0_3, .int .i64 a0_4, .int .i64 a0_5] 54 (0, 0)) (ex BK101.out)) : gb102 ≠ gb101)); clear BK101; clear HB; have BK101 := n0_; have HB := n1_; have BK102 := n2_; have GW102 := n3_; have GE102 := n4_; have NB101_102 := n5_; have NB102_101 := n6_; clear n0_ n1_ n2_ n3_ n4_ n5_ n6_; clear hb hbox hg))
  go_ret
  exact ⟨by first | rfl | (simp [errW_none, errW_some] <;> rfl) | (simp [*, errW_none, errW_some] <;> rfl), by repeat (first | (with_reducible first | exact HB.out | apply below_alloc | apply pw_below_drewN | apply below_drew1 | refine below_set ?_ GE101.out | refine below_set ?_ GE102.out) | exact HB.out)⟩
 ·rw [if_neg c5] at H
  have c5b0 : (a1 == a3) = false := beq_eq_false_iff_ne.mpr c5
  have c5b1 : (a1 != a3) = true := bne_iff_ne.mpr c5
  by_cases c8 : a1 < a3
  ·rw [if_pos c8] at H
   have c8b0 : decide (a1 < a3) = true := decide_eq_true c8
   clear c8
   replace H := Option.bind_eq_some_iff.mp H
   obtain ⟨t103, A90, H⟩ := H
   replace H : (some (decide ((wrap64 (a3 - a1)) ≥ t103))) = some r := H
   have A9 := Aside0.mk A90
   clear A90
   obtain rfl := Option.some.inj H
   go_enter Try.func57, Try.ntmps57
   go_wp2_with (first | ((with_reducible refine gate_dst (N := 4) rfl ?_); refine box_event ?hg (N := 4) ?hd (cs := #[.string a0_0, .bool a0_1, .int .i64 a0_2, .int .i64 a0_3, .int .i64 a0_4, .int .i64 a0_5]) (t := 54) ?hr ?_; (case hd => rfl); (case hg => rfl); (case hr => first | (go_simp; done) | (go_simp; rfl)); intro gb101 hg w10 hbox hb; have n0_ := Aside0.mk (below_step (eb HB.out) hb); have n1_ := Aside0.mk (hbox); have n2_ := Aside0.mk ((by rw [hg]; exact (below_size (eb HB.out)) : w.heap.size ≤ gb101)); have n3_ := Aside0.mk ((by rw [hg]; exact (below_size (eb HB.out)) : w.heap.size ≤ gb101)); clear HB; have HB := n0_; have BK101 := n1_; have GW101 := n2_; have GE101 := n3_; clear n0_ n1_ n2_ n3_; clear hb hbox hg) | ((with_reducible refine gate_dst (N := 6) rfl ?_); refine box_event ?hg (N := 6) ?hd (cs := #[.string a2_0, .bool a2_1, .int .i64 a2_2, .int .i64 a2_3, .int .i64 a2_4, .int .i64 a2_5]) (t := 54) ?hr ?_; (case hd => rfl); (case hg => rfl); (case hr => first | (go_simp; done) | (go_simp; rfl)); intro gb102 hg w11 hbox hb; have n0_ := Aside0.mk (blk_below (g := gb101) (o := .cells #[.string a0_0, .bool a0_1, .int .i64 a0_2, .int .i64 a0_3, .int .i64 a0_4, .int .i64 a0_5] 54 (0, 0)) (ex BK101.out) hb); have n1_ := Aside0.mk (below_step (by repeat (first | (with_reducible first | exact HB.out | apply below_alloc | apply pw_below_drewN | apply below_drew1 | refine below_set ?_ GE101.out) | exact HB.out)) hb); have n2_ := Aside0.mk (hbox); have n3_ := Aside0.mk ((by rw [hg]; exact (below_size (by repeat (first | (with_reducible first | exact HB.out | apply below_alloc | apply pw_below_drewN | apply below_drew1 | refine below_set ?_ GE101.out) | exact HB.out))) : w.heap.size ≤ gb102)); have n4_ := Aside0.mk ((by rw [hg]; exact (below_size (by repeat (first | (with_reducible first | exact HB.out | apply below_alloc | apply pw_below_drewN | apply below_drew1 | refine below_set ?_ GE101.out) | exact HB.out))) : w.heap.size ≤ gb102)); have n5_ := Aside0.mk ((by rw [hg]; exact Nat.ne_of_lt (blk_lt (g := gb101) (o := .cells #[.string a0_0, .bool a0_1, .int .i64 a0_2, .int .i64 a0_3, .int .i64 a0_4, .int .i64 a0_5] 54 (0, 0)) (ex BK101.out)) : gb101 ≠ gb102)); have n6_ := Aside0.mk ((by rw [hg]; exact Nat.ne_of_gt (blk_lt (g := gb101) (o := .cells #[.string a0_0, .bool a0_1, .int .i64 a0_2, .int .i64 a0_3, .int .i64 a0_4, .int .i64 a0_5] 54 (0, 0)) (ex BK101.out)) : gb102 ≠ gb101)); clear BK101; clear HB; have BK101 := n0_; have HB := n1_; have BK102 := n2_; have GW102 := n3_; have GE102 := n4_; have NB101_102 := n5_; have NB102_101 := n6_; clear n0_ n1_ n2_ n3_ n4_ n5_ n6_; clear hb hbox hg; have hnb12 := NB101_102.out; have hnc12 := NB102_101.out; obtain ⟨hcz13_0, hcz13_1, hcz13_2, hcz13_3, hcz13_4, hcz13_5⟩ := bc6 BK101.out; obtain ⟨hfz13_0, hfz13_1, hfz13_2, hfz13_3, hfz13_4, hfz13_5⟩ := bf6 BK101.out; obtain ⟨hcz14_0, hcz14_1, hcz14_2, hcz14_3, hcz14_4, hcz14_5⟩ := bc6 BK102.out; obtain ⟨hfz14_0, hfz14_1, hfz14_2, hfz14_3, hfz14_4, hfz14_5⟩ := bf6 BK102.out) | ((with_reducible refine gate_callee (f := 38) rfl ?_); refine goesL_ (some 20) rfl rfl Try.func38 (by kernel_rfl) rfl #[.agg #[.string a0_0, .bool a0_1, .int .i64 a0_2, .int .i64 a0_3, .int .i64 a0_4, .int .i64 a0_5], .agg #[.string a2_0, .bool a2_1, .int .i64 a2_2, .int .i64 a2_3, .int .i64 a2_4, .int .i64 a2_5]] rfl (by (try simp only [List.map_toArray, List.map_cons, List.map_nil]); first | done | rfl | (simp only [List.length_drop, List.length_take]; rfl)) ?_; (with_reducible refine (spec_StripGap.calls k a0_0 a0_1 a0_2 a0_3 a0_4 a0_5 a2_0 a2_1 a2_2 a2_3 a2_4 a2_5 t103 _ A9.out).mono ?_); rintro e w15 ⟨rfl, hb⟩; refine ⟨_, rfl, ?_⟩; have n0_ := Aside0.mk (blk_below (g := gb101) (o := .cells #[.string a0_0, .bool a0_1, .int .i64 a0_2, .int .i64 a0_3, .int .i64 a0_4, .int .i64 a0_5] 54 (0, 0)) (ex BK101.out) hb); have n1_ := Aside0.mk (blk_below (g := gb102) (o := .cells #[.string a2_0, .bool a2_1, .int .i64 a2_2, .int .i64 a2_3, .int .i64 a2_4, .int .i64 a2_5] 54 (0, 0)) (ex BK102.out) hb); have n2_ := Aside0.mk (below_step (by repeat (first | (with_reducible first | exact HB.out | apply below_alloc | apply pw_below_drewN | apply below_drew1 | refine below_set ?_ GE101.out | refine below_set ?_ GE102.out) | exact HB.out)) hb); clear BK101; clear BK102; clear HB; have BK101 := n0_; have BK102 := n1_; have HB := n2_; clear n0_ n1_ n2_; (try clear hb); (try clear hb2); (try clear hk); (try clear hi)))
   go_ret
   exact ⟨by first | rfl | (simp [errW_none, errW_some] <;> rfl) | (simp [*, errW_none, errW_some] <;> rfl), by repeat (first | (with_reducible first | exact HB.out | apply below_alloc | apply pw_below_drewN | apply below_drew1 | refine below_set ?_ GE101.out | refine below_set ?_ GE102.out) | exact HB.out)⟩
  ·rw [if_neg c8] at H
   have c8b0 : decide (a1 < a3) = false := decide_eq_false c8
   clear c8
   replace H := Option.bind_eq_some_iff.mp H
   obtain ⟨t104, A160, H⟩ := H
   replace H : (some (decide ((wrap64 (a1 - a3)) ≥ t104))) = some r := H
   have A16 := Aside0.mk A160
   clear A160
   obtain rfl := Option.some.inj H
   go_enter Try.func57, Try.ntmps57
   go_wp2_with (first | ((with_reducible refine gate_dst (N := 4) rfl ?_); refine box_event ?hg (N := 4) ?hd (cs := #[.string a0_0, .bool a0_1, .int .i64 a0_2, .int .i64 a0_3, .int .i64 a0_4, .int .i64 a0_5]) (t := 54) ?hr ?_; (case hd => rfl); (case hg => rfl); (case hr => first | (go_simp; done) | (go_simp; rfl)); intro gb101 hg w17 hbox hb; have n0_ := Aside0.mk (below_step (eb HB.out) hb); have n1_ := Aside0.mk (hbox); have n2_ := Aside0.mk ((by rw [hg]; exact (below_size (eb HB.out)) : w.heap.size ≤ gb101)); have n3_ := Aside0.mk ((by rw [hg]; exact (below_size (eb HB.out)) : w.heap.size ≤ gb101)); clear HB; have HB := n0_; have BK101 := n1_; have GW101 := n2_; have GE101 := n3_; clear n0_ n1_ n2_ n3_; clear hb hbox hg) | ((with_reducible refine gate_dst (N := 6) rfl ?_); refine box_event ?hg (N := 6) ?hd (cs := #[.string a2_0, .bool a2_1, .int .i64 a2_2, .int .i64 a2_3, .int .i64 a2_4, .int .i64 a2_5]) (t := 54) ?hr ?_; (case hd => rfl); (case hg => rfl); (case hr => first | (go_simp; done) | (go_simp; rfl)); intro gb102 hg w18 hbox hb; have n0_ := Aside0.mk (blk_below (g := gb101) (o := .cells #[.string a0_0, .bool a0_1, .int .i64 a0_2, .int .i64 a0_3, .int .i64 a0_4, .int .i64 a0_5] 54 (0, 0)) (ex BK101.out) hb); have n1_ := Aside0.mk (below_step (by repeat (first | (with_reducible first | exact HB.out | apply below_alloc | apply pw_below_drewN | apply below_drew1 | refine below_set ?_ GE101.out) | exact HB.out)) hb); have n2_ := Aside0.mk (hbox); have n3_ := Aside0.mk ((by rw [hg]; exact (below_size (by repeat (first | (with_reducible first | exact HB.out | apply below_alloc | apply pw_below_drewN | apply below_drew1 | refine below_set ?_ GE101.out) | exact HB.out))) : w.heap.size ≤ gb102)); have n4_ := Aside0.mk ((by rw [hg]; exact (below_size (by repeat (first | (with_reducible first | exact HB.out | apply below_alloc | apply pw_below_drewN | apply below_drew1 | refine below_set ?_ GE101.out) | exact HB.out))) : w.heap.size ≤ gb102)); have n5_ := Aside0.mk ((by rw [hg]; exact Nat.ne_of_lt (blk_lt (g := gb101) (o := .cells #[.string a0_0, .bool a0_1, .int .i64 a0_2, .int .i64 a0_3, .int .i64 a0_4, .int .i64 a0_5] 54 (0, 0)) (ex BK101.out)) : gb101 ≠ gb102)); have n6_ := Aside0.mk ((by rw [hg]; exact Nat.ne_of_gt (blk_lt (g := gb101) (o := .cells #[.string a0_0, .bool a0_1, .int .i64 a0_2, .int .i64 a0_3, .int .i64 a0_4, .int .i64 a0_5] 54 (0, 0)) (ex BK101.out)) : gb102 ≠ gb101)); clear BK101; clear HB; have BK101 := n0_; have HB := n1_; have BK102 := n2_; have GW102 := n3_; have GE102 := n4_; have NB101_102 := n5_; have NB102_101 := n6_; clear n0_ n1_ n2_ n3_ n4_ n5_ n6_; clear hb hbox hg; have hnb19 := NB102_101.out; have hnc19 := NB101_102.out; obtain ⟨hcz20_0, hcz20_1, hcz20_2, hcz20_3, hcz20_4, hcz20_5⟩ := bc6 BK102.out; obtain ⟨hfz20_0, hfz20_1, hfz20_2, hfz20_3, hfz20_4, hfz20_5⟩ := bf6 BK102.out; obtain ⟨hcz21_0, hcz21_1, hcz21_2, hcz21_3, hcz21_4, hcz21_5⟩ := bc6 BK101.out; obtain ⟨hfz21_0, hfz21_1, hfz21_2, hfz21_3, hfz21_4, hfz21_5⟩ := bf6 BK101.out) | ((with_reducible refine gate_callee (f := 38) rfl ?_); refine goesL_ (some 27) rfl rfl Try.func38 (by kernel_rfl) rfl #[.agg #[.string a2_0, .bool a2_1, .int .i64 a2_2, .int .i64 a2_3, .int .i64 a2_4, .int .i64 a2_5], .agg #[.string a0_0, .bool a0_1, .int .i64 a0_2, .int .i64 a0_3, .int .i64 a0_4, .int .i64 a0_5]] rfl (by (try simp only [List.map_toArray, List.map_cons, List.map_nil]); first | done | rfl | (simp only [List.length_drop, List.length_take]; rfl)) ?_; (with_reducible refine (spec_StripGap.calls k a2_0 a2_1 a2_2 a2_3 a2_4 a2_5 a0_0 a0_1 a0_2 a0_3 a0_4 a0_5 t104 _ A16.out).mono ?_); rintro e w22 ⟨rfl, hb⟩; refine ⟨_, rfl, ?_⟩; have n0_ := Aside0.mk (blk_below (g := gb101) (o := .cells #[.string a0_0, .bool a0_1, .int .i64 a0_2, .int .i64 a0_3, .int .i64 a0_4, .int .i64 a0_5] 54 (0, 0)) (ex BK101.out) hb); have n1_ := Aside0.mk (blk_below (g := gb102) (o := .cells #[.string a2_0, .bool a2_1, .int .i64 a2_2, .int .i64 a2_3, .int .i64 a2_4, .int .i64 a2_5] 54 (0, 0)) (ex BK102.out) hb); have n2_ := Aside0.mk (below_step (by repeat (first | (with_reducible first | exact HB.out | apply below_alloc | apply pw_below_drewN | apply below_drew1 | refine below_set ?_ GE101.out | refine below_set ?_ GE102.out) | exact HB.out)) hb); clear BK101; clear BK102; clear HB; have BK101 := n0_; have BK102 := n1_; have HB := n2_; clear n0_ n1_ n2_; (try clear hb); (try clear hb2); (try clear hk); (try clear hi)))
   go_ret
   exact ⟨by first | rfl | (simp [errW_none, errW_some] <;> rfl) | (simp [*, errW_none, errW_some] <;> rfl), by repeat (first | (with_reducible first | exact HB.out | apply below_alloc | apply pw_below_drewN | apply below_drew1 | refine below_set ?_ GE101.out | refine below_set ?_ GE102.out) | exact HB.out)⟩

end Go.Proofs.Ytpdmimlkgmhepaa.G

/- The plain functions of this seat's Go text and, for each, that the call comes to what its plain function says: written for this claim by a program of the session (drv.py) over the kit's print.py. -/
namespace Go.Proofs.Ytpdmimlkgmhepaa.G
open Go.RowKit Go.Proofs.YtpdmimlkgmhepaaW.PrintWords Go.Proofs.YtpdmimlkgmhepaaW.PrintLast Go.Proofs.YtpdmimlkgmhepaaW.PrintMore
attribute [local go_sem] max2_int min2_int max_two min_two max_three min_three max_four min_four   -- for this text's walks alone
set_option linter.unusedVariables false
set_option linter.unusedSimpArgs false

/-! ### spec_StripFits: function 20 -/
mutual
def spec_StripFits.j0 : Nat → List (S54) → List Int → Bool → Option (Bool)
 | 0, _, _, _ => none
 | k + 1, x0, x1, x16 => if x16 = true then (some false) else (spec_StripFits.l0 k x0 x1 0)
def spec_StripFits.l0 : Nat → List (S54) → List Int → Int → Option (Bool)
 | 0, _, _, _ => none
 | k + 1, x0, x1, x5 => if x5 < (x0.length : Int) then (if 0 ≤ x5 then (if x5 < (x1.length : Int) then ((spec_l1In.f (rd x1 x5) ((rd_T54 x0 x5).f3) ((rd_T54 x0 x5).f4)).bind fun t105 => (if t105 = true then (if ((rd_T54 x0 x5).f5) ≥ 0 then (spec_StripFits.j2 k x0 x1 x5 ((rd x1 x5) != ((rd_T54 x0 x5).f5))) else (spec_StripFits.j2 k x0 x1 x5 false)) else (spec_StripFits.j2 k x0 x1 x5 true))) else (none)) else (none)) else (some true)
def spec_StripFits.j2 : Nat → List (S54) → List Int → Int → Bool → Option (Bool)
 | 0, _, _, _, _ => none
 | k + 1, x0, x1, x5, x58 => if x58 = true then (some false) else (spec_StripFits.l1 k x0 x1 x5 0)
def spec_StripFits.l1 : Nat → List (S54) → List Int → Int → Int → Option (Bool)
 | 0, _, _, _, _ => none
 | k + 1, x0, x1, x5, x6 => if x6 < x5 then (if 0 ≤ x6 then (if x6 < (x0.length : Int) then (if x6 < (x1.length : Int) then (if 0 ≤ x5 then (if x5 < (x0.length : Int) then (if x5 < (x1.length : Int) then ((spec_l2Apart.f k ((rd_T54 x0 x6).f0) ((rd_T54 x0 x6).f1) ((rd_T54 x0 x6).f2) ((rd_T54 x0 x6).f3) ((rd_T54 x0 x6).f4) ((rd_T54 x0 x6).f5) (rd x1 x6) ((rd_T54 x0 x5).f0) ((rd_T54 x0 x5).f1) ((rd_T54 x0 x5).f2) ((rd_T54 x0 x5).f3) ((rd_T54 x0 x5).f4) ((rd_T54 x0 x5).f5) (rd x1 x5)).bind fun t113 => (if t113 = true then (spec_StripFits.l1 k x0 x1 x5 (wrap64 (x6 + 1))) else (some false))) else (none)) else (none)) else (none)) else (none)) else (none)) else (none)) else (spec_StripFits.l0 k x0 x1 (wrap64 (x5 + 1)))
end
def spec_StripFits.f (k : Nat) (l0 : List (S54)) (l1 : List Int) : Option (Bool) := (spec_StripMovesOk.f k l0).bind fun t101 => (if t101 = true then (spec_StripFits.j0 k l0 l1 ((l1.length : Int) != (l0.length : Int))) else (spec_StripFits.j0 k l0 l1 true))
theorem spec_StripFits.mono_l : ∀ k, (∀ y0 y1 y2, LeO (spec_StripFits.j0 k y0 y1 y2) (spec_StripFits.j0 (k + 1) y0 y1 y2)) ∧ (∀ y0 y1 y2, LeO (spec_StripFits.l0 k y0 y1 y2) (spec_StripFits.l0 (k + 1) y0 y1 y2)) ∧ (∀ y0 y1 y2 y3, LeO (spec_StripFits.j2 k y0 y1 y2 y3) (spec_StripFits.j2 (k + 1) y0 y1 y2 y3)) ∧ (∀ y0 y1 y2 y3, LeO (spec_StripFits.l1 k y0 y1 y2 y3) (spec_StripFits.l1 (k + 1) y0 y1 y2 y3))
 | 0 => ⟨fun _ _ _ r h => by simp [spec_StripFits.j0] at h, fun _ _ _ r h => by simp [spec_StripFits.l0] at h, fun _ _ _ _ r h => by simp [spec_StripFits.j2] at h, fun _ _ _ _ r h => by simp [spec_StripFits.l1] at h⟩
 | k + 1 => by
  obtain ⟨ih0, ih1, ih2, ih3⟩ := spec_StripFits.mono_l k
  refine ⟨?_, ?_, ?_, ?_⟩
  ·intro y0 y1 y2
   unfold spec_StripFits.j0
   repeat' first
   | (with_reducible exact ih0 _ _ _)
   | (with_reducible exact ih1 _ _ _)
   | (with_reducible exact ih2 _ _ _ _)
   | (with_reducible exact ih3 _ _ _ _)
   | (with_reducible exact spec_StripMovesOk.mono _ _)
   | (with_reducible exact spec_l2Apart.mono _ _ _ _ _ _ _ _ _ _ _ _ _ _ _)
   | (with_reducible exact LeO.refl _)
   | (with_reducible exact LeO.none _)
   | (with_reducible refine LeO.ite ?_ ?_)
   | (with_reducible refine LeO.bind ?_ (fun _ => ?_))
   | exact ih0 _ _ _
   | exact ih1 _ _ _
   | exact ih2 _ _ _ _
   | exact ih3 _ _ _ _
   | exact spec_StripMovesOk.mono _ _
   | exact spec_l2Apart.mono _ _ _ _ _ _ _ _ _ _ _ _ _ _ _
   | exact LeO.none _
   | refine LeO.ite ?_ ?_
   | refine LeO.bind ?_ (fun _ => ?_)
  ·intro y0 y1 y2
   unfold spec_StripFits.l0
   repeat' first
   | (with_reducible exact ih0 _ _ _)
   | (with_reducible exact ih1 _ _ _)
   | (with_reducible exact ih2 _ _ _ _)
   | (with_reducible exact ih3 _ _ _ _)
   | (with_reducible exact spec_StripMovesOk.mono _ _)
   | (with_reducible exact spec_l2Apart.mono _ _ _ _ _ _ _ _ _ _ _ _ _ _ _)
   | (with_reducible exact LeO.refl _)
   | (with_reducible exact LeO.none _)
   | (with_reducible refine LeO.ite ?_ ?_)
   | (with_reducible refine LeO.bind ?_ (fun _ => ?_))
   | exact ih0 _ _ _
   | exact ih1 _ _ _
   | exact ih2 _ _ _ _
   | exact ih3 _ _ _ _
   | exact spec_StripMovesOk.mono _ _
   | exact spec_l2Apart.mono _ _ _ _ _ _ _ _ _ _ _ _ _ _ _
   | exact LeO.none _
   | refine LeO.ite ?_ ?_
   | refine LeO.bind ?_ (fun _ => ?_)
  ·intro y0 y1 y2 y3
   unfold spec_StripFits.j2
   repeat' first
   | (with_reducible exact ih0 _ _ _)
   | (with_reducible exact ih1 _ _ _)
   | (with_reducible exact ih2 _ _ _ _)
   | (with_reducible exact ih3 _ _ _ _)
   | (with_reducible exact spec_StripMovesOk.mono _ _)
   | (with_reducible exact spec_l2Apart.mono _ _ _ _ _ _ _ _ _ _ _ _ _ _ _)
   | (with_reducible exact LeO.refl _)
   | (with_reducible exact LeO.none _)
   | (with_reducible refine LeO.ite ?_ ?_)
   | (with_reducible refine LeO.bind ?_ (fun _ => ?_))
   | exact ih0 _ _ _
   | exact ih1 _ _ _
   | exact ih2 _ _ _ _
   | exact ih3 _ _ _ _
   | exact spec_StripMovesOk.mono _ _
   | exact spec_l2Apart.mono _ _ _ _ _ _ _ _ _ _ _ _ _ _ _
   | exact LeO.none _
   | refine LeO.ite ?_ ?_
   | refine LeO.bind ?_ (fun _ => ?_)
  ·intro y0 y1 y2 y3
   unfold spec_StripFits.l1
   repeat' first
   | (with_reducible exact ih0 _ _ _)
   | (with_reducible exact ih1 _ _ _)
   | (with_reducible exact ih2 _ _ _ _)
   | (with_reducible exact ih3 _ _ _ _)
   | (with_reducible exact spec_StripMovesOk.mono _ _)
   | (with_reducible exact spec_l2Apart.mono _ _ _ _ _ _ _ _ _ _ _ _ _ _ _)
   | (with_reducible exact LeO.refl _)
   | (with_reducible exact LeO.none _)
   | (with_reducible refine LeO.ite ?_ ?_)
   | (with_reducible refine LeO.bind ?_ (fun _ => ?_))
   | exact ih0 _ _ _
   | exact ih1 _ _ _
   | exact ih2 _ _ _ _
   | exact ih3 _ _ _ _
   | exact spec_StripMovesOk.mono _ _
   | exact spec_l2Apart.mono _ _ _ _ _ _ _ _ _ _ _ _ _ _ _
   | exact LeO.none _
   | refine LeO.ite ?_ ?_
   | refine LeO.bind ?_ (fun _ => ?_)
theorem spec_StripFits.mono : ∀ a0 a1 k, LeO (spec_StripFits.f k a0 a1) (spec_StripFits.f (k + 1) a0 a1) := by
 intro a0 a1 k
 obtain ⟨ih0, ih1, ih2, ih3⟩ := spec_StripFits.mono_l k
 unfold spec_StripFits.f
 repeat' first
   | (with_reducible exact ih0 _ _ _)
   | (with_reducible exact ih1 _ _ _)
   | (with_reducible exact ih2 _ _ _ _)
   | (with_reducible exact ih3 _ _ _ _)
   | (with_reducible exact spec_StripMovesOk.mono _ _)
   | (with_reducible exact spec_l2Apart.mono _ _ _ _ _ _ _ _ _ _ _ _ _ _ _)
   | (with_reducible exact LeO.refl _)
   | (with_reducible exact LeO.none _)
   | (with_reducible refine LeO.ite ?_ ?_)
   | (with_reducible refine LeO.bind ?_ (fun _ => ?_))
   | exact ih0 _ _ _
   | exact ih1 _ _ _
   | exact ih2 _ _ _ _
   | exact ih3 _ _ _ _
   | exact spec_StripMovesOk.mono _ _
   | exact spec_l2Apart.mono _ _ _ _ _ _ _ _ _ _ _ _ _ _ _
   | exact LeO.none _
   | refine LeO.ite ?_ ?_
   | refine LeO.bind ?_ (fun _ => ?_)
def spec_StripFits.T6 : Bool × List (List Nat × List Nat) := (true, [([], []), ([], []), ([0, 1], [0, 1]), ([2], [2]), ([], []), ([], []), ([4, 5], [4, 5]), ([6], [6]), ([7], [7]), ([], []), ([], []), ([9, 10], [9, 10]), ([11], [11]), ([12], [12]), ([3, 8, 13], [3, 8, 13]), ([14], [14]), ([15, 14], [15]), ([16], [16]), ([16], [16]), ([17, 18, 16], [16, 17, 18]), ([19, 16], [16, 19]), ([20, 16], [16, 20]), ([21, 16], [16, 21]), ([22, 16, 16], [16, 22]), ([23], [23]), ([23], [23]), ([24, 25, 23], [23, 24, 25]), ([26, 23], [23, 26]), ([23], [23]), ([23], [23]), ([28, 29, 23], [23, 28, 29]), ([30, 23], [23, 30]), ([31, 23], [23, 31]), ([27, 32, 23], [23, 27, 32]), ([23, 33, 16], [16, 23, 33]), ([16, 34], [16, 34])])
def spec_StripFits.B6 : List Nat := [0, 0, 3, 7, 0, 0, 48, 112, 240, 0, 0, 1536, 3584, 7680, 16383, 32767, 65535, 131071, 131071, 524287, 1048575, 2097151, 4194303, 8388607, 16777215, 16777215, 67108863, 134217727, 16777215, 16777215, 822083583, 1895825407, 4043309055, 8589934591, 17179869183, 34359738367]
theorem spec_StripFits.tab6 : rtab .any (opsOf Try.f20 6) = spec_StripFits.T6 := by kernel_rfl
theorem spec_StripFits.bits6 : waitsOk spec_StripFits.T6.2 spec_StripFits.B6 = true := by kernel_rfl
def spec_StripFits.T11 : Bool × List (List Nat × List Nat) := (true, [([], []), ([], []), ([0, 1], [0, 1]), ([2], [2]), ([], []), ([], []), ([4, 5], [4, 5]), ([6], [6]), ([], []), ([], []), ([8, 9], [8, 9]), ([10], [10]), ([], []), ([], []), ([12, 13], [12, 13]), ([14], [14]), ([3, 7, 11, 15], [3, 7, 11, 15]), ([16], [16])])
def spec_StripFits.B11 : List Nat := [0, 0, 3, 7, 0, 0, 48, 112, 0, 0, 768, 1792, 0, 0, 12288, 28672, 65535, 131071]
theorem spec_StripFits.tab11 : rtab .any (opsOf Try.f20 11) = spec_StripFits.T11 := by kernel_rfl
theorem spec_StripFits.bits11 : waitsOk spec_StripFits.T11.2 spec_StripFits.B11 = true := by kernel_rfl
set_option maxHeartbeats 8000000 in
set_option maxRecDepth 100000 in
theorem spec_StripFits.calls (k : Nat) (A0 : Option Addr) (c0 : Nat) (l0 : List (S54)) (A1 : Option Addr) (c1 : Nat) (l1 : List Int) (r : Bool) (w : World) (hr0 : Kd.C k54 w A0 l0.length l0) (hc0 : l0.length ≤ c0) (hr1 : Kd.C (Kd.int .i64) w A1 l1.length l1) (hc1 : l1.length ≤ c1) (h : spec_StripFits.f k l0 l1 = some r) :
  Calls Try.prog 20 #[.slice A0 l0.length c0, .slice A1 l1.length c1] w fun e w' => e = .returned (.bool r) ∧ Below w.heap.size w w' := by
 have hu54 := Try.underlying54
 have HR0 := Aside0.mk hr0
 have HC0 := Aside0.mk hc0
 clear hr0 hc0
 have HR1 := Aside0.mk hr1
 have HC1 := Aside0.mk hc1
 clear hr1 hc1
 have HB := Aside0.mk (Below.refl w.heap.size w)
 have H : ((spec_StripMovesOk.f k l0).bind fun t101 => (if t101 = true then (spec_StripFits.j0 k l0 l1 ((l1.length : Int) != (l0.length : Int))) else (spec_StripFits.j0 k l0 l1 true))) = some r := h
 clear h
 have HC3 := Aside0.mk H
 clear H
 go_enter Try.func20, Try.ntmps20
 go_upto_region 1 with (fail)
 go_cut [16] (fun v16 wc => ∃ (kq : Nat) (x16_2 : Bool), v16 = .bool x16_2 ∧ Aside0 (spec_StripFits.j0 kq l0 l1 x16_2 = some r) ∧ Aside0 (kq ≤ k) ∧ Aside0 (Below w.heap.size w wc))
 case first =>
  have H := HC3.out
  clear HC3
  replace H := Option.bind_eq_some_iff.mp H
  obtain ⟨t101, A40, H⟩ := H
  replace H : (if t101 = true then (spec_StripFits.j0 k l0 l1 ((l1.length : Int) != (l0.length : Int))) else (spec_StripFits.j0 k l0 l1 true)) = some r := H
  have A4 := Aside0.mk A40
  clear A40
  by_cases c5 : t101 = true
  ·subst c5
   have H1 : (spec_StripFits.j0 k l0 l1 ((l1.length : Int) != (l0.length : Int))) = some r := by rw [if_pos rfl] at H; exact H
   clear H
   have H := H1
   clear H1
   have H' := Aside0.mk H
   clear H
   go_wp2_with (first | ((with_reducible refine gate_callee (f := 16) rfl ?_); refine goesL_ (some 8) rfl rfl Try.func16 (by kernel_rfl) rfl #[.slice A0 l0.length c0] rfl (by (try simp only [List.map_toArray, List.map_cons, List.map_nil]); first | done | rfl | (simp only [List.length_drop, List.length_take]; rfl)) ?_; (with_reducible refine (spec_StripMovesOk.calls k _ _ l0 true _ ?side1 ?side2 A4.out).mono ?_); (case side1 => repeat (first | exact (Kd.C_below HR0.out HB.out) | (with_reducible refine Kd.C_alloc ?_ _) | (with_reducible refine Kd.C_drewN ?_ _) | (with_reducible refine Kd.C_drew ?_))); (case side2 => exact HC0.out); rintro e w6 ⟨rfl, hb⟩; refine ⟨_, rfl, ?_⟩; have n0_ := Aside0.mk (below_step (eb HB.out) hb); clear HB; have HB := n0_; clear n0_; (try clear hb); (try clear hb2); (try clear hk); (try clear hi)))
   go_meet
   case rel => exact ⟨_, (((l1.length : Int) != (l0.length : Int))), (by first | rfl | (simp; done) | (simp [*]; done)), H', ⟨by first | omega | exact Nat.le_refl _⟩, ⟨eb HB.out⟩⟩
  ·replace c5 := Bool.eq_false_iff.mpr c5
   subst c5
   have H1 : (spec_StripFits.j0 k l0 l1 true) = some r := by rw [if_neg (show ¬ (false = true) by decide)] at H; exact H
   clear H
   have H := H1
   clear H1
   have H' := Aside0.mk H
   clear H
   go_wp2_with (first | ((with_reducible refine gate_callee (f := 16) rfl ?_); refine goesL_ (some 8) rfl rfl Try.func16 (by kernel_rfl) rfl #[.slice A0 l0.length c0] rfl (by (try simp only [List.map_toArray, List.map_cons, List.map_nil]); first | done | rfl | (simp only [List.length_drop, List.length_take]; rfl)) ?_; (with_reducible refine (spec_StripMovesOk.calls k _ _ l0 false _ ?side1 ?side2 A4.out).mono ?_); (case side1 => repeat (first | exact (Kd.C_below HR0.out HB.out) | (with_reducible refine Kd.C_alloc ?_ _) | (with_reducible refine Kd.C_drewN ?_ _) | (with_reducible refine Kd.C_drew ?_))); (case side2 => exact HC0.out); rintro e w7 ⟨rfl, hb⟩; refine ⟨_, rfl, ?_⟩; have n0_ := Aside0.mk (below_step (eb HB.out) hb); clear HB; have HB := n0_; clear n0_; (try clear hb); (try clear hb2); (try clear hk); (try clear hi)))
   go_meet
   case rel => exact ⟨_, (true), (by first | rfl | (simp; done) | (simp [*]; done)), H', ⟨by first | omega | exact Nat.le_refl _⟩, ⟨eb HB.out⟩⟩
 case rest =>
  clear HC3
  try clear c1
  try clear c2
  try clear p2
  try clear c5
  obtain ⟨kq, x16_2, rfl, HA, HJ2, HB⟩ := hcut
  cases kq with
  | zero => exact absurd HA.out (by simp [spec_StripFits.j0])
  | succ kj2 =>
   have H := HA.out
   clear HA
   simp only [spec_StripFits.j0] at H
   by_cases c8 : x16_2 = true
   ·subst c8
    have H1 : (some false) = some r := by rw [if_pos rfl] at H; exact H
    clear H
    have H := H1
    clear H1
    obtain rfl := Option.some.inj H
    go_wp2
    go_ret
    exact ⟨by first | rfl | (simp [errW_none, errW_some] <;> rfl) | (simp [*, errW_none, errW_some] <;> rfl), eb HB.out⟩
   ·replace c8 := Bool.eq_false_iff.mpr c8
    subst c8
    have H1 : (spec_StripFits.l0 kj2 l0 l1 0) = some r := by rw [if_neg (show ¬ (false = true) by decide)] at H; exact H
    clear H
    have H := H1
    clear H1
    have H' := Aside0.mk H
    clear H
    go_wp2
    go_loopg [5] kj2 (fun kq v5 w' => ∃ (x5_2 : Int), v5 = .int .i64 x5_2 ∧ Aside0 (spec_StripFits.l0 kq l0 l1 x5_2 = some r) ∧ Aside0 (kq ≤ kj2) ∧ Aside0 (Below w.heap.size w w'))
    case atStart => exact ⟨(0), (by first | rfl | (simp; done) | (simp [*]; done)), H', ⟨Nat.le_refl _⟩, ⟨eb HB.out⟩⟩
    case round =>
     clear H'
     try clear c1
     try clear c2
     try clear p2
     try clear c5
     try clear c8
     try clear p2
     obtain ⟨x5_2, rfl, HA, HK2, HB⟩ := hrel
     cases gk with
     | zero => exact absurd HA.out (by simp [spec_StripFits.l0])
     | succ k2 =>
      have H := HA.out
      clear HA
      simp only [spec_StripFits.l0] at H
      by_cases c9 : x5_2 < (l0.length : Int)
      ·rw [if_pos c9] at H
       have c9b0 : decide (x5_2 < (l0.length : Int)) = true := decide_eq_true c9
       clear c9
       have HC10 := Aside0.mk H
       clear H
       go_upto_region 6 with (fail)
       go_cut [58] (fun v58 wc => ∃ (kq : Nat) (x58_9 : Bool), v58 = .bool x58_9 ∧ Aside0 (spec_StripFits.j2 kq l0 l1 x5_2 x58_9 = some r) ∧ Aside0 (kq ≤ k2) ∧ Aside0 (Below w.heap.size w wc))
       case first =>
        have H := HC10.out
        clear HC10
        by_cases c11 : 0 ≤ x5_2
        ·rw [if_pos c11] at H
         have c11b0 : decide (0 ≤ x5_2) = true := decide_eq_true c11
         clear c11
         (first | rw [c11b0] | (simp only [i64_w, i32_w]; rw [c11b0]) | skip)
         by_cases c12 : x5_2 < (l1.length : Int)
         ·rw [if_pos c12] at H
          have c12b0 : decide (x5_2 < (l1.length : Int)) = true := decide_eq_true c12
          clear c12
          replace H := Option.bind_eq_some_iff.mp H
          obtain ⟨t105, A130, H⟩ := H
          replace H : (if t105 = true then (if ((rd_T54 l0 x5_2).f5) ≥ 0 then (spec_StripFits.j2 k2 l0 l1 x5_2 ((rd l1 x5_2) != ((rd_T54 l0 x5_2).f5))) else (spec_StripFits.j2 k2 l0 l1 x5_2 false)) else (spec_StripFits.j2 k2 l0 l1 x5_2 true)) = some r := H
          have A13 := Aside0.mk A130
          clear A130
          by_cases c14 : t105 = true
          ·subst c14
           have H1 : (if ((rd_T54 l0 x5_2).f5) ≥ 0 then (spec_StripFits.j2 k2 l0 l1 x5_2 ((rd l1 x5_2) != ((rd_T54 l0 x5_2).f5))) else (spec_StripFits.j2 k2 l0 l1 x5_2 false)) = some r := by rw [if_pos rfl] at H; exact H
           clear H
           have H := H1
           clear H1
           by_cases c15 : ((rd_T54 l0 x5_2).f5) ≥ 0
           ·rw [if_pos c15] at H
            have c15b0 : decide (0 ≤ ((rd_T54 l0 x5_2).f5)) = true := decide_eq_true c15
            clear c15
            have H' := Aside0.mk H
            clear H
            try go_wp2
            have n0_ := Aside0.mk (below_drew1 HB.out)
            clear HB
            have HB := n0_
            clear n0_
            have p102 : 0 ≤ (x5_2 : Int) := of_decide_eq_true (by first | (with_reducible assumption) | assumption)
            have q102 : x5_2 < (l1.length : Int) := of_decide_eq_true (by first | (with_reducible assumption) | assumption)
            obtain ⟨ad102, e102, hx102_0⟩ := Kd.at_int HR1.out x5_2 p102 q102
            have hw102_0 := hx102_0
            cases e102
            replace hx102_0 := pw_cell_below HB.out hx102_0
            replace p102 := eq_true p102
            replace q102 := eq_true q102
            have p103 : 0 ≤ (x5_2 : Int) := of_decide_eq_true (by first | (with_reducible assumption) | assumption)
            have q103 : x5_2 < (l0.length : Int) := of_decide_eq_true (by first | (with_reducible assumption) | assumption)
            obtain ⟨ad103, e103, hx103_0, hx103_1, hx103_2, hx103_3, hx103_4, hx103_5⟩ := at_T54 HR0.out x5_2 p103 q103
            have hw103_5 := hx103_5
            have hw103_4 := hx103_4
            have hw103_3 := hx103_3
            have hw103_2 := hx103_2
            have hw103_1 := hx103_1
            have hw103_0 := hx103_0
            cases e103
            replace hx103_0 := pw_cell_below HB.out hx103_0
            replace hx103_1 := pw_cell_below HB.out hx103_1
            replace hx103_2 := pw_cell_below HB.out hx103_2
            replace hx103_3 := pw_cell_below HB.out hx103_3
            replace hx103_4 := pw_cell_below HB.out hx103_4
            replace hx103_5 := pw_cell_below HB.out hx103_5
            replace p103 := eq_true p103
            replace q103 := eq_true q103
            have p104 : 0 ≤ (x5_2 : Int) := of_decide_eq_true (by first | (with_reducible assumption) | assumption)
            have q104 : x5_2 < (l0.length : Int) := of_decide_eq_true (by first | (with_reducible assumption) | assumption)
            obtain ⟨ad104, e104, hx104_0, hx104_1, hx104_2, hx104_3, hx104_4, hx104_5⟩ := at_T54 HR0.out x5_2 p104 q104
            have hw104_5 := hx104_5
            have hw104_4 := hx104_4
            have hw104_3 := hx104_3
            have hw104_2 := hx104_2
            have hw104_1 := hx104_1
            have hw104_0 := hx104_0
            obtain rfl : ad103 = ad104 := (by injection e104)
            replace hx104_0 := pw_cell_below HB.out hx104_0
            replace hx104_1 := pw_cell_below HB.out hx104_1
            replace hx104_2 := pw_cell_below HB.out hx104_2
            replace hx104_3 := pw_cell_below HB.out hx104_3
            replace hx104_4 := pw_cell_below HB.out hx104_4
            replace hx104_5 := pw_cell_below HB.out hx104_5
            replace p104 := eq_true p104
            replace q104 := eq_true q104
            have p106 : 0 ≤ (x5_2 : Int) := of_decide_eq_true (by first | (with_reducible assumption) | assumption)
            have q106 : x5_2 < (l0.length : Int) := of_decide_eq_true (by first | (with_reducible assumption) | assumption)
            obtain ⟨ad106, e106, hx106_0, hx106_1, hx106_2, hx106_3, hx106_4, hx106_5⟩ := at_T54 HR0.out x5_2 p106 q106
            have hw106_5 := hx106_5
            have hw106_4 := hx106_4
            have hw106_3 := hx106_3
            have hw106_2 := hx106_2
            have hw106_1 := hx106_1
            have hw106_0 := hx106_0
            obtain rfl : ad103 = ad106 := (by injection e106)
            replace hx106_0 := pw_cell_below HB.out hx106_0
            replace hx106_1 := pw_cell_below HB.out hx106_1
            replace hx106_2 := pw_cell_below HB.out hx106_2
            replace hx106_3 := pw_cell_below HB.out hx106_3
            replace hx106_4 := pw_cell_below HB.out hx106_4
            replace hx106_5 := pw_cell_below HB.out hx106_5
            replace p106 := eq_true p106
            replace q106 := eq_true q106
            have p107 : 0 ≤ (x5_2 : Int) := of_decide_eq_true (by first | (with_reducible assumption) | assumption)
            have q107 : x5_2 < (l1.length : Int) := of_decide_eq_true (by first | (with_reducible assumption) | assumption)
            obtain ⟨ad107, e107, hx107_0⟩ := Kd.at_int HR1.out x5_2 p107 q107
            have hw107_0 := hx107_0
            obtain rfl : ad102 = ad107 := (by injection e107)
            replace hx107_0 := pw_cell_below HB.out hx107_0
            replace p107 := eq_true p107
            replace q107 := eq_true q107
            have p108 : 0 ≤ (x5_2 : Int) := of_decide_eq_true (by first | (with_reducible assumption) | assumption)
            have q108 : x5_2 < (l0.length : Int) := of_decide_eq_true (by first | (with_reducible assumption) | assumption)
            obtain ⟨ad108, e108, hx108_0, hx108_1, hx108_2, hx108_3, hx108_4, hx108_5⟩ := at_T54 HR0.out x5_2 p108 q108
            have hw108_5 := hx108_5
            have hw108_4 := hx108_4
            have hw108_3 := hx108_3
            have hw108_2 := hx108_2
            have hw108_1 := hx108_1
            have hw108_0 := hx108_0
            obtain rfl : ad103 = ad108 := (by injection e108)
            replace hx108_0 := pw_cell_below HB.out hx108_0
            replace hx108_1 := pw_cell_below HB.out hx108_1
            replace hx108_2 := pw_cell_below HB.out hx108_2
            replace hx108_3 := pw_cell_below HB.out hx108_3
            replace hx108_4 := pw_cell_below HB.out hx108_4
            replace hx108_5 := pw_cell_below HB.out hx108_5
            replace p108 := eq_true p108
            replace q108 := eq_true q108
            refine start_ (n := 36) (S := fun w' => w'.cell? (ad102.add (x5_2).toNat) = some (.int .i64 (rd l1 x5_2)) ∧ w'.cell? (ad103.add ((x5_2).toNat * 6)) = some (.string ((rd_T54 l0 x5_2).f0)) ∧ w'.cell? ⟨(ad103.add ((x5_2).toNat * 6)).block, (ad103.add ((x5_2).toNat * 6)).off + 1, none⟩ = some (.bool ((rd_T54 l0 x5_2).f1)) ∧ w'.cell? ⟨(ad103.add ((x5_2).toNat * 6)).block, (ad103.add ((x5_2).toNat * 6)).off + 2, none⟩ = some (.int .i64 ((rd_T54 l0 x5_2).f2)) ∧ w'.cell? ⟨(ad103.add ((x5_2).toNat * 6)).block, (ad103.add ((x5_2).toNat * 6)).off + 3, none⟩ = some (.int .i64 ((rd_T54 l0 x5_2).f3)) ∧ w'.cell? ⟨(ad103.add ((x5_2).toNat * 6)).block, (ad103.add ((x5_2).toNat * 6)).off + 4, none⟩ = some (.int .i64 ((rd_T54 l0 x5_2).f4)) ∧ w'.cell? ⟨(ad103.add ((x5_2).toNat * 6)).block, (ad103.add ((x5_2).toNat * 6)).off + 5, none⟩ = some (.int .i64 ((rd_T54 l0 x5_2).f5)) ∧ w'.cell? (ad103.add ((x5_2).toNat * 6)) = some (.string ((rd_T54 l0 x5_2).f0)) ∧ w'.cell? ⟨(ad103.add ((x5_2).toNat * 6)).block, (ad103.add ((x5_2).toNat * 6)).off + 1, none⟩ = some (.bool ((rd_T54 l0 x5_2).f1)) ∧ w'.cell? ⟨(ad103.add ((x5_2).toNat * 6)).block, (ad103.add ((x5_2).toNat * 6)).off + 2, none⟩ = some (.int .i64 ((rd_T54 l0 x5_2).f2)) ∧ w'.cell? ⟨(ad103.add ((x5_2).toNat * 6)).block, (ad103.add ((x5_2).toNat * 6)).off + 3, none⟩ = some (.int .i64 ((rd_T54 l0 x5_2).f3)) ∧ w'.cell? ⟨(ad103.add ((x5_2).toNat * 6)).block, (ad103.add ((x5_2).toNat * 6)).off + 4, none⟩ = some (.int .i64 ((rd_T54 l0 x5_2).f4)) ∧ w'.cell? ⟨(ad103.add ((x5_2).toNat * 6)).block, (ad103.add ((x5_2).toNat * 6)).off + 5, none⟩ = some (.int .i64 ((rd_T54 l0 x5_2).f5)) ∧ w'.cell? (ad103.add ((x5_2).toNat * 6)) = some (.string ((rd_T54 l0 x5_2).f0)) ∧ w'.cell? ⟨(ad103.add ((x5_2).toNat * 6)).block, (ad103.add ((x5_2).toNat * 6)).off + 1, none⟩ = some (.bool ((rd_T54 l0 x5_2).f1)) ∧ w'.cell? ⟨(ad103.add ((x5_2).toNat * 6)).block, (ad103.add ((x5_2).toNat * 6)).off + 2, none⟩ = some (.int .i64 ((rd_T54 l0 x5_2).f2)) ∧ w'.cell? ⟨(ad103.add ((x5_2).toNat * 6)).block, (ad103.add ((x5_2).toNat * 6)).off + 3, none⟩ = some (.int .i64 ((rd_T54 l0 x5_2).f3)) ∧ w'.cell? ⟨(ad103.add ((x5_2).toNat * 6)).block, (ad103.add ((x5_2).toNat * 6)).off + 4, none⟩ = some (.int .i64 ((rd_T54 l0 x5_2).f4)) ∧ w'.cell? ⟨(ad103.add ((x5_2).toNat * 6)).block, (ad103.add ((x5_2).toNat * 6)).off + 5, none⟩ = some (.int .i64 ((rd_T54 l0 x5_2).f5)) ∧ w'.cell? (ad102.add (x5_2).toNat) = some (.int .i64 (rd l1 x5_2)) ∧ w'.cell? (ad103.add ((x5_2).toNat * 6)) = some (.string ((rd_T54 l0 x5_2).f0)) ∧ w'.cell? ⟨(ad103.add ((x5_2).toNat * 6)).block, (ad103.add ((x5_2).toNat * 6)).off + 1, none⟩ = some (.bool ((rd_T54 l0 x5_2).f1)) ∧ w'.cell? ⟨(ad103.add ((x5_2).toNat * 6)).block, (ad103.add ((x5_2).toNat * 6)).off + 2, none⟩ = some (.int .i64 ((rd_T54 l0 x5_2).f2)) ∧ w'.cell? ⟨(ad103.add ((x5_2).toNat * 6)).block, (ad103.add ((x5_2).toNat * 6)).off + 3, none⟩ = some (.int .i64 ((rd_T54 l0 x5_2).f3)) ∧ w'.cell? ⟨(ad103.add ((x5_2).toNat * 6)).block, (ad103.add ((x5_2).toNat * 6)).off + 4, none⟩ = some (.int .i64 ((rd_T54 l0 x5_2).f4)) ∧ w'.cell? ⟨(ad103.add ((x5_2).toNat * 6)).block, (ad103.add ((x5_2).toNat * 6)).off + 5, none⟩ = some (.int .i64 ((rd_T54 l0 x5_2).f5))) (ds := []) #[F, F, F, F, F, F, F, F, F, F, F, F, F, F, F, F, F, F, F, F, F, F, F, F, F, F, F, F, F, F, F, F, F, F, F, F] (by kernel_rfl) rfl rfl ⟨(pw_cell_below HB.out hw102_0), (pw_cell_below HB.out hw103_0), (pw_cell_below HB.out hw103_1), (pw_cell_below HB.out hw103_2), (pw_cell_below HB.out hw103_3), (pw_cell_below HB.out hw103_4), (pw_cell_below HB.out hw103_5), (pw_cell_below HB.out hw104_0), (pw_cell_below HB.out hw104_1), (pw_cell_below HB.out hw104_2), (pw_cell_below HB.out hw104_3), (pw_cell_below HB.out hw104_4), (pw_cell_below HB.out hw104_5), (pw_cell_below HB.out hw106_0), (pw_cell_below HB.out hw106_1), (pw_cell_below HB.out hw106_2), (pw_cell_below HB.out hw106_3), (pw_cell_below HB.out hw106_4), (pw_cell_below HB.out hw106_5), (pw_cell_below HB.out hw107_0), (pw_cell_below HB.out hw108_0), (pw_cell_below HB.out hw108_1), (pw_cell_below HB.out hw108_2), (pw_cell_below HB.out hw108_3), (pw_cell_below HB.out hw108_4), (pw_cell_below HB.out hw108_5)⟩ (fun hHeld => ?_); refine with_tabW spec_StripFits.tab6 spec_StripFits.bits6 (fun HT_ HW_ => ?_)
            generalize wr.drew = w16 at HB hx102_0 hx103_0 hx103_1 hx103_2 hx103_3 hx103_4 hx103_5 hx104_0 hx104_1 hx104_2 hx104_3 hx104_4 hx104_5 hx106_0 hx106_1 hx106_2 hx106_3 hx106_4 hx106_5 hx107_0 hx108_0 hx108_1 hx108_2 hx108_3 hx108_4 hx108_5 hHeld ⊢
            refine pu (i := 0) (N := some 23) (v := ?_) (a' := ?_) HT_.out rfl rfl (by kernel_rfl) (fun _ _ _ h => h) (Or.inl ⟨by rfl, ?_⟩) ?_ ?_
            rotate_left; (intro w'; go_simp; with_reducible rfl); rotate_left; (simp only [P0, P0n, P2, P3, P4, P5, P6]; rfl)
            refine pu (i := 1) (N := some 24) (v := ?_) (a' := ?_) HT_.out rfl rfl (by kernel_rfl) (fun _ _ _ h => h) (Or.inl ⟨by rfl, ?_⟩) ?_ ?_
            rotate_left; (intro w'; go_simp; with_reducible rfl); rotate_left; (simp only [P0, P0n, P2, P3, P4, P5, P6]; rfl)
            refine pu (i := 2) (N := some 25) (v := ?_) (a' := ?_) HT_.out rfl rfl (by kernel_rfl) (fun _ _ _ h => h) (Or.inl ⟨by rfl, ?_⟩) ?_ ?_
            rotate_left; (intro w'; go_simp; with_reducible rfl); rotate_left; (simp only [P0, P0n, P2, P3, P4, P5, P6]; rfl)
            refine pu (i := 4) (N := some 27) (v := ?_) (a' := ?_) HT_.out rfl rfl (by kernel_rfl) (fun _ _ _ h => h) (Or.inl ⟨by rfl, ?_⟩) ?_ ?_
            rotate_left; (intro w'; go_simp; with_reducible rfl); rotate_left; (simp only [P0, P0n, P2, P3, P4, P5, P6]; rfl)
            refine pu (i := 5) (N := some 28) (v := ?_) (a' := ?_) HT_.out rfl rfl (by kernel_rfl) (fun _ _ _ h => h) (Or.inl ⟨by rfl, ?_⟩) ?_ ?_
            rotate_left; (intro w'; go_simp; with_reducible rfl); rotate_left; (simp only [P0, P0n, P2, P3, P4, P5, P6]; rfl)
            refine pu (i := 6) (N := some 29) (v := ?_) (a' := ?_) HT_.out rfl rfl (by kernel_rfl) (fun _ _ _ h => h) (Or.inl ⟨by rfl, ?_⟩) ?_ ?_
            rotate_left; (intro w'; go_simp; with_reducible rfl); rotate_left; (simp only [P0, P0n, P2, P3, P4, P5, P6]; rfl)
            refine pu (i := 7) (N := some 30) (v := ?_) (a' := ?_) HT_.out rfl rfl (by kernel_rfl) (fun _ _ _ h => h) (Or.inl ⟨by rfl, ?_⟩) ?_ ?_
            rotate_left; (intro w'; go_simp; with_reducible rfl); rotate_left; (simp only [P0, P0n, P2, P3, P4, P5, P6]; rfl)
            refine pu (i := 9) (N := some 32) (v := ?_) (a' := ?_) HT_.out rfl rfl (by kernel_rfl) (fun _ _ _ h => h) (Or.inl ⟨by rfl, ?_⟩) ?_ ?_
            rotate_left; (intro w'; go_simp; with_reducible rfl); rotate_left; (simp only [P0, P0n, P2, P3, P4, P5, P6]; rfl)
            refine pu (i := 10) (N := some 33) (v := ?_) (a' := ?_) HT_.out rfl rfl (by kernel_rfl) (fun _ _ _ h => h) (Or.inl ⟨by rfl, ?_⟩) ?_ ?_
            rotate_left; (intro w'; go_simp; with_reducible rfl); rotate_left; (simp only [P0, P0n, P2, P3, P4, P5, P6]; rfl)
            refine pu (i := 11) (N := some 34) (v := ?_) (a' := ?_) HT_.out rfl rfl (by kernel_rfl) (fun _ _ _ h => h) (Or.inl ⟨by rfl, ?_⟩) ?_ ?_
            rotate_left; (intro w'; go_simp; with_reducible rfl); rotate_left; (simp only [P0, P0n, P2, P3, P4, P5, P6]; rfl)
            refine pu (i := 12) (N := some 35) (v := ?_) (a' := ?_) HT_.out rfl rfl (by kernel_rfl) (fun _ _ _ h => h) (Or.inl ⟨by rfl, ?_⟩) ?_ ?_
            rotate_left; (intro w'; go_simp; with_reducible rfl); rotate_left; (simp only [P0, P0n, P2, P3, P4, P5, P6]; rfl)
            refine tw (i := 3) (N := some 26) (v := ?_) (a' := ?_) HT_.out HW_.out rfl rfl (by kernel_rfl) (fun _ _ _ h => h) (Or.inl ⟨by rfl, ?_⟩) hHeld ?_ ?_
            rotate_left
            ·rintro w' ⟨s0, s1, s2, s3, s4, s5, s6, s7, s8, s9, s10, s11, s12, s13, s14, s15, s16, s17, s18, s19, s20, s21, s22, s23, s24, s25⟩
             go_simp
             with_reducible rfl
            rotate_left
            ·simp only [P0, P0n, P2, P3, P4, P5, P6]
             rfl
            refine tw (i := 8) (N := some 31) (v := ?_) (a' := ?_) HT_.out HW_.out rfl rfl (by kernel_rfl) (fun _ _ _ h => h) (Or.inl ⟨by rfl, ?_⟩) hHeld ?_ ?_
            rotate_left
            ·rintro w' ⟨s0, s1, s2, s3, s4, s5, s6, s7, s8, s9, s10, s11, s12, s13, s14, s15, s16, s17, s18, s19, s20, s21, s22, s23, s24, s25⟩
             go_simp
             with_reducible rfl
            rotate_left
            ·simp only [P0, P0n, P2, P3, P4, P5, P6]
             rfl
            refine tw (i := 13) (N := some 36) (v := ?_) (a' := ?_) HT_.out HW_.out rfl rfl (by kernel_rfl) (fun _ _ _ h => h) (Or.inl ⟨by rfl, ?_⟩) hHeld ?_ ?_
            rotate_left
            ·rintro w' ⟨s0, s1, s2, s3, s4, s5, s6, s7, s8, s9, s10, s11, s12, s13, s14, s15, s16, s17, s18, s19, s20, s21, s22, s23, s24, s25⟩
             go_simp
             with_reducible rfl
            rotate_left
            ·simp only [P0, P0n, P2, P3, P4, P5, P6]
             rfl
            refine one_ (i := 14) (N := some 37) #[T, T, T, T, T, T, T, T, T, T, T, T, T, T, T, F, F, F, F, F, F, F, F, F, F, F, F, F, F, F, F, F, F, F, F, F] rfl rfl (one_of HT_.out (by kernel_rfl)) (by decide) (fun K hK => ?_)
            refine goes_ Try.func56 (by kernel_rfl) rfl #[.int .i64 (rd l1 x5_2), .int .i64 ((rd_T54 l0 x5_2).f3), .int .i64 ((rd_T54 l0 x5_2).f4)] (by rfl) rfl rfl (by (try simp only [List.map_toArray, List.map_cons, List.map_nil]); first | done | rfl | (simp only [List.length_drop, List.length_take]; rfl)) ?_
            with_reducible refine (spec_l1In.calls (rd l1 x5_2) ((rd_T54 l0 x5_2).f3) ((rd_T54 l0 x5_2).f4) true _ A13.out).mono ?_
            rintro e w' ⟨rfl, ⟨nd, rfl⟩⟩
            refine ⟨_, rfl, ?_⟩
            refine hK.out _ _ ⟨(pw_cell_below HB.out hw102_0), (pw_cell_below HB.out hw103_0), (pw_cell_below HB.out hw103_1), (pw_cell_below HB.out hw103_2), (pw_cell_below HB.out hw103_3), (pw_cell_below HB.out hw103_4), (pw_cell_below HB.out hw103_5), (pw_cell_below HB.out hw104_0), (pw_cell_below HB.out hw104_1), (pw_cell_below HB.out hw104_2), (pw_cell_below HB.out hw104_3), (pw_cell_below HB.out hw104_4), (pw_cell_below HB.out hw104_5), (pw_cell_below HB.out hw106_0), (pw_cell_below HB.out hw106_1), (pw_cell_below HB.out hw106_2), (pw_cell_below HB.out hw106_3), (pw_cell_below HB.out hw106_4), (pw_cell_below HB.out hw106_5), (pw_cell_below HB.out hw107_0), (pw_cell_below HB.out hw108_0), (pw_cell_below HB.out hw108_1), (pw_cell_below HB.out hw108_2), (pw_cell_below HB.out hw108_3), (pw_cell_below HB.out hw108_4), (pw_cell_below HB.out hw108_5)⟩ (fun hHeld => ?_)
            clear hK K
            refine norm_ (a' := ?_) ?_ ?_
            rotate_left
            ·show Act.put _ (some 37) _ = _
             simp only [P0, P0n, P2, P3, P4, P5, P6]
             rfl
            refine pu (i := 15) (N := some 38) (v := ?_) (a' := ?_) HT_.out rfl rfl (by kernel_rfl) (fun _ _ _ h => h) (Or.inl ⟨by rfl, ?_⟩) ?_ ?_
            rotate_left; (intro w'; go_simp; with_reducible rfl); rotate_left; (simp only [P0, P0n, P2, P3, P4, P5, P6]; rfl)
            refine pu (i := 16) (N := some 39) (v := ?_) (a' := ?_) HT_.out rfl rfl (by kernel_rfl) (fun _ _ _ h => h) (Or.inl ⟨by rfl, ?_⟩) ?_ ?_
            rotate_left; (intro w'; go_simp; with_reducible rfl); rotate_left; (simp only [P0, P0n, P2, P3, P4, P5, P6]; rfl)
            refine pu (i := 17) (N := some 40) (v := ?_) (a' := ?_) HT_.out rfl rfl (by kernel_rfl) (fun _ _ _ h => h) (Or.inl ⟨by rfl, ?_⟩) ?_ ?_
            rotate_left; (intro w'; go_simp; with_reducible rfl); rotate_left; (simp only [P0, P0n, P2, P3, P4, P5, P6]; rfl)
            refine pu (i := 18) (N := some 41) (v := ?_) (a' := ?_) HT_.out rfl rfl (by kernel_rfl) (fun _ _ _ h => h) (Or.inl ⟨by rfl, ?_⟩) ?_ ?_
            rotate_left; (intro w'; go_simp; with_reducible rfl); rotate_left; (simp only [P0, P0n, P2, P3, P4, P5, P6]; rfl)
            refine pu (i := 19) (N := some 42) (v := ?_) (a' := ?_) HT_.out rfl rfl (by kernel_rfl) (fun _ _ _ h => h) (Or.inl ⟨by rfl, ?_⟩) ?_ ?_
            rotate_left; (intro w'; go_simp; with_reducible rfl); rotate_left; (simp only [P0, P0n, P2, P3, P4, P5, P6]; rfl)
            refine pu (i := 20) (N := some 43) (v := ?_) (a' := ?_) HT_.out rfl rfl (by kernel_rfl) (fun _ _ _ h => h) (Or.inl ⟨by rfl, ?_⟩) ?_ ?_
            rotate_left; (intro w'; go_simp; with_reducible rfl); rotate_left; (simp only [P0, P0n, P2, P3, P4, P5, P6]; rfl)
            refine tw (i := 21) (N := some 44) (v := ?_) (a' := ?_) HT_.out HW_.out rfl rfl (by kernel_rfl) (fun _ _ _ h => h) (Or.inl ⟨by rfl, ?_⟩) hHeld ?_ ?_
            rotate_left
            ·rintro w' ⟨s0, s1, s2, s3, s4, s5, s6, s7, s8, s9, s10, s11, s12, s13, s14, s15, s16, s17, s18, s19, s20, s21, s22, s23, s24, s25⟩
             go_simp
             with_reducible rfl
            rotate_left
            ·simp only [P0, P0n, P2, P3, P4, P5, P6]
             rfl
            refine pu (i := 22) (N := some 45) (v := ?_) (a' := ?_) HT_.out rfl rfl (by kernel_rfl) (fun _ _ _ h => h) (Or.inl ⟨by rfl, ?_⟩) ?_ ?_
            rotate_left; (intro w'; go_simp; with_reducible rfl); rotate_left; (simp only [P0, P0n, P2, P3, P4, P5, P6]; rfl)
            refine pu (i := 23) (N := some 46) (v := ?_) (a' := ?_) HT_.out rfl rfl (by kernel_rfl) (fun _ _ _ h => h) (Or.inl ⟨by rfl, ?_⟩) ?_ ?_
            rotate_left; (intro w'; go_simp; with_reducible rfl); rotate_left; (simp only [P0, P0n, P2, P3, P4, P5, P6]; rfl)
            refine pu (i := 24) (N := some 47) (v := ?_) (a' := ?_) HT_.out rfl rfl (by kernel_rfl) (fun _ _ _ h => h) (Or.inl ⟨by rfl, ?_⟩) ?_ ?_
            rotate_left; (intro w'; go_simp; with_reducible rfl); rotate_left; (simp only [P0, P0n, P2, P3, P4, P5, P6]; rfl)
            refine pu (i := 25) (N := some 48) (v := ?_) (a' := ?_) HT_.out rfl rfl (by kernel_rfl) (fun _ _ _ h => h) (Or.inl ⟨by rfl, ?_⟩) ?_ ?_
            rotate_left; (intro w'; go_simp; with_reducible rfl); rotate_left; (simp only [P0, P0n, P2, P3, P4, P5, P6]; rfl)
            refine pu (i := 26) (N := some 49) (v := ?_) (a' := ?_) HT_.out rfl rfl (by kernel_rfl) (fun _ _ _ h => h) (Or.inl ⟨by rfl, ?_⟩) ?_ ?_
            rotate_left; (intro w'; go_simp; with_reducible rfl); rotate_left; (simp only [P0, P0n, P2, P3, P4, P5, P6]; rfl)
            refine pu (i := 28) (N := some 51) (v := ?_) (a' := ?_) HT_.out rfl rfl (by kernel_rfl) (fun _ _ _ h => h) (Or.inl ⟨by rfl, ?_⟩) ?_ ?_
            rotate_left; (intro w'; go_simp; with_reducible rfl); rotate_left; (simp only [P0, P0n, P2, P3, P4, P5, P6]; rfl)
            refine pu (i := 29) (N := some 52) (v := ?_) (a' := ?_) HT_.out rfl rfl (by kernel_rfl) (fun _ _ _ h => h) (Or.inl ⟨by rfl, ?_⟩) ?_ ?_
            rotate_left; (intro w'; go_simp; with_reducible rfl); rotate_left; (simp only [P0, P0n, P2, P3, P4, P5, P6]; rfl)
            refine pu (i := 30) (N := some 53) (v := ?_) (a' := ?_) HT_.out rfl rfl (by kernel_rfl) (fun _ _ _ h => h) (Or.inl ⟨by rfl, ?_⟩) ?_ ?_
            rotate_left; (intro w'; go_simp; with_reducible rfl); rotate_left; (simp only [P0, P0n, P2, P3, P4, P5, P6]; rfl)
            refine pu (i := 31) (N := some 54) (v := ?_) (a' := ?_) HT_.out rfl rfl (by kernel_rfl) (fun _ _ _ h => h) (Or.inl ⟨by rfl, ?_⟩) ?_ ?_
            rotate_left; (intro w'; go_simp; with_reducible rfl); rotate_left; (simp only [P0, P0n, P2, P3, P4, P5, P6]; rfl)
            refine tw (i := 27) (N := some 50) (v := ?_) (a' := ?_) HT_.out HW_.out rfl rfl (by kernel_rfl) (fun _ _ _ h => h) (Or.inl ⟨by rfl, ?_⟩) hHeld ?_ ?_
            rotate_left
            ·rintro w' ⟨s0, s1, s2, s3, s4, s5, s6, s7, s8, s9, s10, s11, s12, s13, s14, s15, s16, s17, s18, s19, s20, s21, s22, s23, s24, s25⟩
             go_simp
             with_reducible rfl
            rotate_left
            ·simp only [P0, P0n, P2, P3, P4, P5, P6]
             rfl
            refine tw (i := 32) (N := some 55) (v := ?_) (a' := ?_) HT_.out HW_.out rfl rfl (by kernel_rfl) (fun _ _ _ h => h) (Or.inl ⟨by rfl, ?_⟩) hHeld ?_ ?_
            rotate_left
            ·rintro w' ⟨s0, s1, s2, s3, s4, s5, s6, s7, s8, s9, s10, s11, s12, s13, s14, s15, s16, s17, s18, s19, s20, s21, s22, s23, s24, s25⟩
             go_simp
             with_reducible rfl
            rotate_left
            ·simp only [P0, P0n, P2, P3, P4, P5, P6]
             rfl
            refine pu (i := 33) (N := some 56) (v := ?_) (a' := ?_) HT_.out rfl rfl (by kernel_rfl) (fun _ _ _ h => h) (Or.inl ⟨by rfl, ?_⟩) ?_ ?_
            rotate_left; (intro w'; go_simp; with_reducible rfl); rotate_left; (simp only [P0, P0n, P2, P3, P4, P5, P6]; rfl)
            refine pu (i := 34) (N := some 57) (v := ?_) (a' := ?_) HT_.out rfl rfl (by kernel_rfl) (fun _ _ _ h => h) (Or.inl ⟨by rfl, ?_⟩) ?_ ?_
            rotate_left; (intro w'; go_simp; with_reducible rfl); rotate_left; (simp only [P0, P0n, P2, P3, P4, P5, P6]; rfl)
            refine pu (i := 35) (N := some 58) (v := ?_) (a' := ?_) HT_.out rfl rfl (by kernel_rfl) (fun _ _ _ h => h) (Or.inl ⟨by rfl, ?_⟩) ?_ ?_
            rotate_left; (intro w'; go_simp; with_reducible rfl); rotate_left; (simp only [P0, P0n, P2, P3, P4, P5, P6]; rfl)
            refine done_ (done_of HT_.out (by kernel_rfl)) ?_
            try go_wp2
            go_meet
            case rel => exact ⟨_, (((rd l1 x5_2) != ((rd_T54 l0 x5_2).f5))), (by first | rfl | (simp; done) | (simp [*]; done)), H', ⟨by have := HJ2.out; have := HK2.out; first | omega | exact Nat.le_refl _⟩, ⟨eb HB.out⟩⟩
           ·rw [if_neg c15] at H
            have c15b0 : decide (0 ≤ ((rd_T54 l0 x5_2).f5)) = false := decide_eq_false c15
            clear c15
            have H' := Aside0.mk H
            clear H
            try go_wp2
            have n0_ := Aside0.mk (below_drew1 HB.out)
            clear HB
            have HB := n0_
            clear n0_
            have p102 : 0 ≤ (x5_2 : Int) := of_decide_eq_true (by first | (with_reducible assumption) | assumption)
            have q102 : x5_2 < (l1.length : Int) := of_decide_eq_true (by first | (with_reducible assumption) | assumption)
            obtain ⟨ad102, e102, hx102_0⟩ := Kd.at_int HR1.out x5_2 p102 q102
            have hw102_0 := hx102_0
            cases e102
            replace hx102_0 := pw_cell_below HB.out hx102_0
            replace p102 := eq_true p102
            replace q102 := eq_true q102
            have p103 : 0 ≤ (x5_2 : Int) := of_decide_eq_true (by first | (with_reducible assumption) | assumption)
            have q103 : x5_2 < (l0.length : Int) := of_decide_eq_true (by first | (with_reducible assumption) | assumption)
            obtain ⟨ad103, e103, hx103_0, hx103_1, hx103_2, hx103_3, hx103_4, hx103_5⟩ := at_T54 HR0.out x5_2 p103 q103
            have hw103_5 := hx103_5
            have hw103_4 := hx103_4
            have hw103_3 := hx103_3
            have hw103_2 := hx103_2
            have hw103_1 := hx103_1
            have hw103_0 := hx103_0
            cases e103
            replace hx103_0 := pw_cell_below HB.out hx103_0
            replace hx103_1 := pw_cell_below HB.out hx103_1
            replace hx103_2 := pw_cell_below HB.out hx103_2
            replace hx103_3 := pw_cell_below HB.out hx103_3
            replace hx103_4 := pw_cell_below HB.out hx103_4
            replace hx103_5 := pw_cell_below HB.out hx103_5
            replace p103 := eq_true p103
            replace q103 := eq_true q103
            have p104 : 0 ≤ (x5_2 : Int) := of_decide_eq_true (by first | (with_reducible assumption) | assumption)
            have q104 : x5_2 < (l0.length : Int) := of_decide_eq_true (by first | (with_reducible assumption) | assumption)
            obtain ⟨ad104, e104, hx104_0, hx104_1, hx104_2, hx104_3, hx104_4, hx104_5⟩ := at_T54 HR0.out x5_2 p104 q104
            have hw104_5 := hx104_5
            have hw104_4 := hx104_4
            have hw104_3 := hx104_3
            have hw104_2 := hx104_2
            have hw104_1 := hx104_1
            have hw104_0 := hx104_0
            obtain rfl : ad103 = ad104 := (by injection e104)
            replace hx104_0 := pw_cell_below HB.out hx104_0
            replace hx104_1 := pw_cell_below HB.out hx104_1
            replace hx104_2 := pw_cell_below HB.out hx104_2
            replace hx104_3 := pw_cell_below HB.out hx104_3
            replace hx104_4 := pw_cell_below HB.out hx104_4
            replace hx104_5 := pw_cell_below HB.out hx104_5
            replace p104 := eq_true p104
            replace q104 := eq_true q104
            have p106 : 0 ≤ (x5_2 : Int) := of_decide_eq_true (by first | (with_reducible assumption) | assumption)
            have q106 : x5_2 < (l0.length : Int) := of_decide_eq_true (by first | (with_reducible assumption) | assumption)
            obtain ⟨ad106, e106, hx106_0, hx106_1, hx106_2, hx106_3, hx106_4, hx106_5⟩ := at_T54 HR0.out x5_2 p106 q106
            have hw106_5 := hx106_5
            have hw106_4 := hx106_4
            have hw106_3 := hx106_3
            have hw106_2 := hx106_2
            have hw106_1 := hx106_1
            have hw106_0 := hx106_0
            obtain rfl : ad103 = ad106 := (by injection e106)
            replace hx106_0 := pw_cell_below HB.out hx106_0
            replace hx106_1 := pw_cell_below HB.out hx106_1
            replace hx106_2 := pw_cell_below HB.out hx106_2
            replace hx106_3 := pw_cell_below HB.out hx106_3
            replace hx106_4 := pw_cell_below HB.out hx106_4
            replace hx106_5 := pw_cell_below HB.out hx106_5
            replace p106 := eq_true p106
            replace q106 := eq_true q106
            refine start_ (n := 36) (S := fun w' => w'.cell? (ad102.add (x5_2).toNat) = some (.int .i64 (rd l1 x5_2)) ∧ w'.cell? (ad103.add ((x5_2).toNat * 6)) = some (.string ((rd_T54 l0 x5_2).f0)) ∧ w'.cell? ⟨(ad103.add ((x5_2).toNat * 6)).block, (ad103.add ((x5_2).toNat * 6)).off + 1, none⟩ = some (.bool ((rd_T54 l0 x5_2).f1)) ∧ w'.cell? ⟨(ad103.add ((x5_2).toNat * 6)).block, (ad103.add ((x5_2).toNat * 6)).off + 2, none⟩ = some (.int .i64 ((rd_T54 l0 x5_2).f2)) ∧ w'.cell? ⟨(ad103.add ((x5_2).toNat * 6)).block, (ad103.add ((x5_2).toNat * 6)).off + 3, none⟩ = some (.int .i64 ((rd_T54 l0 x5_2).f3)) ∧ w'.cell? ⟨(ad103.add ((x5_2).toNat * 6)).block, (ad103.add ((x5_2).toNat * 6)).off + 4, none⟩ = some (.int .i64 ((rd_T54 l0 x5_2).f4)) ∧ w'.cell? ⟨(ad103.add ((x5_2).toNat * 6)).block, (ad103.add ((x5_2).toNat * 6)).off + 5, none⟩ = some (.int .i64 ((rd_T54 l0 x5_2).f5)) ∧ w'.cell? (ad103.add ((x5_2).toNat * 6)) = some (.string ((rd_T54 l0 x5_2).f0)) ∧ w'.cell? ⟨(ad103.add ((x5_2).toNat * 6)).block, (ad103.add ((x5_2).toNat * 6)).off + 1, none⟩ = some (.bool ((rd_T54 l0 x5_2).f1)) ∧ w'.cell? ⟨(ad103.add ((x5_2).toNat * 6)).block, (ad103.add ((x5_2).toNat * 6)).off + 2, none⟩ = some (.int .i64 ((rd_T54 l0 x5_2).f2)) ∧ w'.cell? ⟨(ad103.add ((x5_2).toNat * 6)).block, (ad103.add ((x5_2).toNat * 6)).off + 3, none⟩ = some (.int .i64 ((rd_T54 l0 x5_2).f3)) ∧ w'.cell? ⟨(ad103.add ((x5_2).toNat * 6)).block, (ad103.add ((x5_2).toNat * 6)).off + 4, none⟩ = some (.int .i64 ((rd_T54 l0 x5_2).f4)) ∧ w'.cell? ⟨(ad103.add ((x5_2).toNat * 6)).block, (ad103.add ((x5_2).toNat * 6)).off + 5, none⟩ = some (.int .i64 ((rd_T54 l0 x5_2).f5)) ∧ w'.cell? (ad103.add ((x5_2).toNat * 6)) = some (.string ((rd_T54 l0 x5_2).f0)) ∧ w'.cell? ⟨(ad103.add ((x5_2).toNat * 6)).block, (ad103.add ((x5_2).toNat * 6)).off + 1, none⟩ = some (.bool ((rd_T54 l0 x5_2).f1)) ∧ w'.cell? ⟨(ad103.add ((x5_2).toNat * 6)).block, (ad103.add ((x5_2).toNat * 6)).off + 2, none⟩ = some (.int .i64 ((rd_T54 l0 x5_2).f2)) ∧ w'.cell? ⟨(ad103.add ((x5_2).toNat * 6)).block, (ad103.add ((x5_2).toNat * 6)).off + 3, none⟩ = some (.int .i64 ((rd_T54 l0 x5_2).f3)) ∧ w'.cell? ⟨(ad103.add ((x5_2).toNat * 6)).block, (ad103.add ((x5_2).toNat * 6)).off + 4, none⟩ = some (.int .i64 ((rd_T54 l0 x5_2).f4)) ∧ w'.cell? ⟨(ad103.add ((x5_2).toNat * 6)).block, (ad103.add ((x5_2).toNat * 6)).off + 5, none⟩ = some (.int .i64 ((rd_T54 l0 x5_2).f5))) (ds := []) #[F, F, F, F, F, F, F, F, F, F, F, F, F, F, F, F, F, F, F, F, F, F, F, F, F, F, F, F, F, F, F, F, F, F, F, F] (by kernel_rfl) rfl rfl ⟨(pw_cell_below HB.out hw102_0), (pw_cell_below HB.out hw103_0), (pw_cell_below HB.out hw103_1), (pw_cell_below HB.out hw103_2), (pw_cell_below HB.out hw103_3), (pw_cell_below HB.out hw103_4), (pw_cell_below HB.out hw103_5), (pw_cell_below HB.out hw104_0), (pw_cell_below HB.out hw104_1), (pw_cell_below HB.out hw104_2), (pw_cell_below HB.out hw104_3), (pw_cell_below HB.out hw104_4), (pw_cell_below HB.out hw104_5), (pw_cell_below HB.out hw106_0), (pw_cell_below HB.out hw106_1), (pw_cell_below HB.out hw106_2), (pw_cell_below HB.out hw106_3), (pw_cell_below HB.out hw106_4), (pw_cell_below HB.out hw106_5)⟩ (fun hHeld => ?_); refine with_tabW spec_StripFits.tab6 spec_StripFits.bits6 (fun HT_ HW_ => ?_)
            generalize wr.drew = w17 at HB hx102_0 hx103_0 hx103_1 hx103_2 hx103_3 hx103_4 hx103_5 hx104_0 hx104_1 hx104_2 hx104_3 hx104_4 hx104_5 hx106_0 hx106_1 hx106_2 hx106_3 hx106_4 hx106_5 hHeld ⊢
            refine pu (i := 0) (N := some 23) (v := ?_) (a' := ?_) HT_.out rfl rfl (by kernel_rfl) (fun _ _ _ h => h) (Or.inl ⟨by rfl, ?_⟩) ?_ ?_
            rotate_left; (intro w'; go_simp; with_reducible rfl); rotate_left; (simp only [P0, P0n, P2, P3, P4, P5, P6]; rfl)
            refine pu (i := 1) (N := some 24) (v := ?_) (a' := ?_) HT_.out rfl rfl (by kernel_rfl) (fun _ _ _ h => h) (Or.inl ⟨by rfl, ?_⟩) ?_ ?_
            rotate_left; (intro w'; go_simp; with_reducible rfl); rotate_left; (simp only [P0, P0n, P2, P3, P4, P5, P6]; rfl)
            refine pu (i := 2) (N := some 25) (v := ?_) (a' := ?_) HT_.out rfl rfl (by kernel_rfl) (fun _ _ _ h => h) (Or.inl ⟨by rfl, ?_⟩) ?_ ?_
            rotate_left; (intro w'; go_simp; with_reducible rfl); rotate_left; (simp only [P0, P0n, P2, P3, P4, P5, P6]; rfl)
            refine pu (i := 4) (N := some 27) (v := ?_) (a' := ?_) HT_.out rfl rfl (by kernel_rfl) (fun _ _ _ h => h) (Or.inl ⟨by rfl, ?_⟩) ?_ ?_
            rotate_left; (intro w'; go_simp; with_reducible rfl); rotate_left; (simp only [P0, P0n, P2, P3, P4, P5, P6]; rfl)
            refine pu (i := 5) (N := some 28) (v := ?_) (a' := ?_) HT_.out rfl rfl (by kernel_rfl) (fun _ _ _ h => h) (Or.inl ⟨by rfl, ?_⟩) ?_ ?_
            rotate_left; (intro w'; go_simp; with_reducible rfl); rotate_left; (simp only [P0, P0n, P2, P3, P4, P5, P6]; rfl)
            refine pu (i := 6) (N := some 29) (v := ?_) (a' := ?_) HT_.out rfl rfl (by kernel_rfl) (fun _ _ _ h => h) (Or.inl ⟨by rfl, ?_⟩) ?_ ?_
            rotate_left; (intro w'; go_simp; with_reducible rfl); rotate_left; (simp only [P0, P0n, P2, P3, P4, P5, P6]; rfl)
            refine pu (i := 7) (N := some 30) (v := ?_) (a' := ?_) HT_.out rfl rfl (by kernel_rfl) (fun _ _ _ h => h) (Or.inl ⟨by rfl, ?_⟩) ?_ ?_
            rotate_left; (intro w'; go_simp; with_reducible rfl); rotate_left; (simp only [P0, P0n, P2, P3, P4, P5, P6]; rfl)
            refine pu (i := 9) (N := some 32) (v := ?_) (a' := ?_) HT_.out rfl rfl (by kernel_rfl) (fun _ _ _ h => h) (Or.inl ⟨by rfl, ?_⟩) ?_ ?_
            rotate_left; (intro w'; go_simp; with_reducible rfl); rotate_left; (simp only [P0, P0n, P2, P3, P4, P5, P6]; rfl)
            refine pu (i := 10) (N := some 33) (v := ?_) (a' := ?_) HT_.out rfl rfl (by kernel_rfl) (fun _ _ _ h => h) (Or.inl ⟨by rfl, ?_⟩) ?_ ?_
            rotate_left; (intro w'; go_simp; with_reducible rfl); rotate_left; (simp only [P0, P0n, P2, P3, P4, P5, P6]; rfl)
            refine pu (i := 11) (N := some 34) (v := ?_) (a' := ?_) HT_.out rfl rfl (by kernel_rfl) (fun _ _ _ h => h) (Or.inl ⟨by rfl, ?_⟩) ?_ ?_
            rotate_left; (intro w'; go_simp; with_reducible rfl); rotate_left; (simp only [P0, P0n, P2, P3, P4, P5, P6]; rfl)
            refine pu (i := 12) (N := some 35) (v := ?_) (a' := ?_) HT_.out rfl rfl (by kernel_rfl) (fun _ _ _ h => h) (Or.inl ⟨by rfl, ?_⟩) ?_ ?_
            rotate_left; (intro w'; go_simp; with_reducible rfl); rotate_left; (simp only [P0, P0n, P2, P3, P4, P5, P6]; rfl)
            refine tw (i := 3) (N := some 26) (v := ?_) (a' := ?_) HT_.out HW_.out rfl rfl (by kernel_rfl) (fun _ _ _ h => h) (Or.inl ⟨by rfl, ?_⟩) hHeld ?_ ?_
            rotate_left
            ·rintro w' ⟨s0, s1, s2, s3, s4, s5, s6, s7, s8, s9, s10, s11, s12, s13, s14, s15, s16, s17, s18⟩
             go_simp
             with_reducible rfl
            rotate_left
            ·simp only [P0, P0n, P2, P3, P4, P5, P6]
             rfl
            refine tw (i := 8) (N := some 31) (v := ?_) (a' := ?_) HT_.out HW_.out rfl rfl (by kernel_rfl) (fun _ _ _ h => h) (Or.inl ⟨by rfl, ?_⟩) hHeld ?_ ?_
            rotate_left
            ·rintro w' ⟨s0, s1, s2, s3, s4, s5, s6, s7, s8, s9, s10, s11, s12, s13, s14, s15, s16, s17, s18⟩
             go_simp
             with_reducible rfl
            rotate_left
            ·simp only [P0, P0n, P2, P3, P4, P5, P6]
             rfl
            refine tw (i := 13) (N := some 36) (v := ?_) (a' := ?_) HT_.out HW_.out rfl rfl (by kernel_rfl) (fun _ _ _ h => h) (Or.inl ⟨by rfl, ?_⟩) hHeld ?_ ?_
            rotate_left
            ·rintro w' ⟨s0, s1, s2, s3, s4, s5, s6, s7, s8, s9, s10, s11, s12, s13, s14, s15, s16, s17, s18⟩
             go_simp
             with_reducible rfl
            rotate_left
            ·simp only [P0, P0n, P2, P3, P4, P5, P6]
             rfl
            refine one_ (i := 14) (N := some 37) #[T, T, T, T, T, T, T, T, T, T, T, T, T, T, T, F, F, F, F, F, F, F, F, F, F, F, F, F, F, F, F, F, F, F, F, F] rfl rfl (one_of HT_.out (by kernel_rfl)) (by decide) (fun K hK => ?_)
            refine goes_ Try.func56 (by kernel_rfl) rfl #[.int .i64 (rd l1 x5_2), .int .i64 ((rd_T54 l0 x5_2).f3), .int .i64 ((rd_T54 l0 x5_2).f4)] (by rfl) rfl rfl (by (try simp only [List.map_toArray, List.map_cons, List.map_nil]); first | done | rfl | (simp only [List.length_drop, List.length_take]; rfl)) ?_
            with_reducible refine (spec_l1In.calls (rd l1 x5_2) ((rd_T54 l0 x5_2).f3) ((rd_T54 l0 x5_2).f4) true _ A13.out).mono ?_
            rintro e w' ⟨rfl, ⟨nd, rfl⟩⟩
            refine ⟨_, rfl, ?_⟩
            refine hK.out _ _ ⟨(pw_cell_below HB.out hw102_0), (pw_cell_below HB.out hw103_0), (pw_cell_below HB.out hw103_1), (pw_cell_below HB.out hw103_2), (pw_cell_below HB.out hw103_3), (pw_cell_below HB.out hw103_4), (pw_cell_below HB.out hw103_5), (pw_cell_below HB.out hw104_0), (pw_cell_below HB.out hw104_1), (pw_cell_below HB.out hw104_2), (pw_cell_below HB.out hw104_3), (pw_cell_below HB.out hw104_4), (pw_cell_below HB.out hw104_5), (pw_cell_below HB.out hw106_0), (pw_cell_below HB.out hw106_1), (pw_cell_below HB.out hw106_2), (pw_cell_below HB.out hw106_3), (pw_cell_below HB.out hw106_4), (pw_cell_below HB.out hw106_5)⟩ (fun hHeld => ?_)
            clear hK K
            refine norm_ (a' := ?_) ?_ ?_
            rotate_left
            ·show Act.put _ (some 37) _ = _
             simp only [P0, P0n, P2, P3, P4, P5, P6]
             rfl
            refine pu (i := 15) (N := some 38) (v := ?_) (a' := ?_) HT_.out rfl rfl (by kernel_rfl) (fun _ _ _ h => h) (Or.inl ⟨by rfl, ?_⟩) ?_ ?_
            rotate_left; (intro w'; go_simp; with_reducible rfl); rotate_left; (simp only [P0, P0n, P2, P3, P4, P5, P6]; rfl)
            refine pu (i := 16) (N := some 39) (v := ?_) (a' := ?_) HT_.out rfl rfl (by kernel_rfl) (fun _ _ _ h => h) (Or.inl ⟨by rfl, ?_⟩) ?_ ?_
            rotate_left; (intro w'; go_simp; with_reducible rfl); rotate_left; (simp only [P0, P0n, P2, P3, P4, P5, P6]; rfl)
            refine pu (i := 17) (N := some 40) (v := ?_) (a' := ?_) HT_.out rfl rfl (by kernel_rfl) (fun _ _ _ h => h) (Or.inl ⟨by rfl, ?_⟩) ?_ ?_
            rotate_left; (intro w'; go_simp; with_reducible rfl); rotate_left; (simp only [P0, P0n, P2, P3, P4, P5, P6]; rfl)
            refine pu (i := 18) (N := some 41) (v := ?_) (a' := ?_) HT_.out rfl rfl (by kernel_rfl) (fun _ _ _ h => h) (Or.inl ⟨by rfl, ?_⟩) ?_ ?_
            rotate_left; (intro w'; go_simp; with_reducible rfl); rotate_left; (simp only [P0, P0n, P2, P3, P4, P5, P6]; rfl)
            refine pu (i := 19) (N := some 42) (v := ?_) (a' := ?_) HT_.out rfl rfl (by kernel_rfl) (fun _ _ _ h => h) (Or.inl ⟨by rfl, ?_⟩) ?_ ?_
            rotate_left; (intro w'; go_simp; with_reducible rfl); rotate_left; (simp only [P0, P0n, P2, P3, P4, P5, P6]; rfl)
            refine pu (i := 20) (N := some 43) (v := ?_) (a' := ?_) HT_.out rfl rfl (by kernel_rfl) (fun _ _ _ h => h) (Or.inl ⟨by rfl, ?_⟩) ?_ ?_
            rotate_left; (intro w'; go_simp; with_reducible rfl); rotate_left; (simp only [P0, P0n, P2, P3, P4, P5, P6]; rfl)
            refine tw (i := 21) (N := some 44) (v := ?_) (a' := ?_) HT_.out HW_.out rfl rfl (by kernel_rfl) (fun _ _ _ h => h) (Or.inl ⟨by rfl, ?_⟩) hHeld ?_ ?_
            rotate_left
            ·rintro w' ⟨s0, s1, s2, s3, s4, s5, s6, s7, s8, s9, s10, s11, s12, s13, s14, s15, s16, s17, s18⟩
             go_simp
             with_reducible rfl
            rotate_left
            ·simp only [P0, P0n, P2, P3, P4, P5, P6]
             rfl
            refine pu (i := 22) (N := some 45) (v := ?_) (a' := ?_) HT_.out rfl rfl (by kernel_rfl) (fun _ _ _ h => h) (Or.inl ⟨by rfl, ?_⟩) ?_ ?_
            rotate_left; (intro w'; go_simp; with_reducible rfl); rotate_left; (simp only [P0, P0n, P2, P3, P4, P5, P6]; rfl)
            refine pu (i := 23) (N := some 46) (v := ?_) (a' := ?_) HT_.out rfl rfl (by kernel_rfl) (fun _ _ _ h => h) (Or.inl ⟨by rfl, ?_⟩) ?_ ?_
            rotate_left; (intro w'; go_simp; with_reducible rfl); rotate_left; (simp only [P0, P0n, P2, P3, P4, P5, P6]; rfl)
            refine pure_ (i := 24) (N := some 47) (v := undef) (a' := ?_) #[T, T, T, T, T, T, T, T, T, T, T, T, T, T, T, T, T, T, T, T, T, T, T, T, T, F, F, F, F, F, F, F, F, F, F, F] rfl rfl (any_of HT_.out (by kernel_rfl)) (fun _ _ _ h => h) (Or.inr ⟨by rfl, rfl⟩) ?_ ?_
            rotate_left
            ·simp only [P0, P0n, P2, P3, P4, P5, P6]
             rfl
            refine pure_ (i := 25) (N := some 48) (v := undef) (a' := ?_) #[T, T, T, T, T, T, T, T, T, T, T, T, T, T, T, T, T, T, T, T, T, T, T, T, T, T, F, F, F, F, F, F, F, F, F, F] rfl rfl (any_of HT_.out (by kernel_rfl)) (fun _ _ _ h => h) (Or.inr ⟨by rfl, rfl⟩) ?_ ?_
            rotate_left
            ·simp only [P0, P0n, P2, P3, P4, P5, P6]
             rfl
            refine pure_ (i := 26) (N := some 49) (v := undef) (a' := ?_) #[T, T, T, T, T, T, T, T, T, T, T, T, T, T, T, T, T, T, T, T, T, T, T, T, T, T, T, F, F, F, F, F, F, F, F, F] rfl rfl (any_of HT_.out (by kernel_rfl)) (fun _ _ _ h => h) (Or.inr ⟨by rfl, rfl⟩) ?_ ?_
            rotate_left
            ·simp only [P0, P0n, P2, P3, P4, P5, P6]
             rfl
            refine pure_ (i := 27) (N := some 50) (v := undef) (a' := ?_) #[T, T, T, T, T, T, T, T, T, T, T, T, T, T, T, T, T, T, T, T, T, T, T, T, T, T, T, T, F, F, F, F, F, F, F, F] rfl rfl (any_of HT_.out (by kernel_rfl)) (fun _ _ _ h => h) (Or.inr ⟨by rfl, rfl⟩) ?_ ?_
            rotate_left
            ·simp only [P0, P0n, P2, P3, P4, P5, P6]
             rfl
            refine pure_ (i := 28) (N := some 51) (v := undef) (a' := ?_) #[T, T, T, T, T, T, T, T, T, T, T, T, T, T, T, T, T, T, T, T, T, T, T, T, T, T, T, T, T, F, F, F, F, F, F, F] rfl rfl (any_of HT_.out (by kernel_rfl)) (fun _ _ _ h => h) (Or.inr ⟨by rfl, rfl⟩) ?_ ?_
            rotate_left
            ·simp only [P0, P0n, P2, P3, P4, P5, P6]
             rfl
            refine pure_ (i := 29) (N := some 52) (v := undef) (a' := ?_) #[T, T, T, T, T, T, T, T, T, T, T, T, T, T, T, T, T, T, T, T, T, T, T, T, T, T, T, T, T, T, F, F, F, F, F, F] rfl rfl (any_of HT_.out (by kernel_rfl)) (fun _ _ _ h => h) (Or.inr ⟨by rfl, rfl⟩) ?_ ?_
            rotate_left
            ·simp only [P0, P0n, P2, P3, P4, P5, P6]
             rfl
            refine pure_ (i := 30) (N := some 53) (v := undef) (a' := ?_) #[T, T, T, T, T, T, T, T, T, T, T, T, T, T, T, T, T, T, T, T, T, T, T, T, T, T, T, T, T, T, T, F, F, F, F, F] rfl rfl (any_of HT_.out (by kernel_rfl)) (fun _ _ _ h => h) (Or.inr ⟨by rfl, rfl⟩) ?_ ?_
            rotate_left
            ·simp only [P0, P0n, P2, P3, P4, P5, P6]
             rfl
            refine pure_ (i := 31) (N := some 54) (v := undef) (a' := ?_) #[T, T, T, T, T, T, T, T, T, T, T, T, T, T, T, T, T, T, T, T, T, T, T, T, T, T, T, T, T, T, T, T, F, F, F, F] rfl rfl (any_of HT_.out (by kernel_rfl)) (fun _ _ _ h => h) (Or.inr ⟨by rfl, rfl⟩) ?_ ?_
            rotate_left
            ·simp only [P0, P0n, P2, P3, P4, P5, P6]
             rfl
            refine pure_ (i := 32) (N := some 55) (v := undef) (a' := ?_) #[T, T, T, T, T, T, T, T, T, T, T, T, T, T, T, T, T, T, T, T, T, T, T, T, T, T, T, T, T, T, T, T, T, F, F, F] rfl rfl (any_of HT_.out (by kernel_rfl)) (fun _ _ _ h => h) (Or.inr ⟨by rfl, rfl⟩) ?_ ?_
            rotate_left
            ·simp only [P0, P0n, P2, P3, P4, P5, P6]
             rfl
            refine pure_ (i := 33) (N := some 56) (v := undef) (a' := ?_) #[T, T, T, T, T, T, T, T, T, T, T, T, T, T, T, T, T, T, T, T, T, T, T, T, T, T, T, T, T, T, T, T, T, T, F, F] rfl rfl (any_of HT_.out (by kernel_rfl)) (fun _ _ _ h => h) (Or.inr ⟨by rfl, rfl⟩) ?_ ?_
            rotate_left
            ·simp only [P0, P0n, P2, P3, P4, P5, P6]
             rfl
            refine pu (i := 34) (N := some 57) (v := ?_) (a' := ?_) HT_.out rfl rfl (by kernel_rfl) (fun _ _ _ h => h) (Or.inl ⟨by rfl, ?_⟩) ?_ ?_
            rotate_left; (intro w'; go_simp; with_reducible rfl); rotate_left; (simp only [P0, P0n, P2, P3, P4, P5, P6]; rfl)
            refine pu (i := 35) (N := some 58) (v := ?_) (a' := ?_) HT_.out rfl rfl (by kernel_rfl) (fun _ _ _ h => h) (Or.inl ⟨by rfl, ?_⟩) ?_ ?_
            rotate_left; (intro w'; go_simp; with_reducible rfl); rotate_left; (simp only [P0, P0n, P2, P3, P4, P5, P6]; rfl)
            refine done_ (done_of HT_.out (by kernel_rfl)) ?_
            try go_wp2
            go_meet
            case rel => exact ⟨_, (false), (by first | rfl | (simp; done) | (simp [*]; done)), H', ⟨by have := HJ2.out; have := HK2.out; first | omega | exact Nat.le_refl _⟩, ⟨eb HB.out⟩⟩
          ·replace c14 := Bool.eq_false_iff.mpr c14
           subst c14
           have H1 : (spec_StripFits.j2 k2 l0 l1 x5_2 true) = some r := by rw [if_neg (show ¬ (false = true) by decide)] at H; exact H
           clear H
           have H := H1
           clear H1
           have H' := Aside0.mk H
           clear H
           try go_wp2
           have n0_ := Aside0.mk (below_drew1 HB.out)
           clear HB
           have HB := n0_
           clear n0_
           have p102 : 0 ≤ (x5_2 : Int) := of_decide_eq_true (by first | (with_reducible assumption) | assumption)
           have q102 : x5_2 < (l1.length : Int) := of_decide_eq_true (by first | (with_reducible assumption) | assumption)
           obtain ⟨ad102, e102, hx102_0⟩ := Kd.at_int HR1.out x5_2 p102 q102
           have hw102_0 := hx102_0
           cases e102
           replace hx102_0 := pw_cell_below HB.out hx102_0
           replace p102 := eq_true p102
           replace q102 := eq_true q102
           have p103 : 0 ≤ (x5_2 : Int) := of_decide_eq_true (by first | (with_reducible assumption) | assumption)
           have q103 : x5_2 < (l0.length : Int) := of_decide_eq_true (by first | (with_reducible assumption) | assumption)
           obtain ⟨ad103, e103, hx103_0, hx103_1, hx103_2, hx103_3, hx103_4, hx103_5⟩ := at_T54 HR0.out x5_2 p103 q103
           have hw103_5 := hx103_5
           have hw103_4 := hx103_4
           have hw103_3 := hx103_3
           have hw103_2 := hx103_2
           have hw103_1 := hx103_1
           have hw103_0 := hx103_0
           cases e103
           replace hx103_0 := pw_cell_below HB.out hx103_0
           replace hx103_1 := pw_cell_below HB.out hx103_1
           replace hx103_2 := pw_cell_below HB.out hx103_2
           replace hx103_3 := pw_cell_below HB.out hx103_3
           replace hx103_4 := pw_cell_below HB.out hx103_4
           replace hx103_5 := pw_cell_below HB.out hx103_5
           replace p103 := eq_true p103
           replace q103 := eq_true q103
           have p104 : 0 ≤ (x5_2 : Int) := of_decide_eq_true (by first | (with_reducible assumption) | assumption)
           have q104 : x5_2 < (l0.length : Int) := of_decide_eq_true (by first | (with_reducible assumption) | assumption)
           obtain ⟨ad104, e104, hx104_0, hx104_1, hx104_2, hx104_3, hx104_4, hx104_5⟩ := at_T54 HR0.out x5_2 p104 q104
           have hw104_5 := hx104_5
           have hw104_4 := hx104_4
           have hw104_3 := hx104_3
           have hw104_2 := hx104_2
           have hw104_1 := hx104_1
           have hw104_0 := hx104_0
           obtain rfl : ad103 = ad104 := (by injection e104)
           replace hx104_0 := pw_cell_below HB.out hx104_0
           replace hx104_1 := pw_cell_below HB.out hx104_1
           replace hx104_2 := pw_cell_below HB.out hx104_2
           replace hx104_3 := pw_cell_below HB.out hx104_3
           replace hx104_4 := pw_cell_below HB.out hx104_4
           replace hx104_5 := pw_cell_below HB.out hx104_5
           replace p104 := eq_true p104
           replace q104 := eq_true q104
           refine start_ (n := 36) (S := fun w' => w'.cell? (ad102.add (x5_2).toNat) = some (.int .i64 (rd l1 x5_2)) ∧ w'.cell? (ad103.add ((x5_2).toNat * 6)) = some (.string ((rd_T54 l0 x5_2).f0)) ∧ w'.cell? ⟨(ad103.add ((x5_2).toNat * 6)).block, (ad103.add ((x5_2).toNat * 6)).off + 1, none⟩ = some (.bool ((rd_T54 l0 x5_2).f1)) ∧ w'.cell? ⟨(ad103.add ((x5_2).toNat * 6)).block, (ad103.add ((x5_2).toNat * 6)).off + 2, none⟩ = some (.int .i64 ((rd_T54 l0 x5_2).f2)) ∧ w'.cell? ⟨(ad103.add ((x5_2).toNat * 6)).block, (ad103.add ((x5_2).toNat * 6)).off + 3, none⟩ = some (.int .i64 ((rd_T54 l0 x5_2).f3)) ∧ w'.cell? ⟨(ad103.add ((x5_2).toNat * 6)).block, (ad103.add ((x5_2).toNat * 6)).off + 4, none⟩ = some (.int .i64 ((rd_T54 l0 x5_2).f4)) ∧ w'.cell? ⟨(ad103.add ((x5_2).toNat * 6)).block, (ad103.add ((x5_2).toNat * 6)).off + 5, none⟩ = some (.int .i64 ((rd_T54 l0 x5_2).f5)) ∧ w'.cell? (ad103.add ((x5_2).toNat * 6)) = some (.string ((rd_T54 l0 x5_2).f0)) ∧ w'.cell? ⟨(ad103.add ((x5_2).toNat * 6)).block, (ad103.add ((x5_2).toNat * 6)).off + 1, none⟩ = some (.bool ((rd_T54 l0 x5_2).f1)) ∧ w'.cell? ⟨(ad103.add ((x5_2).toNat * 6)).block, (ad103.add ((x5_2).toNat * 6)).off + 2, none⟩ = some (.int .i64 ((rd_T54 l0 x5_2).f2)) ∧ w'.cell? ⟨(ad103.add ((x5_2).toNat * 6)).block, (ad103.add ((x5_2).toNat * 6)).off + 3, none⟩ = some (.int .i64 ((rd_T54 l0 x5_2).f3)) ∧ w'.cell? ⟨(ad103.add ((x5_2).toNat * 6)).block, (ad103.add ((x5_2).toNat * 6)).off + 4, none⟩ = some (.int .i64 ((rd_T54 l0 x5_2).f4)) ∧ w'.cell? ⟨(ad103.add ((x5_2).toNat * 6)).block, (ad103.add ((x5_2).toNat * 6)).off + 5, none⟩ = some (.int .i64 ((rd_T54 l0 x5_2).f5))) (ds := []) #[F, F, F, F, F, F, F, F, F, F, F, F, F, F, F, F, F, F, F, F, F, F, F, F, F, F, F, F, F, F, F, F, F, F, F, F] (by kernel_rfl) rfl rfl ⟨(pw_cell_below HB.out hw102_0), (pw_cell_below HB.out hw103_0), (pw_cell_below HB.out hw103_1), (pw_cell_below HB.out hw103_2), (pw_cell_below HB.out hw103_3), (pw_cell_below HB.out hw103_4), (pw_cell_below HB.out hw103_5), (pw_cell_below HB.out hw104_0), (pw_cell_below HB.out hw104_1), (pw_cell_below HB.out hw104_2), (pw_cell_below HB.out hw104_3), (pw_cell_below HB.out hw104_4), (pw_cell_below HB.out hw104_5)⟩ (fun hHeld => ?_); refine with_tabW spec_StripFits.tab6 spec_StripFits.bits6 (fun HT_ HW_ => ?_)
           generalize wr.drew = w18 at HB hx102_0 hx103_0 hx103_1 hx103_2 hx103_3 hx103_4 hx103_5 hx104_0 hx104_1 hx104_2 hx104_3 hx104_4 hx104_5 hHeld ⊢
           refine pu (i := 0) (N := some 23) (v := ?_) (a' := ?_) HT_.out rfl rfl (by kernel_rfl) (fun _ _ _ h => h) (Or.inl ⟨by rfl, ?_⟩) ?_ ?_
           rotate_left; (intro w'; go_simp; with_reducible rfl); rotate_left; (simp only [P0, P0n, P2, P3, P4, P5, P6]; rfl)
           refine pu (i := 1) (N := some 24) (v := ?_) (a' := ?_) HT_.out rfl rfl (by kernel_rfl) (fun _ _ _ h => h) (Or.inl ⟨by rfl, ?_⟩) ?_ ?_
           rotate_left; (intro w'; go_simp; with_reducible rfl); rotate_left; (simp only [P0, P0n, P2, P3, P4, P5, P6]; rfl)
           refine pu (i := 2) (N := some 25) (v := ?_) (a' := ?_) HT_.out rfl rfl (by kernel_rfl) (fun _ _ _ h => h) (Or.inl ⟨by rfl, ?_⟩) ?_ ?_
           rotate_left; (intro w'; go_simp; with_reducible rfl); rotate_left; (simp only [P0, P0n, P2, P3, P4, P5, P6]; rfl)
           refine pu (i := 4) (N := some 27) (v := ?_) (a' := ?_) HT_.out rfl rfl (by kernel_rfl) (fun _ _ _ h => h) (Or.inl ⟨by rfl, ?_⟩) ?_ ?_
           rotate_left; (intro w'; go_simp; with_reducible rfl); rotate_left; (simp only [P0, P0n, P2, P3, P4, P5, P6]; rfl)
           refine pu (i := 5) (N := some 28) (v := ?_) (a' := ?_) HT_.out rfl rfl (by kernel_rfl) (fun _ _ _ h => h) (Or.inl ⟨by rfl, ?_⟩) ?_ ?_
           rotate_left; (intro w'; go_simp; with_reducible rfl); rotate_left; (simp only [P0, P0n, P2, P3, P4, P5, P6]; rfl)
           refine pu (i := 6) (N := some 29) (v := ?_) (a' := ?_) HT_.out rfl rfl (by kernel_rfl) (fun _ _ _ h => h) (Or.inl ⟨by rfl, ?_⟩) ?_ ?_
           rotate_left; (intro w'; go_simp; with_reducible rfl); rotate_left; (simp only [P0, P0n, P2, P3, P4, P5, P6]; rfl)
           refine pu (i := 7) (N := some 30) (v := ?_) (a' := ?_) HT_.out rfl rfl (by kernel_rfl) (fun _ _ _ h => h) (Or.inl ⟨by rfl, ?_⟩) ?_ ?_
           rotate_left; (intro w'; go_simp; with_reducible rfl); rotate_left; (simp only [P0, P0n, P2, P3, P4, P5, P6]; rfl)
           refine pu (i := 9) (N := some 32) (v := ?_) (a' := ?_) HT_.out rfl rfl (by kernel_rfl) (fun _ _ _ h => h) (Or.inl ⟨by rfl, ?_⟩) ?_ ?_
           rotate_left; (intro w'; go_simp; with_reducible rfl); rotate_left; (simp only [P0, P0n, P2, P3, P4, P5, P6]; rfl)
           refine pu (i := 10) (N := some 33) (v := ?_) (a' := ?_) HT_.out rfl rfl (by kernel_rfl) (fun _ _ _ h => h) (Or.inl ⟨by rfl, ?_⟩) ?_ ?_
           rotate_left; (intro w'; go_simp; with_reducible rfl); rotate_left; (simp only [P0, P0n, P2, P3, P4, P5, P6]; rfl)
           refine pu (i := 11) (N := some 34) (v := ?_) (a' := ?_) HT_.out rfl rfl (by kernel_rfl) (fun _ _ _ h => h) (Or.inl ⟨by rfl, ?_⟩) ?_ ?_
           rotate_left; (intro w'; go_simp; with_reducible rfl); rotate_left; (simp only [P0, P0n, P2, P3, P4, P5, P6]; rfl)
           refine pu (i := 12) (N := some 35) (v := ?_) (a' := ?_) HT_.out rfl rfl (by kernel_rfl) (fun _ _ _ h => h) (Or.inl ⟨by rfl, ?_⟩) ?_ ?_
           rotate_left; (intro w'; go_simp; with_reducible rfl); rotate_left; (simp only [P0, P0n, P2, P3, P4, P5, P6]; rfl)
           refine tw (i := 3) (N := some 26) (v := ?_) (a' := ?_) HT_.out HW_.out rfl rfl (by kernel_rfl) (fun _ _ _ h => h) (Or.inl ⟨by rfl, ?_⟩) hHeld ?_ ?_
           rotate_left
           ·rintro w' ⟨s0, s1, s2, s3, s4, s5, s6, s7, s8, s9, s10, s11, s12⟩
            go_simp
            with_reducible rfl
           rotate_left
           ·simp only [P0, P0n, P2, P3, P4, P5, P6]
            rfl
           refine tw (i := 8) (N := some 31) (v := ?_) (a' := ?_) HT_.out HW_.out rfl rfl (by kernel_rfl) (fun _ _ _ h => h) (Or.inl ⟨by rfl, ?_⟩) hHeld ?_ ?_
           rotate_left
           ·rintro w' ⟨s0, s1, s2, s3, s4, s5, s6, s7, s8, s9, s10, s11, s12⟩
            go_simp
            with_reducible rfl
           rotate_left
           ·simp only [P0, P0n, P2, P3, P4, P5, P6]
            rfl
           refine tw (i := 13) (N := some 36) (v := ?_) (a' := ?_) HT_.out HW_.out rfl rfl (by kernel_rfl) (fun _ _ _ h => h) (Or.inl ⟨by rfl, ?_⟩) hHeld ?_ ?_
           rotate_left
           ·rintro w' ⟨s0, s1, s2, s3, s4, s5, s6, s7, s8, s9, s10, s11, s12⟩
            go_simp
            with_reducible rfl
           rotate_left
           ·simp only [P0, P0n, P2, P3, P4, P5, P6]
            rfl
           refine one_ (i := 14) (N := some 37) #[T, T, T, T, T, T, T, T, T, T, T, T, T, T, T, F, F, F, F, F, F, F, F, F, F, F, F, F, F, F, F, F, F, F, F, F] rfl rfl (one_of HT_.out (by kernel_rfl)) (by decide) (fun K hK => ?_)
           refine goes_ Try.func56 (by kernel_rfl) rfl #[.int .i64 (rd l1 x5_2), .int .i64 ((rd_T54 l0 x5_2).f3), .int .i64 ((rd_T54 l0 x5_2).f4)] (by rfl) rfl rfl (by (try simp only [List.map_toArray, List.map_cons, List.map_nil]); first | done | rfl | (simp only [List.length_drop, List.length_take]; rfl)) ?_
           with_reducible refine (spec_l1In.calls (rd l1 x5_2) ((rd_T54 l0 x5_2).f3) ((rd_T54 l0 x5_2).f4) false _ A13.out).mono ?_
           rintro e w' ⟨rfl, ⟨nd, rfl⟩⟩
           refine ⟨_, rfl, ?_⟩
           refine hK.out _ _ ⟨(pw_cell_below HB.out hw102_0), (pw_cell_below HB.out hw103_0), (pw_cell_below HB.out hw103_1), (pw_cell_below HB.out hw103_2), (pw_cell_below HB.out hw103_3), (pw_cell_below HB.out hw103_4), (pw_cell_below HB.out hw103_5), (pw_cell_below HB.out hw104_0), (pw_cell_below HB.out hw104_1), (pw_cell_below HB.out hw104_2), (pw_cell_below HB.out hw104_3), (pw_cell_below HB.out hw104_4), (pw_cell_below HB.out hw104_5)⟩ (fun hHeld => ?_)
           clear hK K
           refine norm_ (a' := ?_) ?_ ?_
           rotate_left
           ·show Act.put _ (some 37) _ = _
            simp only [P0, P0n, P2, P3, P4, P5, P6]
            rfl
           refine pu (i := 15) (N := some 38) (v := ?_) (a' := ?_) HT_.out rfl rfl (by kernel_rfl) (fun _ _ _ h => h) (Or.inl ⟨by rfl, ?_⟩) ?_ ?_
           rotate_left; (intro w'; go_simp; with_reducible rfl); rotate_left; (simp only [P0, P0n, P2, P3, P4, P5, P6]; rfl)
           refine pu (i := 16) (N := some 39) (v := ?_) (a' := ?_) HT_.out rfl rfl (by kernel_rfl) (fun _ _ _ h => h) (Or.inl ⟨by rfl, ?_⟩) ?_ ?_
           rotate_left; (intro w'; go_simp; with_reducible rfl); rotate_left; (simp only [P0, P0n, P2, P3, P4, P5, P6]; rfl)
           refine pure_ (i := 17) (N := some 40) (v := undef) (a' := ?_) #[T, T, T, T, T, T, T, T, T, T, T, T, T, T, T, T, T, T, F, F, F, F, F, F, F, F, F, F, F, F, F, F, F, F, F, F] rfl rfl (any_of HT_.out (by kernel_rfl)) (fun _ _ _ h => h) (Or.inr ⟨by rfl, rfl⟩) ?_ ?_
           rotate_left
           ·simp only [P0, P0n, P2, P3, P4, P5, P6]
            rfl
           refine pure_ (i := 18) (N := some 41) (v := undef) (a' := ?_) #[T, T, T, T, T, T, T, T, T, T, T, T, T, T, T, T, T, T, T, F, F, F, F, F, F, F, F, F, F, F, F, F, F, F, F, F] rfl rfl (any_of HT_.out (by kernel_rfl)) (fun _ _ _ h => h) (Or.inr ⟨by rfl, rfl⟩) ?_ ?_
           rotate_left
           ·simp only [P0, P0n, P2, P3, P4, P5, P6]
            rfl
           refine pure_ (i := 19) (N := some 42) (v := undef) (a' := ?_) #[T, T, T, T, T, T, T, T, T, T, T, T, T, T, T, T, T, T, T, T, F, F, F, F, F, F, F, F, F, F, F, F, F, F, F, F] rfl rfl (any_of HT_.out (by kernel_rfl)) (fun _ _ _ h => h) (Or.inr ⟨by rfl, rfl⟩) ?_ ?_
           rotate_left
           ·simp only [P0, P0n, P2, P3, P4, P5, P6]
            rfl
           refine pure_ (i := 20) (N := some 43) (v := undef) (a' := ?_) #[T, T, T, T, T, T, T, T, T, T, T, T, T, T, T, T, T, T, T, T, T, F, F, F, F, F, F, F, F, F, F, F, F, F, F, F] rfl rfl (any_of HT_.out (by kernel_rfl)) (fun _ _ _ h => h) (Or.inr ⟨by rfl, rfl⟩) ?_ ?_
           rotate_left
           ·simp only [P0, P0n, P2, P3, P4, P5, P6]
            rfl
           refine pure_ (i := 21) (N := some 44) (v := undef) (a' := ?_) #[T, T, T, T, T, T, T, T, T, T, T, T, T, T, T, T, T, T, T, T, T, T, F, F, F, F, F, F, F, F, F, F, F, F, F, F] rfl rfl (any_of HT_.out (by kernel_rfl)) (fun _ _ _ h => h) (Or.inr ⟨by rfl, rfl⟩) ?_ ?_
           rotate_left
           ·simp only [P0, P0n, P2, P3, P4, P5, P6]
            rfl
           refine pure_ (i := 22) (N := some 45) (v := undef) (a' := ?_) #[T, T, T, T, T, T, T, T, T, T, T, T, T, T, T, T, T, T, T, T, T, T, T, F, F, F, F, F, F, F, F, F, F, F, F, F] rfl rfl (any_of HT_.out (by kernel_rfl)) (fun _ _ _ h => h) (Or.inr ⟨by rfl, rfl⟩) ?_ ?_
           rotate_left
           ·simp only [P0, P0n, P2, P3, P4, P5, P6]
            rfl
           refine pure_ (i := 23) (N := some 46) (v := undef) (a' := ?_) #[T, T, T, T, T, T, T, T, T, T, T, T, T, T, T, T, T, T, T, T, T, T, T, T, F, F, F, F, F, F, F, F, F, F, F, F] rfl rfl (any_of HT_.out (by kernel_rfl)) (fun _ _ _ h => h) (Or.inr ⟨by rfl, rfl⟩) ?_ ?_
           rotate_left
           ·simp only [P0, P0n, P2, P3, P4, P5, P6]
            rfl
           refine pure_ (i := 24) (N := some 47) (v := undef) (a' := ?_) #[T, T, T, T, T, T, T, T, T, T, T, T, T, T, T, T, T, T, T, T, T, T, T, T, T, F, F, F, F, F, F, F, F, F, F, F] rfl rfl (any_of HT_.out (by kernel_rfl)) (fun _ _ _ h => h) (Or.inr ⟨by rfl, rfl⟩) ?_ ?_
           rotate_left
           ·simp only [P0, P0n, P2, P3, P4, P5, P6]
            rfl
           refine pure_ (i := 25) (N := some 48) (v := undef) (a' := ?_) #[T, T, T, T, T, T, T, T, T, T, T, T, T, T, T, T, T, T, T, T, T, T, T, T, T, T, F, F, F, F, F, F, F, F, F, F] rfl rfl (any_of HT_.out (by kernel_rfl)) (fun _ _ _ h => h) (Or.inr ⟨by rfl, rfl⟩) ?_ ?_
           rotate_left
           ·simp only [P0, P0n, P2, P3, P4, P5, P6]
            rfl
           refine pure_ (i := 26) (N := some 49) (v := undef) (a' := ?_) #[T, T, T, T, T, T, T, T, T, T, T, T, T, T, T, T, T, T, T, T, T, T, T, T, T, T, T, F, F, F, F, F, F, F, F, F] rfl rfl (any_of HT_.out (by kernel_rfl)) (fun _ _ _ h => h) (Or.inr ⟨by rfl, rfl⟩) ?_ ?_
           rotate_left
           ·simp only [P0, P0n, P2, P3, P4, P5, P6]
            rfl
           refine pure_ (i := 27) (N := some 50) (v := undef) (a' := ?_) #[T, T, T, T, T, T, T, T, T, T, T, T, T, T, T, T, T, T, T, T, T, T, T, T, T, T, T, T, F, F, F, F, F, F, F, F] rfl rfl (any_of HT_.out (by kernel_rfl)) (fun _ _ _ h => h) (Or.inr ⟨by rfl, rfl⟩) ?_ ?_
           rotate_left
           ·simp only [P0, P0n, P2, P3, P4, P5, P6]
            rfl
           refine pure_ (i := 28) (N := some 51) (v := undef) (a' := ?_) #[T, T, T, T, T, T, T, T, T, T, T, T, T, T, T, T, T, T, T, T, T, T, T, T, T, T, T, T, T, F, F, F, F, F, F, F] rfl rfl (any_of HT_.out (by kernel_rfl)) (fun _ _ _ h => h) (Or.inr ⟨by rfl, rfl⟩) ?_ ?_
           rotate_left
           ·simp only [P0, P0n, P2, P3, P4, P5, P6]
            rfl
           refine pure_ (i := 29) (N := some 52) (v := undef) (a' := ?_) #[T, T, T, T, T, T, T, T, T, T, T, T, T, T, T, T, T, T, T, T, T, T, T, T, T, T, T, T, T, T, F, F, F, F, F, F] rfl rfl (any_of HT_.out (by kernel_rfl)) (fun _ _ _ h => h) (Or.inr ⟨by rfl, rfl⟩) ?_ ?_
           rotate_left
           ·simp only [P0, P0n, P2, P3, P4, P5, P6]
            rfl
           refine pure_ (i := 30) (N := some 53) (v := undef) (a' := ?_) #[T, T, T, T, T, T, T, T, T, T, T, T, T, T, T, T, T, T, T, T, T, T, T, T, T, T, T, T, T, T, T, F, F, F, F, F] rfl rfl (any_of HT_.out (by kernel_rfl)) (fun _ _ _ h => h) (Or.inr ⟨by rfl, rfl⟩) ?_ ?_
           rotate_left
           ·simp only [P0, P0n, P2, P3, P4, P5, P6]
            rfl
           refine pure_ (i := 31) (N := some 54) (v := undef) (a' := ?_) #[T, T, T, T, T, T, T, T, T, T, T, T, T, T, T, T, T, T, T, T, T, T, T, T, T, T, T, T, T, T, T, T, F, F, F, F] rfl rfl (any_of HT_.out (by kernel_rfl)) (fun _ _ _ h => h) (Or.inr ⟨by rfl, rfl⟩) ?_ ?_
           rotate_left
           ·simp only [P0, P0n, P2, P3, P4, P5, P6]
            rfl
           refine pure_ (i := 32) (N := some 55) (v := undef) (a' := ?_) #[T, T, T, T, T, T, T, T, T, T, T, T, T, T, T, T, T, T, T, T, T, T, T, T, T, T, T, T, T, T, T, T, T, F, F, F] rfl rfl (any_of HT_.out (by kernel_rfl)) (fun _ _ _ h => h) (Or.inr ⟨by rfl, rfl⟩) ?_ ?_
           rotate_left
           ·simp only [P0, P0n, P2, P3, P4, P5, P6]
            rfl
           refine pure_ (i := 33) (N := some 56) (v := undef) (a' := ?_) #[T, T, T, T, T, T, T, T, T, T, T, T, T, T, T, T, T, T, T, T, T, T, T, T, T, T, T, T, T, T, T, T, T, T, F, F] rfl rfl (any_of HT_.out (by kernel_rfl)) (fun _ _ _ h => h) (Or.inr ⟨by rfl, rfl⟩) ?_ ?_
           rotate_left
           ·simp only [P0, P0n, P2, P3, P4, P5, P6]
            rfl
           refine pure_ (i := 34) (N := some 57) (v := undef) (a' := ?_) #[T, T, T, T, T, T, T, T, T, T, T, T, T, T, T, T, T, T, T, T, T, T, T, T, T, T, T, T, T, T, T, T, T, T, T, F] rfl rfl (any_of HT_.out (by kernel_rfl)) (fun _ _ _ h => h) (Or.inr ⟨by rfl, rfl⟩) ?_ ?_
           rotate_left
           ·simp only [P0, P0n, P2, P3, P4, P5, P6]
            rfl
           refine pu (i := 35) (N := some 58) (v := ?_) (a' := ?_) HT_.out rfl rfl (by kernel_rfl) (fun _ _ _ h => h) (Or.inl ⟨by rfl, ?_⟩) ?_ ?_
           rotate_left; (intro w'; go_simp; with_reducible rfl); rotate_left; (simp only [P0, P0n, P2, P3, P4, P5, P6]; rfl)
           refine done_ (done_of HT_.out (by kernel_rfl)) ?_
           try go_wp2
           go_meet
           case rel => exact ⟨_, (true), (by first | rfl | (simp; done) | (simp [*]; done)), H', ⟨by have := HJ2.out; have := HK2.out; first | omega | exact Nat.le_refl _⟩, ⟨eb HB.out⟩⟩
         ·rw [if_neg c12] at H
          exact absurd H (by simp)
        ·rw [if_neg c11] at H
         exact absurd H (by simp)
       case rest =>
        clear HC10
        try clear c1
        try clear p1
        try clear q1
        try clear hx1
        try clear p2
        try clear c5
        try clear p10
        try clear q10
        try clear hx10
        try clear c11
        try clear c12
        try clear c14
        try clear hx102_0
        try clear hx103_0
        try clear hx103_1
        try clear hx103_2
        try clear hx103_3
        try clear hx103_4
        try clear hx103_5
        try clear hx104_0
        try clear hx104_1
        try clear hx104_2
        try clear hx104_3
        try clear hx104_4
        try clear hx104_5
        try clear hx106_0
        try clear hx106_1
        try clear hx106_2
        try clear hx106_3
        try clear hx106_4
        try clear hx106_5
        try clear p102
        try clear p103
        try clear p104
        try clear p106
        try clear q102
        try clear q103
        try clear q104
        try clear q106
        obtain ⟨kq, x58_9, rfl, HA, HJ9, HB⟩ := hcut
        cases kq with
        | zero => exact absurd HA.out (by simp [spec_StripFits.j2])
        | succ kj9 =>
         have H := HA.out
         clear HA
         simp only [spec_StripFits.j2] at H
         by_cases c19 : x58_9 = true
         ·subst c19
          have H1 : (some false) = some r := by rw [if_pos rfl] at H; exact H
          clear H
          have H := H1
          clear H1
          obtain rfl := Option.some.inj H
          go_wp2
          go_ret
          exact ⟨by first | rfl | (simp [errW_none, errW_some] <;> rfl) | (simp [*, errW_none, errW_some] <;> rfl), eb HB.out⟩
         ·replace c19 := Bool.eq_false_iff.mpr c19
          subst c19
          have H1 : (spec_StripFits.l1 kj9 l0 l1 x5_2 0) = some r := by rw [if_neg (show ¬ (false = true) by decide)] at H; exact H
          clear H
          have H := H1
          clear H1
          have H' := Aside0.mk H
          clear H
          go_wp2
          go_loopg [6] kj9 (fun kq v6 w' => ∃ (x6_4 : Int), v6 = .int .i64 x6_4 ∧ Aside0 (spec_StripFits.l1 kq l0 l1 x5_2 x6_4 = some r) ∧ Aside0 (kq ≤ kj9) ∧ Aside0 (Below w.heap.size w w'))
          case atStart => exact ⟨(0), (by first | rfl | (simp; done) | (simp [*]; done)), H', ⟨Nat.le_refl _⟩, ⟨eb HB.out⟩⟩
          case round =>
           clear H'
           try clear c1
           try clear p1
           try clear q1
           try clear hx1
           try clear p2
           try clear c5
           try clear p10
           try clear q10
           try clear hx10
           try clear c11
           try clear c12
           try clear c14
           try clear c19
           try clear hx102_0
           try clear hx103_0
           try clear hx103_1
           try clear hx103_2
           try clear hx103_3
           try clear hx103_4
           try clear hx103_5
           try clear hx104_0
           try clear hx104_1
           try clear hx104_2
           try clear hx104_3
           try clear hx104_4
           try clear hx104_5
           try clear hx106_0
           try clear hx106_1
           try clear hx106_2
           try clear hx106_3
           try clear hx106_4
           try clear hx106_5
           try clear p1
           try clear p10
           try clear p102
           try clear p103
           try clear p104
           try clear p106
           try clear p2
           try clear q1
           try clear q10
           try clear q102
           try clear q103
           try clear q104
           try clear q106
           obtain ⟨x6_4, rfl, HA, HK4, HB⟩ := hrel
           cases gk with
           | zero => exact absurd HA.out (by simp [spec_StripFits.l1])
           | succ k4 =>
            have H := HA.out
            clear HA
            simp only [spec_StripFits.l1] at H
            by_cases c20 : x6_4 < x5_2
            ·rw [if_pos c20] at H
             have c20b0 : decide (x6_4 < x5_2) = true := decide_eq_true c20
             clear c20
             by_cases c21 : 0 ≤ x6_4
             ·rw [if_pos c21] at H
              have c21b0 : decide (0 ≤ x6_4) = true := decide_eq_true c21
              clear c21
              by_cases c22 : x6_4 < (l0.length : Int)
              ·rw [if_pos c22] at H
               have c22b0 : decide (x6_4 < (l0.length : Int)) = true := decide_eq_true c22
               clear c22
               by_cases c23 : x6_4 < (l1.length : Int)
               ·rw [if_pos c23] at H
                have c23b0 : decide (x6_4 < (l1.length : Int)) = true := decide_eq_true c23
                clear c23
                by_cases c24 : 0 ≤ x5_2
                ·rw [if_pos c24] at H
                 have c24b0 : decide (0 ≤ x5_2) = true := decide_eq_true c24
                 clear c24
                 by_cases c25 : x5_2 < (l0.length : Int)
                 ·rw [if_pos c25] at H
                  have c25b0 : decide (x5_2 < (l0.length : Int)) = true := decide_eq_true c25
                  clear c25
                  by_cases c26 : x5_2 < (l1.length : Int)
                  ·rw [if_pos c26] at H
                   have c26b0 : decide (x5_2 < (l1.length : Int)) = true := decide_eq_true c26
                   clear c26
                   replace H := Option.bind_eq_some_iff.mp H
                   obtain ⟨t113, A270, H⟩ := H
                   replace H : (if t113 = true then (spec_StripFits.l1 k4 l0 l1 x5_2 (wrap64 (x6_4 + 1))) else (some false)) = some r := H
                   have A27 := Aside0.mk A270
                   clear A270
                   by_cases c28 : t113 = true
                   ·subst c28
                    have H1 : (spec_StripFits.l1 k4 l0 l1 x5_2 (wrap64 (x6_4 + 1))) = some r := by rw [if_pos rfl] at H; exact H
                    clear H
                    have H := H1
                    clear H1
                    have H' := Aside0.mk H
                    clear H
                    try go_wp2
                    have n0_ := Aside0.mk (below_drew1 HB.out)
                    clear HB
                    have HB := n0_
                    clear n0_
                    have p109 : 0 ≤ (x6_4 : Int) := of_decide_eq_true (by first | (with_reducible assumption) | assumption)
                    have q109 : x6_4 < (l0.length : Int) := of_decide_eq_true (by first | (with_reducible assumption) | assumption)
                    obtain ⟨ad109, e109, hx109_0, hx109_1, hx109_2, hx109_3, hx109_4, hx109_5⟩ := at_T54 HR0.out x6_4 p109 q109
                    have hw109_5 := hx109_5
                    have hw109_4 := hx109_4
                    have hw109_3 := hx109_3
                    have hw109_2 := hx109_2
                    have hw109_1 := hx109_1
                    have hw109_0 := hx109_0
                    cases e109
                    replace hx109_0 := pw_cell_below HB.out hx109_0
                    replace hx109_1 := pw_cell_below HB.out hx109_1
                    replace hx109_2 := pw_cell_below HB.out hx109_2
                    replace hx109_3 := pw_cell_below HB.out hx109_3
                    replace hx109_4 := pw_cell_below HB.out hx109_4
                    replace hx109_5 := pw_cell_below HB.out hx109_5
                    replace p109 := eq_true p109
                    replace q109 := eq_true q109
                    have p110 : 0 ≤ (x6_4 : Int) := of_decide_eq_true (by first | (with_reducible assumption) | assumption)
                    have q110 : x6_4 < (l1.length : Int) := of_decide_eq_true (by first | (with_reducible assumption) | assumption)
                    obtain ⟨ad110, e110, hx110_0⟩ := Kd.at_int HR1.out x6_4 p110 q110
                    have hw110_0 := hx110_0
                    cases e110
                    replace hx110_0 := pw_cell_below HB.out hx110_0
                    replace p110 := eq_true p110
                    replace q110 := eq_true q110
                    have p111 : 0 ≤ (x5_2 : Int) := of_decide_eq_true (by first | (with_reducible assumption) | assumption)
                    have q111 : x5_2 < (l0.length : Int) := of_decide_eq_true (by first | (with_reducible assumption) | assumption)
                    obtain ⟨ad111, e111, hx111_0, hx111_1, hx111_2, hx111_3, hx111_4, hx111_5⟩ := at_T54 HR0.out x5_2 p111 q111
                    have hw111_5 := hx111_5
                    have hw111_4 := hx111_4
                    have hw111_3 := hx111_3
                    have hw111_2 := hx111_2
                    have hw111_1 := hx111_1
                    have hw111_0 := hx111_0
                    obtain rfl : ad109 = ad111 := (by injection e111)
                    replace hx111_0 := pw_cell_below HB.out hx111_0
                    replace hx111_1 := pw_cell_below HB.out hx111_1
                    replace hx111_2 := pw_cell_below HB.out hx111_2
                    replace hx111_3 := pw_cell_below HB.out hx111_3
                    replace hx111_4 := pw_cell_below HB.out hx111_4
                    replace hx111_5 := pw_cell_below HB.out hx111_5
                    replace p111 := eq_true p111
                    replace q111 := eq_true q111
                    have p112 : 0 ≤ (x5_2 : Int) := of_decide_eq_true (by first | (with_reducible assumption) | assumption)
                    have q112 : x5_2 < (l1.length : Int) := of_decide_eq_true (by first | (with_reducible assumption) | assumption)
                    obtain ⟨ad112, e112, hx112_0⟩ := Kd.at_int HR1.out x5_2 p112 q112
                    have hw112_0 := hx112_0
                    obtain rfl : ad110 = ad112 := (by injection e112)
                    replace hx112_0 := pw_cell_below HB.out hx112_0
                    replace p112 := eq_true p112
                    replace q112 := eq_true q112
                    refine start_ (n := 18) (S := fun w' => w'.cell? (ad109.add ((x6_4).toNat * 6)) = some (.string ((rd_T54 l0 x6_4).f0)) ∧ w'.cell? ⟨(ad109.add ((x6_4).toNat * 6)).block, (ad109.add ((x6_4).toNat * 6)).off + 1, none⟩ = some (.bool ((rd_T54 l0 x6_4).f1)) ∧ w'.cell? ⟨(ad109.add ((x6_4).toNat * 6)).block, (ad109.add ((x6_4).toNat * 6)).off + 2, none⟩ = some (.int .i64 ((rd_T54 l0 x6_4).f2)) ∧ w'.cell? ⟨(ad109.add ((x6_4).toNat * 6)).block, (ad109.add ((x6_4).toNat * 6)).off + 3, none⟩ = some (.int .i64 ((rd_T54 l0 x6_4).f3)) ∧ w'.cell? ⟨(ad109.add ((x6_4).toNat * 6)).block, (ad109.add ((x6_4).toNat * 6)).off + 4, none⟩ = some (.int .i64 ((rd_T54 l0 x6_4).f4)) ∧ w'.cell? ⟨(ad109.add ((x6_4).toNat * 6)).block, (ad109.add ((x6_4).toNat * 6)).off + 5, none⟩ = some (.int .i64 ((rd_T54 l0 x6_4).f5)) ∧ w'.cell? (ad110.add (x6_4).toNat) = some (.int .i64 (rd l1 x6_4)) ∧ w'.cell? (ad109.add ((x5_2).toNat * 6)) = some (.string ((rd_T54 l0 x5_2).f0)) ∧ w'.cell? ⟨(ad109.add ((x5_2).toNat * 6)).block, (ad109.add ((x5_2).toNat * 6)).off + 1, none⟩ = some (.bool ((rd_T54 l0 x5_2).f1)) ∧ w'.cell? ⟨(ad109.add ((x5_2).toNat * 6)).block, (ad109.add ((x5_2).toNat * 6)).off + 2, none⟩ = some (.int .i64 ((rd_T54 l0 x5_2).f2)) ∧ w'.cell? ⟨(ad109.add ((x5_2).toNat * 6)).block, (ad109.add ((x5_2).toNat * 6)).off + 3, none⟩ = some (.int .i64 ((rd_T54 l0 x5_2).f3)) ∧ w'.cell? ⟨(ad109.add ((x5_2).toNat * 6)).block, (ad109.add ((x5_2).toNat * 6)).off + 4, none⟩ = some (.int .i64 ((rd_T54 l0 x5_2).f4)) ∧ w'.cell? ⟨(ad109.add ((x5_2).toNat * 6)).block, (ad109.add ((x5_2).toNat * 6)).off + 5, none⟩ = some (.int .i64 ((rd_T54 l0 x5_2).f5)) ∧ w'.cell? (ad110.add (x5_2).toNat) = some (.int .i64 (rd l1 x5_2))) (ds := []) #[F, F, F, F, F, F, F, F, F, F, F, F, F, F, F, F, F, F] (by kernel_rfl) rfl rfl ⟨(pw_cell_below HB.out hw109_0), (pw_cell_below HB.out hw109_1), (pw_cell_below HB.out hw109_2), (pw_cell_below HB.out hw109_3), (pw_cell_below HB.out hw109_4), (pw_cell_below HB.out hw109_5), (pw_cell_below HB.out hw110_0), (pw_cell_below HB.out hw111_0), (pw_cell_below HB.out hw111_1), (pw_cell_below HB.out hw111_2), (pw_cell_below HB.out hw111_3), (pw_cell_below HB.out hw111_4), (pw_cell_below HB.out hw111_5), (pw_cell_below HB.out hw112_0)⟩ (fun hHeld => ?_); refine with_tabW spec_StripFits.tab11 spec_StripFits.bits11 (fun HT_ HW_ => ?_)
                    generalize wr.drew = w29 at HB hx109_0 hx109_1 hx109_2 hx109_3 hx109_4 hx109_5 hx110_0 hx111_0 hx111_1 hx111_2 hx111_3 hx111_4 hx111_5 hx112_0 hHeld ⊢
                    refine pu (i := 0) (N := some 64) (v := ?_) (a' := ?_) HT_.out rfl rfl (by kernel_rfl) (fun _ _ _ h => h) (Or.inl ⟨by rfl, ?_⟩) ?_ ?_
                    rotate_left; (intro w'; go_simp; with_reducible rfl); rotate_left; (simp only [P0, P0n, P2, P3, P4, P5, P6]; rfl)
                    refine pu (i := 1) (N := some 65) (v := ?_) (a' := ?_) HT_.out rfl rfl (by kernel_rfl) (fun _ _ _ h => h) (Or.inl ⟨by rfl, ?_⟩) ?_ ?_
                    rotate_left; (intro w'; go_simp; with_reducible rfl); rotate_left; (simp only [P0, P0n, P2, P3, P4, P5, P6]; rfl)
                    refine pu (i := 2) (N := some 66) (v := ?_) (a' := ?_) HT_.out rfl rfl (by kernel_rfl) (fun _ _ _ h => h) (Or.inl ⟨by rfl, ?_⟩) ?_ ?_
                    rotate_left; (intro w'; go_simp; with_reducible rfl); rotate_left; (simp only [P0, P0n, P2, P3, P4, P5, P6]; rfl)
                    refine pu (i := 4) (N := some 68) (v := ?_) (a' := ?_) HT_.out rfl rfl (by kernel_rfl) (fun _ _ _ h => h) (Or.inl ⟨by rfl, ?_⟩) ?_ ?_
                    rotate_left; (intro w'; go_simp; with_reducible rfl); rotate_left; (simp only [P0, P0n, P2, P3, P4, P5, P6]; rfl)
                    refine pu (i := 5) (N := some 69) (v := ?_) (a' := ?_) HT_.out rfl rfl (by kernel_rfl) (fun _ _ _ h => h) (Or.inl ⟨by rfl, ?_⟩) ?_ ?_
                    rotate_left; (intro w'; go_simp; with_reducible rfl); rotate_left; (simp only [P0, P0n, P2, P3, P4, P5, P6]; rfl)
                    refine pu (i := 6) (N := some 70) (v := ?_) (a' := ?_) HT_.out rfl rfl (by kernel_rfl) (fun _ _ _ h => h) (Or.inl ⟨by rfl, ?_⟩) ?_ ?_
                    rotate_left; (intro w'; go_simp; with_reducible rfl); rotate_left; (simp only [P0, P0n, P2, P3, P4, P5, P6]; rfl)
                    refine pu (i := 8) (N := some 72) (v := ?_) (a' := ?_) HT_.out rfl rfl (by kernel_rfl) (fun _ _ _ h => h) (Or.inl ⟨by rfl, ?_⟩) ?_ ?_
                    rotate_left; (intro w'; go_simp; with_reducible rfl); rotate_left; (simp only [P0, P0n, P2, P3, P4, P5, P6]; rfl)
                    refine pu (i := 9) (N := some 73) (v := ?_) (a' := ?_) HT_.out rfl rfl (by kernel_rfl) (fun _ _ _ h => h) (Or.inl ⟨by rfl, ?_⟩) ?_ ?_
                    rotate_left; (intro w'; go_simp; with_reducible rfl); rotate_left; (simp only [P0, P0n, P2, P3, P4, P5, P6]; rfl)
                    refine pu (i := 10) (N := some 74) (v := ?_) (a' := ?_) HT_.out rfl rfl (by kernel_rfl) (fun _ _ _ h => h) (Or.inl ⟨by rfl, ?_⟩) ?_ ?_
                    rotate_left; (intro w'; go_simp; with_reducible rfl); rotate_left; (simp only [P0, P0n, P2, P3, P4, P5, P6]; rfl)
                    refine pu (i := 12) (N := some 76) (v := ?_) (a' := ?_) HT_.out rfl rfl (by kernel_rfl) (fun _ _ _ h => h) (Or.inl ⟨by rfl, ?_⟩) ?_ ?_
                    rotate_left; (intro w'; go_simp; with_reducible rfl); rotate_left; (simp only [P0, P0n, P2, P3, P4, P5, P6]; rfl)
                    refine pu (i := 13) (N := some 77) (v := ?_) (a' := ?_) HT_.out rfl rfl (by kernel_rfl) (fun _ _ _ h => h) (Or.inl ⟨by rfl, ?_⟩) ?_ ?_
                    rotate_left; (intro w'; go_simp; with_reducible rfl); rotate_left; (simp only [P0, P0n, P2, P3, P4, P5, P6]; rfl)
                    refine pu (i := 14) (N := some 78) (v := ?_) (a' := ?_) HT_.out rfl rfl (by kernel_rfl) (fun _ _ _ h => h) (Or.inl ⟨by rfl, ?_⟩) ?_ ?_
                    rotate_left; (intro w'; go_simp; with_reducible rfl); rotate_left; (simp only [P0, P0n, P2, P3, P4, P5, P6]; rfl)
                    refine tw (i := 3) (N := some 67) (v := ?_) (a' := ?_) HT_.out HW_.out rfl rfl (by kernel_rfl) (fun _ _ _ h => h) (Or.inl ⟨by rfl, ?_⟩) hHeld ?_ ?_
                    rotate_left
                    ·rintro w' ⟨s0, s1, s2, s3, s4, s5, s6, s7, s8, s9, s10, s11, s12, s13⟩
                     go_simp
                     with_reducible rfl
                    rotate_left
                    ·simp only [P0, P0n, P2, P3, P4, P5, P6]
                     rfl
                    refine tw (i := 7) (N := some 71) (v := ?_) (a' := ?_) HT_.out HW_.out rfl rfl (by kernel_rfl) (fun _ _ _ h => h) (Or.inl ⟨by rfl, ?_⟩) hHeld ?_ ?_
                    rotate_left
                    ·rintro w' ⟨s0, s1, s2, s3, s4, s5, s6, s7, s8, s9, s10, s11, s12, s13⟩
                     go_simp
                     with_reducible rfl
                    rotate_left
                    ·simp only [P0, P0n, P2, P3, P4, P5, P6]
                     rfl
                    refine tw (i := 11) (N := some 75) (v := ?_) (a' := ?_) HT_.out HW_.out rfl rfl (by kernel_rfl) (fun _ _ _ h => h) (Or.inl ⟨by rfl, ?_⟩) hHeld ?_ ?_
                    rotate_left
                    ·rintro w' ⟨s0, s1, s2, s3, s4, s5, s6, s7, s8, s9, s10, s11, s12, s13⟩
                     go_simp
                     with_reducible rfl
                    rotate_left
                    ·simp only [P0, P0n, P2, P3, P4, P5, P6]
                     rfl
                    refine tw (i := 15) (N := some 79) (v := ?_) (a' := ?_) HT_.out HW_.out rfl rfl (by kernel_rfl) (fun _ _ _ h => h) (Or.inl ⟨by rfl, ?_⟩) hHeld ?_ ?_
                    rotate_left
                    ·rintro w' ⟨s0, s1, s2, s3, s4, s5, s6, s7, s8, s9, s10, s11, s12, s13⟩
                     go_simp
                     with_reducible rfl
                    rotate_left
                    ·simp only [P0, P0n, P2, P3, P4, P5, P6]
                     rfl
                    refine one_ (i := 16) (N := some 80) #[T, T, T, T, T, T, T, T, T, T, T, T, T, T, T, T, T, F] rfl rfl (one_of HT_.out (by kernel_rfl)) (by decide) (fun K hK => ?_)
                    refine goes_ Try.func57 (by kernel_rfl) rfl #[.agg #[.string ((rd_T54 l0 x6_4).f0), .bool ((rd_T54 l0 x6_4).f1), .int .i64 ((rd_T54 l0 x6_4).f2), .int .i64 ((rd_T54 l0 x6_4).f3), .int .i64 ((rd_T54 l0 x6_4).f4), .int .i64 ((rd_T54 l0 x6_4).f5)], .int .i64 (rd l1 x6_4), .agg #[.string ((rd_T54 l0 x5_2).f0), .bool ((rd_T54 l0 x5_2).f1), .int .i64 ((rd_T54 l0 x5_2).f2), .int .i64 ((rd_T54 l0 x5_2).f3), .int .i64 ((rd_T54 l0 x5_2).f4), .int .i64 ((rd_T54 l0 x5_2).f5)], .int .i64 (rd l1 x5_2)] (by rfl) rfl rfl (by (try simp only [List.map_toArray, List.map_cons, List.map_nil]); first | done | rfl | (simp only [List.length_drop, List.length_take]; rfl)) ?_
                    with_reducible refine (spec_l2Apart.calls k4 ((rd_T54 l0 x6_4).f0) ((rd_T54 l0 x6_4).f1) ((rd_T54 l0 x6_4).f2) ((rd_T54 l0 x6_4).f3) ((rd_T54 l0 x6_4).f4) ((rd_T54 l0 x6_4).f5) (rd l1 x6_4) ((rd_T54 l0 x5_2).f0) ((rd_T54 l0 x5_2).f1) ((rd_T54 l0 x5_2).f2) ((rd_T54 l0 x5_2).f3) ((rd_T54 l0 x5_2).f4) ((rd_T54 l0 x5_2).f5) (rd l1 x5_2) true _ A27.out).mono ?_
                    rintro e w30 ⟨rfl, hb⟩
                    refine ⟨_, rfl, ?_⟩
                    have n0_ := Aside0.mk (below_step (eb HB.out) hb)
                    clear HB
                    have HB := n0_
                    clear n0_
                    (try clear hb)
                    (try clear hb2)
                    (try clear hk)
                    (try clear hi)
                    refine hK.out _ _ ⟨(pw_cell_below HB.out hw109_0), (pw_cell_below HB.out hw109_1), (pw_cell_below HB.out hw109_2), (pw_cell_below HB.out hw109_3), (pw_cell_below HB.out hw109_4), (pw_cell_below HB.out hw109_5), (pw_cell_below HB.out hw110_0), (pw_cell_below HB.out hw111_0), (pw_cell_below HB.out hw111_1), (pw_cell_below HB.out hw111_2), (pw_cell_below HB.out hw111_3), (pw_cell_below HB.out hw111_4), (pw_cell_below HB.out hw111_5), (pw_cell_below HB.out hw112_0)⟩ (fun hHeld => ?_)
                    clear hK K
                    refine norm_ (a' := ?_) ?_ ?_
                    rotate_left
                    ·show Act.put _ (some 80) _ = _
                     simp only [P0, P0n, P2, P3, P4, P5, P6]
                     rfl
                    refine pu (i := 17) (N := some 81) (v := ?_) (a' := ?_) HT_.out rfl rfl (by kernel_rfl) (fun _ _ _ h => h) (Or.inl ⟨by rfl, ?_⟩) ?_ ?_
                    rotate_left; (intro w'; go_simp; with_reducible rfl); rotate_left; (simp only [P0, P0n, P2, P3, P4, P5, P6]; rfl)
                    refine done_ (done_of HT_.out (by kernel_rfl)) ?_
                    try go_wp2
                    go_roundg k4
                    case measure => have := HJ2.out; have := HK2.out; have := HJ9.out; have := HK4.out; omega
                    case rel => exact ⟨(wrap64 (x6_4 + 1)), (by first | rfl | (simp; done) | (simp [*]; done)), H', ⟨by have := HJ2.out; have := HK2.out; have := HJ9.out; have := HK4.out; omega⟩, ⟨eb HB.out⟩⟩
                   ·replace c28 := Bool.eq_false_iff.mpr c28
                    subst c28
                    have H1 : (some false) = some r := by rw [if_neg (show ¬ (false = true) by decide)] at H; exact H
                    clear H
                    have H := H1
                    clear H1
                    obtain rfl := Option.some.inj H
                    try go_wp2
                    have n0_ := Aside0.mk (below_drew1 HB.out)
                    clear HB
                    have HB := n0_
                    clear n0_
                    have p109 : 0 ≤ (x6_4 : Int) := of_decide_eq_true (by first | (with_reducible assumption) | assumption)
                    have q109 : x6_4 < (l0.length : Int) := of_decide_eq_true (by first | (with_reducible assumption) | assumption)
                    obtain ⟨ad109, e109, hx109_0, hx109_1, hx109_2, hx109_3, hx109_4, hx109_5⟩ := at_T54 HR0.out x6_4 p109 q109
                    have hw109_5 := hx109_5
                    have hw109_4 := hx109_4
                    have hw109_3 := hx109_3
                    have hw109_2 := hx109_2
                    have hw109_1 := hx109_1
                    have hw109_0 := hx109_0
                    cases e109
                    replace hx109_0 := pw_cell_below HB.out hx109_0
                    replace hx109_1 := pw_cell_below HB.out hx109_1
                    replace hx109_2 := pw_cell_below HB.out hx109_2
                    replace hx109_3 := pw_cell_below HB.out hx109_3
                    replace hx109_4 := pw_cell_below HB.out hx109_4
                    replace hx109_5 := pw_cell_below HB.out hx109_5
                    replace p109 := eq_true p109
                    replace q109 := eq_true q109
                    have p110 : 0 ≤ (x6_4 : Int) := of_decide_eq_true (by first | (with_reducible assumption) | assumption)
                    have q110 : x6_4 < (l1.length : Int) := of_decide_eq_true (by first | (with_reducible assumption) | assumption)
                    obtain ⟨ad110, e110, hx110_0⟩ := Kd.at_int HR1.out x6_4 p110 q110
                    have hw110_0 := hx110_0
                    cases e110
                    replace hx110_0 := pw_cell_below HB.out hx110_0
                    replace p110 := eq_true p110
                    replace q110 := eq_true q110
                    have p111 : 0 ≤ (x5_2 : Int) := of_decide_eq_true (by first | (with_reducible assumption) | assumption)
                    have q111 : x5_2 < (l0.length : Int) := of_decide_eq_true (by first | (with_reducible assumption) | assumption)
                    obtain ⟨ad111, e111, hx111_0, hx111_1, hx111_2, hx111_3, hx111_4, hx111_5⟩ := at_T54 HR0.out x5_2 p111 q111
                    have hw111_5 := hx111_5
                    have hw111_4 := hx111_4
                    have hw111_3 := hx111_3
                    have hw111_2 := hx111_2
                    have hw111_1 := hx111_1
                    have hw111_0 := hx111_0
                    obtain rfl : ad109 = ad111 := (by injection e111)
                    replace hx111_0 := pw_cell_below HB.out hx111_0
                    replace hx111_1 := pw_cell_below HB.out hx111_1
                    replace hx111_2 := pw_cell_below HB.out hx111_2
                    replace hx111_3 := pw_cell_below HB.out hx111_3
                    replace hx111_4 := pw_cell_below HB.out hx111_4
                    replace hx111_5 := pw_cell_below HB.out hx111_5
                    replace p111 := eq_true p111
                    replace q111 := eq_true q111
                    have p112 : 0 ≤ (x5_2 : Int) := of_decide_eq_true (by first | (with_reducible assumption) | assumption)
                    have q112 : x5_2 < (l1.length : Int) := of_decide_eq_true (by first | (with_reducible assumption) | assumption)
                    obtain ⟨ad112, e112, hx112_0⟩ := Kd.at_int HR1.out x5_2 p112 q112
                    have hw112_0 := hx112_0
                    obtain rfl : ad110 = ad112 := (by injection e112)
                    replace hx112_0 := pw_cell_below HB.out hx112_0
                    replace p112 := eq_true p112
                    replace q112 := eq_true q112
                    refine start_ (n := 18) (S := fun w' => w'.cell? (ad109.add ((x6_4).toNat * 6)) = some (.string ((rd_T54 l0 x6_4).f0)) ∧ w'.cell? ⟨(ad109.add ((x6_4).toNat * 6)).block, (ad109.add ((x6_4).toNat * 6)).off + 1, none⟩ = some (.bool ((rd_T54 l0 x6_4).f1)) ∧ w'.cell? ⟨(ad109.add ((x6_4).toNat * 6)).block, (ad109.add ((x6_4).toNat * 6)).off + 2, none⟩ = some (.int .i64 ((rd_T54 l0 x6_4).f2)) ∧ w'.cell? ⟨(ad109.add ((x6_4).toNat * 6)).block, (ad109.add ((x6_4).toNat * 6)).off + 3, none⟩ = some (.int .i64 ((rd_T54 l0 x6_4).f3)) ∧ w'.cell? ⟨(ad109.add ((x6_4).toNat * 6)).block, (ad109.add ((x6_4).toNat * 6)).off + 4, none⟩ = some (.int .i64 ((rd_T54 l0 x6_4).f4)) ∧ w'.cell? ⟨(ad109.add ((x6_4).toNat * 6)).block, (ad109.add ((x6_4).toNat * 6)).off + 5, none⟩ = some (.int .i64 ((rd_T54 l0 x6_4).f5)) ∧ w'.cell? (ad110.add (x6_4).toNat) = some (.int .i64 (rd l1 x6_4)) ∧ w'.cell? (ad109.add ((x5_2).toNat * 6)) = some (.string ((rd_T54 l0 x5_2).f0)) ∧ w'.cell? ⟨(ad109.add ((x5_2).toNat * 6)).block, (ad109.add ((x5_2).toNat * 6)).off + 1, none⟩ = some (.bool ((rd_T54 l0 x5_2).f1)) ∧ w'.cell? ⟨(ad109.add ((x5_2).toNat * 6)).block, (ad109.add ((x5_2).toNat * 6)).off + 2, none⟩ = some (.int .i64 ((rd_T54 l0 x5_2).f2)) ∧ w'.cell? ⟨(ad109.add ((x5_2).toNat * 6)).block, (ad109.add ((x5_2).toNat * 6)).off + 3, none⟩ = some (.int .i64 ((rd_T54 l0 x5_2).f3)) ∧ w'.cell? ⟨(ad109.add ((x5_2).toNat * 6)).block, (ad109.add ((x5_2).toNat * 6)).off + 4, none⟩ = some (.int .i64 ((rd_T54 l0 x5_2).f4)) ∧ w'.cell? ⟨(ad109.add ((x5_2).toNat * 6)).block, (ad109.add ((x5_2).toNat * 6)).off + 5, none⟩ = some (.int .i64 ((rd_T54 l0 x5_2).f5)) ∧ w'.cell? (ad110.add (x5_2).toNat) = some (.int .i64 (rd l1 x5_2))) (ds := []) #[F, F, F, F, F, F, F, F, F, F, F, F, F, F, F, F, F, F] (by kernel_rfl) rfl rfl ⟨(pw_cell_below HB.out hw109_0), (pw_cell_below HB.out hw109_1), (pw_cell_below HB.out hw109_2), (pw_cell_below HB.out hw109_3), (pw_cell_below HB.out hw109_4), (pw_cell_below HB.out hw109_5), (pw_cell_below HB.out hw110_0), (pw_cell_below HB.out hw111_0), (pw_cell_below HB.out hw111_1), (pw_cell_below HB.out hw111_2), (pw_cell_below HB.out hw111_3), (pw_cell_below HB.out hw111_4), (pw_cell_below HB.out hw111_5), (pw_cell_below HB.out hw112_0)⟩ (fun hHeld => ?_); refine with_tabW spec_StripFits.tab11 spec_StripFits.bits11 (fun HT_ HW_ => ?_)
                    generalize wr.drew = w31 at HB hx109_0 hx109_1 hx109_2 hx109_3 hx109_4 hx109_5 hx110_0 hx111_0 hx111_1 hx111_2 hx111_3 hx111_4 hx111_5 hx112_0 hHeld ⊢
                    refine pu (i := 0) (N := some 64) (v := ?_) (a' := ?_) HT_.out rfl rfl (by kernel_rfl) (fun _ _ _ h => h) (Or.inl ⟨by rfl, ?_⟩) ?_ ?_
                    rotate_left; (intro w'; go_simp; with_reducible rfl); rotate_left; (simp only [P0, P0n, P2, P3, P4, P5, P6]; rfl)
                    refine pu (i := 1) (N := some 65) (v := ?_) (a' := ?_) HT_.out rfl rfl (by kernel_rfl) (fun _ _ _ h => h) (Or.inl ⟨by rfl, ?_⟩) ?_ ?_
                    rotate_left; (intro w'; go_simp; with_reducible rfl); rotate_left; (simp only [P0, P0n, P2, P3, P4, P5, P6]; rfl)
                    refine pu (i := 2) (N := some 66) (v := ?_) (a' := ?_) HT_.out rfl rfl (by kernel_rfl) (fun _ _ _ h => h) (Or.inl ⟨by rfl, ?_⟩) ?_ ?_
                    rotate_left; (intro w'; go_simp; with_reducible rfl); rotate_left; (simp only [P0, P0n, P2, P3, P4, P5, P6]; rfl)
                    refine pu (i := 4) (N := some 68) (v := ?_) (a' := ?_) HT_.out rfl rfl (by kernel_rfl) (fun _ _ _ h => h) (Or.inl ⟨by rfl, ?_⟩) ?_ ?_
                    rotate_left; (intro w'; go_simp; with_reducible rfl); rotate_left; (simp only [P0, P0n, P2, P3, P4, P5, P6]; rfl)
                    refine pu (i := 5) (N := some 69) (v := ?_) (a' := ?_) HT_.out rfl rfl (by kernel_rfl) (fun _ _ _ h => h) (Or.inl ⟨by rfl, ?_⟩) ?_ ?_
                    rotate_left; (intro w'; go_simp; with_reducible rfl); rotate_left; (simp only [P0, P0n, P2, P3, P4, P5, P6]; rfl)
                    refine pu (i := 6) (N := some 70) (v := ?_) (a' := ?_) HT_.out rfl rfl (by kernel_rfl) (fun _ _ _ h => h) (Or.inl ⟨by rfl, ?_⟩) ?_ ?_
                    rotate_left; (intro w'; go_simp; with_reducible rfl); rotate_left; (simp only [P0, P0n, P2, P3, P4, P5, P6]; rfl)
                    refine pu (i := 8) (N := some 72) (v := ?_) (a' := ?_) HT_.out rfl rfl (by kernel_rfl) (fun _ _ _ h => h) (Or.inl ⟨by rfl, ?_⟩) ?_ ?_
                    rotate_left; (intro w'; go_simp; with_reducible rfl); rotate_left; (simp only [P0, P0n, P2, P3, P4, P5, P6]; rfl)
                    refine pu (i := 9) (N := some 73) (v := ?_) (a' := ?_) HT_.out rfl rfl (by kernel_rfl) (fun _ _ _ h => h) (Or.inl ⟨by rfl, ?_⟩) ?_ ?_
                    rotate_left; (intro w'; go_simp; with_reducible rfl); rotate_left; (simp only [P0, P0n, P2, P3, P4, P5, P6]; rfl)
                    refine pu (i := 10) (N := some 74) (v := ?_) (a' := ?_) HT_.out rfl rfl (by kernel_rfl) (fun _ _ _ h => h) (Or.inl ⟨by rfl, ?_⟩) ?_ ?_
                    rotate_left; (intro w'; go_simp; with_reducible rfl); rotate_left; (simp only [P0, P0n, P2, P3, P4, P5, P6]; rfl)
                    refine pu (i := 12) (N := some 76) (v := ?_) (a' := ?_) HT_.out rfl rfl (by kernel_rfl) (fun _ _ _ h => h) (Or.inl ⟨by rfl, ?_⟩) ?_ ?_
                    rotate_left; (intro w'; go_simp; with_reducible rfl); rotate_left; (simp only [P0, P0n, P2, P3, P4, P5, P6]; rfl)
                    refine pu (i := 13) (N := some 77) (v := ?_) (a' := ?_) HT_.out rfl rfl (by kernel_rfl) (fun _ _ _ h => h) (Or.inl ⟨by rfl, ?_⟩) ?_ ?_
                    rotate_left; (intro w'; go_simp; with_reducible rfl); rotate_left; (simp only [P0, P0n, P2, P3, P4, P5, P6]; rfl)
                    refine pu (i := 14) (N := some 78) (v := ?_) (a' := ?_) HT_.out rfl rfl (by kernel_rfl) (fun _ _ _ h => h) (Or.inl ⟨by rfl, ?_⟩) ?_ ?_
                    rotate_left; (intro w'; go_simp; with_reducible rfl); rotate_left; (simp only [P0, P0n, P2, P3, P4, P5, P6]; rfl)
                    refine tw (i := 3) (N := some 67) (v := ?_) (a' := ?_) HT_.out HW_.out rfl rfl (by kernel_rfl) (fun _ _ _ h => h) (Or.inl ⟨by rfl, ?_⟩) hHeld ?_ ?_
                    rotate_left
                    ·rintro w' ⟨s0, s1, s2, s3, s4, s5, s6, s7, s8, s9, s10, s11, s12, s13⟩
                     go_simp
                     with_reducible rfl
                    rotate_left
                    ·simp only [P0, P0n, P2, P3, P4, P5, P6]
                     rfl
                    refine tw (i := 7) (N := some 71) (v := ?_) (a' := ?_) HT_.out HW_.out rfl rfl (by kernel_rfl) (fun _ _ _ h => h) (Or.inl ⟨by rfl, ?_⟩) hHeld ?_ ?_
                    rotate_left
                    ·rintro w' ⟨s0, s1, s2, s3, s4, s5, s6, s7, s8, s9, s10, s11, s12, s13⟩
                     go_simp
                     with_reducible rfl
                    rotate_left
                    ·simp only [P0, P0n, P2, P3, P4, P5, P6]
                     rfl
                    refine tw (i := 11) (N := some 75) (v := ?_) (a' := ?_) HT_.out HW_.out rfl rfl (by kernel_rfl) (fun _ _ _ h => h) (Or.inl ⟨by rfl, ?_⟩) hHeld ?_ ?_
                    rotate_left
                    ·rintro w' ⟨s0, s1, s2, s3, s4, s5, s6, s7, s8, s9, s10, s11, s12, s13⟩
                     go_simp
                     with_reducible rfl
                    rotate_left
                    ·simp only [P0, P0n, P2, P3, P4, P5, P6]
                     rfl
                    refine tw (i := 15) (N := some 79) (v := ?_) (a' := ?_) HT_.out HW_.out rfl rfl (by kernel_rfl) (fun _ _ _ h => h) (Or.inl ⟨by rfl, ?_⟩) hHeld ?_ ?_
                    rotate_left
                    ·rintro w' ⟨s0, s1, s2, s3, s4, s5, s6, s7, s8, s9, s10, s11, s12, s13⟩
                     go_simp
                     with_reducible rfl
                    rotate_left
                    ·simp only [P0, P0n, P2, P3, P4, P5, P6]
                     rfl
                    refine one_ (i := 16) (N := some 80) #[T, T, T, T, T, T, T, T, T, T, T, T, T, T, T, T, T, F] rfl rfl (one_of HT_.out (by kernel_rfl)) (by decide) (fun K hK => ?_)
                    refine goes_ Try.func57 (by kernel_rfl) rfl #[.agg #[.string ((rd_T54 l0 x6_4).f0), .bool ((rd_T54 l0 x6_4).f1), .int .i64 ((rd_T54 l0 x6_4).f2), .int .i64 ((rd_T54 l0 x6_4).f3), .int .i64 ((rd_T54 l0 x6_4).f4), .int .i64 ((rd_T54 l0 x6_4).f5)], .int .i64 (rd l1 x6_4), .agg #[.string ((rd_T54 l0 x5_2).f0), .bool ((rd_T54 l0 x5_2).f1), .int .i64 ((rd_T54 l0 x5_2).f2), .int .i64 ((rd_T54 l0 x5_2).f3), .int .i64 ((rd_T54 l0 x5_2).f4), .int .i64 ((rd_T54 l0 x5_2).f5)], .int .i64 (rd l1 x5_2)] (by rfl) rfl rfl (by (try simp only [List.map_toArray, List.map_cons, List.map_nil]); first | done | rfl | (simp only [List.length_drop, List.length_take]; rfl)) ?_
                    with_reducible refine (spec_l2Apart.calls k4 ((rd_T54 l0 x6_4).f0) ((rd_T54 l0 x6_4).f1) ((rd_T54 l0 x6_4).f2) ((rd_T54 l0 x6_4).f3) ((rd_T54 l0 x6_4).f4) ((rd_T54 l0 x6_4).f5) (rd l1 x6_4) ((rd_T54 l0 x5_2).f0) ((rd_T54 l0 x5_2).f1) ((rd_T54 l0 x5_2).f2) ((rd_T54 l0 x5_2).f3) ((rd_T54 l0 x5_2).f4) ((rd_T54 l0 x5_2).f5) (rd l1 x5_2) false _ A27.out).mono ?_
                    rintro e w32 ⟨rfl, hb⟩
                    refine ⟨_, rfl, ?_⟩
                    have n0_ := Aside0.mk (below_step (eb HB.out) hb)
                    clear HB
                    have HB := n0_
                    clear n0_
                    (try clear hb)
                    (try clear hb2)
                    (try clear hk)
                    (try clear hi)
                    refine hK.out _ _ ⟨(pw_cell_below HB.out hw109_0), (pw_cell_below HB.out hw109_1), (pw_cell_below HB.out hw109_2), (pw_cell_below HB.out hw109_3), (pw_cell_below HB.out hw109_4), (pw_cell_below HB.out hw109_5), (pw_cell_below HB.out hw110_0), (pw_cell_below HB.out hw111_0), (pw_cell_below HB.out hw111_1), (pw_cell_below HB.out hw111_2), (pw_cell_below HB.out hw111_3), (pw_cell_below HB.out hw111_4), (pw_cell_below HB.out hw111_5), (pw_cell_below HB.out hw112_0)⟩ (fun hHeld => ?_)
                    clear hK K
                    refine norm_ (a' := ?_) ?_ ?_
                    rotate_left
                    ·show Act.put _ (some 80) _ = _
                     simp only [P0, P0n, P2, P3, P4, P5, P6]
                     rfl
                    refine pu (i := 17) (N := some 81) (v := ?_) (a' := ?_) HT_.out rfl rfl (by kernel_rfl) (fun _ _ _ h => h) (Or.inl ⟨by rfl, ?_⟩) ?_ ?_
                    rotate_left; (intro w'; go_simp; with_reducible rfl); rotate_left; (simp only [P0, P0n, P2, P3, P4, P5, P6]; rfl)
                    refine done_ (done_of HT_.out (by kernel_rfl)) ?_
                    try go_wp2
                    go_ret
                    exact ⟨by first | rfl | (simp [errW_none, errW_some] <;> rfl) | (simp [*, errW_none, errW_some] <;> rfl), eb HB.out⟩
                  ·rw [if_neg c26] at H
                   exact absurd H (by simp)
                 ·rw [if_neg c25] at H
                  exact absurd H (by simp)
                ·rw [if_neg c24] at H
                 exact absurd H (by simp)
               ·rw [if_neg c23] at H
                exact absurd H (by simp)
              ·rw [if_neg c22] at H
               exact absurd H (by simp)
             ·rw [if_neg c21] at H
              exact absurd H (by simp)
            ·rw [if_neg c20] at H
             have c20b0 : decide (x6_4 < x5_2) = false := decide_eq_false c20
             clear c20
             have H' := Aside0.mk H
             clear H
             go_wp2
             go_roundg k4
             case measure => have := HJ2.out; have := HK2.out; have := HJ9.out; have := HK4.out; omega
             case rel => exact ⟨(wrap64 (x5_2 + 1)), (by first | rfl | (simp; done) | (simp [*]; done)), H', ⟨by have := HJ2.out; have := HK2.out; have := HJ9.out; have := HK4.out; omega⟩, ⟨eb HB.out⟩⟩
      ·rw [if_neg c9] at H
       have c9b0 : decide (x5_2 < (l0.length : Int)) = false := decide_eq_false c9
       clear c9
       obtain rfl := Option.some.inj H
       go_wp2
       go_ret
       exact ⟨by first | rfl | (simp [errW_none, errW_some] <;> rfl) | (simp [*, errW_none, errW_some] <;> rfl), eb HB.out⟩

end Go.Proofs.Ytpdmimlkgmhepaa.G
