/- FnExactStripBookOk, part 3 of 5: the plain functions of the Go text that the law reaches, what the calls come to, and plain lemmas on them; no condition -/
import Derived.Laws.Cover1
import Derived.Test.YtpdmimlkgmhepaaYXBookOk0
import Derived.Test.YtpdmimlkgmhepaaYXBookOk1
import Derived.Test.YtpdmimlkgmhepaaYXBookOk2
/- The plain functions of this seat's Go text and, for each, that the call comes to what its plain function says: written for this claim by a program of the session (drv.py) over the kit's print.py. -/
namespace Go.Proofs.Ytpdmimlkgmhepaa.G
open Go.RowKit Go.Proofs.YtpdmimlkgmhepaaW.PrintWords Go.Proofs.YtpdmimlkgmhepaaW.PrintLast Go.Proofs.YtpdmimlkgmhepaaW.PrintMore
attribute [local go_sem] max2_int min2_int max_two min_two max_three min_three max_four min_four   -- for this text's walks alone
set_option linter.unusedVariables false
set_option linter.unusedSimpArgs false

/-! ### impl_StripMovesOk: function 18 -/
def impl_StripMovesOk.l0 : Nat → List (S54) → List (S54) → Int → Int → Option (Bool)
 | 0, _, _, _, _ => none
 | k + 1, x0, x8, x9, x10 => if x10 < x9 then (if 0 ≤ x10 then (if x10 < (x8.length : Int) then ((impl_StripMoveOk.f k ((rd_T54 x8 x10).f0) ((rd_T54 x8 x10).f1) ((rd_T54 x8 x10).f2) ((rd_T54 x8 x10).f3) ((rd_T54 x8 x10).f4) ((rd_T54 x8 x10).f5)).bind fun t103 => (if t103 = true then (if x10 > 0 then (if 0 ≤ (wrap64 (x10 - 1)) then (if (wrap64 (x10 - 1)) < (x0.length : Int) then (if ((Op.bytesLess (((rd_T54 x0 (wrap64 (x10 - 1))).f0).toList) (((rd_T54 x8 x10).f0).toList)) = true) then (impl_StripMovesOk.l0 k x0 x8 x9 (wrap64 (x10 + 1))) else (some false)) else (none)) else (none)) else (impl_StripMovesOk.l0 k x0 x8 x9 (wrap64 (x10 + 1)))) else (some false))) else (none)) else (none)) else (some true)
def impl_StripMovesOk.f (k : Nat) (l0 : List (S54)) : Option (Bool) := if (l0.length : Int) > 6 then (some false) else (impl_StripMovesOk.l0 k l0 l0 (l0.length : Int) 0)
theorem impl_StripMovesOk.mono_l : ∀ k, (∀ y0 y1 y2 y3, LeO (impl_StripMovesOk.l0 k y0 y1 y2 y3) (impl_StripMovesOk.l0 (k + 1) y0 y1 y2 y3))
 | 0 => fun _ _ _ _ r h => by simp [impl_StripMovesOk.l0] at h
 | k + 1 => by
  have ih0 := impl_StripMovesOk.mono_l k
  ·intro y0 y1 y2 y3
   unfold impl_StripMovesOk.l0
   repeat' first
   | (with_reducible exact ih0 _ _ _ _)
   | (with_reducible exact impl_StripMoveOk.mono _ _ _ _ _ _ _)
   | (with_reducible exact LeO.refl _)
   | (with_reducible exact LeO.none _)
   | (with_reducible refine LeO.ite ?_ ?_)
   | (with_reducible refine LeO.bind ?_ (fun _ => ?_))
   | exact ih0 _ _ _ _
   | exact impl_StripMoveOk.mono _ _ _ _ _ _ _
   | exact LeO.none _
   | refine LeO.ite ?_ ?_
   | refine LeO.bind ?_ (fun _ => ?_)
theorem impl_StripMovesOk.mono : ∀ a0 k, LeO (impl_StripMovesOk.f k a0) (impl_StripMovesOk.f (k + 1) a0) := by
 intro a0 k
 have ih0 := impl_StripMovesOk.mono_l k
 unfold impl_StripMovesOk.f
 repeat' first
   | (with_reducible exact ih0 _ _ _ _)
   | (with_reducible exact impl_StripMoveOk.mono _ _ _ _ _ _ _)
   | (with_reducible exact LeO.refl _)
   | (with_reducible exact LeO.none _)
   | (with_reducible refine LeO.ite ?_ ?_)
   | (with_reducible refine LeO.bind ?_ (fun _ => ?_))
   | exact ih0 _ _ _ _
   | exact impl_StripMoveOk.mono _ _ _ _ _ _ _
   | exact LeO.none _
   | refine LeO.ite ?_ ?_
   | refine LeO.bind ?_ (fun _ => ?_)
def impl_StripMovesOk.T6 : Bool × List (List Nat × List Nat) := (true, [([], []), ([0], [0]), ([1], [1]), ([2, 1], [2]), ([3], [3]), ([4, 3], [3, 4]), ([5, 3, 3], [3, 5]), ([6], [6]), ([6], [6]), ([8, 6], [6, 8]), ([7, 9, 6], [6, 7, 9]), ([10, 6], [6, 10]), ([11, 6], [6, 11]), ([6], [6]), ([13, 6], [6, 13]), ([12, 14, 6], [6, 12, 14]), ([6, 15, 3], [3, 6, 15]), ([3, 16], [3, 16])])
def impl_StripMovesOk.B6 : List Nat := [0, 1, 3, 7, 15, 31, 63, 127, 127, 383, 1023, 2047, 4095, 127, 8319, 32767, 65535, 131071]
theorem impl_StripMovesOk.tab6 : rtab .any (opsOf Try.f18 6) = impl_StripMovesOk.T6 := by kernel_rfl
theorem impl_StripMovesOk.bits6 : waitsOk impl_StripMovesOk.T6.2 impl_StripMovesOk.B6 = true := by kernel_rfl
set_option maxHeartbeats 8000000 in
set_option maxRecDepth 100000 in
theorem impl_StripMovesOk.calls (k : Nat) (A0 : Option Addr) (c0 : Nat) (l0 : List (S54)) (r : Bool) (w : World) (hr0 : Kd.C k54 w A0 l0.length l0) (hc0 : l0.length ≤ c0) (h : impl_StripMovesOk.f k l0 = some r) :
  Calls Try.prog 18 #[.slice A0 l0.length c0] w fun e w' => e = .returned (.bool r) ∧ Below w.heap.size w w' := by
 have hu54 := Try.underlying54
 have HR0 := Aside0.mk hr0
 have HC0 := Aside0.mk hc0
 clear hr0 hc0
 have HB := Aside0.mk (Below.refl w.heap.size w)
 have H : (if (l0.length : Int) > 6 then (some false) else (impl_StripMovesOk.l0 k l0 l0 (l0.length : Int) 0)) = some r := h
 clear h
 by_cases c2 : (l0.length : Int) > 6
 ·rw [if_pos c2] at H
  have c2b0 : decide (6 < (l0.length : Int)) = true := decide_eq_true c2
  have c2b1 : decide (6 < l0.length) = true := decide_eq_true (by omega)
  clear c2
  obtain rfl := Option.some.inj H
  go_enter Try.func18, Try.ntmps18
  go_wp2
  go_ret
  exact ⟨by first | rfl | (simp [errW_none, errW_some] <;> rfl) | (simp [*, errW_none, errW_some] <;> rfl), eb HB.out⟩
 ·rw [if_neg c2] at H
  have c2b0 : decide (6 < (l0.length : Int)) = false := decide_eq_false c2
  have c2b1 : decide (6 < l0.length) = false := decide_eq_false (by omega)
  clear c2
  have H' := Aside0.mk H
  clear H
  go_enter Try.func18, Try.ntmps18
  go_wp2
  go_loopg [10] k (fun kq v10 w' => ∃ (x10_1 : Int), v10 = .int .i64 x10_1 ∧ Aside0 (impl_StripMovesOk.l0 kq l0 l0 (l0.length : Int) x10_1 = some r) ∧ Aside0 (kq ≤ k) ∧ Aside0 (Below w.heap.size w w'))
  case atStart => exact ⟨(0), (by first | rfl | (simp; done) | (simp [*]; done)), H', ⟨Nat.le_refl _⟩, ⟨eb HB.out⟩⟩
  case round =>
   clear H'
   try clear c1
   try clear c2
   try clear c2b0
   try clear c2b1
   try clear p2
   obtain ⟨x10_1, rfl, HA, HK1, HB⟩ := hrel
   cases gk with
   | zero => exact absurd HA.out (by simp [impl_StripMovesOk.l0])
   | succ k1 =>
    have H := HA.out
    clear HA
    simp only [impl_StripMovesOk.l0] at H
    by_cases c3 : x10_1 < (l0.length : Int)
    ·rw [if_pos c3] at H
     have c3b0 : decide (x10_1 < (l0.length : Int)) = true := decide_eq_true c3
     clear c3
     by_cases c4 : 0 ≤ x10_1
     ·rw [if_pos c4] at H
      have c4b0 : decide (0 ≤ x10_1) = true := decide_eq_true c4
      clear c4
      by_cases c5 : x10_1 < (l0.length : Int)
      ·rw [if_pos c5] at H
       have c5b0 : decide (x10_1 < (l0.length : Int)) = true := decide_eq_true c5
       clear c5
       replace H := Option.bind_eq_some_iff.mp H
       obtain ⟨t103, A60, H⟩ := H
       replace H : (if t103 = true then (if x10_1 > 0 then (if 0 ≤ (wrap64 (x10_1 - 1)) then (if (wrap64 (x10_1 - 1)) < (l0.length : Int) then (if ((Op.bytesLess (((rd_T54 l0 (wrap64 (x10_1 - 1))).f0).toList) (((rd_T54 l0 x10_1).f0).toList)) = true) then (impl_StripMovesOk.l0 k1 l0 l0 (l0.length : Int) (wrap64 (x10_1 + 1))) else (some false)) else (none)) else (none)) else (impl_StripMovesOk.l0 k1 l0 l0 (l0.length : Int) (wrap64 (x10_1 + 1)))) else (some false)) = some r := H
       have A6 := Aside0.mk A60
       clear A60
       by_cases c7 : t103 = true
       ·subst c7
        have H1 : (if x10_1 > 0 then (if 0 ≤ (wrap64 (x10_1 - 1)) then (if (wrap64 (x10_1 - 1)) < (l0.length : Int) then (if ((Op.bytesLess (((rd_T54 l0 (wrap64 (x10_1 - 1))).f0).toList) (((rd_T54 l0 x10_1).f0).toList)) = true) then (impl_StripMovesOk.l0 k1 l0 l0 (l0.length : Int) (wrap64 (x10_1 + 1))) else (some false)) else (none)) else (none)) else (impl_StripMovesOk.l0 k1 l0 l0 (l0.length : Int) (wrap64 (x10_1 + 1)))) = some r := by rw [if_pos rfl] at H; exact H
        clear H
        have H := H1
        clear H1
        by_cases c8 : x10_1 > 0
        ·rw [if_pos c8] at H
         have c8b0 : decide (0 < x10_1) = true := decide_eq_true c8
         clear c8
         obtain ⟨ji9, hji9⟩ : ∃ j_ : Int, (wrap64 (x10_1 - 1)) = j_ := ⟨_, rfl⟩
         replace H : (if 0 ≤ (ji9) then (if (ji9) < (l0.length : Int) then (if ((Op.bytesLess (((rd_T54 l0 (ji9)).f0).toList) (((rd_T54 l0 x10_1).f0).toList)) = true) then (impl_StripMovesOk.l0 k1 l0 l0 (l0.length : Int) (wrap64 (x10_1 + 1))) else (some false)) else (none)) else (none)) = some r := by first | (rw [hji9] at H; exact H) | (simp only [hji9] at H ⊢; exact H)
         (try rw [hji9] at A6)
         have hji9w : (IntKind.i64.wrap (x10_1 - 1)) = ji9 := (i64_w _).trans hji9
         by_cases c10 : 0 ≤ (ji9)
         ·rw [if_pos c10] at H
          have c10b0 : decide (0 ≤ (ji9)) = true := decide_eq_true c10
          clear c10
          by_cases c11 : (ji9) < (l0.length : Int)
          ·rw [if_pos c11] at H
           have c11b0 : decide ((ji9) < (l0.length : Int)) = true := decide_eq_true c11
           clear c11
           by_cases c12 : ((Op.bytesLess (((rd_T54 l0 (ji9)).f0).toList) (((rd_T54 l0 x10_1).f0).toList)) = true)
           ·rw [if_pos c12] at H
            have c12b0 : (Op.bytesLess (((rd_T54 l0 (ji9)).f0).toList) (((rd_T54 l0 x10_1).f0).toList)) = true := c12
            clear c12
            have H' := Aside0.mk H
            clear H
            have p101 : 0 ≤ (x10_1 : Int) := of_decide_eq_true (by first | (with_reducible assumption) | assumption)
            have q101 : x10_1 < (l0.length : Int) := of_decide_eq_true (by first | (with_reducible assumption) | assumption)
            obtain ⟨ad101, e101, hx101_0, hx101_1, hx101_2, hx101_3, hx101_4, hx101_5⟩ := at_T54 HR0.out x10_1 p101 q101
            cases e101
            replace hx101_0 := pw_cell_below HB.out hx101_0
            replace hx101_1 := pw_cell_below HB.out hx101_1
            replace hx101_2 := pw_cell_below HB.out hx101_2
            replace hx101_3 := pw_cell_below HB.out hx101_3
            replace hx101_4 := pw_cell_below HB.out hx101_4
            replace hx101_5 := pw_cell_below HB.out hx101_5
            replace p101 := eq_true p101
            replace q101 := eq_true q101
            try go_wp2_with (first | ((with_reducible refine gate_dst (N := 4) rfl ?_); refine box_event ?hg (N := 4) ?hd (cs := #[.string (⟨#[]⟩ : ByteArray), .bool false, .int .i64 0, .int .i64 0, .int .i64 0, .int .i64 0]) (t := 54) ?hr ?_; (case hd => rfl); (case hg => rfl); (case hr => first | (go_simp; done) | (go_simp; rfl)); intro gb102 hg w13 hbox hb; have n0_ := Aside0.mk (below_step (eb HB.out) hb); have n1_ := Aside0.mk (hbox); have n2_ := Aside0.mk ((by rw [hg]; exact (below_size (eb HB.out)) : w.heap.size ≤ gb102)); have n3_ := Aside0.mk ((by rw [hg]; exact (below_size (eb HB.out)) : w.heap.size ≤ gb102)); clear HB; have HB := n0_; have BK102 := n1_; have GW102 := n2_; have GE102 := n3_; clear n0_ n1_ n2_ n3_; clear hb hbox hg; obtain ⟨hcz14_0, hcz14_1, hcz14_2, hcz14_3, hcz14_4, hcz14_5⟩ := bc6 BK102.out; obtain ⟨hfz14_0, hfz14_1, hfz14_2, hfz14_3, hfz14_4, hfz14_5⟩ := bf6 BK102.out))
            have n0_ : Aside0 (((((((w13.setCell ⟨gb102, 0, none⟩ (.string ((rd_T54 l0 x10_1).f0))).setCell ⟨gb102, 1, none⟩ (.bool ((rd_T54 l0 x10_1).f1))).setCell ⟨gb102, 2, none⟩ (.int .i64 ((rd_T54 l0 x10_1).f2))).setCell ⟨gb102, 3, none⟩ (.int .i64 ((rd_T54 l0 x10_1).f3))).setCell ⟨gb102, 4, none⟩ (.int .i64 ((rd_T54 l0 x10_1).f4))).setCell ⟨gb102, 5, none⟩ (.int .i64 ((rd_T54 l0 x10_1).f5))).heap[gb102]? = some (.cells #[.string ((rd_T54 l0 x10_1).f0), .bool ((rd_T54 l0 x10_1).f1), .int .i64 ((rd_T54 l0 x10_1).f2), .int .i64 ((rd_T54 l0 x10_1).f3), .int .i64 ((rd_T54 l0 x10_1).f4), .int .i64 ((rd_T54 l0 x10_1).f5)] 54 (0, 0))) := ⟨by refine px ?_; refine blk_put (cs := #[.string ((rd_T54 l0 x10_1).f0), .bool ((rd_T54 l0 x10_1).f1), .int .i64 ((rd_T54 l0 x10_1).f2), .int .i64 ((rd_T54 l0 x10_1).f3), .int .i64 ((rd_T54 l0 x10_1).f4), .int .i64 0]) ?_ 5 _ rfl; refine px ?_; refine blk_put (cs := #[.string ((rd_T54 l0 x10_1).f0), .bool ((rd_T54 l0 x10_1).f1), .int .i64 ((rd_T54 l0 x10_1).f2), .int .i64 ((rd_T54 l0 x10_1).f3), .int .i64 0, .int .i64 0]) ?_ 4 _ rfl; refine px ?_; refine blk_put (cs := #[.string ((rd_T54 l0 x10_1).f0), .bool ((rd_T54 l0 x10_1).f1), .int .i64 ((rd_T54 l0 x10_1).f2), .int .i64 0, .int .i64 0, .int .i64 0]) ?_ 3 _ rfl; refine px ?_; refine blk_put (cs := #[.string ((rd_T54 l0 x10_1).f0), .bool ((rd_T54 l0 x10_1).f1), .int .i64 0, .int .i64 0, .int .i64 0, .int .i64 0]) ?_ 2 _ rfl; refine px ?_; refine blk_put (cs := #[.string ((rd_T54 l0 x10_1).f0), .bool false, .int .i64 0, .int .i64 0, .int .i64 0, .int .i64 0]) ?_ 1 _ rfl; refine px ?_; refine blk_put (cs := #[.string (⟨#[]⟩ : ByteArray), .bool false, .int .i64 0, .int .i64 0, .int .i64 0, .int .i64 0]) ?_ 0 _ rfl; refine px ?_; exact BK102.out⟩
            have n1_ : Aside0 (Below w.heap.size w ((((((w13.setCell ⟨gb102, 0, none⟩ (.string ((rd_T54 l0 x10_1).f0))).setCell ⟨gb102, 1, none⟩ (.bool ((rd_T54 l0 x10_1).f1))).setCell ⟨gb102, 2, none⟩ (.int .i64 ((rd_T54 l0 x10_1).f2))).setCell ⟨gb102, 3, none⟩ (.int .i64 ((rd_T54 l0 x10_1).f3))).setCell ⟨gb102, 4, none⟩ (.int .i64 ((rd_T54 l0 x10_1).f4))).setCell ⟨gb102, 5, none⟩ (.int .i64 ((rd_T54 l0 x10_1).f5)))) := ⟨by repeat (first | (with_reducible first | exact HB.out | apply below_alloc | apply pw_below_drewN | apply below_drew1 | refine below_set ?_ GE102.out) | exact HB.out)⟩
            (try clear BK102)
            (try clear HB)
            generalize ((((((w13.setCell ⟨gb102, 0, none⟩ (.string ((rd_T54 l0 x10_1).f0))).setCell ⟨gb102, 1, none⟩ (.bool ((rd_T54 l0 x10_1).f1))).setCell ⟨gb102, 2, none⟩ (.int .i64 ((rd_T54 l0 x10_1).f2))).setCell ⟨gb102, 3, none⟩ (.int .i64 ((rd_T54 l0 x10_1).f3))).setCell ⟨gb102, 4, none⟩ (.int .i64 ((rd_T54 l0 x10_1).f4))).setCell ⟨gb102, 5, none⟩ (.int .i64 ((rd_T54 l0 x10_1).f5))) = w15 at n0_ n1_ ⊢
            have BK102 := n0_
            have HB := n1_
            clear n0_ n1_
            have n0_ := Aside0.mk (blk_drew BK102.out)
            have n1_ := Aside0.mk (below_drew1 HB.out)
            clear BK102
            clear HB
            have BK102 := n0_
            have HB := n1_
            clear n0_ n1_
            have p104 : 0 ≤ ((ji9) : Int) := of_decide_eq_true (by first | (with_reducible assumption) | assumption)
            have q104 : (ji9) < (l0.length : Int) := of_decide_eq_true (by first | (with_reducible assumption) | assumption)
            obtain ⟨ad104, e104, hx104_0, hx104_1, hx104_2, hx104_3, hx104_4, hx104_5⟩ := at_T54 HR0.out (ji9) p104 q104
            have hw104_5 := hx104_5
            have hw104_4 := hx104_4
            have hw104_3 := hx104_3
            have hw104_2 := hx104_2
            have hw104_1 := hx104_1
            have hw104_0 := hx104_0
            obtain rfl : ad101 = ad104 := (by injection e104)
            replace hx104_0 := pw_cell_below HB.out hx104_0
            replace hx104_1 := pw_cell_below HB.out hx104_1
            replace hx104_2 := pw_cell_below HB.out hx104_2
            replace hx104_3 := pw_cell_below HB.out hx104_3
            replace hx104_4 := pw_cell_below HB.out hx104_4
            replace hx104_5 := pw_cell_below HB.out hx104_5
            replace p104 := eq_true p104
            replace q104 := eq_true q104
            refine start_ (n := 18) (S := fun w' => w'.cell? ⟨gb102, 0, none⟩ = some (.string ((rd_T54 l0 x10_1).f0)) ∧ w'.cell? ⟨gb102, 1, none⟩ = some (.bool ((rd_T54 l0 x10_1).f1)) ∧ w'.cell? ⟨gb102, 2, none⟩ = some (.int .i64 ((rd_T54 l0 x10_1).f2)) ∧ w'.cell? ⟨gb102, 3, none⟩ = some (.int .i64 ((rd_T54 l0 x10_1).f3)) ∧ w'.cell? ⟨gb102, 4, none⟩ = some (.int .i64 ((rd_T54 l0 x10_1).f4)) ∧ w'.cell? ⟨gb102, 5, none⟩ = some (.int .i64 ((rd_T54 l0 x10_1).f5)) ∧ w'.cell? (ad101.add (((ji9)).toNat * 6)) = some (.string ((rd_T54 l0 (ji9)).f0)) ∧ w'.cell? ⟨(ad101.add (((ji9)).toNat * 6)).block, (ad101.add (((ji9)).toNat * 6)).off + 1, none⟩ = some (.bool ((rd_T54 l0 (ji9)).f1)) ∧ w'.cell? ⟨(ad101.add (((ji9)).toNat * 6)).block, (ad101.add (((ji9)).toNat * 6)).off + 2, none⟩ = some (.int .i64 ((rd_T54 l0 (ji9)).f2)) ∧ w'.cell? ⟨(ad101.add (((ji9)).toNat * 6)).block, (ad101.add (((ji9)).toNat * 6)).off + 3, none⟩ = some (.int .i64 ((rd_T54 l0 (ji9)).f3)) ∧ w'.cell? ⟨(ad101.add (((ji9)).toNat * 6)).block, (ad101.add (((ji9)).toNat * 6)).off + 4, none⟩ = some (.int .i64 ((rd_T54 l0 (ji9)).f4)) ∧ w'.cell? ⟨(ad101.add (((ji9)).toNat * 6)).block, (ad101.add (((ji9)).toNat * 6)).off + 5, none⟩ = some (.int .i64 ((rd_T54 l0 (ji9)).f5))) (ds := []) #[F, F, F, F, F, F, F, F, F, F, F, F, F, F, F, F, F, F] (by kernel_rfl) rfl rfl ⟨(blk_cell BK102.out 0).trans rfl, (blk_cell BK102.out 1).trans rfl, (blk_cell BK102.out 2).trans rfl, (blk_cell BK102.out 3).trans rfl, (blk_cell BK102.out 4).trans rfl, (blk_cell BK102.out 5).trans rfl, (pw_cell_below HB.out hw104_0), (pw_cell_below HB.out hw104_1), (pw_cell_below HB.out hw104_2), (pw_cell_below HB.out hw104_3), (pw_cell_below HB.out hw104_4), (pw_cell_below HB.out hw104_5)⟩ (fun hHeld => ?_); refine with_tabW impl_StripMovesOk.tab6 impl_StripMovesOk.bits6 (fun HT_ HW_ => ?_)
            generalize w15.drew = w16 at BK102 HB hx104_0 hx104_1 hx104_2 hx104_3 hx104_4 hx104_5 hHeld ⊢
            refine tw (i := 0) (N := some 15) (v := ?_) (a' := ?_) HT_.out HW_.out rfl rfl (by kernel_rfl) (fun _ _ _ h => h) (Or.inl ⟨by rfl, ?_⟩) hHeld ?_ ?_
            rotate_left
            ·rintro w' ⟨s0, s1, s2, s3, s4, s5, s6, s7, s8, s9, s10, s11⟩
             go_simp
             with_reducible rfl
            rotate_left
            ·simp only [P0, P0n, P2, P3, P4, P5, P6]
             rfl
            refine one_ (i := 1) (N := some 16) #[T, T, F, F, F, F, F, F, F, F, F, F, F, F, F, F, F, F] rfl rfl (one_of HT_.out (by kernel_rfl)) (by decide) (fun K hK => ?_)
            refine goes_ Try.func54 (by kernel_rfl) rfl #[.agg #[.string ((rd_T54 l0 x10_1).f0), .bool ((rd_T54 l0 x10_1).f1), .int .i64 ((rd_T54 l0 x10_1).f2), .int .i64 ((rd_T54 l0 x10_1).f3), .int .i64 ((rd_T54 l0 x10_1).f4), .int .i64 ((rd_T54 l0 x10_1).f5)]] (by rfl) rfl rfl (by (try simp only [List.map_toArray, List.map_cons, List.map_nil]); first | done | rfl | (simp only [List.length_drop, List.length_take]; rfl)) ?_
            with_reducible refine (impl_StripMoveOk.calls k1 ((rd_T54 l0 x10_1).f0) ((rd_T54 l0 x10_1).f1) ((rd_T54 l0 x10_1).f2) ((rd_T54 l0 x10_1).f3) ((rd_T54 l0 x10_1).f4) ((rd_T54 l0 x10_1).f5) true _ A6.out).mono ?_
            rintro e w17 ⟨rfl, hb⟩
            refine ⟨_, rfl, ?_⟩
            have n0_ := Aside0.mk (blk_below (g := gb102) (o := .cells #[.string ((rd_T54 l0 x10_1).f0), .bool ((rd_T54 l0 x10_1).f1), .int .i64 ((rd_T54 l0 x10_1).f2), .int .i64 ((rd_T54 l0 x10_1).f3), .int .i64 ((rd_T54 l0 x10_1).f4), .int .i64 ((rd_T54 l0 x10_1).f5)] 54 (0, 0)) (ex BK102.out) hb)
            have n1_ := Aside0.mk (below_step (by repeat (first | (with_reducible first | exact HB.out | apply below_alloc | apply pw_below_drewN | apply below_drew1 | refine below_set ?_ GE102.out) | exact HB.out)) hb)
            clear BK102
            clear HB
            have BK102 := n0_
            have HB := n1_
            clear n0_ n1_
            (try clear hb)
            (try clear hb2)
            (try clear hk)
            (try clear hi)
            refine hK.out _ _ ⟨(blk_cell BK102.out 0).trans rfl, (blk_cell BK102.out 1).trans rfl, (blk_cell BK102.out 2).trans rfl, (blk_cell BK102.out 3).trans rfl, (blk_cell BK102.out 4).trans rfl, (blk_cell BK102.out 5).trans rfl, (pw_cell_below HB.out hw104_0), (pw_cell_below HB.out hw104_1), (pw_cell_below HB.out hw104_2), (pw_cell_below HB.out hw104_3), (pw_cell_below HB.out hw104_4), (pw_cell_below HB.out hw104_5)⟩ (fun hHeld => ?_)
            clear hK K
            refine norm_ (a' := ?_) ?_ ?_
            rotate_left
            ·show Act.put _ (some 16) _ = _
             simp only [P0, P0n, P2, P3, P4, P5, P6]
             rfl
            refine pu (i := 2) (N := some 17) (v := ?_) (a' := ?_) HT_.out rfl rfl (by kernel_rfl) (fun _ _ _ h => h) (Or.inl ⟨by rfl, ?_⟩) ?_ ?_
            rotate_left; (intro w'; go_simp; with_reducible rfl); rotate_left; (simp only [P0, P0n, P2, P3, P4, P5, P6]; rfl)
            refine pu (i := 3) (N := some 18) (v := ?_) (a' := ?_) HT_.out rfl rfl (by kernel_rfl) (fun _ _ _ h => h) (Or.inl ⟨by rfl, ?_⟩) ?_ ?_
            rotate_left; (intro w'; go_simp; with_reducible rfl); rotate_left; (simp only [P0, P0n, P2, P3, P4, P5, P6]; rfl)
            refine pu (i := 4) (N := some 19) (v := ?_) (a' := ?_) HT_.out rfl rfl (by kernel_rfl) (fun _ _ _ h => h) (Or.inl ⟨by rfl, ?_⟩) ?_ ?_
            rotate_left; (intro w'; go_simp; with_reducible rfl); rotate_left; (simp only [P0, P0n, P2, P3, P4, P5, P6]; rfl)
            refine pu (i := 5) (N := some 20) (v := ?_) (a' := ?_) HT_.out rfl rfl (by kernel_rfl) (fun _ _ _ h => h) (Or.inl ⟨by rfl, ?_⟩) ?_ ?_
            rotate_left; (intro w'; go_simp; with_reducible rfl); rotate_left; (simp only [P0, P0n, P2, P3, P4, P5, P6]; rfl)
            refine pu (i := 6) (N := some 21) (v := ?_) (a' := ?_) HT_.out rfl rfl (by kernel_rfl) (fun _ _ _ h => h) (Or.inl ⟨by rfl, ?_⟩) ?_ ?_
            rotate_left; (intro w'; go_simp; with_reducible rfl); rotate_left; (simp only [P0, P0n, P2, P3, P4, P5, P6]; rfl)
            refine pu (i := 7) (N := some 22) (v := ?_) (a' := ?_) HT_.out rfl rfl (by kernel_rfl) (fun _ _ _ h => h) (Or.inl ⟨by rfl, ?_⟩) ?_ ?_
            rotate_left; (intro w'; go_simp; with_reducible rfl); rotate_left; (simp only [P0, P0n, P2, P3, P4, P5, P6]; rfl)
            refine pu (i := 8) (N := some 23) (v := ?_) (a' := ?_) HT_.out rfl rfl (by kernel_rfl) (fun _ _ _ h => h) (Or.inl ⟨by rfl, ?_⟩) ?_ ?_
            rotate_left; (intro w'; go_simp; with_reducible rfl); rotate_left; (simp only [P0, P0n, P2, P3, P4, P5, P6]; rfl)
            refine pu (i := 9) (N := some 24) (v := ?_) (a' := ?_) HT_.out rfl rfl (by kernel_rfl) (fun _ _ _ h => h) (Or.inl ⟨by rfl, ?_⟩) ?_ ?_
            rotate_left; (intro w'; go_simp; with_reducible rfl); rotate_left; (simp only [P0, P0n, P2, P3, P4, P5, P6]; rfl)
            refine pu (i := 10) (N := some 25) (v := ?_) (a' := ?_) HT_.out rfl rfl (by kernel_rfl) (fun _ _ _ h => h) (Or.inl ⟨by rfl, ?_⟩) ?_ ?_
            rotate_left; (intro w'; go_simp; with_reducible rfl); rotate_left; (simp only [P0, P0n, P2, P3, P4, P5, P6]; rfl)
            refine pu (i := 11) (N := some 26) (v := ?_) (a' := ?_) HT_.out rfl rfl (by kernel_rfl) (fun _ _ _ h => h) (Or.inl ⟨by rfl, ?_⟩) ?_ ?_
            rotate_left; (intro w'; go_simp; with_reducible rfl); rotate_left; (simp only [P0, P0n, P2, P3, P4, P5, P6]; rfl)
            refine pu (i := 13) (N := some 28) (v := ?_) (a' := ?_) HT_.out rfl rfl (by kernel_rfl) (fun _ _ _ h => h) (Or.inl ⟨by rfl, ?_⟩) ?_ ?_
            rotate_left; (intro w'; go_simp; with_reducible rfl); rotate_left; (simp only [P0, P0n, P2, P3, P4, P5, P6]; rfl)
            refine tw (i := 12) (N := some 27) (v := ?_) (a' := ?_) HT_.out HW_.out rfl rfl (by kernel_rfl) (fun _ _ _ h => h) (Or.inl ⟨by rfl, ?_⟩) hHeld ?_ ?_
            rotate_left
            ·rintro w' ⟨s0, s1, s2, s3, s4, s5, s6, s7, s8, s9, s10, s11⟩
             go_simp
             with_reducible rfl
            rotate_left
            ·simp only [P0, P0n, P2, P3, P4, P5, P6]
             rfl
            refine tw (i := 14) (N := some 29) (v := ?_) (a' := ?_) HT_.out HW_.out rfl rfl (by kernel_rfl) (fun _ _ _ h => h) (Or.inl ⟨by rfl, ?_⟩) hHeld ?_ ?_
            rotate_left
            ·rintro w' ⟨s0, s1, s2, s3, s4, s5, s6, s7, s8, s9, s10, s11⟩
             go_simp
             with_reducible rfl
            rotate_left
            ·simp only [P0, P0n, P2, P3, P4, P5, P6]
             rfl
            refine pu (i := 15) (N := some 30) (v := ?_) (a' := ?_) HT_.out rfl rfl (by kernel_rfl) (fun _ _ _ h => h) (Or.inl ⟨by rfl, ?_⟩) ?_ ?_
            rotate_left; (intro w'; go_simp; with_reducible rfl); rotate_left; (simp only [P0, P0n, P2, P3, P4, P5, P6]; rfl)
            refine pu (i := 16) (N := some 31) (v := ?_) (a' := ?_) HT_.out rfl rfl (by kernel_rfl) (fun _ _ _ h => h) (Or.inl ⟨by rfl, ?_⟩) ?_ ?_
            rotate_left; (intro w'; go_simp; with_reducible rfl); rotate_left; (simp only [P0, P0n, P2, P3, P4, P5, P6]; rfl)
            refine pu (i := 17) (N := some 32) (v := ?_) (a' := ?_) HT_.out rfl rfl (by kernel_rfl) (fun _ _ _ h => h) (Or.inl ⟨by rfl, ?_⟩) ?_ ?_
            rotate_left; (intro w'; go_simp; with_reducible rfl); rotate_left; (simp only [P0, P0n, P2, P3, P4, P5, P6]; rfl)
            refine done_ (done_of HT_.out (by kernel_rfl)) ?_
            try go_wp2
            go_roundg k1
            case measure => have := HK1.out; omega
            case rel => exact ⟨(wrap64 (x10_1 + 1)), (by first | rfl | (simp; done) | (simp [*]; done)), H', ⟨by have := HK1.out; omega⟩, ⟨by repeat (first | (with_reducible first | exact HB.out | apply below_alloc | apply pw_below_drewN | apply below_drew1 | refine below_set ?_ GE102.out) | exact HB.out)⟩⟩
           ·rw [if_neg c12] at H
            have c12b0 : (Op.bytesLess (((rd_T54 l0 (ji9)).f0).toList) (((rd_T54 l0 x10_1).f0).toList)) = false := by simpa using c12
            clear c12
            obtain rfl := Option.some.inj H
            have p101 : 0 ≤ (x10_1 : Int) := of_decide_eq_true (by first | (with_reducible assumption) | assumption)
            have q101 : x10_1 < (l0.length : Int) := of_decide_eq_true (by first | (with_reducible assumption) | assumption)
            obtain ⟨ad101, e101, hx101_0, hx101_1, hx101_2, hx101_3, hx101_4, hx101_5⟩ := at_T54 HR0.out x10_1 p101 q101
            cases e101
            replace hx101_0 := pw_cell_below HB.out hx101_0
            replace hx101_1 := pw_cell_below HB.out hx101_1
            replace hx101_2 := pw_cell_below HB.out hx101_2
            replace hx101_3 := pw_cell_below HB.out hx101_3
            replace hx101_4 := pw_cell_below HB.out hx101_4
            replace hx101_5 := pw_cell_below HB.out hx101_5
            replace p101 := eq_true p101
            replace q101 := eq_true q101
            try go_wp2_with (first | ((with_reducible refine gate_dst (N := 4) rfl ?_); refine box_event ?hg (N := 4) ?hd (cs := #[.string (⟨#[]⟩ : ByteArray), .bool false, .int .i64 0, .int .i64 0, .int .i64 0, .int .i64 0]) (t := 54) ?hr ?_; (case hd => rfl); (case hg => rfl); (case hr => first | (go_simp; done) | (go_simp; rfl)); intro gb102 hg w18 hbox hb; have n0_ := Aside0.mk (below_step (eb HB.out) hb); have n1_ := Aside0.mk (hbox); have n2_ := Aside0.mk ((by rw [hg]; exact (below_size (eb HB.out)) : w.heap.size ≤ gb102)); have n3_ := Aside0.mk ((by rw [hg]; exact (below_size (eb HB.out)) : w.heap.size ≤ gb102)); clear HB; have HB := n0_; have BK102 := n1_; have GW102 := n2_; have GE102 := n3_; clear n0_ n1_ n2_ n3_; clear hb hbox hg; obtain ⟨hcz19_0, hcz19_1, hcz19_2, hcz19_3, hcz19_4, hcz19_5⟩ := bc6 BK102.out; obtain ⟨hfz19_0, hfz19_1, hfz19_2, hfz19_3, hfz19_4, hfz19_5⟩ := bf6 BK102.out))
            have n0_ : Aside0 (((((((w18.setCell ⟨gb102, 0, none⟩ (.string ((rd_T54 l0 x10_1).f0))).setCell ⟨gb102, 1, none⟩ (.bool ((rd_T54 l0 x10_1).f1))).setCell ⟨gb102, 2, none⟩ (.int .i64 ((rd_T54 l0 x10_1).f2))).setCell ⟨gb102, 3, none⟩ (.int .i64 ((rd_T54 l0 x10_1).f3))).setCell ⟨gb102, 4, none⟩ (.int .i64 ((rd_T54 l0 x10_1).f4))).setCell ⟨gb102, 5, none⟩ (.int .i64 ((rd_T54 l0 x10_1).f5))).heap[gb102]? = some (.cells #[.string ((rd_T54 l0 x10_1).f0), .bool ((rd_T54 l0 x10_1).f1), .int .i64 ((rd_T54 l0 x10_1).f2), .int .i64 ((rd_T54 l0 x10_1).f3), .int .i64 ((rd_T54 l0 x10_1).f4), .int .i64 ((rd_T54 l0 x10_1).f5)] 54 (0, 0))) := ⟨by refine px ?_; refine blk_put (cs := #[.string ((rd_T54 l0 x10_1).f0), .bool ((rd_T54 l0 x10_1).f1), .int .i64 ((rd_T54 l0 x10_1).f2), .int .i64 ((rd_T54 l0 x10_1).f3), .int .i64 ((rd_T54 l0 x10_1).f4), .int .i64 0]) ?_ 5 _ rfl; refine px ?_; refine blk_put (cs := #[.string ((rd_T54 l0 x10_1).f0), .bool ((rd_T54 l0 x10_1).f1), .int .i64 ((rd_T54 l0 x10_1).f2), .int .i64 ((rd_T54 l0 x10_1).f3), .int .i64 0, .int .i64 0]) ?_ 4 _ rfl; refine px ?_; refine blk_put (cs := #[.string ((rd_T54 l0 x10_1).f0), .bool ((rd_T54 l0 x10_1).f1), .int .i64 ((rd_T54 l0 x10_1).f2), .int .i64 0, .int .i64 0, .int .i64 0]) ?_ 3 _ rfl; refine px ?_; refine blk_put (cs := #[.string ((rd_T54 l0 x10_1).f0), .bool ((rd_T54 l0 x10_1).f1), .int .i64 0, .int .i64 0, .int .i64 0, .int .i64 0]) ?_ 2 _ rfl; refine px ?_; refine blk_put (cs := #[.string ((rd_T54 l0 x10_1).f0), .bool false, .int .i64 0, .int .i64 0, .int .i64 0, .int .i64 0]) ?_ 1 _ rfl; refine px ?_; refine blk_put (cs := #[.string (⟨#[]⟩ : ByteArray), .bool false, .int .i64 0, .int .i64 0, .int .i64 0, .int .i64 0]) ?_ 0 _ rfl; refine px ?_; exact BK102.out⟩
            have n1_ : Aside0 (Below w.heap.size w ((((((w18.setCell ⟨gb102, 0, none⟩ (.string ((rd_T54 l0 x10_1).f0))).setCell ⟨gb102, 1, none⟩ (.bool ((rd_T54 l0 x10_1).f1))).setCell ⟨gb102, 2, none⟩ (.int .i64 ((rd_T54 l0 x10_1).f2))).setCell ⟨gb102, 3, none⟩ (.int .i64 ((rd_T54 l0 x10_1).f3))).setCell ⟨gb102, 4, none⟩ (.int .i64 ((rd_T54 l0 x10_1).f4))).setCell ⟨gb102, 5, none⟩ (.int .i64 ((rd_T54 l0 x10_1).f5)))) := ⟨by repeat (first | (with_reducible first | exact HB.out | apply below_alloc | apply pw_below_drewN | apply below_drew1 | refine below_set ?_ GE102.out) | exact HB.out)⟩
            (try clear BK102)
            (try clear HB)
            generalize ((((((w18.setCell ⟨gb102, 0, none⟩ (.string ((rd_T54 l0 x10_1).f0))).setCell ⟨gb102, 1, none⟩ (.bool ((rd_T54 l0 x10_1).f1))).setCell ⟨gb102, 2, none⟩ (.int .i64 ((rd_T54 l0 x10_1).f2))).setCell ⟨gb102, 3, none⟩ (.int .i64 ((rd_T54 l0 x10_1).f3))).setCell ⟨gb102, 4, none⟩ (.int .i64 ((rd_T54 l0 x10_1).f4))).setCell ⟨gb102, 5, none⟩ (.int .i64 ((rd_T54 l0 x10_1).f5))) = w20 at n0_ n1_ ⊢
            have BK102 := n0_
            have HB := n1_
            clear n0_ n1_
            have n0_ := Aside0.mk (blk_drew BK102.out)
            have n1_ := Aside0.mk (below_drew1 HB.out)
            clear BK102
            clear HB
            have BK102 := n0_
            have HB := n1_
            clear n0_ n1_
            have p104 : 0 ≤ ((ji9) : Int) := of_decide_eq_true (by first | (with_reducible assumption) | assumption)
            have q104 : (ji9) < (l0.length : Int) := of_decide_eq_true (by first | (with_reducible assumption) | assumption)
            obtain ⟨ad104, e104, hx104_0, hx104_1, hx104_2, hx104_3, hx104_4, hx104_5⟩ := at_T54 HR0.out (ji9) p104 q104
            have hw104_5 := hx104_5
            have hw104_4 := hx104_4
            have hw104_3 := hx104_3
            have hw104_2 := hx104_2
            have hw104_1 := hx104_1
            have hw104_0 := hx104_0
            obtain rfl : ad101 = ad104 := (by injection e104)
            replace hx104_0 := pw_cell_below HB.out hx104_0
            replace hx104_1 := pw_cell_below HB.out hx104_1
            replace hx104_2 := pw_cell_below HB.out hx104_2
            replace hx104_3 := pw_cell_below HB.out hx104_3
            replace hx104_4 := pw_cell_below HB.out hx104_4
            replace hx104_5 := pw_cell_below HB.out hx104_5
            replace p104 := eq_true p104
            replace q104 := eq_true q104
            refine start_ (n := 18) (S := fun w' => w'.cell? ⟨gb102, 0, none⟩ = some (.string ((rd_T54 l0 x10_1).f0)) ∧ w'.cell? ⟨gb102, 1, none⟩ = some (.bool ((rd_T54 l0 x10_1).f1)) ∧ w'.cell? ⟨gb102, 2, none⟩ = some (.int .i64 ((rd_T54 l0 x10_1).f2)) ∧ w'.cell? ⟨gb102, 3, none⟩ = some (.int .i64 ((rd_T54 l0 x10_1).f3)) ∧ w'.cell? ⟨gb102, 4, none⟩ = some (.int .i64 ((rd_T54 l0 x10_1).f4)) ∧ w'.cell? ⟨gb102, 5, none⟩ = some (.int .i64 ((rd_T54 l0 x10_1).f5)) ∧ w'.cell? (ad101.add (((ji9)).toNat * 6)) = some (.string ((rd_T54 l0 (ji9)).f0)) ∧ w'.cell? ⟨(ad101.add (((ji9)).toNat * 6)).block, (ad101.add (((ji9)).toNat * 6)).off + 1, none⟩ = some (.bool ((rd_T54 l0 (ji9)).f1)) ∧ w'.cell? ⟨(ad101.add (((ji9)).toNat * 6)).block, (ad101.add (((ji9)).toNat * 6)).off + 2, none⟩ = some (.int .i64 ((rd_T54 l0 (ji9)).f2)) ∧ w'.cell? ⟨(ad101.add (((ji9)).toNat * 6)).block, (ad101.add (((ji9)).toNat * 6)).off + 3, none⟩ = some (.int .i64 ((rd_T54 l0 (ji9)).f3)) ∧ w'.cell? ⟨(ad101.add (((ji9)).toNat * 6)).block, (ad101.add (((ji9)).toNat * 6)).off + 4, none⟩ = some (.int .i64 ((rd_T54 l0 (ji9)).f4)) ∧ w'.cell? ⟨(ad101.add (((ji9)).toNat * 6)).block, (ad101.add (((ji9)).toNat * 6)).off + 5, none⟩ = some (.int .i64 ((rd_T54 l0 (ji9)).f5))) (ds := []) #[F, F, F, F, F, F, F, F, F, F, F, F, F, F, F, F, F, F] (by kernel_rfl) rfl rfl ⟨(blk_cell BK102.out 0).trans rfl, (blk_cell BK102.out 1).trans rfl, (blk_cell BK102.out 2).trans rfl, (blk_cell BK102.out 3).trans rfl, (blk_cell BK102.out 4).trans rfl, (blk_cell BK102.out 5).trans rfl, (pw_cell_below HB.out hw104_0), (pw_cell_below HB.out hw104_1), (pw_cell_below HB.out hw104_2), (pw_cell_below HB.out hw104_3), (pw_cell_below HB.out hw104_4), (pw_cell_below HB.out hw104_5)⟩ (fun hHeld => ?_); refine with_tabW impl_StripMovesOk.tab6 impl_StripMovesOk.bits6 (fun HT_ HW_ => ?_)
            generalize w20.drew = w21 at BK102 HB hx104_0 hx104_1 hx104_2 hx104_3 hx104_4 hx104_5 hHeld ⊢
            refine tw (i := 0) (N := some 15) (v := ?_) (a' := ?_) HT_.out HW_.out rfl rfl (by kernel_rfl) (fun _ _ _ h => h) (Or.inl ⟨by rfl, ?_⟩) hHeld ?_ ?_
            rotate_left
            ·rintro w' ⟨s0, s1, s2, s3, s4, s5, s6, s7, s8, s9, s10, s11⟩
             go_simp
             with_reducible rfl
            rotate_left
            ·simp only [P0, P0n, P2, P3, P4, P5, P6]
             rfl
            refine one_ (i := 1) (N := some 16) #[T, T, F, F, F, F, F, F, F, F, F, F, F, F, F, F, F, F] rfl rfl (one_of HT_.out (by kernel_rfl)) (by decide) (fun K hK => ?_)
            refine goes_ Try.func54 (by kernel_rfl) rfl #[.agg #[.string ((rd_T54 l0 x10_1).f0), .bool ((rd_T54 l0 x10_1).f1), .int .i64 ((rd_T54 l0 x10_1).f2), .int .i64 ((rd_T54 l0 x10_1).f3), .int .i64 ((rd_T54 l0 x10_1).f4), .int .i64 ((rd_T54 l0 x10_1).f5)]] (by rfl) rfl rfl (by (try simp only [List.map_toArray, List.map_cons, List.map_nil]); first | done | rfl | (simp only [List.length_drop, List.length_take]; rfl)) ?_
            with_reducible refine (impl_StripMoveOk.calls k1 ((rd_T54 l0 x10_1).f0) ((rd_T54 l0 x10_1).f1) ((rd_T54 l0 x10_1).f2) ((rd_T54 l0 x10_1).f3) ((rd_T54 l0 x10_1).f4) ((rd_T54 l0 x10_1).f5) true _ A6.out).mono ?_
            rintro e w22 ⟨rfl, hb⟩
            refine ⟨_, rfl, ?_⟩
            have n0_ := Aside0.mk (blk_below (g := gb102) (o := .cells #[.string ((rd_T54 l0 x10_1).f0), .bool ((rd_T54 l0 x10_1).f1), .int .i64 ((rd_T54 l0 x10_1).f2), .int .i64 ((rd_T54 l0 x10_1).f3), .int .i64 ((rd_T54 l0 x10_1).f4), .int .i64 ((rd_T54 l0 x10_1).f5)] 54 (0, 0)) (ex BK102.out) hb)
            have n1_ := Aside0.mk (below_step (by repeat (first | (with_reducible first | exact HB.out | apply below_alloc | apply pw_below_drewN | apply below_drew1 | refine below_set ?_ GE102.out) | exact HB.out)) hb)
            clear BK102
            clear HB
            have BK102 := n0_
            have HB := n1_
            clear n0_ n1_
            (try clear hb)
            (try clear hb2)
            (try clear hk)
            (try clear hi)
            refine hK.out _ _ ⟨(blk_cell BK102.out 0).trans rfl, (blk_cell BK102.out 1).trans rfl, (blk_cell BK102.out 2).trans rfl, (blk_cell BK102.out 3).trans rfl, (blk_cell BK102.out 4).trans rfl, (blk_cell BK102.out 5).trans rfl, (pw_cell_below HB.out hw104_0), (pw_cell_below HB.out hw104_1), (pw_cell_below HB.out hw104_2), (pw_cell_below HB.out hw104_3), (pw_cell_below HB.out hw104_4), (pw_cell_below HB.out hw104_5)⟩ (fun hHeld => ?_)
            clear hK K
            refine norm_ (a' := ?_) ?_ ?_
            rotate_left
            ·show Act.put _ (some 16) _ = _
             simp only [P0, P0n, P2, P3, P4, P5, P6]
             rfl
            refine pu (i := 2) (N := some 17) (v := ?_) (a' := ?_) HT_.out rfl rfl (by kernel_rfl) (fun _ _ _ h => h) (Or.inl ⟨by rfl, ?_⟩) ?_ ?_
            rotate_left; (intro w'; go_simp; with_reducible rfl); rotate_left; (simp only [P0, P0n, P2, P3, P4, P5, P6]; rfl)
            refine pu (i := 3) (N := some 18) (v := ?_) (a' := ?_) HT_.out rfl rfl (by kernel_rfl) (fun _ _ _ h => h) (Or.inl ⟨by rfl, ?_⟩) ?_ ?_
            rotate_left; (intro w'; go_simp; with_reducible rfl); rotate_left; (simp only [P0, P0n, P2, P3, P4, P5, P6]; rfl)
            refine pu (i := 4) (N := some 19) (v := ?_) (a' := ?_) HT_.out rfl rfl (by kernel_rfl) (fun _ _ _ h => h) (Or.inl ⟨by rfl, ?_⟩) ?_ ?_
            rotate_left; (intro w'; go_simp; with_reducible rfl); rotate_left; (simp only [P0, P0n, P2, P3, P4, P5, P6]; rfl)
            refine pu (i := 5) (N := some 20) (v := ?_) (a' := ?_) HT_.out rfl rfl (by kernel_rfl) (fun _ _ _ h => h) (Or.inl ⟨by rfl, ?_⟩) ?_ ?_
            rotate_left; (intro w'; go_simp; with_reducible rfl); rotate_left; (simp only [P0, P0n, P2, P3, P4, P5, P6]; rfl)
            refine pu (i := 6) (N := some 21) (v := ?_) (a' := ?_) HT_.out rfl rfl (by kernel_rfl) (fun _ _ _ h => h) (Or.inl ⟨by rfl, ?_⟩) ?_ ?_
            rotate_left; (intro w'; go_simp; with_reducible rfl); rotate_left; (simp only [P0, P0n, P2, P3, P4, P5, P6]; rfl)
            refine pu (i := 7) (N := some 22) (v := ?_) (a' := ?_) HT_.out rfl rfl (by kernel_rfl) (fun _ _ _ h => h) (Or.inl ⟨by rfl, ?_⟩) ?_ ?_
            rotate_left; (intro w'; go_simp; with_reducible rfl); rotate_left; (simp only [P0, P0n, P2, P3, P4, P5, P6]; rfl)
            refine pu (i := 8) (N := some 23) (v := ?_) (a' := ?_) HT_.out rfl rfl (by kernel_rfl) (fun _ _ _ h => h) (Or.inl ⟨by rfl, ?_⟩) ?_ ?_
            rotate_left; (intro w'; go_simp; with_reducible rfl); rotate_left; (simp only [P0, P0n, P2, P3, P4, P5, P6]; rfl)
            refine pu (i := 9) (N := some 24) (v := ?_) (a' := ?_) HT_.out rfl rfl (by kernel_rfl) (fun _ _ _ h => h) (Or.inl ⟨by rfl, ?_⟩) ?_ ?_
            rotate_left; (intro w'; go_simp; with_reducible rfl); rotate_left; (simp only [P0, P0n, P2, P3, P4, P5, P6]; rfl)
            refine pu (i := 10) (N := some 25) (v := ?_) (a' := ?_) HT_.out rfl rfl (by kernel_rfl) (fun _ _ _ h => h) (Or.inl ⟨by rfl, ?_⟩) ?_ ?_
            rotate_left; (intro w'; go_simp; with_reducible rfl); rotate_left; (simp only [P0, P0n, P2, P3, P4, P5, P6]; rfl)
            refine pu (i := 11) (N := some 26) (v := ?_) (a' := ?_) HT_.out rfl rfl (by kernel_rfl) (fun _ _ _ h => h) (Or.inl ⟨by rfl, ?_⟩) ?_ ?_
            rotate_left; (intro w'; go_simp; with_reducible rfl); rotate_left; (simp only [P0, P0n, P2, P3, P4, P5, P6]; rfl)
            refine pu (i := 13) (N := some 28) (v := ?_) (a' := ?_) HT_.out rfl rfl (by kernel_rfl) (fun _ _ _ h => h) (Or.inl ⟨by rfl, ?_⟩) ?_ ?_
            rotate_left; (intro w'; go_simp; with_reducible rfl); rotate_left; (simp only [P0, P0n, P2, P3, P4, P5, P6]; rfl)
            refine tw (i := 12) (N := some 27) (v := ?_) (a' := ?_) HT_.out HW_.out rfl rfl (by kernel_rfl) (fun _ _ _ h => h) (Or.inl ⟨by rfl, ?_⟩) hHeld ?_ ?_
            rotate_left
            ·rintro w' ⟨s0, s1, s2, s3, s4, s5, s6, s7, s8, s9, s10, s11⟩
             go_simp
             with_reducible rfl
            rotate_left
            ·simp only [P0, P0n, P2, P3, P4, P5, P6]
             rfl
            refine tw (i := 14) (N := some 29) (v := ?_) (a' := ?_) HT_.out HW_.out rfl rfl (by kernel_rfl) (fun _ _ _ h => h) (Or.inl ⟨by rfl, ?_⟩) hHeld ?_ ?_
            rotate_left
            ·rintro w' ⟨s0, s1, s2, s3, s4, s5, s6, s7, s8, s9, s10, s11⟩
             go_simp
             with_reducible rfl
            rotate_left
            ·simp only [P0, P0n, P2, P3, P4, P5, P6]
             rfl
            refine pu (i := 15) (N := some 30) (v := ?_) (a' := ?_) HT_.out rfl rfl (by kernel_rfl) (fun _ _ _ h => h) (Or.inl ⟨by rfl, ?_⟩) ?_ ?_
            rotate_left; (intro w'; go_simp; with_reducible rfl); rotate_left; (simp only [P0, P0n, P2, P3, P4, P5, P6]; rfl)
            refine pu (i := 16) (N := some 31) (v := ?_) (a' := ?_) HT_.out rfl rfl (by kernel_rfl) (fun _ _ _ h => h) (Or.inl ⟨by rfl, ?_⟩) ?_ ?_
            rotate_left; (intro w'; go_simp; with_reducible rfl); rotate_left; (simp only [P0, P0n, P2, P3, P4, P5, P6]; rfl)
            refine pu (i := 17) (N := some 32) (v := ?_) (a' := ?_) HT_.out rfl rfl (by kernel_rfl) (fun _ _ _ h => h) (Or.inl ⟨by rfl, ?_⟩) ?_ ?_
            rotate_left; (intro w'; go_simp; with_reducible rfl); rotate_left; (simp only [P0, P0n, P2, P3, P4, P5, P6]; rfl)
            refine done_ (done_of HT_.out (by kernel_rfl)) ?_
            try go_wp2
            go_ret
            exact ⟨by first | rfl | (simp [errW_none, errW_some] <;> rfl) | (simp only [← hji9]; first | rfl | (simp [errW_none, errW_some] <;> rfl)) | (simp [*, errW_none, errW_some] <;> rfl), by repeat (first | (with_reducible first | exact HB.out | apply below_alloc | apply pw_below_drewN | apply below_drew1 | refine below_set ?_ GE102.out) | exact HB.out)⟩
          ·rw [if_neg c11] at H
           exact absurd H (by simp)
         ·rw [if_neg c10] at H
          exact absurd H (by simp)
        ·rw [if_neg c8] at H
         have c8b0 : decide (0 < x10_1) = false := decide_eq_false c8
         clear c8
         have H' := Aside0.mk H
         clear H
         have p101 : 0 ≤ (x10_1 : Int) := of_decide_eq_true (by first | (with_reducible assumption) | assumption)
         have q101 : x10_1 < (l0.length : Int) := of_decide_eq_true (by first | (with_reducible assumption) | assumption)
         obtain ⟨ad101, e101, hx101_0, hx101_1, hx101_2, hx101_3, hx101_4, hx101_5⟩ := at_T54 HR0.out x10_1 p101 q101
         cases e101
         replace hx101_0 := pw_cell_below HB.out hx101_0
         replace hx101_1 := pw_cell_below HB.out hx101_1
         replace hx101_2 := pw_cell_below HB.out hx101_2
         replace hx101_3 := pw_cell_below HB.out hx101_3
         replace hx101_4 := pw_cell_below HB.out hx101_4
         replace hx101_5 := pw_cell_below HB.out hx101_5
         replace p101 := eq_true p101
         replace q101 := eq_true q101
         try go_wp2_with (first | ((with_reducible refine gate_dst (N := 4) rfl ?_); refine box_event ?hg (N := 4) ?hd (cs := #[.string (⟨#[]⟩ : ByteArray), .bool false, .int .i64 0, .int .i64 0, .int .i64 0, .int .i64 0]) (t := 54) ?hr ?_; (case hd => rfl); (case hg => rfl); (case hr => first | (go_simp; done) | (go_simp; rfl)); intro gb102 hg w23 hbox hb; have n0_ := Aside0.mk (below_step (eb HB.out) hb); have n1_ := Aside0.mk (hbox); have n2_ := Aside0.mk ((by rw [hg]; exact (below_size (eb HB.out)) : w.heap.size ≤ gb102)); have n3_ := Aside0.mk ((by rw [hg]; exact (below_size (eb HB.out)) : w.heap.size ≤ gb102)); clear HB; have HB := n0_; have BK102 := n1_; have GW102 := n2_; have GE102 := n3_; clear n0_ n1_ n2_ n3_; clear hb hbox hg; obtain ⟨hcz24_0, hcz24_1, hcz24_2, hcz24_3, hcz24_4, hcz24_5⟩ := bc6 BK102.out; obtain ⟨hfz24_0, hfz24_1, hfz24_2, hfz24_3, hfz24_4, hfz24_5⟩ := bf6 BK102.out))
         have n0_ : Aside0 (((((((w23.setCell ⟨gb102, 0, none⟩ (.string ((rd_T54 l0 x10_1).f0))).setCell ⟨gb102, 1, none⟩ (.bool ((rd_T54 l0 x10_1).f1))).setCell ⟨gb102, 2, none⟩ (.int .i64 ((rd_T54 l0 x10_1).f2))).setCell ⟨gb102, 3, none⟩ (.int .i64 ((rd_T54 l0 x10_1).f3))).setCell ⟨gb102, 4, none⟩ (.int .i64 ((rd_T54 l0 x10_1).f4))).setCell ⟨gb102, 5, none⟩ (.int .i64 ((rd_T54 l0 x10_1).f5))).heap[gb102]? = some (.cells #[.string ((rd_T54 l0 x10_1).f0), .bool ((rd_T54 l0 x10_1).f1), .int .i64 ((rd_T54 l0 x10_1).f2), .int .i64 ((rd_T54 l0 x10_1).f3), .int .i64 ((rd_T54 l0 x10_1).f4), .int .i64 ((rd_T54 l0 x10_1).f5)] 54 (0, 0))) := ⟨by refine px ?_; refine blk_put (cs := #[.string ((rd_T54 l0 x10_1).f0), .bool ((rd_T54 l0 x10_1).f1), .int .i64 ((rd_T54 l0 x10_1).f2), .int .i64 ((rd_T54 l0 x10_1).f3), .int .i64 ((rd_T54 l0 x10_1).f4), .int .i64 0]) ?_ 5 _ rfl; refine px ?_; refine blk_put (cs := #[.string ((rd_T54 l0 x10_1).f0), .bool ((rd_T54 l0 x10_1).f1), .int .i64 ((rd_T54 l0 x10_1).f2), .int .i64 ((rd_T54 l0 x10_1).f3), .int .i64 0, .int .i64 0]) ?_ 4 _ rfl; refine px ?_; refine blk_put (cs := #[.string ((rd_T54 l0 x10_1).f0), .bool ((rd_T54 l0 x10_1).f1), .int .i64 ((rd_T54 l0 x10_1).f2), .int .i64 0, .int .i64 0, .int .i64 0]) ?_ 3 _ rfl; refine px ?_; refine blk_put (cs := #[.string ((rd_T54 l0 x10_1).f0), .bool ((rd_T54 l0 x10_1).f1), .int .i64 0, .int .i64 0, .int .i64 0, .int .i64 0]) ?_ 2 _ rfl; refine px ?_; refine blk_put (cs := #[.string ((rd_T54 l0 x10_1).f0), .bool false, .int .i64 0, .int .i64 0, .int .i64 0, .int .i64 0]) ?_ 1 _ rfl; refine px ?_; refine blk_put (cs := #[.string (⟨#[]⟩ : ByteArray), .bool false, .int .i64 0, .int .i64 0, .int .i64 0, .int .i64 0]) ?_ 0 _ rfl; refine px ?_; exact BK102.out⟩
         have n1_ : Aside0 (Below w.heap.size w ((((((w23.setCell ⟨gb102, 0, none⟩ (.string ((rd_T54 l0 x10_1).f0))).setCell ⟨gb102, 1, none⟩ (.bool ((rd_T54 l0 x10_1).f1))).setCell ⟨gb102, 2, none⟩ (.int .i64 ((rd_T54 l0 x10_1).f2))).setCell ⟨gb102, 3, none⟩ (.int .i64 ((rd_T54 l0 x10_1).f3))).setCell ⟨gb102, 4, none⟩ (.int .i64 ((rd_T54 l0 x10_1).f4))).setCell ⟨gb102, 5, none⟩ (.int .i64 ((rd_T54 l0 x10_1).f5)))) := ⟨by repeat (first | (with_reducible first | exact HB.out | apply below_alloc | apply pw_below_drewN | apply below_drew1 | refine below_set ?_ GE102.out) | exact HB.out)⟩
         (try clear BK102)
         (try clear HB)
         generalize ((((((w23.setCell ⟨gb102, 0, none⟩ (.string ((rd_T54 l0 x10_1).f0))).setCell ⟨gb102, 1, none⟩ (.bool ((rd_T54 l0 x10_1).f1))).setCell ⟨gb102, 2, none⟩ (.int .i64 ((rd_T54 l0 x10_1).f2))).setCell ⟨gb102, 3, none⟩ (.int .i64 ((rd_T54 l0 x10_1).f3))).setCell ⟨gb102, 4, none⟩ (.int .i64 ((rd_T54 l0 x10_1).f4))).setCell ⟨gb102, 5, none⟩ (.int .i64 ((rd_T54 l0 x10_1).f5))) = w25 at n0_ n1_ ⊢
         have BK102 := n0_
         have HB := n1_
         clear n0_ n1_
         have n0_ := Aside0.mk (blk_drew BK102.out)
         have n1_ := Aside0.mk (below_drew1 HB.out)
         clear BK102
         clear HB
         have BK102 := n0_
         have HB := n1_
         clear n0_ n1_
         refine start_ (n := 18) (S := fun w' => w'.cell? ⟨gb102, 0, none⟩ = some (.string ((rd_T54 l0 x10_1).f0)) ∧ w'.cell? ⟨gb102, 1, none⟩ = some (.bool ((rd_T54 l0 x10_1).f1)) ∧ w'.cell? ⟨gb102, 2, none⟩ = some (.int .i64 ((rd_T54 l0 x10_1).f2)) ∧ w'.cell? ⟨gb102, 3, none⟩ = some (.int .i64 ((rd_T54 l0 x10_1).f3)) ∧ w'.cell? ⟨gb102, 4, none⟩ = some (.int .i64 ((rd_T54 l0 x10_1).f4)) ∧ w'.cell? ⟨gb102, 5, none⟩ = some (.int .i64 ((rd_T54 l0 x10_1).f5))) (ds := []) #[F, F, F, F, F, F, F, F, F, F, F, F, F, F, F, F, F, F] (by kernel_rfl) rfl rfl ⟨(blk_cell BK102.out 0).trans rfl, (blk_cell BK102.out 1).trans rfl, (blk_cell BK102.out 2).trans rfl, (blk_cell BK102.out 3).trans rfl, (blk_cell BK102.out 4).trans rfl, (blk_cell BK102.out 5).trans rfl⟩ (fun hHeld => ?_); refine with_tabW impl_StripMovesOk.tab6 impl_StripMovesOk.bits6 (fun HT_ HW_ => ?_)
         generalize w25.drew = w26 at BK102 HB hHeld ⊢
         refine tw (i := 0) (N := some 15) (v := ?_) (a' := ?_) HT_.out HW_.out rfl rfl (by kernel_rfl) (fun _ _ _ h => h) (Or.inl ⟨by rfl, ?_⟩) hHeld ?_ ?_
         rotate_left
         ·rintro w' ⟨s0, s1, s2, s3, s4, s5⟩
          go_simp
          with_reducible rfl
         rotate_left
         ·simp only [P0, P0n, P2, P3, P4, P5, P6]
          rfl
         refine one_ (i := 1) (N := some 16) #[T, T, F, F, F, F, F, F, F, F, F, F, F, F, F, F, F, F] rfl rfl (one_of HT_.out (by kernel_rfl)) (by decide) (fun K hK => ?_)
         refine goes_ Try.func54 (by kernel_rfl) rfl #[.agg #[.string ((rd_T54 l0 x10_1).f0), .bool ((rd_T54 l0 x10_1).f1), .int .i64 ((rd_T54 l0 x10_1).f2), .int .i64 ((rd_T54 l0 x10_1).f3), .int .i64 ((rd_T54 l0 x10_1).f4), .int .i64 ((rd_T54 l0 x10_1).f5)]] (by rfl) rfl rfl (by (try simp only [List.map_toArray, List.map_cons, List.map_nil]); first | done | rfl | (simp only [List.length_drop, List.length_take]; rfl)) ?_
         with_reducible refine (impl_StripMoveOk.calls k1 ((rd_T54 l0 x10_1).f0) ((rd_T54 l0 x10_1).f1) ((rd_T54 l0 x10_1).f2) ((rd_T54 l0 x10_1).f3) ((rd_T54 l0 x10_1).f4) ((rd_T54 l0 x10_1).f5) true _ A6.out).mono ?_
         rintro e w27 ⟨rfl, hb⟩
         refine ⟨_, rfl, ?_⟩
         have n0_ := Aside0.mk (blk_below (g := gb102) (o := .cells #[.string ((rd_T54 l0 x10_1).f0), .bool ((rd_T54 l0 x10_1).f1), .int .i64 ((rd_T54 l0 x10_1).f2), .int .i64 ((rd_T54 l0 x10_1).f3), .int .i64 ((rd_T54 l0 x10_1).f4), .int .i64 ((rd_T54 l0 x10_1).f5)] 54 (0, 0)) (ex BK102.out) hb)
         have n1_ := Aside0.mk (below_step (by repeat (first | (with_reducible first | exact HB.out | apply below_alloc | apply pw_below_drewN | apply below_drew1 | refine below_set ?_ GE102.out) | exact HB.out)) hb)
         clear BK102
         clear HB
         have BK102 := n0_
         have HB := n1_
         clear n0_ n1_
         (try clear hb)
         (try clear hb2)
         (try clear hk)
         (try clear hi)
         refine hK.out _ _ ⟨(blk_cell BK102.out 0).trans rfl, (blk_cell BK102.out 1).trans rfl, (blk_cell BK102.out 2).trans rfl, (blk_cell BK102.out 3).trans rfl, (blk_cell BK102.out 4).trans rfl, (blk_cell BK102.out 5).trans rfl⟩ (fun hHeld => ?_)
         clear hK K
         refine norm_ (a' := ?_) ?_ ?_
         rotate_left
         ·show Act.put _ (some 16) _ = _
          simp only [P0, P0n, P2, P3, P4, P5, P6]
          rfl
         refine pu (i := 2) (N := some 17) (v := ?_) (a' := ?_) HT_.out rfl rfl (by kernel_rfl) (fun _ _ _ h => h) (Or.inl ⟨by rfl, ?_⟩) ?_ ?_
         rotate_left; (intro w'; go_simp; with_reducible rfl); rotate_left; (simp only [P0, P0n, P2, P3, P4, P5, P6]; rfl)
         refine pu (i := 3) (N := some 18) (v := ?_) (a' := ?_) HT_.out rfl rfl (by kernel_rfl) (fun _ _ _ h => h) (Or.inl ⟨by rfl, ?_⟩) ?_ ?_
         rotate_left; (intro w'; go_simp; with_reducible rfl); rotate_left; (simp only [P0, P0n, P2, P3, P4, P5, P6]; rfl)
         refine pu (i := 4) (N := some 19) (v := ?_) (a' := ?_) HT_.out rfl rfl (by kernel_rfl) (fun _ _ _ h => h) (Or.inl ⟨by rfl, ?_⟩) ?_ ?_
         rotate_left; (intro w'; go_simp; with_reducible rfl); rotate_left; (simp only [P0, P0n, P2, P3, P4, P5, P6]; rfl)
         refine pu (i := 5) (N := some 20) (v := ?_) (a' := ?_) HT_.out rfl rfl (by kernel_rfl) (fun _ _ _ h => h) (Or.inl ⟨by rfl, ?_⟩) ?_ ?_
         rotate_left; (intro w'; go_simp; with_reducible rfl); rotate_left; (simp only [P0, P0n, P2, P3, P4, P5, P6]; rfl)
         refine pu (i := 6) (N := some 21) (v := ?_) (a' := ?_) HT_.out rfl rfl (by kernel_rfl) (fun _ _ _ h => h) (Or.inl ⟨by rfl, ?_⟩) ?_ ?_
         rotate_left; (intro w'; go_simp; with_reducible rfl); rotate_left; (simp only [P0, P0n, P2, P3, P4, P5, P6]; rfl)
         refine pure_ (i := 7) (N := some 22) (v := undef) (a' := ?_) #[T, T, T, T, T, T, T, T, F, F, F, F, F, F, F, F, F, F] rfl rfl (any_of HT_.out (by kernel_rfl)) (fun _ _ _ h => h) (Or.inr ⟨by rfl, rfl⟩) ?_ ?_
         rotate_left
         ·simp only [P0, P0n, P2, P3, P4, P5, P6]
          rfl
         refine pure_ (i := 8) (N := some 23) (v := undef) (a' := ?_) #[T, T, T, T, T, T, T, T, T, F, F, F, F, F, F, F, F, F] rfl rfl (any_of HT_.out (by kernel_rfl)) (fun _ _ _ h => h) (Or.inr ⟨by rfl, rfl⟩) ?_ ?_
         rotate_left
         ·simp only [P0, P0n, P2, P3, P4, P5, P6]
          rfl
         refine pure_ (i := 9) (N := some 24) (v := undef) (a' := ?_) #[T, T, T, T, T, T, T, T, T, T, F, F, F, F, F, F, F, F] rfl rfl (any_of HT_.out (by kernel_rfl)) (fun _ _ _ h => h) (Or.inr ⟨by rfl, rfl⟩) ?_ ?_
         rotate_left
         ·simp only [P0, P0n, P2, P3, P4, P5, P6]
          rfl
         refine pure_ (i := 10) (N := some 25) (v := undef) (a' := ?_) #[T, T, T, T, T, T, T, T, T, T, T, F, F, F, F, F, F, F] rfl rfl (any_of HT_.out (by kernel_rfl)) (fun _ _ _ h => h) (Or.inr ⟨by rfl, rfl⟩) ?_ ?_
         rotate_left
         ·simp only [P0, P0n, P2, P3, P4, P5, P6]
          rfl
         refine pure_ (i := 11) (N := some 26) (v := undef) (a' := ?_) #[T, T, T, T, T, T, T, T, T, T, T, T, F, F, F, F, F, F] rfl rfl (any_of HT_.out (by kernel_rfl)) (fun _ _ _ h => h) (Or.inr ⟨by rfl, rfl⟩) ?_ ?_
         rotate_left
         ·simp only [P0, P0n, P2, P3, P4, P5, P6]
          rfl
         refine pure_ (i := 12) (N := some 27) (v := undef) (a' := ?_) #[T, T, T, T, T, T, T, T, T, T, T, T, T, F, F, F, F, F] rfl rfl (any_of HT_.out (by kernel_rfl)) (fun _ _ _ h => h) (Or.inr ⟨by rfl, rfl⟩) ?_ ?_
         rotate_left
         ·simp only [P0, P0n, P2, P3, P4, P5, P6]
          rfl
         refine pure_ (i := 13) (N := some 28) (v := undef) (a' := ?_) #[T, T, T, T, T, T, T, T, T, T, T, T, T, T, F, F, F, F] rfl rfl (any_of HT_.out (by kernel_rfl)) (fun _ _ _ h => h) (Or.inr ⟨by rfl, rfl⟩) ?_ ?_
         rotate_left
         ·simp only [P0, P0n, P2, P3, P4, P5, P6]
          rfl
         refine pure_ (i := 14) (N := some 29) (v := undef) (a' := ?_) #[T, T, T, T, T, T, T, T, T, T, T, T, T, T, T, F, F, F] rfl rfl (any_of HT_.out (by kernel_rfl)) (fun _ _ _ h => h) (Or.inr ⟨by rfl, rfl⟩) ?_ ?_
         rotate_left
         ·simp only [P0, P0n, P2, P3, P4, P5, P6]
          rfl
         refine pure_ (i := 15) (N := some 30) (v := undef) (a' := ?_) #[T, T, T, T, T, T, T, T, T, T, T, T, T, T, T, T, F, F] rfl rfl (any_of HT_.out (by kernel_rfl)) (fun _ _ _ h => h) (Or.inr ⟨by rfl, rfl⟩) ?_ ?_
         rotate_left
         ·simp only [P0, P0n, P2, P3, P4, P5, P6]
          rfl
         refine pu (i := 16) (N := some 31) (v := ?_) (a' := ?_) HT_.out rfl rfl (by kernel_rfl) (fun _ _ _ h => h) (Or.inl ⟨by rfl, ?_⟩) ?_ ?_
         rotate_left; (intro w'; go_simp; with_reducible rfl); rotate_left; (simp only [P0, P0n, P2, P3, P4, P5, P6]; rfl)
         refine pu (i := 17) (N := some 32) (v := ?_) (a' := ?_) HT_.out rfl rfl (by kernel_rfl) (fun _ _ _ h => h) (Or.inl ⟨by rfl, ?_⟩) ?_ ?_
         rotate_left; (intro w'; go_simp; with_reducible rfl); rotate_left; (simp only [P0, P0n, P2, P3, P4, P5, P6]; rfl)
         refine done_ (done_of HT_.out (by kernel_rfl)) ?_
         try go_wp2
         go_roundg k1
         case measure => have := HK1.out; omega
         case rel => exact ⟨(wrap64 (x10_1 + 1)), (by first | rfl | (simp; done) | (simp [*]; done)), H', ⟨by have := HK1.out; omega⟩, ⟨by repeat (first | (with_reducible first | exact HB.out | apply below_alloc | apply pw_below_drewN | apply below_drew1 | refine below_set ?_ GE102.out) | exact HB.out)⟩⟩
       ·replace c7 := Bool.eq_false_iff.mpr c7
        subst c7
        have H1 : (some false) = some r := by rw [if_neg (show ¬ (false = true) by decide)] at H; exact H
        clear H
        have H := H1
        clear H1
        obtain rfl := Option.some.inj H
        have p101 : 0 ≤ (x10_1 : Int) := of_decide_eq_true (by first | (with_reducible assumption) | assumption)
        have q101 : x10_1 < (l0.length : Int) := of_decide_eq_true (by first | (with_reducible assumption) | assumption)
        obtain ⟨ad101, e101, hx101_0, hx101_1, hx101_2, hx101_3, hx101_4, hx101_5⟩ := at_T54 HR0.out x10_1 p101 q101
        cases e101
        replace hx101_0 := pw_cell_below HB.out hx101_0
        replace hx101_1 := pw_cell_below HB.out hx101_1
        replace hx101_2 := pw_cell_below HB.out hx101_2
        replace hx101_3 := pw_cell_below HB.out hx101_3
        replace hx101_4 := pw_cell_below HB.out hx101_4
        replace hx101_5 := pw_cell_below HB.out hx101_5
        replace p101 := eq_true p101
        replace q101 := eq_true q101
        try go_wp2_with (first | ((with_reducible refine gate_dst (N := 4) rfl ?_); refine box_event ?hg (N := 4) ?hd (cs := #[.string (⟨#[]⟩ : ByteArray), .bool false, .int .i64 0, .int .i64 0, .int .i64 0, .int .i64 0]) (t := 54) ?hr ?_; (case hd => rfl); (case hg => rfl); (case hr => first | (go_simp; done) | (go_simp; rfl)); intro gb102 hg w28 hbox hb; have n0_ := Aside0.mk (below_step (eb HB.out) hb); have n1_ := Aside0.mk (hbox); have n2_ := Aside0.mk ((by rw [hg]; exact (below_size (eb HB.out)) : w.heap.size ≤ gb102)); have n3_ := Aside0.mk ((by rw [hg]; exact (below_size (eb HB.out)) : w.heap.size ≤ gb102)); clear HB; have HB := n0_; have BK102 := n1_; have GW102 := n2_; have GE102 := n3_; clear n0_ n1_ n2_ n3_; clear hb hbox hg; obtain ⟨hcz29_0, hcz29_1, hcz29_2, hcz29_3, hcz29_4, hcz29_5⟩ := bc6 BK102.out; obtain ⟨hfz29_0, hfz29_1, hfz29_2, hfz29_3, hfz29_4, hfz29_5⟩ := bf6 BK102.out))
        have n0_ : Aside0 (((((((w28.setCell ⟨gb102, 0, none⟩ (.string ((rd_T54 l0 x10_1).f0))).setCell ⟨gb102, 1, none⟩ (.bool ((rd_T54 l0 x10_1).f1))).setCell ⟨gb102, 2, none⟩ (.int .i64 ((rd_T54 l0 x10_1).f2))).setCell ⟨gb102, 3, none⟩ (.int .i64 ((rd_T54 l0 x10_1).f3))).setCell ⟨gb102, 4, none⟩ (.int .i64 ((rd_T54 l0 x10_1).f4))).setCell ⟨gb102, 5, none⟩ (.int .i64 ((rd_T54 l0 x10_1).f5))).heap[gb102]? = some (.cells #[.string ((rd_T54 l0 x10_1).f0), .bool ((rd_T54 l0 x10_1).f1), .int .i64 ((rd_T54 l0 x10_1).f2), .int .i64 ((rd_T54 l0 x10_1).f3), .int .i64 ((rd_T54 l0 x10_1).f4), .int .i64 ((rd_T54 l0 x10_1).f5)] 54 (0, 0))) := ⟨by refine px ?_; refine blk_put (cs := #[.string ((rd_T54 l0 x10_1).f0), .bool ((rd_T54 l0 x10_1).f1), .int .i64 ((rd_T54 l0 x10_1).f2), .int .i64 ((rd_T54 l0 x10_1).f3), .int .i64 ((rd_T54 l0 x10_1).f4), .int .i64 0]) ?_ 5 _ rfl; refine px ?_; refine blk_put (cs := #[.string ((rd_T54 l0 x10_1).f0), .bool ((rd_T54 l0 x10_1).f1), .int .i64 ((rd_T54 l0 x10_1).f2), .int .i64 ((rd_T54 l0 x10_1).f3), .int .i64 0, .int .i64 0]) ?_ 4 _ rfl; refine px ?_; refine blk_put (cs := #[.string ((rd_T54 l0 x10_1).f0), .bool ((rd_T54 l0 x10_1).f1), .int .i64 ((rd_T54 l0 x10_1).f2), .int .i64 0, .int .i64 0, .int .i64 0]) ?_ 3 _ rfl; refine px ?_; refine blk_put (cs := #[.string ((rd_T54 l0 x10_1).f0), .bool ((rd_T54 l0 x10_1).f1), .int .i64 0, .int .i64 0, .int .i64 0, .int .i64 0]) ?_ 2 _ rfl; refine px ?_; refine blk_put (cs := #[.string ((rd_T54 l0 x10_1).f0), .bool false, .int .i64 0, .int .i64 0, .int .i64 0, .int .i64 0]) ?_ 1 _ rfl; refine px ?_; refine blk_put (cs := #[.string (⟨#[]⟩ : ByteArray), .bool false, .int .i64 0, .int .i64 0, .int .i64 0, .int .i64 0]) ?_ 0 _ rfl; refine px ?_; exact BK102.out⟩
        have n1_ : Aside0 (Below w.heap.size w ((((((w28.setCell ⟨gb102, 0, none⟩ (.string ((rd_T54 l0 x10_1).f0))).setCell ⟨gb102, 1, none⟩ (.bool ((rd_T54 l0 x10_1).f1))).setCell ⟨gb102, 2, none⟩ (.int .i64 ((rd_T54 l0 x10_1).f2))).setCell ⟨gb102, 3, none⟩ (.int .i64 ((rd_T54 l0 x10_1).f3))).setCell ⟨gb102, 4, none⟩ (.int .i64 ((rd_T54 l0 x10_1).f4))).setCell ⟨gb102, 5, none⟩ (.int .i64 ((rd_T54 l0 x10_1).f5)))) := ⟨by repeat (first | (with_reducible first | exact HB.out | apply below_alloc | apply pw_below_drewN | apply below_drew1 | refine below_set ?_ GE102.out) | exact HB.out)⟩
        (try clear BK102)
        (try clear HB)
        generalize ((((((w28.setCell ⟨gb102, 0, none⟩ (.string ((rd_T54 l0 x10_1).f0))).setCell ⟨gb102, 1, none⟩ (.bool ((rd_T54 l0 x10_1).f1))).setCell ⟨gb102, 2, none⟩ (.int .i64 ((rd_T54 l0 x10_1).f2))).setCell ⟨gb102, 3, none⟩ (.int .i64 ((rd_T54 l0 x10_1).f3))).setCell ⟨gb102, 4, none⟩ (.int .i64 ((rd_T54 l0 x10_1).f4))).setCell ⟨gb102, 5, none⟩ (.int .i64 ((rd_T54 l0 x10_1).f5))) = w30 at n0_ n1_ ⊢
        have BK102 := n0_
        have HB := n1_
        clear n0_ n1_
        have n0_ := Aside0.mk (blk_drew BK102.out)
        have n1_ := Aside0.mk (below_drew1 HB.out)
        clear BK102
        clear HB
        have BK102 := n0_
        have HB := n1_
        clear n0_ n1_
        refine start_ (n := 18) (S := fun w' => w'.cell? ⟨gb102, 0, none⟩ = some (.string ((rd_T54 l0 x10_1).f0)) ∧ w'.cell? ⟨gb102, 1, none⟩ = some (.bool ((rd_T54 l0 x10_1).f1)) ∧ w'.cell? ⟨gb102, 2, none⟩ = some (.int .i64 ((rd_T54 l0 x10_1).f2)) ∧ w'.cell? ⟨gb102, 3, none⟩ = some (.int .i64 ((rd_T54 l0 x10_1).f3)) ∧ w'.cell? ⟨gb102, 4, none⟩ = some (.int .i64 ((rd_T54 l0 x10_1).f4)) ∧ w'.cell? ⟨gb102, 5, none⟩ = some (.int .i64 ((rd_T54 l0 x10_1).f5))) (ds := []) #[F, F, F, F, F, F, F, F, F, F, F, F, F, F, F, F, F, F] (by kernel_rfl) rfl rfl ⟨(blk_cell BK102.out 0).trans rfl, (blk_cell BK102.out 1).trans rfl, (blk_cell BK102.out 2).trans rfl, (blk_cell BK102.out 3).trans rfl, (blk_cell BK102.out 4).trans rfl, (blk_cell BK102.out 5).trans rfl⟩ (fun hHeld => ?_); refine with_tabW impl_StripMovesOk.tab6 impl_StripMovesOk.bits6 (fun HT_ HW_ => ?_)
        generalize w30.drew = w31 at BK102 HB hHeld ⊢
        refine tw (i := 0) (N := some 15) (v := ?_) (a' := ?_) HT_.out HW_.out rfl rfl (by kernel_rfl) (fun _ _ _ h => h) (Or.inl ⟨by rfl, ?_⟩) hHeld ?_ ?_
        rotate_left
        ·rintro w' ⟨s0, s1, s2, s3, s4, s5⟩
         go_simp
         with_reducible rfl
        rotate_left
        ·simp only [P0, P0n, P2, P3, P4, P5, P6]
         rfl
        refine one_ (i := 1) (N := some 16) #[T, T, F, F, F, F, F, F, F, F, F, F, F, F, F, F, F, F] rfl rfl (one_of HT_.out (by kernel_rfl)) (by decide) (fun K hK => ?_)
        refine goes_ Try.func54 (by kernel_rfl) rfl #[.agg #[.string ((rd_T54 l0 x10_1).f0), .bool ((rd_T54 l0 x10_1).f1), .int .i64 ((rd_T54 l0 x10_1).f2), .int .i64 ((rd_T54 l0 x10_1).f3), .int .i64 ((rd_T54 l0 x10_1).f4), .int .i64 ((rd_T54 l0 x10_1).f5)]] (by rfl) rfl rfl (by (try simp only [List.map_toArray, List.map_cons, List.map_nil]); first | done | rfl | (simp only [List.length_drop, List.length_take]; rfl)) ?_
        with_reducible refine (impl_StripMoveOk.calls k1 ((rd_T54 l0 x10_1).f0) ((rd_T54 l0 x10_1).f1) ((rd_T54 l0 x10_1).f2) ((rd_T54 l0 x10_1).f3) ((rd_T54 l0 x10_1).f4) ((rd_T54 l0 x10_1).f5) false _ A6.out).mono ?_
        rintro e w32 ⟨rfl, hb⟩
        refine ⟨_, rfl, ?_⟩
        have n0_ := Aside0.mk (blk_below (g := gb102) (o := .cells #[.string ((rd_T54 l0 x10_1).f0), .bool ((rd_T54 l0 x10_1).f1), .int .i64 ((rd_T54 l0 x10_1).f2), .int .i64 ((rd_T54 l0 x10_1).f3), .int .i64 ((rd_T54 l0 x10_1).f4), .int .i64 ((rd_T54 l0 x10_1).f5)] 54 (0, 0)) (ex BK102.out) hb)
        have n1_ := Aside0.mk (below_step (by repeat (first | (with_reducible first | exact HB.out | apply below_alloc | apply pw_below_drewN | apply below_drew1 | refine below_set ?_ GE102.out) | exact HB.out)) hb)
        clear BK102
        clear HB
        have BK102 := n0_
        have HB := n1_
        clear n0_ n1_
        (try clear hb)
        (try clear hb2)
        (try clear hk)
        (try clear hi)
        refine hK.out _ _ ⟨(blk_cell BK102.out 0).trans rfl, (blk_cell BK102.out 1).trans rfl, (blk_cell BK102.out 2).trans rfl, (blk_cell BK102.out 3).trans rfl, (blk_cell BK102.out 4).trans rfl, (blk_cell BK102.out 5).trans rfl⟩ (fun hHeld => ?_)
        clear hK K
        refine norm_ (a' := ?_) ?_ ?_
        rotate_left
        ·show Act.put _ (some 16) _ = _
         simp only [P0, P0n, P2, P3, P4, P5, P6]
         rfl
        refine pu (i := 2) (N := some 17) (v := ?_) (a' := ?_) HT_.out rfl rfl (by kernel_rfl) (fun _ _ _ h => h) (Or.inl ⟨by rfl, ?_⟩) ?_ ?_
        rotate_left; (intro w'; go_simp; with_reducible rfl); rotate_left; (simp only [P0, P0n, P2, P3, P4, P5, P6]; rfl)
        refine pu (i := 3) (N := some 18) (v := ?_) (a' := ?_) HT_.out rfl rfl (by kernel_rfl) (fun _ _ _ h => h) (Or.inl ⟨by rfl, ?_⟩) ?_ ?_
        rotate_left; (intro w'; go_simp; with_reducible rfl); rotate_left; (simp only [P0, P0n, P2, P3, P4, P5, P6]; rfl)
        refine pure_ (i := 4) (N := some 19) (v := undef) (a' := ?_) #[T, T, T, T, T, F, F, F, F, F, F, F, F, F, F, F, F, F] rfl rfl (any_of HT_.out (by kernel_rfl)) (fun _ _ _ h => h) (Or.inr ⟨by rfl, rfl⟩) ?_ ?_
        rotate_left
        ·simp only [P0, P0n, P2, P3, P4, P5, P6]
         rfl
        refine pure_ (i := 5) (N := some 20) (v := undef) (a' := ?_) #[T, T, T, T, T, T, F, F, F, F, F, F, F, F, F, F, F, F] rfl rfl (any_of HT_.out (by kernel_rfl)) (fun _ _ _ h => h) (Or.inr ⟨by rfl, rfl⟩) ?_ ?_
        rotate_left
        ·simp only [P0, P0n, P2, P3, P4, P5, P6]
         rfl
        refine pure_ (i := 6) (N := some 21) (v := undef) (a' := ?_) #[T, T, T, T, T, T, T, F, F, F, F, F, F, F, F, F, F, F] rfl rfl (any_of HT_.out (by kernel_rfl)) (fun _ _ _ h => h) (Or.inr ⟨by rfl, rfl⟩) ?_ ?_
        rotate_left
        ·simp only [P0, P0n, P2, P3, P4, P5, P6]
         rfl
        refine pure_ (i := 7) (N := some 22) (v := undef) (a' := ?_) #[T, T, T, T, T, T, T, T, F, F, F, F, F, F, F, F, F, F] rfl rfl (any_of HT_.out (by kernel_rfl)) (fun _ _ _ h => h) (Or.inr ⟨by rfl, rfl⟩) ?_ ?_
        rotate_left
        ·simp only [P0, P0n, P2, P3, P4, P5, P6]
         rfl
        refine pure_ (i := 8) (N := some 23) (v := undef) (a' := ?_) #[T, T, T, T, T, T, T, T, T, F, F, F, F, F, F, F, F, F] rfl rfl (any_of HT_.out (by kernel_rfl)) (fun _ _ _ h => h) (Or.inr ⟨by rfl, rfl⟩) ?_ ?_
        rotate_left
        ·simp only [P0, P0n, P2, P3, P4, P5, P6]
         rfl
        refine pure_ (i := 9) (N := some 24) (v := undef) (a' := ?_) #[T, T, T, T, T, T, T, T, T, T, F, F, F, F, F, F, F, F] rfl rfl (any_of HT_.out (by kernel_rfl)) (fun _ _ _ h => h) (Or.inr ⟨by rfl, rfl⟩) ?_ ?_
        rotate_left
        ·simp only [P0, P0n, P2, P3, P4, P5, P6]
         rfl
        refine pure_ (i := 10) (N := some 25) (v := undef) (a' := ?_) #[T, T, T, T, T, T, T, T, T, T, T, F, F, F, F, F, F, F] rfl rfl (any_of HT_.out (by kernel_rfl)) (fun _ _ _ h => h) (Or.inr ⟨by rfl, rfl⟩) ?_ ?_
        rotate_left
        ·simp only [P0, P0n, P2, P3, P4, P5, P6]
         rfl
        refine pure_ (i := 11) (N := some 26) (v := undef) (a' := ?_) #[T, T, T, T, T, T, T, T, T, T, T, T, F, F, F, F, F, F] rfl rfl (any_of HT_.out (by kernel_rfl)) (fun _ _ _ h => h) (Or.inr ⟨by rfl, rfl⟩) ?_ ?_
        rotate_left
        ·simp only [P0, P0n, P2, P3, P4, P5, P6]
         rfl
        refine pure_ (i := 12) (N := some 27) (v := undef) (a' := ?_) #[T, T, T, T, T, T, T, T, T, T, T, T, T, F, F, F, F, F] rfl rfl (any_of HT_.out (by kernel_rfl)) (fun _ _ _ h => h) (Or.inr ⟨by rfl, rfl⟩) ?_ ?_
        rotate_left
        ·simp only [P0, P0n, P2, P3, P4, P5, P6]
         rfl
        refine pure_ (i := 13) (N := some 28) (v := undef) (a' := ?_) #[T, T, T, T, T, T, T, T, T, T, T, T, T, T, F, F, F, F] rfl rfl (any_of HT_.out (by kernel_rfl)) (fun _ _ _ h => h) (Or.inr ⟨by rfl, rfl⟩) ?_ ?_
        rotate_left
        ·simp only [P0, P0n, P2, P3, P4, P5, P6]
         rfl
        refine pure_ (i := 14) (N := some 29) (v := undef) (a' := ?_) #[T, T, T, T, T, T, T, T, T, T, T, T, T, T, T, F, F, F] rfl rfl (any_of HT_.out (by kernel_rfl)) (fun _ _ _ h => h) (Or.inr ⟨by rfl, rfl⟩) ?_ ?_
        rotate_left
        ·simp only [P0, P0n, P2, P3, P4, P5, P6]
         rfl
        refine pure_ (i := 15) (N := some 30) (v := undef) (a' := ?_) #[T, T, T, T, T, T, T, T, T, T, T, T, T, T, T, T, F, F] rfl rfl (any_of HT_.out (by kernel_rfl)) (fun _ _ _ h => h) (Or.inr ⟨by rfl, rfl⟩) ?_ ?_
        rotate_left
        ·simp only [P0, P0n, P2, P3, P4, P5, P6]
         rfl
        refine pure_ (i := 16) (N := some 31) (v := undef) (a' := ?_) #[T, T, T, T, T, T, T, T, T, T, T, T, T, T, T, T, T, F] rfl rfl (any_of HT_.out (by kernel_rfl)) (fun _ _ _ h => h) (Or.inr ⟨by rfl, rfl⟩) ?_ ?_
        rotate_left
        ·simp only [P0, P0n, P2, P3, P4, P5, P6]
         rfl
        refine pu (i := 17) (N := some 32) (v := ?_) (a' := ?_) HT_.out rfl rfl (by kernel_rfl) (fun _ _ _ h => h) (Or.inl ⟨by rfl, ?_⟩) ?_ ?_
        rotate_left; (intro w'; go_simp; with_reducible rfl); rotate_left; (simp only [P0, P0n, P2, P3, P4, P5, P6]; rfl)
        refine done_ (done_of HT_.out (by kernel_rfl)) ?_
        try go_wp2
        go_ret
        exact ⟨by first | rfl | (simp [errW_none, errW_some] <;> rfl) | (simp [*, errW_none, errW_some] <;> rfl), by repeat (first | (with_reducible first | exact HB.out | apply below_alloc | apply pw_below_drewN | apply below_drew1 | refine below_set ?_ GE102.out) | exact HB.out)⟩
      ·rw [if_neg c5] at H
       exact absurd H (by simp)
     ·rw [if_neg c4] at H
      exact absurd H (by simp)
    ·rw [if_neg c3] at H
     have c3b0 : decide (x10_1 < (l0.length : Int)) = false := decide_eq_false c3
     clear c3
     obtain rfl := Option.some.inj H
     go_wp2
     go_ret
     exact ⟨by first | rfl | (simp [errW_none, errW_some] <;> rfl) | (simp [*, errW_none, errW_some] <;> rfl), eb HB.out⟩

end Go.Proofs.Ytpdmimlkgmhepaa.G

/- The plain functions of this seat's Go text and, for each, that the call comes to what its plain function says: written for this claim by a program of the session (drv.py) over the kit's print.py. -/
namespace Go.Proofs.Ytpdmimlkgmhepaa.G
open Go.RowKit Go.Proofs.YtpdmimlkgmhepaaW.PrintWords Go.Proofs.YtpdmimlkgmhepaaW.PrintLast Go.Proofs.YtpdmimlkgmhepaaW.PrintMore
attribute [local go_sem] max2_int min2_int max_two min_two max_three min_three max_four min_four   -- for this text's walks alone
set_option linter.unusedVariables false
set_option linter.unusedSimpArgs false

/-! ### impl_StripGap: function 37 -/
def impl_StripGap.j0 : Nat → Int → ByteArray → Bool → Int → Int → Int → Int → ByteArray → Bool → Int → Int → Int → Int → Option (Int)
 | 0, _, _, _, _, _, _, _, _, _, _, _, _, _ => none
 | k + 1, x5, x102000, x102001, x102002, x102003, x102004, x102005, x103000, x103001, x103002, x103003, x103004, x103005 => (impl_in.f x102002 1 3).bind fun t103 => (if t103 = true then ((impl_in.f x103002 1 3).bind fun t104 => (if t104 = true then (if x102002 > x103002 then (some (wrap64 (x5 + (wrap64 (x102002 - x103002))))) else (some x5)) else (some x5))) else (some x5))
def impl_StripGap.f (k : Nat) (a0_0 : ByteArray) (a0_1 : Bool) (a0_2 : Int) (a0_3 : Int) (a0_4 : Int) (a0_5 : Int) (a1_0 : ByteArray) (a1_1 : Bool) (a1_2 : Int) (a1_3 : Int) (a1_4 : Int) (a1_5 : Int) : Option (Int) := if a0_1 = true then (impl_StripGap.j0 k (1 + 1) a0_0 a0_1 a0_2 a0_3 a0_4 a0_5 a1_0 a1_1 a1_2 a1_3 a1_4 a1_5) else (impl_StripGap.j0 k 1 a0_0 a0_1 a0_2 a0_3 a0_4 a0_5 a1_0 a1_1 a1_2 a1_3 a1_4 a1_5)
theorem impl_StripGap.mono_l : ∀ k, (∀ y0 y1 y2 y3 y4 y5 y6 y7 y8 y9 y10 y11 y12, LeO (impl_StripGap.j0 k y0 y1 y2 y3 y4 y5 y6 y7 y8 y9 y10 y11 y12) (impl_StripGap.j0 (k + 1) y0 y1 y2 y3 y4 y5 y6 y7 y8 y9 y10 y11 y12))
 | 0 => fun _ _ _ _ _ _ _ _ _ _ _ _ _ r h => by simp [impl_StripGap.j0] at h
 | k + 1 => by
  have ih0 := impl_StripGap.mono_l k
  ·intro y0 y1 y2 y3 y4 y5 y6 y7 y8 y9 y10 y11 y12
   unfold impl_StripGap.j0
   repeat' first
   | (with_reducible exact ih0 _ _ _ _ _ _ _ _ _ _ _ _ _)
   | (with_reducible exact LeO.refl _)
   | (with_reducible exact LeO.none _)
   | (with_reducible refine LeO.ite ?_ ?_)
   | (with_reducible refine LeO.bind ?_ (fun _ => ?_))
   | exact ih0 _ _ _ _ _ _ _ _ _ _ _ _ _
   | exact LeO.none _
   | refine LeO.ite ?_ ?_
   | refine LeO.bind ?_ (fun _ => ?_)
theorem impl_StripGap.mono : ∀ a0 a1 a2 a3 a4 a5 a6 a7 a8 a9 a10 a11 k, LeO (impl_StripGap.f k a0 a1 a2 a3 a4 a5 a6 a7 a8 a9 a10 a11) (impl_StripGap.f (k + 1) a0 a1 a2 a3 a4 a5 a6 a7 a8 a9 a10 a11) := by
 intro a0 a1 a2 a3 a4 a5 a6 a7 a8 a9 a10 a11 k
 have ih0 := impl_StripGap.mono_l k
 unfold impl_StripGap.f
 repeat' first
   | (with_reducible exact ih0 _ _ _ _ _ _ _ _ _ _ _ _ _)
   | (with_reducible exact LeO.refl _)
   | (with_reducible exact LeO.none _)
   | (with_reducible refine LeO.ite ?_ ?_)
   | (with_reducible refine LeO.bind ?_ (fun _ => ?_))
   | exact ih0 _ _ _ _ _ _ _ _ _ _ _ _ _
   | exact LeO.none _
   | refine LeO.ite ?_ ?_
   | refine LeO.bind ?_ (fun _ => ?_)
set_option maxHeartbeats 8000000 in
set_option maxRecDepth 100000 in
theorem impl_StripGap.calls (k : Nat) (a0_0 : ByteArray) (a0_1 : Bool) (a0_2 : Int) (a0_3 : Int) (a0_4 : Int) (a0_5 : Int) (a1_0 : ByteArray) (a1_1 : Bool) (a1_2 : Int) (a1_3 : Int) (a1_4 : Int) (a1_5 : Int) (r : Int) (w : World) (h : impl_StripGap.f k a0_0 a0_1 a0_2 a0_3 a0_4 a0_5 a1_0 a1_1 a1_2 a1_3 a1_4 a1_5 = some r) :
  Calls Try.prog 37 #[.agg #[.string a0_0, .bool a0_1, .int .i64 a0_2, .int .i64 a0_3, .int .i64 a0_4, .int .i64 a0_5], .agg #[.string a1_0, .bool a1_1, .int .i64 a1_2, .int .i64 a1_3, .int .i64 a1_4, .int .i64 a1_5]] w fun e w' => e = .returned (.int .i64 r) ∧ Below w.heap.size w w' := by
 have hu54 := Try.underlying54
 have HB := Aside0.mk (Below.refl w.heap.size w)
 have H : (if a0_1 = true then (impl_StripGap.j0 k (1 + 1) a0_0 a0_1 a0_2 a0_3 a0_4 a0_5 a1_0 a1_1 a1_2 a1_3 a1_4 a1_5) else (impl_StripGap.j0 k 1 a0_0 a0_1 a0_2 a0_3 a0_4 a0_5 a1_0 a1_1 a1_2 a1_3 a1_4 a1_5)) = some r := h
 clear h
 have HC3 := Aside0.mk H
 clear H
 go_enter Try.func37, Try.ntmps37
 go_upto_if 7 with (first | ((with_reducible refine gate_dst (N := 2) rfl ?_); refine box_event ?hg (N := 2) ?hd (cs := #[.string a0_0, .bool a0_1, .int .i64 a0_2, .int .i64 a0_3, .int .i64 a0_4, .int .i64 a0_5]) (t := 54) ?hr ?_; (case hd => rfl); (case hg => rfl); (case hr => first | (go_simp; done) | (go_simp; rfl)); intro gb101 hg w4 hbox hb; have n0_ := Aside0.mk (below_step (eb HB.out) hb); have n1_ := Aside0.mk (hbox); have n2_ := Aside0.mk ((by rw [hg]; exact (below_size (eb HB.out)) : w.heap.size ≤ gb101)); have n3_ := Aside0.mk ((by rw [hg]; exact (below_size (eb HB.out)) : w.heap.size ≤ gb101)); clear HB; have HB := n0_; have BK101 := n1_; have GW101 := n2_; have GE101 := n3_; clear n0_ n1_ n2_ n3_; clear hb hbox hg) | ((with_reducible refine gate_dst (N := 3) rfl ?_); refine box_event ?hg (N := 3) ?hd (cs := #[.string a1_0, .bool a1_1, .int .i64 a1_2, .int .i64 a1_3, .int .i64 a1_4, .int .i64 a1_5]) (t := 54) ?hr ?_; (case hd => rfl); (case hg => rfl); (case hr => first | (go_simp; done) | (go_simp; rfl)); intro gb102 hg w5 hbox hb; have n0_ := Aside0.mk (blk_below (g := gb101) (o := .cells #[.string a0_0, .bool a0_1, .int .i64 a0_2, .int .i64 a0_3, .int .i64 a0_4, .int .i64 a0_5] 54 (0, 0)) (ex BK101.out) hb); have n1_ := Aside0.mk (below_step (by repeat (first | (with_reducible first | exact HB.out | apply below_alloc | apply pw_below_drewN | apply below_drew1 | refine below_set ?_ GE101.out) | exact HB.out)) hb); have n2_ := Aside0.mk (hbox); have n3_ := Aside0.mk ((by rw [hg]; exact (below_size (by repeat (first | (with_reducible first | exact HB.out | apply below_alloc | apply pw_below_drewN | apply below_drew1 | refine below_set ?_ GE101.out) | exact HB.out))) : w.heap.size ≤ gb102)); have n4_ := Aside0.mk ((by rw [hg]; exact (below_size (by repeat (first | (with_reducible first | exact HB.out | apply below_alloc | apply pw_below_drewN | apply below_drew1 | refine below_set ?_ GE101.out) | exact HB.out))) : w.heap.size ≤ gb102)); have n5_ := Aside0.mk ((by rw [hg]; exact Nat.ne_of_lt (blk_lt (g := gb101) (o := .cells #[.string a0_0, .bool a0_1, .int .i64 a0_2, .int .i64 a0_3, .int .i64 a0_4, .int .i64 a0_5] 54 (0, 0)) (ex BK101.out)) : gb101 ≠ gb102)); have n6_ := Aside0.mk ((by rw [hg]; exact Nat.ne_of_gt (blk_lt (g := gb101) (o := .cells #[.string a0_0, .bool a0_1, .int .i64 a0_2, .int .i64 a0_3, .int .i64 a0_4, .int .i64 a0_5] 54 (0, 0)) (ex BK101.out)) : gb102 ≠ gb101)); clear BK101; clear HB; have BK101 := n0_; have HB := n1_; have BK102 := n2_; have GW102 := n3_; have GE102 := n4_; have NB101_102 := n5_; have NB102_101 := n6_; clear n0_ n1_ n2_ n3_ n4_ n5_ n6_; clear hb hbox hg; have hnb6 := NB101_102.out; have hnc6 := NB102_101.out; obtain ⟨hcz7_0, hcz7_1, hcz7_2, hcz7_3, hcz7_4, hcz7_5⟩ := bc6 BK101.out; obtain ⟨hfz7_0, hfz7_1, hfz7_2, hfz7_3, hfz7_4, hfz7_5⟩ := bf6 BK101.out))
 (try simp only [Act.put, List.setIfInBounds_toArray, List.set_cons_zero, List.set_cons_succ])
 go_cut [5] (fun v5 wc => ∃ (kq : Nat) (x5_2 : Int), v5 = .int .i64 x5_2 ∧ Aside0 (impl_StripGap.j0 kq x5_2 a0_0 a0_1 a0_2 a0_3 a0_4 a0_5 a1_0 a1_1 a1_2 a1_3 a1_4 a1_5 = some r) ∧ Aside0 (kq ≤ k) ∧ Aside0 (wc.heap[gb101]? = some (.cells #[.string a0_0, .bool a0_1, .int .i64 a0_2, .int .i64 a0_3, .int .i64 a0_4, .int .i64 a0_5] 54 (0, 0))) ∧ Aside0 (wc.heap[gb102]? = some (.cells #[.string a1_0, .bool a1_1, .int .i64 a1_2, .int .i64 a1_3, .int .i64 a1_4, .int .i64 a1_5] 54 (0, 0))) ∧ Aside0 (Below w.heap.size w wc))
 case first =>
  have H := HC3.out
  clear HC3
  by_cases c8 : a0_1 = true
  ·subst c8
   have H1 : (impl_StripGap.j0 k (1 + 1) a0_0 true a0_2 a0_3 a0_4 a0_5 a1_0 a1_1 a1_2 a1_3 a1_4 a1_5) = some r := by rw [if_pos rfl] at H; exact H
   clear H
   have H := H1
   clear H1
   have H' := Aside0.mk H
   clear H
   go_wp2
   go_meet
   case rel => exact ⟨_, (1 + 1), (by first | rfl | (simp; done) | (simp [*]; done)), H', ⟨by first | omega | exact Nat.le_refl _⟩, ⟨ex BK101.out⟩, ⟨ex BK102.out⟩, ⟨by repeat (first | (with_reducible first | exact HB.out | apply below_alloc | apply pw_below_drewN | apply below_drew1 | refine below_set ?_ GE101.out | refine below_set ?_ GE102.out) | exact HB.out)⟩⟩
  ·replace c8 := Bool.eq_false_iff.mpr c8
   subst c8
   have H1 : (impl_StripGap.j0 k 1 a0_0 false a0_2 a0_3 a0_4 a0_5 a1_0 a1_1 a1_2 a1_3 a1_4 a1_5) = some r := by rw [if_neg (show ¬ (false = true) by decide)] at H; exact H
   clear H
   have H := H1
   clear H1
   have H' := Aside0.mk H
   clear H
   go_wp2
   go_meet
   case rel => exact ⟨_, (1), (by first | rfl | (simp; done) | (simp [*]; done)), H', ⟨by first | omega | exact Nat.le_refl _⟩, ⟨ex BK101.out⟩, ⟨ex BK102.out⟩, ⟨by repeat (first | (with_reducible first | exact HB.out | apply below_alloc | apply pw_below_drewN | apply below_drew1 | refine below_set ?_ GE101.out | refine below_set ?_ GE102.out) | exact HB.out)⟩⟩
 case rest =>
  clear HC3
  try clear p2
  try clear c3
  try clear c6
  try clear c8
  try clear hcz7_0
  try clear hcz7_1
  try clear hcz7_2
  try clear hcz7_3
  try clear hcz7_4
  try clear hcz7_5
  try clear hfz7_0
  try clear hfz7_1
  try clear hfz7_2
  try clear hfz7_3
  try clear hfz7_4
  try clear hfz7_5
  obtain ⟨kq, x5_2, rfl, HA, HJ2, BK101, BK102, HB⟩ := hcut
  cases kq with
  | zero => exact absurd HA.out (by simp [impl_StripGap.j0])
  | succ kj2 =>
   have H := HA.out
   clear HA
   simp only [impl_StripGap.j0] at H
   replace H := Option.bind_eq_some_iff.mp H
   obtain ⟨t103, A90, H⟩ := H
   replace H : (if t103 = true then ((impl_in.f a1_2 1 3).bind fun t104 => (if t104 = true then (if a0_2 > a1_2 then (some (wrap64 (x5_2 + (wrap64 (a0_2 - a1_2))))) else (some x5_2)) else (some x5_2))) else (some x5_2)) = some r := H
   have A9 := Aside0.mk A90
   clear A90
   by_cases c10 : t103 = true
   ·subst c10
    have H1 : ((impl_in.f a1_2 1 3).bind fun t104 => (if t104 = true then (if a0_2 > a1_2 then (some (wrap64 (x5_2 + (wrap64 (a0_2 - a1_2))))) else (some x5_2)) else (some x5_2))) = some r := by rw [if_pos rfl] at H; exact H
    clear H
    have H := H1
    clear H1
    replace H := Option.bind_eq_some_iff.mp H
    obtain ⟨t104, A110, H⟩ := H
    replace H : (if t104 = true then (if a0_2 > a1_2 then (some (wrap64 (x5_2 + (wrap64 (a0_2 - a1_2))))) else (some x5_2)) else (some x5_2)) = some r := H
    have A11 := Aside0.mk A110
    clear A110
    by_cases c12 : t104 = true
    ·subst c12
     have H1 : (if a0_2 > a1_2 then (some (wrap64 (x5_2 + (wrap64 (a0_2 - a1_2))))) else (some x5_2)) = some r := by rw [if_pos rfl] at H; exact H
     clear H
     have H := H1
     clear H1
     by_cases c13 : a0_2 > a1_2
     ·rw [if_pos c13] at H
      have c13b0 : decide (a1_2 < a0_2) = true := decide_eq_true c13
      clear c13
      obtain rfl := Option.some.inj H
      have hnb14 := NB101_102.out
      have hnc14 := NB102_101.out
      obtain ⟨hcz15_0, hcz15_1, hcz15_2, hcz15_3, hcz15_4, hcz15_5⟩ := bc6 BK101.out
      obtain ⟨hfz15_0, hfz15_1, hfz15_2, hfz15_3, hfz15_4, hfz15_5⟩ := bf6 BK101.out
      go_wp2_with (first | ((with_reducible refine gate_callee (f := 58) rfl ?_); refine goesL_ (some 12) rfl rfl Try.func58 (by kernel_rfl) rfl #[.int .i64 a0_2, .int .i64 1, .int .i64 3] rfl (by (try simp only [List.map_toArray, List.map_cons, List.map_nil]); first | done | rfl | (simp only [List.length_drop, List.length_take]; rfl)) ?_; (with_reducible refine (impl_in.calls a0_2 1 3 true _ A9.out).mono ?_); rintro e w' ⟨rfl, ⟨nd, rfl⟩⟩; refine ⟨_, rfl, ?_⟩; obtain ⟨hcz16_0, hcz16_1, hcz16_2, hcz16_3, hcz16_4, hcz16_5⟩ := bc6 BK102.out; obtain ⟨hfz16_0, hfz16_1, hfz16_2, hfz16_3, hfz16_4, hfz16_5⟩ := bf6 BK102.out) | (go_at_call 58; (with_reducible refine (impl_in.calls a1_2 1 3 true _ A11.out).mono ?_); rintro e w' ⟨rfl, ⟨nd, rfl⟩⟩))
      go_ret
      exact ⟨by first | rfl | (simp [errW_none, errW_some] <;> rfl) | (simp [*, errW_none, errW_some] <;> rfl), by repeat (first | (with_reducible first | exact HB.out | apply below_alloc | apply pw_below_drewN | apply below_drew1 | refine below_set ?_ GE101.out | refine below_set ?_ GE102.out) | exact HB.out)⟩
     ·rw [if_neg c13] at H
      have c13b0 : decide (a1_2 < a0_2) = false := decide_eq_false c13
      clear c13
      obtain rfl := Option.some.inj H
      have hnb17 := NB101_102.out
      have hnc17 := NB102_101.out
      obtain ⟨hcz18_0, hcz18_1, hcz18_2, hcz18_3, hcz18_4, hcz18_5⟩ := bc6 BK101.out
      obtain ⟨hfz18_0, hfz18_1, hfz18_2, hfz18_3, hfz18_4, hfz18_5⟩ := bf6 BK101.out
      go_wp2_with (first | ((with_reducible refine gate_callee (f := 58) rfl ?_); refine goesL_ (some 12) rfl rfl Try.func58 (by kernel_rfl) rfl #[.int .i64 a0_2, .int .i64 1, .int .i64 3] rfl (by (try simp only [List.map_toArray, List.map_cons, List.map_nil]); first | done | rfl | (simp only [List.length_drop, List.length_take]; rfl)) ?_; (with_reducible refine (impl_in.calls a0_2 1 3 true _ A9.out).mono ?_); rintro e w' ⟨rfl, ⟨nd, rfl⟩⟩; refine ⟨_, rfl, ?_⟩; obtain ⟨hcz19_0, hcz19_1, hcz19_2, hcz19_3, hcz19_4, hcz19_5⟩ := bc6 BK102.out; obtain ⟨hfz19_0, hfz19_1, hfz19_2, hfz19_3, hfz19_4, hfz19_5⟩ := bf6 BK102.out) | (go_at_call 58; (with_reducible refine (impl_in.calls a1_2 1 3 true _ A11.out).mono ?_); rintro e w' ⟨rfl, ⟨nd, rfl⟩⟩))
      go_ret
      exact ⟨by first | rfl | (simp [errW_none, errW_some] <;> rfl) | (simp [*, errW_none, errW_some] <;> rfl), by repeat (first | (with_reducible first | exact HB.out | apply below_alloc | apply pw_below_drewN | apply below_drew1 | refine below_set ?_ GE101.out | refine below_set ?_ GE102.out) | exact HB.out)⟩
    ·replace c12 := Bool.eq_false_iff.mpr c12
     subst c12
     have H1 : (some x5_2) = some r := by rw [if_neg (show ¬ (false = true) by decide)] at H; exact H
     clear H
     have H := H1
     clear H1
     obtain rfl := Option.some.inj H
     have hnb20 := NB101_102.out
     have hnc20 := NB102_101.out
     obtain ⟨hcz21_0, hcz21_1, hcz21_2, hcz21_3, hcz21_4, hcz21_5⟩ := bc6 BK101.out
     obtain ⟨hfz21_0, hfz21_1, hfz21_2, hfz21_3, hfz21_4, hfz21_5⟩ := bf6 BK101.out
     go_wp2_with (first | ((with_reducible refine gate_callee (f := 58) rfl ?_); refine goesL_ (some 12) rfl rfl Try.func58 (by kernel_rfl) rfl #[.int .i64 a0_2, .int .i64 1, .int .i64 3] rfl (by (try simp only [List.map_toArray, List.map_cons, List.map_nil]); first | done | rfl | (simp only [List.length_drop, List.length_take]; rfl)) ?_; (with_reducible refine (impl_in.calls a0_2 1 3 true _ A9.out).mono ?_); rintro e w' ⟨rfl, ⟨nd, rfl⟩⟩; refine ⟨_, rfl, ?_⟩; obtain ⟨hcz22_0, hcz22_1, hcz22_2, hcz22_3, hcz22_4, hcz22_5⟩ := bc6 BK102.out; obtain ⟨hfz22_0, hfz22_1, hfz22_2, hfz22_3, hfz22_4, hfz22_5⟩ := bf6 BK102.out) | (go_at_call 58; (with_reducible refine (impl_in.calls a1_2 1 3 false _ A11.out).mono ?_); rintro e w' ⟨rfl, ⟨nd, rfl⟩⟩))
     go_ret
     exact ⟨by first | rfl | (simp [errW_none, errW_some] <;> rfl) | (simp [*, errW_none, errW_some] <;> rfl), by repeat (first | (with_reducible first | exact HB.out | apply below_alloc | apply pw_below_drewN | apply below_drew1 | refine below_set ?_ GE101.out | refine below_set ?_ GE102.out) | exact HB.out)⟩
   ·replace c10 := Bool.eq_false_iff.mpr c10
    subst c10
    have H1 : (some x5_2) = some r := by rw [if_neg (show ¬ (false = true) by decide)] at H; exact H
    clear H
    have H := H1
    clear H1
    obtain rfl := Option.some.inj H
    have hnb23 := NB101_102.out
    have hnc23 := NB102_101.out
    obtain ⟨hcz24_0, hcz24_1, hcz24_2, hcz24_3, hcz24_4, hcz24_5⟩ := bc6 BK101.out
    obtain ⟨hfz24_0, hfz24_1, hfz24_2, hfz24_3, hfz24_4, hfz24_5⟩ := bf6 BK101.out
    go_wp2_with (first | ((with_reducible refine gate_callee (f := 58) rfl ?_); refine goesL_ (some 12) rfl rfl Try.func58 (by kernel_rfl) rfl #[.int .i64 a0_2, .int .i64 1, .int .i64 3] rfl (by (try simp only [List.map_toArray, List.map_cons, List.map_nil]); first | done | rfl | (simp only [List.length_drop, List.length_take]; rfl)) ?_; (with_reducible refine (impl_in.calls a0_2 1 3 false _ A9.out).mono ?_); rintro e w' ⟨rfl, ⟨nd, rfl⟩⟩; refine ⟨_, rfl, ?_⟩))
    go_ret
    exact ⟨by first | rfl | (simp [errW_none, errW_some] <;> rfl) | (simp [*, errW_none, errW_some] <;> rfl), by repeat (first | (with_reducible first | exact HB.out | apply below_alloc | apply pw_below_drewN | apply below_drew1 | refine below_set ?_ GE101.out | refine below_set ?_ GE102.out) | exact HB.out)⟩

end Go.Proofs.Ytpdmimlkgmhepaa.G
