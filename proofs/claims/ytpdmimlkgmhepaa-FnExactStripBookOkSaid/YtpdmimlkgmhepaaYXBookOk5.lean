/- FnExactStripBookOk, part 5 of 5: for every input the law returns true and each argument reads behind the call as it read before; no condition -/
import Derived.Deep.Slices
import Derived.Deep.Fields
import Derived.ChangeSame
import Derived.Lib.SmallJoins
import Derived.WalkKit
import Derived.ProofKit
import Derived.OpenShut
import Derived.ShutString
import Derived.ChangeOld
import Derived.SizedLaws
import Derived.Test.YtpdmimlkgmhepaaRows
import Derived.Below
import Derived.Test.YtpdmimlkgmhepaaYXBookOk0
import Derived.Test.YtpdmimlkgmhepaaYXBookOk1
import Derived.Test.YtpdmimlkgmhepaaYXBookOk2
import Derived.Test.YtpdmimlkgmhepaaYXBookOk3
import Derived.Test.YtpdmimlkgmhepaaYXBookOk4
/- The plain functions of this seat's Go text and, for each, that the call comes to what its plain function says: written for this claim by a program of the session (drv.py) over the kit's print.py. -/
namespace Go.Proofs.Ytpdmimlkgmhepaa.G
open Go.RowKit Go.Proofs.YtpdmimlkgmhepaaW.PrintWords Go.Proofs.YtpdmimlkgmhepaaW.PrintLast Go.Proofs.YtpdmimlkgmhepaaW.PrintMore
attribute [local go_sem] max2_int min2_int max_two min_two max_three min_three max_four min_four   -- for this text's walks alone
set_option linter.unusedVariables false
set_option linter.unusedSimpArgs false

/-! ### laws_eqStripMoveS: function 19 -/
def laws_eqStripMoveS.l0 : Nat → List (S54) → List (S54) → Int → Option (Bool)
 | 0, _, _, _ => none
 | k + 1, x0, x1, x5 => if x5 < (x0.length : Int) then (if 0 ≤ x5 then (if x5 < (x1.length : Int) then ((laws_eqStripMove.f ((rd_T54 x0 x5).f0) ((rd_T54 x0 x5).f1) ((rd_T54 x0 x5).f2) ((rd_T54 x0 x5).f3) ((rd_T54 x0 x5).f4) ((rd_T54 x0 x5).f5) ((rd_T54 x1 x5).f0) ((rd_T54 x1 x5).f1) ((rd_T54 x1 x5).f2) ((rd_T54 x1 x5).f3) ((rd_T54 x1 x5).f4) ((rd_T54 x1 x5).f5)).bind fun t103 => (if t103 = true then (laws_eqStripMoveS.l0 k x0 x1 (wrap64 (x5 + 1))) else (some false))) else (none)) else (none)) else (some true)
def laws_eqStripMoveS.f (k : Nat) (l0 : List (S54)) (l1 : List (S54)) : Option (Bool) := if (l0.length : Int) = (l1.length : Int) then (laws_eqStripMoveS.l0 k l0 l1 0) else (some false)
theorem laws_eqStripMoveS.mono_l : ∀ k, (∀ y0 y1 y2, LeO (laws_eqStripMoveS.l0 k y0 y1 y2) (laws_eqStripMoveS.l0 (k + 1) y0 y1 y2))
 | 0 => fun _ _ _ r h => by simp [laws_eqStripMoveS.l0] at h
 | k + 1 => by
  have ih0 := laws_eqStripMoveS.mono_l k
  ·intro y0 y1 y2
   unfold laws_eqStripMoveS.l0
   repeat' first
   | (with_reducible exact ih0 _ _ _)
   | (with_reducible exact LeO.refl _)
   | (with_reducible exact LeO.none _)
   | (with_reducible refine LeO.ite ?_ ?_)
   | (with_reducible refine LeO.bind ?_ (fun _ => ?_))
   | exact ih0 _ _ _
   | exact LeO.none _
   | refine LeO.ite ?_ ?_
   | refine LeO.bind ?_ (fun _ => ?_)
theorem laws_eqStripMoveS.mono : ∀ a0 a1 k, LeO (laws_eqStripMoveS.f k a0 a1) (laws_eqStripMoveS.f (k + 1) a0 a1) := by
 intro a0 a1 k
 have ih0 := laws_eqStripMoveS.mono_l k
 unfold laws_eqStripMoveS.f
 repeat' first
   | (with_reducible exact ih0 _ _ _)
   | (with_reducible exact LeO.refl _)
   | (with_reducible exact LeO.none _)
   | (with_reducible refine LeO.ite ?_ ?_)
   | (with_reducible refine LeO.bind ?_ (fun _ => ?_))
   | exact ih0 _ _ _
   | exact LeO.none _
   | refine LeO.ite ?_ ?_
   | refine LeO.bind ?_ (fun _ => ?_)
def laws_eqStripMoveS.T6 : Bool × List (List Nat × List Nat) := (true, [([], []), ([], []), ([0, 1], [0, 1]), ([2], [2]), ([], []), ([], []), ([4, 5], [4, 5]), ([6], [6]), ([3, 7], [3, 7]), ([8], [8])])
def laws_eqStripMoveS.B6 : List Nat := [0, 0, 3, 7, 0, 0, 48, 112, 255, 511]
theorem laws_eqStripMoveS.tab6 : rtab .any (opsOf Try.f19 6) = laws_eqStripMoveS.T6 := by kernel_rfl
theorem laws_eqStripMoveS.bits6 : waitsOk laws_eqStripMoveS.T6.2 laws_eqStripMoveS.B6 = true := by kernel_rfl
set_option maxHeartbeats 8000000 in
set_option maxRecDepth 100000 in
theorem laws_eqStripMoveS.calls (k : Nat) (A0 : Option Addr) (c0 : Nat) (l0 : List (S54)) (A1 : Option Addr) (c1 : Nat) (l1 : List (S54)) (r : Bool) (w : World) (hr0 : Kd.C k54 w A0 l0.length l0) (hc0 : l0.length ≤ c0) (hr1 : Kd.C k54 w A1 l1.length l1) (hc1 : l1.length ≤ c1) (h : laws_eqStripMoveS.f k l0 l1 = some r) :
  Calls Try.prog 19 #[.slice A0 l0.length c0, .slice A1 l1.length c1] w fun e w' => e = .returned (.bool r) ∧ Below w.heap.size w w' := by
 have hu54 := Try.underlying54
 have HR0 := Aside0.mk hr0
 have HC0 := Aside0.mk hc0
 clear hr0 hc0
 have HR1 := Aside0.mk hr1
 have HC1 := Aside0.mk hc1
 clear hr1 hc1
 have HB := Aside0.mk (Below.refl w.heap.size w)
 have H : (if (l0.length : Int) = (l1.length : Int) then (laws_eqStripMoveS.l0 k l0 l1 0) else (some false)) = some r := h
 clear h
 by_cases c3 : (l0.length : Int) = (l1.length : Int)
 ·rw [if_pos c3] at H
  have c3b0 : ((l0.length : Int) == (l1.length : Int)) = true := beq_iff_eq.mpr c3
  have c3b1 : ((l0.length : Int) != (l1.length : Int)) = false := bne_eq_false_iff_eq.mpr c3
  have c3b2 : (l0.length == l1.length) = true := by first | simpa using c3 | (simp at c3 ⊢; omega)
  clear c3
  have H' := Aside0.mk H
  clear H
  go_enter Try.func19, Try.ntmps19
  go_wp2
  go_loopg [5] k (fun kq v5 w' => ∃ (x5_1 : Int), v5 = .int .i64 x5_1 ∧ Aside0 (laws_eqStripMoveS.l0 kq l0 l1 x5_1 = some r) ∧ Aside0 (kq ≤ k) ∧ Aside0 (Below w.heap.size w w'))
  case atStart => exact ⟨(0), (by first | rfl | (simp; done) | (simp [*]; done)), H', ⟨Nat.le_refl _⟩, ⟨eb HB.out⟩⟩
  case round =>
   clear H'
   try clear c1
   try clear p2
   try clear c3
   try clear c3b0
   try clear c3b1
   try clear c3b2
   obtain ⟨x5_1, rfl, HA, HK1, HB⟩ := hrel
   cases gk with
   | zero => exact absurd HA.out (by simp [laws_eqStripMoveS.l0])
   | succ k1 =>
    have H := HA.out
    clear HA
    simp only [laws_eqStripMoveS.l0] at H
    by_cases c4 : x5_1 < (l0.length : Int)
    ·rw [if_pos c4] at H
     have c4b0 : decide (x5_1 < (l0.length : Int)) = true := decide_eq_true c4
     clear c4
     by_cases c5 : 0 ≤ x5_1
     ·rw [if_pos c5] at H
      have c5b0 : decide (0 ≤ x5_1) = true := decide_eq_true c5
      clear c5
      by_cases c6 : x5_1 < (l1.length : Int)
      ·rw [if_pos c6] at H
       have c6b0 : decide (x5_1 < (l1.length : Int)) = true := decide_eq_true c6
       clear c6
       replace H := Option.bind_eq_some_iff.mp H
       obtain ⟨t103, A70, H⟩ := H
       replace H : (if t103 = true then (laws_eqStripMoveS.l0 k1 l0 l1 (wrap64 (x5_1 + 1))) else (some false)) = some r := H
       have A7 := Aside0.mk A70
       clear A70
       by_cases c8 : t103 = true
       ·subst c8
        have H1 : (laws_eqStripMoveS.l0 k1 l0 l1 (wrap64 (x5_1 + 1))) = some r := by rw [if_pos rfl] at H; exact H
        clear H
        have H := H1
        clear H1
        have H' := Aside0.mk H
        clear H
        try go_wp2
        have n0_ := Aside0.mk (below_drew1 HB.out)
        clear HB
        have HB := n0_
        clear n0_
        have p101 : 0 ≤ (x5_1 : Int) := of_decide_eq_true (by first | (with_reducible assumption) | assumption)
        have q101 : x5_1 < (l0.length : Int) := of_decide_eq_true (by first | (with_reducible assumption) | assumption)
        obtain ⟨ad101, e101, hx101_0, hx101_1, hx101_2, hx101_3, hx101_4, hx101_5⟩ := at_T54 HR0.out x5_1 p101 q101
        have hw101_5 := hx101_5
        have hw101_4 := hx101_4
        have hw101_3 := hx101_3
        have hw101_2 := hx101_2
        have hw101_1 := hx101_1
        have hw101_0 := hx101_0
        cases e101
        replace hx101_0 := pw_cell_below HB.out hx101_0
        replace hx101_1 := pw_cell_below HB.out hx101_1
        replace hx101_2 := pw_cell_below HB.out hx101_2
        replace hx101_3 := pw_cell_below HB.out hx101_3
        replace hx101_4 := pw_cell_below HB.out hx101_4
        replace hx101_5 := pw_cell_below HB.out hx101_5
        replace p101 := eq_true p101
        replace q101 := eq_true q101
        have p102 : 0 ≤ (x5_1 : Int) := of_decide_eq_true (by first | (with_reducible assumption) | assumption)
        have q102 : x5_1 < (l1.length : Int) := of_decide_eq_true (by first | (with_reducible assumption) | assumption)
        obtain ⟨ad102, e102, hx102_0, hx102_1, hx102_2, hx102_3, hx102_4, hx102_5⟩ := at_T54 HR1.out x5_1 p102 q102
        have hw102_5 := hx102_5
        have hw102_4 := hx102_4
        have hw102_3 := hx102_3
        have hw102_2 := hx102_2
        have hw102_1 := hx102_1
        have hw102_0 := hx102_0
        cases e102
        replace hx102_0 := pw_cell_below HB.out hx102_0
        replace hx102_1 := pw_cell_below HB.out hx102_1
        replace hx102_2 := pw_cell_below HB.out hx102_2
        replace hx102_3 := pw_cell_below HB.out hx102_3
        replace hx102_4 := pw_cell_below HB.out hx102_4
        replace hx102_5 := pw_cell_below HB.out hx102_5
        replace p102 := eq_true p102
        replace q102 := eq_true q102
        refine start_ (n := 10) (S := fun w' => w'.cell? (ad101.add ((x5_1).toNat * 6)) = some (.string ((rd_T54 l0 x5_1).f0)) ∧ w'.cell? ⟨(ad101.add ((x5_1).toNat * 6)).block, (ad101.add ((x5_1).toNat * 6)).off + 1, none⟩ = some (.bool ((rd_T54 l0 x5_1).f1)) ∧ w'.cell? ⟨(ad101.add ((x5_1).toNat * 6)).block, (ad101.add ((x5_1).toNat * 6)).off + 2, none⟩ = some (.int .i64 ((rd_T54 l0 x5_1).f2)) ∧ w'.cell? ⟨(ad101.add ((x5_1).toNat * 6)).block, (ad101.add ((x5_1).toNat * 6)).off + 3, none⟩ = some (.int .i64 ((rd_T54 l0 x5_1).f3)) ∧ w'.cell? ⟨(ad101.add ((x5_1).toNat * 6)).block, (ad101.add ((x5_1).toNat * 6)).off + 4, none⟩ = some (.int .i64 ((rd_T54 l0 x5_1).f4)) ∧ w'.cell? ⟨(ad101.add ((x5_1).toNat * 6)).block, (ad101.add ((x5_1).toNat * 6)).off + 5, none⟩ = some (.int .i64 ((rd_T54 l0 x5_1).f5)) ∧ w'.cell? (ad102.add ((x5_1).toNat * 6)) = some (.string ((rd_T54 l1 x5_1).f0)) ∧ w'.cell? ⟨(ad102.add ((x5_1).toNat * 6)).block, (ad102.add ((x5_1).toNat * 6)).off + 1, none⟩ = some (.bool ((rd_T54 l1 x5_1).f1)) ∧ w'.cell? ⟨(ad102.add ((x5_1).toNat * 6)).block, (ad102.add ((x5_1).toNat * 6)).off + 2, none⟩ = some (.int .i64 ((rd_T54 l1 x5_1).f2)) ∧ w'.cell? ⟨(ad102.add ((x5_1).toNat * 6)).block, (ad102.add ((x5_1).toNat * 6)).off + 3, none⟩ = some (.int .i64 ((rd_T54 l1 x5_1).f3)) ∧ w'.cell? ⟨(ad102.add ((x5_1).toNat * 6)).block, (ad102.add ((x5_1).toNat * 6)).off + 4, none⟩ = some (.int .i64 ((rd_T54 l1 x5_1).f4)) ∧ w'.cell? ⟨(ad102.add ((x5_1).toNat * 6)).block, (ad102.add ((x5_1).toNat * 6)).off + 5, none⟩ = some (.int .i64 ((rd_T54 l1 x5_1).f5))) (ds := []) #[F, F, F, F, F, F, F, F, F, F] (by kernel_rfl) rfl rfl ⟨(pw_cell_below HB.out hw101_0), (pw_cell_below HB.out hw101_1), (pw_cell_below HB.out hw101_2), (pw_cell_below HB.out hw101_3), (pw_cell_below HB.out hw101_4), (pw_cell_below HB.out hw101_5), (pw_cell_below HB.out hw102_0), (pw_cell_below HB.out hw102_1), (pw_cell_below HB.out hw102_2), (pw_cell_below HB.out hw102_3), (pw_cell_below HB.out hw102_4), (pw_cell_below HB.out hw102_5)⟩ (fun hHeld => ?_); refine with_tabW laws_eqStripMoveS.tab6 laws_eqStripMoveS.bits6 (fun HT_ HW_ => ?_)
        generalize wr.drew = w9 at HB hx101_0 hx101_1 hx101_2 hx101_3 hx101_4 hx101_5 hx102_0 hx102_1 hx102_2 hx102_3 hx102_4 hx102_5 hHeld ⊢
        refine pu (i := 0) (N := some 17) (v := ?_) (a' := ?_) HT_.out rfl rfl (by kernel_rfl) (fun _ _ _ h => h) (Or.inl ⟨by rfl, ?_⟩) ?_ ?_
        rotate_left; (intro w'; go_simp; with_reducible rfl); rotate_left; (simp only [P0, P0n, P2, P3, P4, P5, P6]; rfl)
        refine pu (i := 1) (N := some 18) (v := ?_) (a' := ?_) HT_.out rfl rfl (by kernel_rfl) (fun _ _ _ h => h) (Or.inl ⟨by rfl, ?_⟩) ?_ ?_
        rotate_left; (intro w'; go_simp; with_reducible rfl); rotate_left; (simp only [P0, P0n, P2, P3, P4, P5, P6]; rfl)
        refine pu (i := 2) (N := some 19) (v := ?_) (a' := ?_) HT_.out rfl rfl (by kernel_rfl) (fun _ _ _ h => h) (Or.inl ⟨by rfl, ?_⟩) ?_ ?_
        rotate_left; (intro w'; go_simp; with_reducible rfl); rotate_left; (simp only [P0, P0n, P2, P3, P4, P5, P6]; rfl)
        refine pu (i := 4) (N := some 21) (v := ?_) (a' := ?_) HT_.out rfl rfl (by kernel_rfl) (fun _ _ _ h => h) (Or.inl ⟨by rfl, ?_⟩) ?_ ?_
        rotate_left; (intro w'; go_simp; with_reducible rfl); rotate_left; (simp only [P0, P0n, P2, P3, P4, P5, P6]; rfl)
        refine pu (i := 5) (N := some 22) (v := ?_) (a' := ?_) HT_.out rfl rfl (by kernel_rfl) (fun _ _ _ h => h) (Or.inl ⟨by rfl, ?_⟩) ?_ ?_
        rotate_left; (intro w'; go_simp; with_reducible rfl); rotate_left; (simp only [P0, P0n, P2, P3, P4, P5, P6]; rfl)
        refine pu (i := 6) (N := some 23) (v := ?_) (a' := ?_) HT_.out rfl rfl (by kernel_rfl) (fun _ _ _ h => h) (Or.inl ⟨by rfl, ?_⟩) ?_ ?_
        rotate_left; (intro w'; go_simp; with_reducible rfl); rotate_left; (simp only [P0, P0n, P2, P3, P4, P5, P6]; rfl)
        refine tw (i := 3) (N := some 20) (v := ?_) (a' := ?_) HT_.out HW_.out rfl rfl (by kernel_rfl) (fun _ _ _ h => h) (Or.inl ⟨by rfl, ?_⟩) hHeld ?_ ?_
        rotate_left
        ·rintro w' ⟨s0, s1, s2, s3, s4, s5, s6, s7, s8, s9, s10, s11⟩
         go_simp
         with_reducible rfl
        rotate_left
        ·simp only [P0, P0n, P2, P3, P4, P5, P6]
         rfl
        refine tw (i := 7) (N := some 24) (v := ?_) (a' := ?_) HT_.out HW_.out rfl rfl (by kernel_rfl) (fun _ _ _ h => h) (Or.inl ⟨by rfl, ?_⟩) hHeld ?_ ?_
        rotate_left
        ·rintro w' ⟨s0, s1, s2, s3, s4, s5, s6, s7, s8, s9, s10, s11⟩
         go_simp
         with_reducible rfl
        rotate_left
        ·simp only [P0, P0n, P2, P3, P4, P5, P6]
         rfl
        refine one_ (i := 8) (N := some 25) #[T, T, T, T, T, T, T, T, T, F] rfl rfl (one_of HT_.out (by kernel_rfl)) (by decide) (fun K hK => ?_)
        refine goes_ Try.func55 (by kernel_rfl) rfl #[.agg #[.string ((rd_T54 l0 x5_1).f0), .bool ((rd_T54 l0 x5_1).f1), .int .i64 ((rd_T54 l0 x5_1).f2), .int .i64 ((rd_T54 l0 x5_1).f3), .int .i64 ((rd_T54 l0 x5_1).f4), .int .i64 ((rd_T54 l0 x5_1).f5)], .agg #[.string ((rd_T54 l1 x5_1).f0), .bool ((rd_T54 l1 x5_1).f1), .int .i64 ((rd_T54 l1 x5_1).f2), .int .i64 ((rd_T54 l1 x5_1).f3), .int .i64 ((rd_T54 l1 x5_1).f4), .int .i64 ((rd_T54 l1 x5_1).f5)]] (by rfl) rfl rfl (by (try simp only [List.map_toArray, List.map_cons, List.map_nil]); first | done | rfl | (simp only [List.length_drop, List.length_take]; rfl)) ?_
        with_reducible refine (laws_eqStripMove.calls ((rd_T54 l0 x5_1).f0) ((rd_T54 l0 x5_1).f1) ((rd_T54 l0 x5_1).f2) ((rd_T54 l0 x5_1).f3) ((rd_T54 l0 x5_1).f4) ((rd_T54 l0 x5_1).f5) ((rd_T54 l1 x5_1).f0) ((rd_T54 l1 x5_1).f1) ((rd_T54 l1 x5_1).f2) ((rd_T54 l1 x5_1).f3) ((rd_T54 l1 x5_1).f4) ((rd_T54 l1 x5_1).f5) true _ A7.out).mono ?_
        rintro e w10 ⟨rfl, hb⟩
        refine ⟨_, rfl, ?_⟩
        have n0_ := Aside0.mk (below_step (eb HB.out) hb)
        clear HB
        have HB := n0_
        clear n0_
        (try clear hb)
        (try clear hb2)
        (try clear hk)
        (try clear hi)
        refine hK.out _ _ ⟨(pw_cell_below HB.out hw101_0), (pw_cell_below HB.out hw101_1), (pw_cell_below HB.out hw101_2), (pw_cell_below HB.out hw101_3), (pw_cell_below HB.out hw101_4), (pw_cell_below HB.out hw101_5), (pw_cell_below HB.out hw102_0), (pw_cell_below HB.out hw102_1), (pw_cell_below HB.out hw102_2), (pw_cell_below HB.out hw102_3), (pw_cell_below HB.out hw102_4), (pw_cell_below HB.out hw102_5)⟩ (fun hHeld => ?_)
        clear hK K
        refine norm_ (a' := ?_) ?_ ?_
        rotate_left
        ·show Act.put _ (some 25) _ = _
         simp only [P0, P0n, P2, P3, P4, P5, P6]
         rfl
        refine pu (i := 9) (N := some 26) (v := ?_) (a' := ?_) HT_.out rfl rfl (by kernel_rfl) (fun _ _ _ h => h) (Or.inl ⟨by rfl, ?_⟩) ?_ ?_
        rotate_left; (intro w'; go_simp; with_reducible rfl); rotate_left; (simp only [P0, P0n, P2, P3, P4, P5, P6]; rfl)
        refine done_ (done_of HT_.out (by kernel_rfl)) ?_
        try go_wp2
        go_roundg k1
        case measure => have := HK1.out; omega
        case rel => exact ⟨(wrap64 (x5_1 + 1)), (by first | rfl | (simp; done) | (simp [*]; done)), H', ⟨by have := HK1.out; omega⟩, ⟨eb HB.out⟩⟩
       ·replace c8 := Bool.eq_false_iff.mpr c8
        subst c8
        have H1 : (some false) = some r := by rw [if_neg (show ¬ (false = true) by decide)] at H; exact H
        clear H
        have H := H1
        clear H1
        obtain rfl := Option.some.inj H
        try go_wp2
        have n0_ := Aside0.mk (below_drew1 HB.out)
        clear HB
        have HB := n0_
        clear n0_
        have p101 : 0 ≤ (x5_1 : Int) := of_decide_eq_true (by first | (with_reducible assumption) | assumption)
        have q101 : x5_1 < (l0.length : Int) := of_decide_eq_true (by first | (with_reducible assumption) | assumption)
        obtain ⟨ad101, e101, hx101_0, hx101_1, hx101_2, hx101_3, hx101_4, hx101_5⟩ := at_T54 HR0.out x5_1 p101 q101
        have hw101_5 := hx101_5
        have hw101_4 := hx101_4
        have hw101_3 := hx101_3
        have hw101_2 := hx101_2
        have hw101_1 := hx101_1
        have hw101_0 := hx101_0
        cases e101
        replace hx101_0 := pw_cell_below HB.out hx101_0
        replace hx101_1 := pw_cell_below HB.out hx101_1
        replace hx101_2 := pw_cell_below HB.out hx101_2
        replace hx101_3 := pw_cell_below HB.out hx101_3
        replace hx101_4 := pw_cell_below HB.out hx101_4
        replace hx101_5 := pw_cell_below HB.out hx101_5
        replace p101 := eq_true p101
        replace q101 := eq_true q101
        have p102 : 0 ≤ (x5_1 : Int) := of_decide_eq_true (by first | (with_reducible assumption) | assumption)
        have q102 : x5_1 < (l1.length : Int) := of_decide_eq_true (by first | (with_reducible assumption) | assumption)
        obtain ⟨ad102, e102, hx102_0, hx102_1, hx102_2, hx102_3, hx102_4, hx102_5⟩ := at_T54 HR1.out x5_1 p102 q102
        have hw102_5 := hx102_5
        have hw102_4 := hx102_4
        have hw102_3 := hx102_3
        have hw102_2 := hx102_2
        have hw102_1 := hx102_1
        have hw102_0 := hx102_0
        cases e102
        replace hx102_0 := pw_cell_below HB.out hx102_0
        replace hx102_1 := pw_cell_below HB.out hx102_1
        replace hx102_2 := pw_cell_below HB.out hx102_2
        replace hx102_3 := pw_cell_below HB.out hx102_3
        replace hx102_4 := pw_cell_below HB.out hx102_4
        replace hx102_5 := pw_cell_below HB.out hx102_5
        replace p102 := eq_true p102
        replace q102 := eq_true q102
        refine start_ (n := 10) (S := fun w' => w'.cell? (ad101.add ((x5_1).toNat * 6)) = some (.string ((rd_T54 l0 x5_1).f0)) ∧ w'.cell? ⟨(ad101.add ((x5_1).toNat * 6)).block, (ad101.add ((x5_1).toNat * 6)).off + 1, none⟩ = some (.bool ((rd_T54 l0 x5_1).f1)) ∧ w'.cell? ⟨(ad101.add ((x5_1).toNat * 6)).block, (ad101.add ((x5_1).toNat * 6)).off + 2, none⟩ = some (.int .i64 ((rd_T54 l0 x5_1).f2)) ∧ w'.cell? ⟨(ad101.add ((x5_1).toNat * 6)).block, (ad101.add ((x5_1).toNat * 6)).off + 3, none⟩ = some (.int .i64 ((rd_T54 l0 x5_1).f3)) ∧ w'.cell? ⟨(ad101.add ((x5_1).toNat * 6)).block, (ad101.add ((x5_1).toNat * 6)).off + 4, none⟩ = some (.int .i64 ((rd_T54 l0 x5_1).f4)) ∧ w'.cell? ⟨(ad101.add ((x5_1).toNat * 6)).block, (ad101.add ((x5_1).toNat * 6)).off + 5, none⟩ = some (.int .i64 ((rd_T54 l0 x5_1).f5)) ∧ w'.cell? (ad102.add ((x5_1).toNat * 6)) = some (.string ((rd_T54 l1 x5_1).f0)) ∧ w'.cell? ⟨(ad102.add ((x5_1).toNat * 6)).block, (ad102.add ((x5_1).toNat * 6)).off + 1, none⟩ = some (.bool ((rd_T54 l1 x5_1).f1)) ∧ w'.cell? ⟨(ad102.add ((x5_1).toNat * 6)).block, (ad102.add ((x5_1).toNat * 6)).off + 2, none⟩ = some (.int .i64 ((rd_T54 l1 x5_1).f2)) ∧ w'.cell? ⟨(ad102.add ((x5_1).toNat * 6)).block, (ad102.add ((x5_1).toNat * 6)).off + 3, none⟩ = some (.int .i64 ((rd_T54 l1 x5_1).f3)) ∧ w'.cell? ⟨(ad102.add ((x5_1).toNat * 6)).block, (ad102.add ((x5_1).toNat * 6)).off + 4, none⟩ = some (.int .i64 ((rd_T54 l1 x5_1).f4)) ∧ w'.cell? ⟨(ad102.add ((x5_1).toNat * 6)).block, (ad102.add ((x5_1).toNat * 6)).off + 5, none⟩ = some (.int .i64 ((rd_T54 l1 x5_1).f5))) (ds := []) #[F, F, F, F, F, F, F, F, F, F] (by kernel_rfl) rfl rfl ⟨(pw_cell_below HB.out hw101_0), (pw_cell_below HB.out hw101_1), (pw_cell_below HB.out hw101_2), (pw_cell_below HB.out hw101_3), (pw_cell_below HB.out hw101_4), (pw_cell_below HB.out hw101_5), (pw_cell_below HB.out hw102_0), (pw_cell_below HB.out hw102_1), (pw_cell_below HB.out hw102_2), (pw_cell_below HB.out hw102_3), (pw_cell_below HB.out hw102_4), (pw_cell_below HB.out hw102_5)⟩ (fun hHeld => ?_); refine with_tabW laws_eqStripMoveS.tab6 laws_eqStripMoveS.bits6 (fun HT_ HW_ => ?_)
        generalize wr.drew = w11 at HB hx101_0 hx101_1 hx101_2 hx101_3 hx101_4 hx101_5 hx102_0 hx102_1 hx102_2 hx102_3 hx102_4 hx102_5 hHeld ⊢
        refine pu (i := 0) (N := some 17) (v := ?_) (a' := ?_) HT_.out rfl rfl (by kernel_rfl) (fun _ _ _ h => h) (Or.inl ⟨by rfl, ?_⟩) ?_ ?_
        rotate_left; (intro w'; go_simp; with_reducible rfl); rotate_left; (simp only [P0, P0n, P2, P3, P4, P5, P6]; rfl)
        refine pu (i := 1) (N := some 18) (v := ?_) (a' := ?_) HT_.out rfl rfl (by kernel_rfl) (fun _ _ _ h => h) (Or.inl ⟨by rfl, ?_⟩) ?_ ?_
        rotate_left; (intro w'; go_simp; with_reducible rfl); rotate_left; (simp only [P0, P0n, P2, P3, P4, P5, P6]; rfl)
        refine pu (i := 2) (N := some 19) (v := ?_) (a' := ?_) HT_.out rfl rfl (by kernel_rfl) (fun _ _ _ h => h) (Or.inl ⟨by rfl, ?_⟩) ?_ ?_
        rotate_left; (intro w'; go_simp; with_reducible rfl); rotate_left; (simp only [P0, P0n, P2, P3, P4, P5, P6]; rfl)
        refine pu (i := 4) (N := some 21) (v := ?_) (a' := ?_) HT_.out rfl rfl (by kernel_rfl) (fun _ _ _ h => h) (Or.inl ⟨by rfl, ?_⟩) ?_ ?_
        rotate_left; (intro w'; go_simp; with_reducible rfl); rotate_left; (simp only [P0, P0n, P2, P3, P4, P5, P6]; rfl)
        refine pu (i := 5) (N := some 22) (v := ?_) (a' := ?_) HT_.out rfl rfl (by kernel_rfl) (fun _ _ _ h => h) (Or.inl ⟨by rfl, ?_⟩) ?_ ?_
        rotate_left; (intro w'; go_simp; with_reducible rfl); rotate_left; (simp only [P0, P0n, P2, P3, P4, P5, P6]; rfl)
        refine pu (i := 6) (N := some 23) (v := ?_) (a' := ?_) HT_.out rfl rfl (by kernel_rfl) (fun _ _ _ h => h) (Or.inl ⟨by rfl, ?_⟩) ?_ ?_
        rotate_left; (intro w'; go_simp; with_reducible rfl); rotate_left; (simp only [P0, P0n, P2, P3, P4, P5, P6]; rfl)
        refine tw (i := 3) (N := some 20) (v := ?_) (a' := ?_) HT_.out HW_.out rfl rfl (by kernel_rfl) (fun _ _ _ h => h) (Or.inl ⟨by rfl, ?_⟩) hHeld ?_ ?_
        rotate_left
        ·rintro w' ⟨s0, s1, s2, s3, s4, s5, s6, s7, s8, s9, s10, s11⟩
         go_simp
         with_reducible rfl
        rotate_left
        ·simp only [P0, P0n, P2, P3, P4, P5, P6]
         rfl
        refine tw (i := 7) (N := some 24) (v := ?_) (a' := ?_) HT_.out HW_.out rfl rfl (by kernel_rfl) (fun _ _ _ h => h) (Or.inl ⟨by rfl, ?_⟩) hHeld ?_ ?_
        rotate_left
        ·rintro w' ⟨s0, s1, s2, s3, s4, s5, s6, s7, s8, s9, s10, s11⟩
         go_simp
         with_reducible rfl
        rotate_left
        ·simp only [P0, P0n, P2, P3, P4, P5, P6]
         rfl
        refine one_ (i := 8) (N := some 25) #[T, T, T, T, T, T, T, T, T, F] rfl rfl (one_of HT_.out (by kernel_rfl)) (by decide) (fun K hK => ?_)
        refine goes_ Try.func55 (by kernel_rfl) rfl #[.agg #[.string ((rd_T54 l0 x5_1).f0), .bool ((rd_T54 l0 x5_1).f1), .int .i64 ((rd_T54 l0 x5_1).f2), .int .i64 ((rd_T54 l0 x5_1).f3), .int .i64 ((rd_T54 l0 x5_1).f4), .int .i64 ((rd_T54 l0 x5_1).f5)], .agg #[.string ((rd_T54 l1 x5_1).f0), .bool ((rd_T54 l1 x5_1).f1), .int .i64 ((rd_T54 l1 x5_1).f2), .int .i64 ((rd_T54 l1 x5_1).f3), .int .i64 ((rd_T54 l1 x5_1).f4), .int .i64 ((rd_T54 l1 x5_1).f5)]] (by rfl) rfl rfl (by (try simp only [List.map_toArray, List.map_cons, List.map_nil]); first | done | rfl | (simp only [List.length_drop, List.length_take]; rfl)) ?_
        with_reducible refine (laws_eqStripMove.calls ((rd_T54 l0 x5_1).f0) ((rd_T54 l0 x5_1).f1) ((rd_T54 l0 x5_1).f2) ((rd_T54 l0 x5_1).f3) ((rd_T54 l0 x5_1).f4) ((rd_T54 l0 x5_1).f5) ((rd_T54 l1 x5_1).f0) ((rd_T54 l1 x5_1).f1) ((rd_T54 l1 x5_1).f2) ((rd_T54 l1 x5_1).f3) ((rd_T54 l1 x5_1).f4) ((rd_T54 l1 x5_1).f5) false _ A7.out).mono ?_
        rintro e w12 ⟨rfl, hb⟩
        refine ⟨_, rfl, ?_⟩
        have n0_ := Aside0.mk (below_step (eb HB.out) hb)
        clear HB
        have HB := n0_
        clear n0_
        (try clear hb)
        (try clear hb2)
        (try clear hk)
        (try clear hi)
        refine hK.out _ _ ⟨(pw_cell_below HB.out hw101_0), (pw_cell_below HB.out hw101_1), (pw_cell_below HB.out hw101_2), (pw_cell_below HB.out hw101_3), (pw_cell_below HB.out hw101_4), (pw_cell_below HB.out hw101_5), (pw_cell_below HB.out hw102_0), (pw_cell_below HB.out hw102_1), (pw_cell_below HB.out hw102_2), (pw_cell_below HB.out hw102_3), (pw_cell_below HB.out hw102_4), (pw_cell_below HB.out hw102_5)⟩ (fun hHeld => ?_)
        clear hK K
        refine norm_ (a' := ?_) ?_ ?_
        rotate_left
        ·show Act.put _ (some 25) _ = _
         simp only [P0, P0n, P2, P3, P4, P5, P6]
         rfl
        refine pu (i := 9) (N := some 26) (v := ?_) (a' := ?_) HT_.out rfl rfl (by kernel_rfl) (fun _ _ _ h => h) (Or.inl ⟨by rfl, ?_⟩) ?_ ?_
        rotate_left; (intro w'; go_simp; with_reducible rfl); rotate_left; (simp only [P0, P0n, P2, P3, P4, P5, P6]; rfl)
        refine done_ (done_of HT_.out (by kernel_rfl)) ?_
        try go_wp2
        go_ret
        exact ⟨by first | rfl | (simp [errW_none, errW_some] <;> rfl) | (simp [*, errW_none, errW_some] <;> rfl), eb HB.out⟩
      ·rw [if_neg c6] at H
       exact absurd H (by simp)
     ·rw [if_neg c5] at H
      exact absurd H (by simp)
    ·rw [if_neg c4] at H
     have c4b0 : decide (x5_1 < (l0.length : Int)) = false := decide_eq_false c4
     clear c4
     obtain rfl := Option.some.inj H
     go_wp2
     go_ret
     exact ⟨by first | rfl | (simp [errW_none, errW_some] <;> rfl) | (simp [*, errW_none, errW_some] <;> rfl), eb HB.out⟩
 ·rw [if_neg c3] at H
  have c3b0 : ((l0.length : Int) == (l1.length : Int)) = false := beq_eq_false_iff_ne.mpr c3
  have c3b1 : ((l0.length : Int) != (l1.length : Int)) = true := bne_iff_ne.mpr c3
  have c3b2 : (l0.length == l1.length) = false := by first | simpa using c3 | (simp at c3 ⊢; omega)
  obtain rfl := Option.some.inj H
  go_enter Try.func19, Try.ntmps19
  go_wp2
  go_ret
  exact ⟨by first | rfl | (simp [errW_none, errW_some] <;> rfl) | (simp [*, errW_none, errW_some] <;> rfl), eb HB.out⟩

end Go.Proofs.Ytpdmimlkgmhepaa.G

/- The plain functions of this seat's Go text and, for each, that the call comes to what its plain function says: written for this claim by a program of the session (drv.py) over the kit's print.py. -/
namespace Go.Proofs.Ytpdmimlkgmhepaa.G
open Go.RowKit Go.Proofs.YtpdmimlkgmhepaaW.PrintWords Go.Proofs.YtpdmimlkgmhepaaW.PrintLast Go.Proofs.YtpdmimlkgmhepaaW.PrintMore
attribute [local go_sem] max2_int min2_int max_two min_two max_three min_three max_four min_four   -- for this text's walks alone
set_option linter.unusedVariables false
set_option linter.unusedSimpArgs false

/-! ### laws_eqStripBook: function 28 -/
def laws_eqStripBook.f (k : Nat) (a0_0 : Int) (a0_1 : Int) (l0_2 : List (S54)) (l0_3 : List Int) (a1_0 : Int) (a1_1 : Int) (l1_2 : List (S54)) (l1_3 : List Int) : Option (Bool) := if a0_0 = a1_0 then (if a0_1 = a1_1 then ((laws_eqStripMoveS.f k l0_2 l1_2).bind fun t103 => (if t103 = true then ((laws_eqIntS.f k l0_3 l1_3).bind fun t104 => (if t104 = true then (some true) else (some false))) else (some false))) else (some false)) else (some false)
theorem laws_eqStripBook.mono : ∀ a0 a1 a2 a3 a4 a5 a6 a7 k, LeO (laws_eqStripBook.f k a0 a1 a2 a3 a4 a5 a6 a7) (laws_eqStripBook.f (k + 1) a0 a1 a2 a3 a4 a5 a6 a7) := by
 intro a0 a1 a2 a3 a4 a5 a6 a7 k
 unfold laws_eqStripBook.f
 repeat' first
   | (with_reducible exact laws_eqIntS.mono _ _ _)
   | (with_reducible exact laws_eqStripMoveS.mono _ _ _)
   | (with_reducible exact LeO.refl _)
   | (with_reducible exact LeO.none _)
   | (with_reducible refine LeO.ite ?_ ?_)
   | (with_reducible refine LeO.bind ?_ (fun _ => ?_))
   | exact laws_eqIntS.mono _ _ _
   | exact laws_eqStripMoveS.mono _ _ _
   | exact LeO.none _
   | refine LeO.ite ?_ ?_
   | refine LeO.bind ?_ (fun _ => ?_)
set_option maxHeartbeats 8000000 in
set_option maxRecDepth 100000 in
theorem laws_eqStripBook.calls (k : Nat) (a0_0 : Int) (a0_1 : Int) (A0_2 : Option Addr) (c0_2 : Nat) (l0_2 : List (S54)) (A0_3 : Option Addr) (c0_3 : Nat) (l0_3 : List Int) (a1_0 : Int) (a1_1 : Int) (A1_2 : Option Addr) (c1_2 : Nat) (l1_2 : List (S54)) (A1_3 : Option Addr) (c1_3 : Nat) (l1_3 : List Int) (r : Bool) (w : World) (hr0_2 : Kd.C k54 w A0_2 l0_2.length l0_2) (hc0_2 : l0_2.length ≤ c0_2) (hr0_3 : Kd.C (Kd.int .i64) w A0_3 l0_3.length l0_3) (hc0_3 : l0_3.length ≤ c0_3) (hr1_2 : Kd.C k54 w A1_2 l1_2.length l1_2) (hc1_2 : l1_2.length ≤ c1_2) (hr1_3 : Kd.C (Kd.int .i64) w A1_3 l1_3.length l1_3) (hc1_3 : l1_3.length ≤ c1_3) (h : laws_eqStripBook.f k a0_0 a0_1 l0_2 l0_3 a1_0 a1_1 l1_2 l1_3 = some r) :
  Calls Try.prog 28 #[.agg #[.int .i64 a0_0, .int .i64 a0_1, .slice A0_2 l0_2.length c0_2, .slice A0_3 l0_3.length c0_3], .agg #[.int .i64 a1_0, .int .i64 a1_1, .slice A1_2 l1_2.length c1_2, .slice A1_3 l1_3.length c1_3]] w fun e w' => e = .returned (.bool r) ∧ Below w.heap.size w w' := by
 have hu42 := Try.underlying42
 have HR0_2 := Aside0.mk hr0_2
 have HC0_2 := Aside0.mk hc0_2
 clear hr0_2 hc0_2
 have HR0_3 := Aside0.mk hr0_3
 have HC0_3 := Aside0.mk hc0_3
 clear hr0_3 hc0_3
 have HR1_2 := Aside0.mk hr1_2
 have HC1_2 := Aside0.mk hc1_2
 clear hr1_2 hc1_2
 have HR1_3 := Aside0.mk hr1_3
 have HC1_3 := Aside0.mk hc1_3
 clear hr1_3 hc1_3
 have HB := Aside0.mk (Below.refl w.heap.size w)
 have H : (if a0_0 = a1_0 then (if a0_1 = a1_1 then ((laws_eqStripMoveS.f k l0_2 l1_2).bind fun t103 => (if t103 = true then ((laws_eqIntS.f k l0_3 l1_3).bind fun t104 => (if t104 = true then (some true) else (some false))) else (some false))) else (some false)) else (some false)) = some r := h
 clear h
 by_cases c3 : a0_0 = a1_0
 ·rw [if_pos c3] at H
  have c3b0 : (a0_0 == a1_0) = true := beq_iff_eq.mpr c3
  have c3b1 : (a0_0 != a1_0) = false := bne_eq_false_iff_eq.mpr c3
  clear c3
  by_cases c4 : a0_1 = a1_1
  ·rw [if_pos c4] at H
   have c4b0 : (a0_1 == a1_1) = true := beq_iff_eq.mpr c4
   have c4b1 : (a0_1 != a1_1) = false := bne_eq_false_iff_eq.mpr c4
   clear c4
   replace H := Option.bind_eq_some_iff.mp H
   obtain ⟨t103, A50, H⟩ := H
   replace H : (if t103 = true then ((laws_eqIntS.f k l0_3 l1_3).bind fun t104 => (if t104 = true then (some true) else (some false))) else (some false)) = some r := H
   have A5 := Aside0.mk A50
   clear A50
   by_cases c6 : t103 = true
   ·subst c6
    have H1 : ((laws_eqIntS.f k l0_3 l1_3).bind fun t104 => (if t104 = true then (some true) else (some false))) = some r := by rw [if_pos rfl] at H; exact H
    clear H
    have H := H1
    clear H1
    replace H := Option.bind_eq_some_iff.mp H
    obtain ⟨t104, A70, H⟩ := H
    replace H : (if t104 = true then (some true) else (some false)) = some r := H
    have A7 := Aside0.mk A70
    clear A70
    by_cases c8 : t104 = true
    ·subst c8
     have H1 : (some true) = some r := by rw [if_pos rfl] at H; exact H
     clear H
     have H := H1
     clear H1
     obtain rfl := Option.some.inj H
     go_enter Try.func28, Try.ntmps28
     go_wp2_with (first | ((with_reducible refine gate_dst (N := 2) rfl ?_); refine box_event ?hg (N := 2) ?hd (cs := #[.int .i64 a0_0, .int .i64 a0_1, .slice A0_2 l0_2.length c0_2, .slice A0_3 l0_3.length c0_3]) (t := 42) ?hr ?_; (case hd => rfl); (case hg => rfl); (case hr => first | (go_simp; done) | (go_simp; rfl)); intro gb101 hg w9 hbox hb; have n0_ := Aside0.mk (below_step (eb HB.out) hb); have n1_ := Aside0.mk (hbox); have n2_ := Aside0.mk ((by rw [hg]; exact (below_size (eb HB.out)) : w.heap.size ≤ gb101)); have n3_ := Aside0.mk ((by rw [hg]; exact (below_size (eb HB.out)) : w.heap.size ≤ gb101)); clear HB; have HB := n0_; have BK101 := n1_; have GW101 := n2_; have GE101 := n3_; clear n0_ n1_ n2_ n3_; clear hb hbox hg) | ((with_reducible refine gate_dst (N := 3) rfl ?_); refine box_event ?hg (N := 3) ?hd (cs := #[.int .i64 a1_0, .int .i64 a1_1, .slice A1_2 l1_2.length c1_2, .slice A1_3 l1_3.length c1_3]) (t := 42) ?hr ?_; (case hd => rfl); (case hg => rfl); (case hr => first | (go_simp; done) | (go_simp; rfl)); intro gb102 hg w10 hbox hb; have n0_ := Aside0.mk (blk_below (g := gb101) (o := .cells #[.int .i64 a0_0, .int .i64 a0_1, .slice A0_2 l0_2.length c0_2, .slice A0_3 l0_3.length c0_3] 42 (0, 0)) (ex BK101.out) hb); have n1_ := Aside0.mk (below_step (by repeat (first | (with_reducible first | exact HB.out | apply below_alloc | apply pw_below_drewN | apply below_drew1 | refine below_set ?_ GE101.out) | exact HB.out)) hb); have n2_ := Aside0.mk (hbox); have n3_ := Aside0.mk ((by rw [hg]; exact (below_size (by repeat (first | (with_reducible first | exact HB.out | apply below_alloc | apply pw_below_drewN | apply below_drew1 | refine below_set ?_ GE101.out) | exact HB.out))) : w.heap.size ≤ gb102)); have n4_ := Aside0.mk ((by rw [hg]; exact (below_size (by repeat (first | (with_reducible first | exact HB.out | apply below_alloc | apply pw_below_drewN | apply below_drew1 | refine below_set ?_ GE101.out) | exact HB.out))) : w.heap.size ≤ gb102)); have n5_ := Aside0.mk ((by rw [hg]; exact Nat.ne_of_lt (blk_lt (g := gb101) (o := .cells #[.int .i64 a0_0, .int .i64 a0_1, .slice A0_2 l0_2.length c0_2, .slice A0_3 l0_3.length c0_3] 42 (0, 0)) (ex BK101.out)) : gb101 ≠ gb102)); have n6_ := Aside0.mk ((by rw [hg]; exact Nat.ne_of_gt (blk_lt (g := gb101) (o := .cells #[.int .i64 a0_0, .int .i64 a0_1, .slice A0_2 l0_2.length c0_2, .slice A0_3 l0_3.length c0_3] 42 (0, 0)) (ex BK101.out)) : gb102 ≠ gb101)); clear BK101; clear HB; have BK101 := n0_; have HB := n1_; have BK102 := n2_; have GW102 := n3_; have GE102 := n4_; have NB101_102 := n5_; have NB102_101 := n6_; clear n0_ n1_ n2_ n3_ n4_ n5_ n6_; clear hb hbox hg; have hnb11 := NB101_102.out; have hnc11 := NB102_101.out; obtain ⟨hcz12_0, hcz12_1, hcz12_2, hcz12_3⟩ := bc4 BK101.out; obtain ⟨hfz12_0, hfz12_1, hfz12_2, hfz12_3⟩ := bf4 BK101.out; obtain ⟨hcz13_0, hcz13_1, hcz13_2, hcz13_3⟩ := bc4 BK102.out; obtain ⟨hfz13_0, hfz13_1, hfz13_2, hfz13_3⟩ := bf4 BK102.out) | ((with_reducible refine gate_callee (f := 19) rfl ?_); refine goesL_ (some 19) rfl rfl Try.func19 (by kernel_rfl) rfl #[.slice A0_2 l0_2.length c0_2, .slice A1_2 l1_2.length c1_2] rfl (by (try simp only [List.map_toArray, List.map_cons, List.map_nil]); first | done | rfl | (simp only [List.length_drop, List.length_take]; rfl)) ?_; (with_reducible refine (laws_eqStripMoveS.calls k _ _ l0_2 _ _ l1_2 true _ ?side1 ?side2 ?side3 ?side4 A5.out).mono ?_); (case side1 => repeat (first | exact (Kd.C_below HR0_2.out HB.out) | (with_reducible refine Kd.C_alloc ?_ _) | (with_reducible refine Kd.C_drewN ?_ _) | (with_reducible refine Kd.C_drew ?_))); (case side2 => exact HC0_2.out); (case side3 => repeat (first | exact (Kd.C_below HR1_2.out HB.out) | (with_reducible refine Kd.C_alloc ?_ _) | (with_reducible refine Kd.C_drewN ?_ _) | (with_reducible refine Kd.C_drew ?_))); (case side4 => exact HC1_2.out); rintro e w14 ⟨rfl, hb⟩; refine ⟨_, rfl, ?_⟩; have n0_ := Aside0.mk (blk_below (g := gb101) (o := .cells #[.int .i64 a0_0, .int .i64 a0_1, .slice A0_2 l0_2.length c0_2, .slice A0_3 l0_3.length c0_3] 42 (0, 0)) (ex BK101.out) hb); have n1_ := Aside0.mk (blk_below (g := gb102) (o := .cells #[.int .i64 a1_0, .int .i64 a1_1, .slice A1_2 l1_2.length c1_2, .slice A1_3 l1_3.length c1_3] 42 (0, 0)) (ex BK102.out) hb); have n2_ := Aside0.mk (below_step (by repeat (first | (with_reducible first | exact HB.out | apply below_alloc | apply pw_below_drewN | apply below_drew1 | refine below_set ?_ GE101.out | refine below_set ?_ GE102.out) | exact HB.out)) hb); clear BK101; clear BK102; clear HB; have BK101 := n0_; have BK102 := n1_; have HB := n2_; clear n0_ n1_ n2_; (try clear hb); (try clear hb2); (try clear hk); (try clear hi); obtain ⟨hcz15_0, hcz15_1, hcz15_2, hcz15_3⟩ := bc4 BK101.out; obtain ⟨hfz15_0, hfz15_1, hfz15_2, hfz15_3⟩ := bf4 BK101.out; obtain ⟨hcz16_0, hcz16_1, hcz16_2, hcz16_3⟩ := bc4 BK102.out; obtain ⟨hfz16_0, hfz16_1, hfz16_2, hfz16_3⟩ := bf4 BK102.out) | ((with_reducible refine gate_callee (f := 14) rfl ?_); refine goesL_ (some 25) rfl rfl Try.func14 (by kernel_rfl) rfl #[.slice A0_3 l0_3.length c0_3, .slice A1_3 l1_3.length c1_3] rfl (by (try simp only [List.map_toArray, List.map_cons, List.map_nil]); first | done | rfl | (simp only [List.length_drop, List.length_take]; rfl)) ?_; (with_reducible refine (laws_eqIntS.calls k _ _ l0_3 _ _ l1_3 true _ ?side1 ?side2 ?side3 ?side4 A7.out).mono ?_); (case side1 => repeat (first | exact (Kd.C_below HR0_3.out HB.out) | (with_reducible refine Kd.C_alloc ?_ _) | (with_reducible refine Kd.C_drewN ?_ _) | (with_reducible refine Kd.C_drew ?_))); (case side2 => exact HC0_3.out); (case side3 => repeat (first | exact (Kd.C_below HR1_3.out HB.out) | (with_reducible refine Kd.C_alloc ?_ _) | (with_reducible refine Kd.C_drewN ?_ _) | (with_reducible refine Kd.C_drew ?_))); (case side4 => exact HC1_3.out); rintro e w' ⟨rfl, ⟨nd, rfl⟩⟩; refine ⟨_, rfl, ?_⟩))
     go_ret
     exact ⟨by first | rfl | (simp [errW_none, errW_some] <;> rfl) | (simp [*, errW_none, errW_some] <;> rfl), by repeat (first | (with_reducible first | exact HB.out | apply below_alloc | apply pw_below_drewN | apply below_drew1 | refine below_set ?_ GE101.out | refine below_set ?_ GE102.out) | exact HB.out)⟩
    ·replace c8 := Bool.eq_false_iff.mpr c8
     subst c8
     have H1 : (some false) = some r := by rw [if_neg (show ¬ (false = true) by decide)] at H; exact H
     clear H
     have H := H1
     clear H1
     obtain rfl := Option.some.inj H
     go_enter Try.func28, Try.ntmps28
     go_wp2_with (first | ((with_reducible refine gate_dst (N := 2) rfl ?_); refine box_event ?hg (N := 2) ?hd (cs := #[.int .i64 a0_0, .int .i64 a0_1, .slice A0_2 l0_2.length c0_2, .slice A0_3 l0_3.length c0_3]) (t := 42) ?hr ?_; (case hd => rfl); (case hg => rfl); (case hr => first | (go_simp; done) | (go_simp; rfl)); intro gb101 hg w17 hbox hb; have n0_ := Aside0.mk (below_step (eb HB.out) hb); have n1_ := Aside0.mk (hbox); have n2_ := Aside0.mk ((by rw [hg]; exact (below_size (eb HB.out)) : w.heap.size ≤ gb101)); have n3_ := Aside0.mk ((by rw [hg]; exact (below_size (eb HB.out)) : w.heap.size ≤ gb101)); clear HB; have HB := n0_; have BK101 := n1_; have GW101 := n2_; have GE101 := n3_; clear n0_ n1_ n2_ n3_; clear hb hbox hg) | ((with_reducible refine gate_dst (N := 3) rfl ?_); refine box_event ?hg (N := 3) ?hd (cs := #[.int .i64 a1_0, .int .i64 a1_1, .slice A1_2 l1_2.length c1_2, .slice A1_3 l1_3.length c1_3]) (t := 42) ?hr ?_; (case hd => rfl); (case hg => rfl); (case hr => first | (go_simp; done) | (go_simp; rfl)); intro gb102 hg w18 hbox hb; have n0_ := Aside0.mk (blk_below (g := gb101) (o := .cells #[.int .i64 a0_0, .int .i64 a0_1, .slice A0_2 l0_2.length c0_2, .slice A0_3 l0_3.length c0_3] 42 (0, 0)) (ex BK101.out) hb); have n1_ := Aside0.mk (below_step (by repeat (first | (with_reducible first | exact HB.out | apply below_alloc | apply pw_below_drewN | apply below_drew1 | refine below_set ?_ GE101.out) | exact HB.out)) hb); have n2_ := Aside0.mk (hbox); have n3_ := Aside0.mk ((by rw [hg]; exact (below_size (by repeat (first | (with_reducible first | exact HB.out | apply below_alloc | apply pw_below_drewN | apply below_drew1 | refine below_set ?_ GE101.out) | exact HB.out))) : w.heap.size ≤ gb102)); have n4_ := Aside0.mk ((by rw [hg]; exact (below_size (by repeat (first | (with_reducible first | exact HB.out | apply below_alloc | apply pw_below_drewN | apply below_drew1 | refine below_set ?_ GE101.out) | exact HB.out))) : w.heap.size ≤ gb102)); have n5_ := Aside0.mk ((by rw [hg]; exact Nat.ne_of_lt (blk_lt (g := gb101) (o := .cells #[.int .i64 a0_0, .int .i64 a0_1, .slice A0_2 l0_2.length c0_2, .slice A0_3 l0_3.length c0_3] 42 (0, 0)) (ex BK101.out)) : gb101 ≠ gb102)); have n6_ := Aside0.mk ((by rw [hg]; exact Nat.ne_of_gt (blk_lt (g := gb101) (o := .cells #[.int .i64 a0_0, .int .i64 a0_1, .slice A0_2 l0_2.length c0_2, .slice A0_3 l0_3.length c0_3] 42 (0, 0)) (ex BK101.out)) : gb102 ≠ gb101)); clear BK101; clear HB; have BK101 := n0_; have HB := n1_; have BK102 := n2_; have GW102 := n3_; have GE102 := n4_; have NB101_102 := n5_; have NB102_101 := n6_; clear n0_ n1_ n2_ n3_ n4_ n5_ n6_; clear hb hbox hg; have hnb19 := NB101_102.out; have hnc19 := NB102_101.out; obtain ⟨hcz20_0, hcz20_1, hcz20_2, hcz20_3⟩ := bc4 BK101.out; obtain ⟨hfz20_0, hfz20_1, hfz20_2, hfz20_3⟩ := bf4 BK101.out; obtain ⟨hcz21_0, hcz21_1, hcz21_2, hcz21_3⟩ := bc4 BK102.out; obtain ⟨hfz21_0, hfz21_1, hfz21_2, hfz21_3⟩ := bf4 BK102.out) | ((with_reducible refine gate_callee (f := 19) rfl ?_); refine goesL_ (some 19) rfl rfl Try.func19 (by kernel_rfl) rfl #[.slice A0_2 l0_2.length c0_2, .slice A1_2 l1_2.length c1_2] rfl (by (try simp only [List.map_toArray, List.map_cons, List.map_nil]); first | done | rfl | (simp only [List.length_drop, List.length_take]; rfl)) ?_; (with_reducible refine (laws_eqStripMoveS.calls k _ _ l0_2 _ _ l1_2 true _ ?side1 ?side2 ?side3 ?side4 A5.out).mono ?_); (case side1 => repeat (first | exact (Kd.C_below HR0_2.out HB.out) | (with_reducible refine Kd.C_alloc ?_ _) | (with_reducible refine Kd.C_drewN ?_ _) | (with_reducible refine Kd.C_drew ?_))); (case side2 => exact HC0_2.out); (case side3 => repeat (first | exact (Kd.C_below HR1_2.out HB.out) | (with_reducible refine Kd.C_alloc ?_ _) | (with_reducible refine Kd.C_drewN ?_ _) | (with_reducible refine Kd.C_drew ?_))); (case side4 => exact HC1_2.out); rintro e w22 ⟨rfl, hb⟩; refine ⟨_, rfl, ?_⟩; have n0_ := Aside0.mk (blk_below (g := gb101) (o := .cells #[.int .i64 a0_0, .int .i64 a0_1, .slice A0_2 l0_2.length c0_2, .slice A0_3 l0_3.length c0_3] 42 (0, 0)) (ex BK101.out) hb); have n1_ := Aside0.mk (blk_below (g := gb102) (o := .cells #[.int .i64 a1_0, .int .i64 a1_1, .slice A1_2 l1_2.length c1_2, .slice A1_3 l1_3.length c1_3] 42 (0, 0)) (ex BK102.out) hb); have n2_ := Aside0.mk (below_step (by repeat (first | (with_reducible first | exact HB.out | apply below_alloc | apply pw_below_drewN | apply below_drew1 | refine below_set ?_ GE101.out | refine below_set ?_ GE102.out) | exact HB.out)) hb); clear BK101; clear BK102; clear HB; have BK101 := n0_; have BK102 := n1_; have HB := n2_; clear n0_ n1_ n2_; (try clear hb); (try clear hb2); (try clear hk); (try clear hi); obtain ⟨hcz23_0, hcz23_1, hcz23_2, hcz23_3⟩ := bc4 BK101.out; obtain ⟨hfz23_0, hfz23_1, hfz23_2, hfz23_3⟩ := bf4 BK101.out; obtain ⟨hcz24_0, hcz24_1, hcz24_2, hcz24_3⟩ := bc4 BK102.out; obtain ⟨hfz24_0, hfz24_1, hfz24_2, hfz24_3⟩ := bf4 BK102.out) | ((with_reducible refine gate_callee (f := 14) rfl ?_); refine goesL_ (some 25) rfl rfl Try.func14 (by kernel_rfl) rfl #[.slice A0_3 l0_3.length c0_3, .slice A1_3 l1_3.length c1_3] rfl (by (try simp only [List.map_toArray, List.map_cons, List.map_nil]); first | done | rfl | (simp only [List.length_drop, List.length_take]; rfl)) ?_; (with_reducible refine (laws_eqIntS.calls k _ _ l0_3 _ _ l1_3 false _ ?side1 ?side2 ?side3 ?side4 A7.out).mono ?_); (case side1 => repeat (first | exact (Kd.C_below HR0_3.out HB.out) | (with_reducible refine Kd.C_alloc ?_ _) | (with_reducible refine Kd.C_drewN ?_ _) | (with_reducible refine Kd.C_drew ?_))); (case side2 => exact HC0_3.out); (case side3 => repeat (first | exact (Kd.C_below HR1_3.out HB.out) | (with_reducible refine Kd.C_alloc ?_ _) | (with_reducible refine Kd.C_drewN ?_ _) | (with_reducible refine Kd.C_drew ?_))); (case side4 => exact HC1_3.out); rintro e w' ⟨rfl, ⟨nd, rfl⟩⟩; refine ⟨_, rfl, ?_⟩))
     go_ret
     exact ⟨by first | rfl | (simp [errW_none, errW_some] <;> rfl) | (simp [*, errW_none, errW_some] <;> rfl), by repeat (first | (with_reducible first | exact HB.out | apply below_alloc | apply pw_below_drewN | apply below_drew1 | refine below_set ?_ GE101.out | refine below_set ?_ GE102.out) | exact HB.out)⟩
   ·replace c6 := Bool.eq_false_iff.mpr c6
    subst c6
    have H1 : (some false) = some r := by rw [if_neg (show ¬ (false = true) by decide)] at H; exact H
    clear H
    have H := H1
    clear H1
    obtain rfl := Option.some.inj H
    go_enter Try.func28, Try.ntmps28
    go_wp2_with (first | ((with_reducible refine gate_dst (N := 2) rfl ?_); refine box_event ?hg (N := 2) ?hd (cs := #[.int .i64 a0_0, .int .i64 a0_1, .slice A0_2 l0_2.length c0_2, .slice A0_3 l0_3.length c0_3]) (t := 42) ?hr ?_; (case hd => rfl); (case hg => rfl); (case hr => first | (go_simp; done) | (go_simp; rfl)); intro gb101 hg w25 hbox hb; have n0_ := Aside0.mk (below_step (eb HB.out) hb); have n1_ := Aside0.mk (hbox); have n2_ := Aside0.mk ((by rw [hg]; exact (below_size (eb HB.out)) : w.heap.size ≤ gb101)); have n3_ := Aside0.mk ((by rw [hg]; exact (below_size (eb HB.out)) : w.heap.size ≤ gb101)); clear HB; have HB := n0_; have BK101 := n1_; have GW101 := n2_; have GE101 := n3_; clear n0_ n1_ n2_ n3_; clear hb hbox hg) | ((with_reducible refine gate_dst (N := 3) rfl ?_); refine box_event ?hg (N := 3) ?hd (cs := #[.int .i64 a1_0, .int .i64 a1_1, .slice A1_2 l1_2.length c1_2, .slice A1_3 l1_3.length c1_3]) (t := 42) ?hr ?_; (case hd => rfl); (case hg => rfl); (case hr => first | (go_simp; done) | (go_simp; rfl)); intro gb102 hg w26 hbox hb; have n0_ := Aside0.mk (blk_below (g := gb101) (o := .cells #[.int .i64 a0_0, .int .i64 a0_1, .slice A0_2 l0_2.length c0_2, .slice A0_3 l0_3.length c0_3] 42 (0, 0)) (ex BK101.out) hb); have n1_ := Aside0.mk (below_step (by repeat (first | (with_reducible first | exact HB.out | apply below_alloc | apply pw_below_drewN | apply below_drew1 | refine below_set ?_ GE101.out) | exact HB.out)) hb); have n2_ := Aside0.mk (hbox); have n3_ := Aside0.mk ((by rw [hg]; exact (below_size (by repeat (first | (with_reducible first | exact HB.out | apply below_alloc | apply pw_below_drewN | apply below_drew1 | refine below_set ?_ GE101.out) | exact HB.out))) : w.heap.size ≤ gb102)); have n4_ := Aside0.mk ((by rw [hg]; exact (below_size (by repeat (first | (with_reducible first | exact HB.out | apply below_alloc | apply pw_below_drewN | apply below_drew1 | refine below_set ?_ GE101.out) | exact HB.out))) : w.heap.size ≤ gb102)); have n5_ := Aside0.mk ((by rw [hg]; exact Nat.ne_of_lt (blk_lt (g := gb101) (o := .cells #[.int .i64 a0_0, .int .i64 a0_1, .slice A0_2 l0_2.length c0_2, .slice A0_3 l0_3.length c0_3] 42 (0, 0)) (ex BK101.out)) : gb101 ≠ gb102)); have n6_ := Aside0.mk ((by rw [hg]; exact Nat.ne_of_gt (blk_lt (g := gb101) (o := .cells #[.int .i64 a0_0, .int .i64 a0_1, .slice A0_2 l0_2.length c0_2, .slice A0_3 l0_3.length c0_3] 42 (0, 0)) (ex BK101.out)) : gb102 ≠ gb101)); clear BK101; clear HB; have BK101 := n0_; have HB := n1_; have BK102 := n2_; have GW102 := n3_; have GE102 := n4_; have NB101_102 := n5_; have NB102_101 := n6_; clear n0_ n1_ n2_ n3_ n4_ n5_ n6_; clear hb hbox hg; have hnb27 := NB101_102.out; have hnc27 := NB102_101.out; obtain ⟨hcz28_0, hcz28_1, hcz28_2, hcz28_3⟩ := bc4 BK101.out; obtain ⟨hfz28_0, hfz28_1, hfz28_2, hfz28_3⟩ := bf4 BK101.out; obtain ⟨hcz29_0, hcz29_1, hcz29_2, hcz29_3⟩ := bc4 BK102.out; obtain ⟨hfz29_0, hfz29_1, hfz29_2, hfz29_3⟩ := bf4 BK102.out) | ((with_reducible refine gate_callee (f := 19) rfl ?_); refine goesL_ (some 19) rfl rfl Try.func19 (by kernel_rfl) rfl #[.slice A0_2 l0_2.length c0_2, .slice A1_2 l1_2.length c1_2] rfl (by (try simp only [List.map_toArray, List.map_cons, List.map_nil]); first | done | rfl | (simp only [List.length_drop, List.length_take]; rfl)) ?_; (with_reducible refine (laws_eqStripMoveS.calls k _ _ l0_2 _ _ l1_2 false _ ?side1 ?side2 ?side3 ?side4 A5.out).mono ?_); (case side1 => repeat (first | exact (Kd.C_below HR0_2.out HB.out) | (with_reducible refine Kd.C_alloc ?_ _) | (with_reducible refine Kd.C_drewN ?_ _) | (with_reducible refine Kd.C_drew ?_))); (case side2 => exact HC0_2.out); (case side3 => repeat (first | exact (Kd.C_below HR1_2.out HB.out) | (with_reducible refine Kd.C_alloc ?_ _) | (with_reducible refine Kd.C_drewN ?_ _) | (with_reducible refine Kd.C_drew ?_))); (case side4 => exact HC1_2.out); rintro e w30 ⟨rfl, hb⟩; refine ⟨_, rfl, ?_⟩; have n0_ := Aside0.mk (blk_below (g := gb101) (o := .cells #[.int .i64 a0_0, .int .i64 a0_1, .slice A0_2 l0_2.length c0_2, .slice A0_3 l0_3.length c0_3] 42 (0, 0)) (ex BK101.out) hb); have n1_ := Aside0.mk (blk_below (g := gb102) (o := .cells #[.int .i64 a1_0, .int .i64 a1_1, .slice A1_2 l1_2.length c1_2, .slice A1_3 l1_3.length c1_3] 42 (0, 0)) (ex BK102.out) hb); have n2_ := Aside0.mk (below_step (by repeat (first | (with_reducible first | exact HB.out | apply below_alloc | apply pw_below_drewN | apply below_drew1 | refine below_set ?_ GE101.out | refine below_set ?_ GE102.out) | exact HB.out)) hb); clear BK101; clear BK102; clear HB; have BK101 := n0_; have BK102 := n1_; have HB := n2_; clear n0_ n1_ n2_; (try clear hb); (try clear hb2); (try clear hk); (try clear hi)))
    go_ret
    exact ⟨by first | rfl | (simp [errW_none, errW_some] <;> rfl) | (simp [*, errW_none, errW_some] <;> rfl), by repeat (first | (with_reducible first | exact HB.out | apply below_alloc | apply pw_below_drewN | apply below_drew1 | refine below_set ?_ GE101.out | refine below_set ?_ GE102.out) | exact HB.out)⟩
  ·rw [if_neg c4] at H
   have c4b0 : (a0_1 == a1_1) = false := beq_eq_false_iff_ne.mpr c4
   have c4b1 : (a0_1 != a1_1) = true := bne_iff_ne.mpr c4
   obtain rfl := Option.some.inj H
   go_enter Try.func28, Try.ntmps28
   go_wp2_with (first | ((with_reducible refine gate_dst (N := 2) rfl ?_); refine box_event ?hg (N := 2) ?hd (cs := #[.int .i64 a0_0, .int .i64 a0_1, .slice A0_2 l0_2.length c0_2, .slice A0_3 l0_3.length c0_3]) (t := 42) ?hr ?_; (case hd => rfl); (case hg => rfl); (case hr => first | (go_simp; done) | (go_simp; rfl)); intro gb101 hg w31 hbox hb; have n0_ := Aside0.mk (below_step (eb HB.out) hb); have n1_ := Aside0.mk (hbox); have n2_ := Aside0.mk ((by rw [hg]; exact (below_size (eb HB.out)) : w.heap.size ≤ gb101)); have n3_ := Aside0.mk ((by rw [hg]; exact (below_size (eb HB.out)) : w.heap.size ≤ gb101)); clear HB; have HB := n0_; have BK101 := n1_; have GW101 := n2_; have GE101 := n3_; clear n0_ n1_ n2_ n3_; clear hb hbox hg) | ((with_reducible refine gate_dst (N := 3) rfl ?_); refine box_event ?hg (N := 3) ?hd (cs := #[.int .i64 a1_0, .int .i64 a1_1, .slice A1_2 l1_2.length c1_2, .slice A1_3 l1_3.length c1_3]) (t := 42) ?hr ?_; (case hd => rfl); (case hg => rfl); (case hr => first | (go_simp; done) | (go_simp; rfl)); intro gb102 hg w32 hbox hb; have n0_ := Aside0.mk (blk_below (g := gb101) (o := .cells #[.int .i64 a0_0, .int .i64 a0_1, .slice A0_2 l0_2.length c0_2, .slice A0_3 l0_3.length c0_3] 42 (0, 0)) (ex BK101.out) hb); have n1_ := Aside0.mk (below_step (by repeat (first | (with_reducible first | exact HB.out | apply below_alloc | apply pw_below_drewN | apply below_drew1 | refine below_set ?_ GE101.out) | exact HB.out)) hb); have n2_ := Aside0.mk (hbox); have n3_ := Aside0.mk ((by rw [hg]; exact (below_size (by repeat (first | (with_reducible first | exact HB.out | apply below_alloc | apply pw_below_drewN | apply below_drew1 | refine below_set ?_ GE101.out) | exact HB.out))) : w.heap.size ≤ gb102)); have n4_ := Aside0.mk ((by rw [hg]; exact (below_size (by repeat (first | (with_reducible first | exact HB.out | apply below_alloc | apply pw_below_drewN | apply below_drew1 | refine below_set ?_ GE101.out) | exact HB.out))) : w.heap.size ≤ gb102)); have n5_ := Aside0.mk ((by rw [hg]; exact Nat.ne_of_lt (blk_lt (g := gb101) (o := .cells #[.int .i64 a0_0, .int .i64 a0_1, .slice A0_2 l0_2.length c0_2, .slice A0_3 l0_3.length c0_3] 42 (0, 0)) (ex BK101.out)) : gb101 ≠ gb102)); have n6_ := Aside0.mk ((by rw [hg]; exact Nat.ne_of_gt (blk_lt (g := gb101) (o := .cells #[.int .i64 a0_0, .int .i64 a0_1, .slice A0_2 l0_2.length c0_2, .slice A0_3 l0_3.length c0_3] 42 (0, 0)) (ex BK101.out)) : gb102 ≠ gb101)); clear BK101; clear HB; have BK101 := n0_; have HB := n1_; have BK102 := n2_; have GW102 := n3_; have GE102 := n4_; have NB101_102 := n5_; have NB102_101 := n6_; clear n0_ n1_ n2_ n3_ n4_ n5_ n6_; clear hb hbox hg; have hnb33 := NB101_102.out; have hnc33 := NB102_101.out; obtain ⟨hcz34_0, hcz34_1, hcz34_2, hcz34_3⟩ := bc4 BK101.out; obtain ⟨hfz34_0, hfz34_1, hfz34_2, hfz34_3⟩ := bf4 BK101.out; obtain ⟨hcz35_0, hcz35_1, hcz35_2, hcz35_3⟩ := bc4 BK102.out; obtain ⟨hfz35_0, hfz35_1, hfz35_2, hfz35_3⟩ := bf4 BK102.out))
   go_ret
   exact ⟨by first | rfl | (simp [errW_none, errW_some] <;> rfl) | (simp [*, errW_none, errW_some] <;> rfl), by repeat (first | (with_reducible first | exact HB.out | apply below_alloc | apply pw_below_drewN | apply below_drew1 | refine below_set ?_ GE101.out | refine below_set ?_ GE102.out) | exact HB.out)⟩
 ·rw [if_neg c3] at H
  have c3b0 : (a0_0 == a1_0) = false := beq_eq_false_iff_ne.mpr c3
  have c3b1 : (a0_0 != a1_0) = true := bne_iff_ne.mpr c3
  obtain rfl := Option.some.inj H
  go_enter Try.func28, Try.ntmps28
  go_wp2_with (first | ((with_reducible refine gate_dst (N := 2) rfl ?_); refine box_event ?hg (N := 2) ?hd (cs := #[.int .i64 a0_0, .int .i64 a0_1, .slice A0_2 l0_2.length c0_2, .slice A0_3 l0_3.length c0_3]) (t := 42) ?hr ?_; (case hd => rfl); (case hg => rfl); (case hr => first | (go_simp; done) | (go_simp; rfl)); intro gb101 hg w36 hbox hb; have n0_ := Aside0.mk (below_step (eb HB.out) hb); have n1_ := Aside0.mk (hbox); have n2_ := Aside0.mk ((by rw [hg]; exact (below_size (eb HB.out)) : w.heap.size ≤ gb101)); have n3_ := Aside0.mk ((by rw [hg]; exact (below_size (eb HB.out)) : w.heap.size ≤ gb101)); clear HB; have HB := n0_; have BK101 := n1_; have GW101 := n2_; have GE101 := n3_; clear n0_ n1_ n2_ n3_; clear hb hbox hg) | ((with_reducible refine gate_dst (N := 3) rfl ?_); refine box_event ?hg (N := 3) ?hd (cs := #[.int .i64 a1_0, .int .i64 a1_1, .slice A1_2 l1_2.length c1_2, .slice A1_3 l1_3.length c1_3]) (t := 42) ?hr ?_; (case hd => rfl); (case hg => rfl); (case hr => first | (go_simp; done) | (go_simp; rfl)); intro gb102 hg w37 hbox hb; have n0_ := Aside0.mk (blk_below (g := gb101) (o := .cells #[.int .i64 a0_0, .int .i64 a0_1, .slice A0_2 l0_2.length c0_2, .slice A0_3 l0_3.length c0_3] 42 (0, 0)) (ex BK101.out) hb); have n1_ := Aside0.mk (below_step (by repeat (first | (with_reducible first | exact HB.out | apply below_alloc | apply pw_below_drewN | apply below_drew1 | refine below_set ?_ GE101.out) | exact HB.out)) hb); have n2_ := Aside0.mk (hbox); have n3_ := Aside0.mk ((by rw [hg]; exact (below_size (by repeat (first | (with_reducible first | exact HB.out | apply below_alloc | apply pw_below_drewN | apply below_drew1 | refine below_set ?_ GE101.out) | exact HB.out))) : w.heap.size ≤ gb102)); have n4_ := Aside0.mk ((by rw [hg]; exact (below_size (by repeat (first | (with_reducible first | exact HB.out | apply below_alloc | apply pw_below_drewN | apply below_drew1 | refine below_set ?_ GE101.out) | exact HB.out))) : w.heap.size ≤ gb102)); have n5_ := Aside0.mk ((by rw [hg]; exact Nat.ne_of_lt (blk_lt (g := gb101) (o := .cells #[.int .i64 a0_0, .int .i64 a0_1, .slice A0_2 l0_2.length c0_2, .slice A0_3 l0_3.length c0_3] 42 (0, 0)) (ex BK101.out)) : gb101 ≠ gb102)); have n6_ := Aside0.mk ((by rw [hg]; exact Nat.ne_of_gt (blk_lt (g := gb101) (o := .cells #[.int .i64 a0_0, .int .i64 a0_1, .slice A0_2 l0_2.length c0_2, .slice A0_3 l0_3.length c0_3] 42 (0, 0)) (ex BK101.out)) : gb102 ≠ gb101)); clear BK101; clear HB; have BK101 := n0_; have HB := n1_; have BK102 := n2_; have GW102 := n3_; have GE102 := n4_; have NB101_102 := n5_; have NB102_101 := n6_; clear n0_ n1_ n2_ n3_ n4_ n5_ n6_; clear hb hbox hg; have hnb38 := NB101_102.out; have hnc38 := NB102_101.out; obtain ⟨hcz39_0, hcz39_1, hcz39_2, hcz39_3⟩ := bc4 BK101.out; obtain ⟨hfz39_0, hfz39_1, hfz39_2, hfz39_3⟩ := bf4 BK101.out; obtain ⟨hcz40_0, hcz40_1, hcz40_2, hcz40_3⟩ := bc4 BK102.out; obtain ⟨hfz40_0, hfz40_1, hfz40_2, hfz40_3⟩ := bf4 BK102.out))
  go_ret
  exact ⟨by first | rfl | (simp [errW_none, errW_some] <;> rfl) | (simp [*, errW_none, errW_some] <;> rfl), by repeat (first | (with_reducible first | exact HB.out | apply below_alloc | apply pw_below_drewN | apply below_drew1 | refine below_set ?_ GE101.out | refine below_set ?_ GE102.out) | exact HB.out)⟩

end Go.Proofs.Ytpdmimlkgmhepaa.G

/- The plain functions of this seat's Go text and, for each, that the call comes to what its plain function says: written for this claim by a program of the session (drv.py) over the kit's print.py. -/
namespace Go.Proofs.Ytpdmimlkgmhepaa.G
open Go.RowKit Go.Proofs.YtpdmimlkgmhepaaW.PrintWords Go.Proofs.YtpdmimlkgmhepaaW.PrintLast Go.Proofs.YtpdmimlkgmhepaaW.PrintMore
attribute [local go_sem] max2_int min2_int max_two min_two max_three min_three max_four min_four   -- for this text's walks alone
set_option linter.unusedVariables false
set_option linter.unusedSimpArgs false

/-! ### laws_FnExactStripBookOk: function 7 -/
def laws_FnExactStripBookOk.f (k : Nat) (a0_0 : Int) (a0_1 : Int) (l0_2 : List (S71)) (l0_3 : List Int) : Option (Bool) := (laws_szStripBook.f k a0_0 a0_1 l0_2 l0_3 1048576).bind fun t102 => (if t102 < 0 then (some true) else ((laws_toStripBook.f k a0_0 a0_1 l0_2 l0_3).bind fun bt103 => ((spec_StripBookOk.f k bt103.1 bt103.2.1 bt103.2.2.1 bt103.2.2.2).bind fun t111 => ((laws_toStripBook.f k a0_0 a0_1 l0_2 l0_3).bind fun bt112 => ((impl_StripBookOk.f k bt112.1 bt112.2.1 bt112.2.2.1 bt112.2.2.2).bind fun t121 => (if (t121 != t111) = true then (some false) else ((laws_toStripBook.f k a0_0 a0_1 l0_2 l0_3).bind fun bt122 => ((laws_eqStripBook.f k bt112.1 bt112.2.1 bt112.2.2.1 bt112.2.2.2 bt122.1 bt122.2.1 bt122.2.2.1 bt122.2.2.2).bind fun t130 => (if t130 = true then (some true) else (some false))))))))))
theorem laws_FnExactStripBookOk.mono : ∀ a0 a1 a2 a3 k, LeO (laws_FnExactStripBookOk.f k a0 a1 a2 a3) (laws_FnExactStripBookOk.f (k + 1) a0 a1 a2 a3) := by
 intro a0 a1 a2 a3 k
 unfold laws_FnExactStripBookOk.f
 repeat' first
   | (with_reducible exact impl_StripBookOk.mono _ _ _ _ _)
   | (with_reducible exact laws_eqStripBook.mono _ _ _ _ _ _ _ _ _)
   | (with_reducible exact laws_szStripBook.mono _ _ _ _ _ _)
   | (with_reducible exact laws_toStripBook.mono _ _ _ _ _)
   | (with_reducible exact spec_StripBookOk.mono _ _ _ _ _)
   | (with_reducible exact LeO.refl _)
   | (with_reducible exact LeO.none _)
   | (with_reducible refine LeO.ite ?_ ?_)
   | (with_reducible refine LeO.bind ?_ (fun _ => ?_))
   | exact impl_StripBookOk.mono _ _ _ _ _
   | exact laws_eqStripBook.mono _ _ _ _ _ _ _ _ _
   | exact laws_szStripBook.mono _ _ _ _ _ _
   | exact laws_toStripBook.mono _ _ _ _ _
   | exact spec_StripBookOk.mono _ _ _ _ _
   | exact LeO.none _
   | refine LeO.ite ?_ ?_
   | refine LeO.bind ?_ (fun _ => ?_)
set_option maxHeartbeats 8000000 in
set_option maxRecDepth 100000 in
theorem laws_FnExactStripBookOk.calls (k : Nat) (a0_0 : Int) (a0_1 : Int) (A0_2 : Option Addr) (c0_2 : Nat) (l0_2 : List (S71)) (A0_3 : Option Addr) (c0_3 : Nat) (l0_3 : List Int) (r : Bool) (w : World) (hr0_2 : Kd.C k71 w A0_2 l0_2.length l0_2) (hc0_2 : l0_2.length ≤ c0_2) (hr0_3 : Kd.C (Kd.int .i64) w A0_3 l0_3.length l0_3) (hc0_3 : l0_3.length ≤ c0_3) (h : laws_FnExactStripBookOk.f k a0_0 a0_1 l0_2 l0_3 = some r) :
  Calls Try.prog 7 #[.agg #[.int .i64 a0_0, .int .i64 a0_1, .slice A0_2 l0_2.length c0_2, .slice A0_3 l0_3.length c0_3]] w fun e w' => e = .returned (.bool r) ∧ Below w.heap.size w w' := by
 have hu38 := Try.underlying38
 have hu42 := Try.underlying42
 have HR0_2 := Aside0.mk hr0_2
 have HC0_2 := Aside0.mk hc0_2
 clear hr0_2 hc0_2
 have HR0_3 := Aside0.mk hr0_3
 have HC0_3 := Aside0.mk hc0_3
 clear hr0_3 hc0_3
 have HB := Aside0.mk (Below.refl w.heap.size w)
 have H : ((laws_szStripBook.f k a0_0 a0_1 l0_2 l0_3 1048576).bind fun t102 => (if t102 < 0 then (some true) else ((laws_toStripBook.f k a0_0 a0_1 l0_2 l0_3).bind fun bt103 => ((spec_StripBookOk.f k bt103.1 bt103.2.1 bt103.2.2.1 bt103.2.2.2).bind fun t111 => ((laws_toStripBook.f k a0_0 a0_1 l0_2 l0_3).bind fun bt112 => ((impl_StripBookOk.f k bt112.1 bt112.2.1 bt112.2.2.1 bt112.2.2.2).bind fun t121 => (if (t121 != t111) = true then (some false) else ((laws_toStripBook.f k a0_0 a0_1 l0_2 l0_3).bind fun bt122 => ((laws_eqStripBook.f k bt112.1 bt112.2.1 bt112.2.2.1 bt112.2.2.2 bt122.1 bt122.2.1 bt122.2.2.1 bt122.2.2.2).bind fun t130 => (if t130 = true then (some true) else (some false))))))))))) = some r := h
 clear h
 replace H := Option.bind_eq_some_iff.mp H
 obtain ⟨t102, A20, H⟩ := H
 replace H : (if t102 < 0 then (some true) else ((laws_toStripBook.f k a0_0 a0_1 l0_2 l0_3).bind fun bt103 => ((spec_StripBookOk.f k bt103.1 bt103.2.1 bt103.2.2.1 bt103.2.2.2).bind fun t111 => ((laws_toStripBook.f k a0_0 a0_1 l0_2 l0_3).bind fun bt112 => ((impl_StripBookOk.f k bt112.1 bt112.2.1 bt112.2.2.1 bt112.2.2.2).bind fun t121 => (if (t121 != t111) = true then (some false) else ((laws_toStripBook.f k a0_0 a0_1 l0_2 l0_3).bind fun bt122 => ((laws_eqStripBook.f k bt112.1 bt112.2.1 bt112.2.2.1 bt112.2.2.2 bt122.1 bt122.2.1 bt122.2.2.1 bt122.2.2.2).bind fun t130 => (if t130 = true then (some true) else (some false)))))))))) = some r := H
 have A2 := Aside0.mk A20
 clear A20
 by_cases c3 : t102 < 0
 ·rw [if_pos c3] at H
  have c3b0 : decide (t102 < 0) = true := decide_eq_true c3
  clear c3
  obtain rfl := Option.some.inj H
  go_enter Try.func7, Try.ntmps7
  go_wp2_with (first | ((with_reducible refine gate_dst (N := 1) rfl ?_); refine box_event ?hg (N := 1) ?hd (cs := #[.int .i64 a0_0, .int .i64 a0_1, .slice A0_2 l0_2.length c0_2, .slice A0_3 l0_3.length c0_3]) (t := 38) ?hr ?_; (case hd => rfl); (case hg => rfl); (case hr => first | (go_simp; done) | (go_simp; rfl)); intro gb101 hg w4 hbox hb; have n0_ := Aside0.mk (below_step (eb HB.out) hb); have n1_ := Aside0.mk (hbox); have n2_ := Aside0.mk ((by rw [hg]; exact (below_size (eb HB.out)) : w.heap.size ≤ gb101)); have n3_ := Aside0.mk ((by rw [hg]; exact (below_size (eb HB.out)) : w.heap.size ≤ gb101)); clear HB; have HB := n0_; have BK101 := n1_; have GW101 := n2_; have GE101 := n3_; clear n0_ n1_ n2_ n3_; clear hb hbox hg; obtain ⟨hcz5_0, hcz5_1, hcz5_2, hcz5_3⟩ := bc4 BK101.out; obtain ⟨hfz5_0, hfz5_1, hfz5_2, hfz5_3⟩ := bf4 BK101.out) | ((with_reducible refine gate_callee (f := 24) rfl ?_); refine goesL_ (some 9) rfl rfl Try.func24 (by kernel_rfl) rfl #[.agg #[.int .i64 a0_0, .int .i64 a0_1, .slice A0_2 l0_2.length c0_2, .slice A0_3 l0_3.length c0_3], .int .i64 1048576] rfl (by (try simp only [List.map_toArray, List.map_cons, List.map_nil]); first | done | rfl | (simp only [List.length_drop, List.length_take]; rfl)) ?_; (with_reducible refine (laws_szStripBook.calls k a0_0 a0_1 _ _ l0_2 _ _ l0_3 1048576 t102 _ ?side1 ?side2 ?side3 ?side4 A2.out).mono ?_); (case side1 => repeat (first | exact (Kd.C_below HR0_2.out HB.out) | (with_reducible refine Kd.C_alloc ?_ _) | (with_reducible refine Kd.C_drewN ?_ _) | (with_reducible refine Kd.C_drew ?_))); (case side2 => exact HC0_2.out); (case side3 => repeat (first | exact (Kd.C_below HR0_3.out HB.out) | (with_reducible refine Kd.C_alloc ?_ _) | (with_reducible refine Kd.C_drewN ?_ _) | (with_reducible refine Kd.C_drew ?_))); (case side4 => exact HC0_3.out); rintro e w6 ⟨rfl, hb⟩; refine ⟨_, rfl, ?_⟩; have n0_ := Aside0.mk (blk_below (g := gb101) (o := .cells #[.int .i64 a0_0, .int .i64 a0_1, .slice A0_2 l0_2.length c0_2, .slice A0_3 l0_3.length c0_3] 38 (0, 0)) (ex BK101.out) hb); have n1_ := Aside0.mk (below_step (by repeat (first | (with_reducible first | exact HB.out | apply below_alloc | apply pw_below_drewN | apply below_drew1 | refine below_set ?_ GE101.out) | exact HB.out)) hb); clear BK101; clear HB; have BK101 := n0_; have HB := n1_; clear n0_ n1_; (try clear hb); (try clear hb2); (try clear hk); (try clear hi)))
  go_ret
  exact ⟨by first | rfl | (simp [errW_none, errW_some] <;> rfl) | (simp [*, errW_none, errW_some] <;> rfl), by repeat (first | (with_reducible first | exact HB.out | apply below_alloc | apply pw_below_drewN | apply below_drew1 | refine below_set ?_ GE101.out) | exact HB.out)⟩
 ·rw [if_neg c3] at H
  have c3b0 : decide (t102 < 0) = false := decide_eq_false c3
  clear c3
  replace H := Option.bind_eq_some_iff.mp H
  obtain ⟨⟨t103, t104, t105, t108⟩, A70, H⟩ := H
  replace H : ((spec_StripBookOk.f k t103 t104 t105 t108).bind fun t111 => ((laws_toStripBook.f k a0_0 a0_1 l0_2 l0_3).bind fun bt112 => ((impl_StripBookOk.f k bt112.1 bt112.2.1 bt112.2.2.1 bt112.2.2.2).bind fun t121 => (if (t121 != t111) = true then (some false) else ((laws_toStripBook.f k a0_0 a0_1 l0_2 l0_3).bind fun bt122 => ((laws_eqStripBook.f k bt112.1 bt112.2.1 bt112.2.2.1 bt112.2.2.2 bt122.1 bt122.2.1 bt122.2.2.1 bt122.2.2.2).bind fun t130 => (if t130 = true then (some true) else (some false)))))))) = some r := H
  have A7 := Aside0.mk A70
  clear A70
  replace H := Option.bind_eq_some_iff.mp H
  obtain ⟨t111, A80, H⟩ := H
  replace H : ((laws_toStripBook.f k a0_0 a0_1 l0_2 l0_3).bind fun bt112 => ((impl_StripBookOk.f k bt112.1 bt112.2.1 bt112.2.2.1 bt112.2.2.2).bind fun t121 => (if (t121 != t111) = true then (some false) else ((laws_toStripBook.f k a0_0 a0_1 l0_2 l0_3).bind fun bt122 => ((laws_eqStripBook.f k bt112.1 bt112.2.1 bt112.2.2.1 bt112.2.2.2 bt122.1 bt122.2.1 bt122.2.2.1 bt122.2.2.2).bind fun t130 => (if t130 = true then (some true) else (some false))))))) = some r := H
  have A8 := Aside0.mk A80
  clear A80
  replace H := Option.bind_eq_some_iff.mp H
  obtain ⟨⟨t112, t113, t114, t117⟩, A90, H⟩ := H
  replace H : ((impl_StripBookOk.f k t112 t113 t114 t117).bind fun t121 => (if (t121 != t111) = true then (some false) else ((laws_toStripBook.f k a0_0 a0_1 l0_2 l0_3).bind fun bt122 => ((laws_eqStripBook.f k t112 t113 t114 t117 bt122.1 bt122.2.1 bt122.2.2.1 bt122.2.2.2).bind fun t130 => (if t130 = true then (some true) else (some false)))))) = some r := H
  have A9 := Aside0.mk A90
  clear A90
  replace H := Option.bind_eq_some_iff.mp H
  obtain ⟨t121, A100, H⟩ := H
  replace H : (if (t121 != t111) = true then (some false) else ((laws_toStripBook.f k a0_0 a0_1 l0_2 l0_3).bind fun bt122 => ((laws_eqStripBook.f k t112 t113 t114 t117 bt122.1 bt122.2.1 bt122.2.2.1 bt122.2.2.2).bind fun t130 => (if t130 = true then (some true) else (some false))))) = some r := H
  have A10 := Aside0.mk A100
  clear A100
  by_cases c11 : (t121 != t111) = true
  ·rw [if_pos c11] at H
   have c11b0 : (t121 != t111) = true := c11
   (try (have c11b1 : decide (t121 = t111) = false := by simpa using c11))
   (try (have c11b2 : (t121 == t111) = false := by simpa using c11))
   (try (have c11b3 : ¬ (t121 = t111) := by simpa using c11))
   clear c11
   obtain rfl := Option.some.inj H
   go_enter Try.func7, Try.ntmps7
   go_wp2_with (first | ((with_reducible refine gate_dst (N := 1) rfl ?_); refine box_event ?hg (N := 1) ?hd (cs := #[.int .i64 a0_0, .int .i64 a0_1, .slice A0_2 l0_2.length c0_2, .slice A0_3 l0_3.length c0_3]) (t := 38) ?hr ?_; (case hd => rfl); (case hg => rfl); (case hr => first | (go_simp; done) | (go_simp; rfl)); intro gb101 hg w12 hbox hb; have n0_ := Aside0.mk (below_step (eb HB.out) hb); have n1_ := Aside0.mk (hbox); have n2_ := Aside0.mk ((by rw [hg]; exact (below_size (eb HB.out)) : w.heap.size ≤ gb101)); have n3_ := Aside0.mk ((by rw [hg]; exact (below_size (eb HB.out)) : w.heap.size ≤ gb101)); clear HB; have HB := n0_; have BK101 := n1_; have GW101 := n2_; have GE101 := n3_; clear n0_ n1_ n2_ n3_; clear hb hbox hg; obtain ⟨hcz13_0, hcz13_1, hcz13_2, hcz13_3⟩ := bc4 BK101.out; obtain ⟨hfz13_0, hfz13_1, hfz13_2, hfz13_3⟩ := bf4 BK101.out) | ((with_reducible refine gate_callee (f := 24) rfl ?_); refine goesL_ (some 9) rfl rfl Try.func24 (by kernel_rfl) rfl #[.agg #[.int .i64 a0_0, .int .i64 a0_1, .slice A0_2 l0_2.length c0_2, .slice A0_3 l0_3.length c0_3], .int .i64 1048576] rfl (by (try simp only [List.map_toArray, List.map_cons, List.map_nil]); first | done | rfl | (simp only [List.length_drop, List.length_take]; rfl)) ?_; (with_reducible refine (laws_szStripBook.calls k a0_0 a0_1 _ _ l0_2 _ _ l0_3 1048576 t102 _ ?side1 ?side2 ?side3 ?side4 A2.out).mono ?_); (case side1 => repeat (first | exact (Kd.C_below HR0_2.out HB.out) | (with_reducible refine Kd.C_alloc ?_ _) | (with_reducible refine Kd.C_drewN ?_ _) | (with_reducible refine Kd.C_drew ?_))); (case side2 => exact HC0_2.out); (case side3 => repeat (first | exact (Kd.C_below HR0_3.out HB.out) | (with_reducible refine Kd.C_alloc ?_ _) | (with_reducible refine Kd.C_drewN ?_ _) | (with_reducible refine Kd.C_drew ?_))); (case side4 => exact HC0_3.out); rintro e w14 ⟨rfl, hb⟩; refine ⟨_, rfl, ?_⟩; have n0_ := Aside0.mk (blk_below (g := gb101) (o := .cells #[.int .i64 a0_0, .int .i64 a0_1, .slice A0_2 l0_2.length c0_2, .slice A0_3 l0_3.length c0_3] 38 (0, 0)) (ex BK101.out) hb); have n1_ := Aside0.mk (below_step (by repeat (first | (with_reducible first | exact HB.out | apply below_alloc | apply pw_below_drewN | apply below_drew1 | refine below_set ?_ GE101.out) | exact HB.out)) hb); clear BK101; clear HB; have BK101 := n0_; have HB := n1_; clear n0_ n1_; (try clear hb); (try clear hb2); (try clear hk); (try clear hi); obtain ⟨hcz15_0, hcz15_1, hcz15_2, hcz15_3⟩ := bc4 BK101.out; obtain ⟨hfz15_0, hfz15_1, hfz15_2, hfz15_3⟩ := bf4 BK101.out) | ((with_reducible refine gate_callee (f := 26) rfl ?_); refine goesL_ (some 13) rfl rfl Try.func26 (by kernel_rfl) rfl #[.agg #[.int .i64 a0_0, .int .i64 a0_1, .slice A0_2 l0_2.length c0_2, .slice A0_3 l0_3.length c0_3]] rfl (by (try simp only [List.map_toArray, List.map_cons, List.map_nil]); first | done | rfl | (simp only [List.length_drop, List.length_take]; rfl)) ?_; (with_reducible refine (laws_toStripBook.calls k a0_0 a0_1 _ _ l0_2 _ _ l0_3 t103 t104 t105 t108 _ ?side1 ?side2 ?side3 ?side4 A7.out).mono ?_); (case side1 => repeat (first | exact (Kd.C_below HR0_2.out HB.out) | (with_reducible refine Kd.C_alloc ?_ _) | (with_reducible refine Kd.C_drewN ?_ _) | (with_reducible refine Kd.C_drew ?_))); (case side2 => exact HC0_2.out); (case side3 => repeat (first | exact (Kd.C_below HR0_3.out HB.out) | (with_reducible refine Kd.C_alloc ?_ _) | (with_reducible refine Kd.C_drewN ?_ _) | (with_reducible refine Kd.C_drew ?_))); (case side4 => exact HC0_3.out); rintro e w16 ⟨v106, v109, rfl, ho0, ho1, hb⟩; refine ⟨_, rfl, ?_⟩; have n0_ := Aside0.mk (Kd.R_lower ho0 (below_size (by repeat (first | (with_reducible first | exact HB.out | apply below_alloc | apply pw_below_drewN | apply below_drew1 | refine below_set ?_ GE101.out) | exact HB.out)))); have n1_ := Aside0.mk (Kd.R_lower ho1 (below_size (by repeat (first | (with_reducible first | exact HB.out | apply below_alloc | apply pw_below_drewN | apply below_drew1 | refine below_set ?_ GE101.out) | exact HB.out)))); have n2_ := Aside0.mk (blk_below (g := gb101) (o := .cells #[.int .i64 a0_0, .int .i64 a0_1, .slice A0_2 l0_2.length c0_2, .slice A0_3 l0_3.length c0_3] 38 (0, 0)) (ex BK101.out) hb); have n3_ := Aside0.mk (below_step (by repeat (first | (with_reducible first | exact HB.out | apply below_alloc | apply pw_below_drewN | apply below_drew1 | refine below_set ?_ GE101.out) | exact HB.out)) hb); clear BK101; clear HB; have HO107 := n0_; have HO110 := n1_; have BK101 := n2_; have HB := n3_; clear n0_ n1_ n2_ n3_; (try clear hb); (try clear hb2); (try clear hk); (try clear hi); (try clear ho0); (try clear ho1); obtain ⟨Ao17, co17, eo17⟩ := Kd.R_slice HO107.out; subst eo17; obtain ⟨Ao18, co18, eo18⟩ := Kd.R_slice HO110.out; subst eo18) | ((with_reducible refine gate_callee (f := 25) rfl ?_); refine goesL_ (some 14) rfl rfl Try.func25 (by kernel_rfl) rfl #[.agg #[.int .i64 t103, .int .i64 t104, .slice Ao17 t105.length co17, .slice Ao18 t108.length co18]] rfl (by (try simp only [List.map_toArray, List.map_cons, List.map_nil]); first | done | rfl | (simp only [List.length_drop, List.length_take]; rfl)) ?_; (with_reducible refine (spec_StripBookOk.calls k t103 t104 _ _ t105 _ _ t108 t111 _ ?side1 ?side2 ?side3 ?side4 A8.out).mono ?_); (case side1 => repeat (first | exact (Kd.R_reads' HO107.out).2.2 | (with_reducible refine Kd.C_alloc ?_ _) | (with_reducible refine Kd.C_drewN ?_ _) | (with_reducible refine Kd.C_drew ?_))); (case side2 => exact (Kd.R_reads' HO107.out).2.1); (case side3 => repeat (first | exact (Kd.R_reads' HO110.out).2.2 | (with_reducible refine Kd.C_alloc ?_ _) | (with_reducible refine Kd.C_drewN ?_ _) | (with_reducible refine Kd.C_drew ?_))); (case side4 => exact (Kd.R_reads' HO110.out).2.1); rintro e w19 ⟨rfl, hb⟩; refine ⟨_, rfl, ?_⟩; have n0_ := Aside0.mk (Kd.R_below (er HO107.out) hb); have n1_ := Aside0.mk (Kd.R_below (er HO110.out) hb); have n2_ := Aside0.mk (blk_below (g := gb101) (o := .cells #[.int .i64 a0_0, .int .i64 a0_1, .slice A0_2 l0_2.length c0_2, .slice A0_3 l0_3.length c0_3] 38 (0, 0)) (ex BK101.out) hb); have n3_ := Aside0.mk (below_step (by repeat (first | (with_reducible first | exact HB.out | apply below_alloc | apply pw_below_drewN | apply below_drew1 | refine below_set ?_ GE101.out) | exact HB.out)) hb); clear HO107; clear HO110; clear BK101; clear HB; have HO107 := n0_; have HO110 := n1_; have BK101 := n2_; have HB := n3_; clear n0_ n1_ n2_ n3_; (try clear hb); (try clear hb2); (try clear hk); (try clear hi); obtain ⟨hcz20_0, hcz20_1, hcz20_2, hcz20_3⟩ := bc4 BK101.out; obtain ⟨hfz20_0, hfz20_1, hfz20_2, hfz20_3⟩ := bf4 BK101.out) | ((with_reducible refine gate_callee (f := 26) rfl ?_); refine goesL_ (some 16) rfl rfl Try.func26 (by kernel_rfl) rfl #[.agg #[.int .i64 a0_0, .int .i64 a0_1, .slice A0_2 l0_2.length c0_2, .slice A0_3 l0_3.length c0_3]] rfl (by (try simp only [List.map_toArray, List.map_cons, List.map_nil]); first | done | rfl | (simp only [List.length_drop, List.length_take]; rfl)) ?_; (with_reducible refine (laws_toStripBook.calls k a0_0 a0_1 _ _ l0_2 _ _ l0_3 t112 t113 t114 t117 _ ?side1 ?side2 ?side3 ?side4 A9.out).mono ?_); (case side1 => repeat (first | exact (Kd.C_below HR0_2.out HB.out) | (with_reducible refine Kd.C_alloc ?_ _) | (with_reducible refine Kd.C_drewN ?_ _) | (with_reducible refine Kd.C_drew ?_))); (case side2 => exact HC0_2.out); (case side3 => repeat (first | exact (Kd.C_below HR0_3.out HB.out) | (with_reducible refine Kd.C_alloc ?_ _) | (with_reducible refine Kd.C_drewN ?_ _) | (with_reducible refine Kd.C_drew ?_))); (case side4 => exact HC0_3.out); rintro e w21 ⟨v115, v118, rfl, ho0, ho1, hb⟩; refine ⟨_, rfl, ?_⟩; have n0_ := Aside0.mk (Kd.R_elder' (er HO107.out) (Kd.R_base ho0) hb); have n1_ := Aside0.mk (Kd.R_elder' (er HO110.out) (Kd.R_base ho1) hb); have n2_ := Aside0.mk (Kd.R_lower (Kd.R_new' ho0 (Kd.R_lt (er HO107.out))) (below_size (by repeat (first | (with_reducible first | exact HB.out | apply below_alloc | apply pw_below_drewN | apply below_drew1 | refine below_set ?_ GE101.out) | exact HB.out)))); have n3_ := Aside0.mk (Kd.R_lower (Kd.R_new' ho1 (Kd.R_lt (er HO110.out))) (below_size (by repeat (first | (with_reducible first | exact HB.out | apply below_alloc | apply pw_below_drewN | apply below_drew1 | refine below_set ?_ GE101.out) | exact HB.out)))); have n4_ := Aside0.mk (blk_below (g := gb101) (o := .cells #[.int .i64 a0_0, .int .i64 a0_1, .slice A0_2 l0_2.length c0_2, .slice A0_3 l0_3.length c0_3] 38 (0, 0)) (ex BK101.out) hb); have n5_ := Aside0.mk (below_step (by repeat (first | (with_reducible first | exact HB.out | apply below_alloc | apply pw_below_drewN | apply below_drew1 | refine below_set ?_ GE101.out) | exact HB.out)) hb); clear HO107; clear HO110; clear BK101; clear HB; have HO107 := n0_; have HO110 := n1_; have HO116 := n2_; have HO119 := n3_; have BK101 := n4_; have HB := n5_; clear n0_ n1_ n2_ n3_ n4_ n5_; (try clear hb); (try clear hb2); (try clear hk); (try clear hi); (try clear ho0); (try clear ho1)) | ((with_reducible refine gate_dst (N := 5) rfl ?_); refine box_event ?hg (N := 5) ?hd (cs := #[.int .i64 0, .int .i64 0, .slice none 0 0, .slice none 0 0]) (t := 42) ?hr ?_; (case hd => rfl); (case hg => rfl); (case hr => first | (go_simp; done) | (go_simp; rfl)); intro gb120 hg w22 hbox hb; have n0_ := Aside0.mk (Kd.R_below (er HO107.out) hb); have n1_ := Aside0.mk (Kd.R_below (er HO110.out) hb); have n2_ := Aside0.mk (Kd.R_below (er HO116.out) hb); have n3_ := Aside0.mk (Kd.R_below (er HO119.out) hb); have n4_ := Aside0.mk (blk_below (g := gb101) (o := .cells #[.int .i64 a0_0, .int .i64 a0_1, .slice A0_2 l0_2.length c0_2, .slice A0_3 l0_3.length c0_3] 38 (0, 0)) (ex BK101.out) hb); have n5_ := Aside0.mk (below_step (by repeat (first | (with_reducible first | exact HB.out | apply below_alloc | apply pw_below_drewN | apply below_drew1 | refine below_set ?_ GE101.out) | exact HB.out)) hb); have n6_ := Aside0.mk (hbox); have n7_ := Aside0.mk ((by rw [hg]; exact (below_size (by repeat (first | (with_reducible first | exact HB.out | apply below_alloc | apply pw_below_drewN | apply below_drew1 | refine below_set ?_ GE101.out) | exact HB.out))) : w.heap.size ≤ gb120)); have n8_ := Aside0.mk ((by rw [hg]; exact (below_size (by repeat (first | (with_reducible first | exact HB.out | apply below_alloc | apply pw_below_drewN | apply below_drew1 | refine below_set ?_ GE101.out) | exact HB.out))) : w.heap.size ≤ gb120)); have n9_ := Aside0.mk ((by rw [hg]; exact Nat.ne_of_lt (blk_lt (g := gb101) (o := .cells #[.int .i64 a0_0, .int .i64 a0_1, .slice A0_2 l0_2.length c0_2, .slice A0_3 l0_3.length c0_3] 38 (0, 0)) (ex BK101.out)) : gb101 ≠ gb120)); have n10_ := Aside0.mk ((by rw [hg]; exact Nat.ne_of_gt (blk_lt (g := gb101) (o := .cells #[.int .i64 a0_0, .int .i64 a0_1, .slice A0_2 l0_2.length c0_2, .slice A0_3 l0_3.length c0_3] 38 (0, 0)) (ex BK101.out)) : gb120 ≠ gb101)); clear HO107; clear HO110; clear HO116; clear HO119; clear BK101; clear HB; have HO107 := n0_; have HO110 := n1_; have HO116 := n2_; have HO119 := n3_; have BK101 := n4_; have HB := n5_; have BK120 := n6_; have GW120 := n7_; have GE120 := n8_; have NB101_120 := n9_; have NB120_101 := n10_; clear n0_ n1_ n2_ n3_ n4_ n5_ n6_ n7_ n8_ n9_ n10_; clear hb hbox hg; have hnb23 := NB120_101.out; have hnc23 := NB101_120.out; obtain ⟨hcz24_0, hcz24_1, hcz24_2, hcz24_3⟩ := bc4 BK120.out; obtain ⟨hfz24_0, hfz24_1, hfz24_2, hfz24_3⟩ := bf4 BK120.out; obtain ⟨Ao25, co25, eo25⟩ := Kd.R_slice HO116.out; subst eo25; obtain ⟨Ao26, co26, eo26⟩ := Kd.R_slice HO119.out; subst eo26) | ((with_reducible refine gate_callee (f := 27) rfl ?_); refine goesL_ (some 18) rfl rfl Try.func27 (by kernel_rfl) rfl #[.agg #[.int .i64 t112, .int .i64 t113, .slice Ao25 t114.length co25, .slice Ao26 t117.length co26]] rfl (by (try simp only [List.map_toArray, List.map_cons, List.map_nil]); first | done | rfl | (simp only [List.length_drop, List.length_take]; rfl)) ?_; (with_reducible refine (impl_StripBookOk.calls k t112 t113 _ _ t114 _ _ t117 t121 _ ?side1 ?side2 ?side3 ?side4 A10.out).mono ?_); (case side1 => refine (Kd.R_reads' (e := 54) (base := w.heap.size) (ok := fun k_ => (True ∧ some k_ ≠ (.slice Ao17 t105.length co17 : Value).ownBlock)) (n := t114.length) (c := co25) ?_).2.2; exact (by (with_reducible repeat (first | apply Kd.R_alloc | apply Kd.R_drewN | apply Kd.R_drew)); exact (Kd.R_mono (Kd.R_far (p := ⟨gb120, 3, none⟩) (Kd.R_far (p := ⟨gb120, 2, none⟩) (Kd.R_far (p := ⟨gb120, 1, none⟩) (Kd.R_far (p := ⟨gb120, 0, none⟩) (Kd.R_types HO116.out BK120.out (by decide)) (fun _ hk => hk.2) (.int .i64 t112)) (fun _ hk => hk.2) (.int .i64 t113)) (fun _ hk => hk.2) (.slice Ao25 t114.length co25)) (fun _ hk => hk.2) (.slice Ao26 t117.length co26)) (fun _ h_ => h_.1)))); (case side2 => exact (Kd.R_reads' HO116.out).2.1); (case side3 => refine (Kd.R_reads' (e := 3) (base := w.heap.size) (ok := fun k_ => (True ∧ some k_ ≠ (.slice Ao18 t108.length co18 : Value).ownBlock)) (n := t117.length) (c := co26) ?_).2.2; exact (by (with_reducible repeat (first | apply Kd.R_alloc | apply Kd.R_drewN | apply Kd.R_drew)); exact (Kd.R_mono (Kd.R_far (p := ⟨gb120, 3, none⟩) (Kd.R_far (p := ⟨gb120, 2, none⟩) (Kd.R_far (p := ⟨gb120, 1, none⟩) (Kd.R_far (p := ⟨gb120, 0, none⟩) (Kd.R_types HO119.out BK120.out (by decide)) (fun _ hk => hk.2) (.int .i64 t112)) (fun _ hk => hk.2) (.int .i64 t113)) (fun _ hk => hk.2) (.slice Ao25 t114.length co25)) (fun _ hk => hk.2) (.slice Ao26 t117.length co26)) (fun _ h_ => h_.1)))); (case side4 => exact (Kd.R_reads' HO119.out).2.1); rintro e w27 ⟨rfl, hb⟩; refine ⟨_, rfl, ?_⟩; have n0_ := Aside0.mk (Kd.R_below (by (with_reducible repeat (first | apply Kd.R_alloc | apply Kd.R_drewN | apply Kd.R_drew)); exact (Kd.R_mono (Kd.R_far (p := ⟨gb120, 3, none⟩) (Kd.R_far (p := ⟨gb120, 2, none⟩) (Kd.R_far (p := ⟨gb120, 1, none⟩) (Kd.R_far (p := ⟨gb120, 0, none⟩) (Kd.R_types HO107.out BK120.out (by decide)) (fun _ hk => hk.2) (.int .i64 t112)) (fun _ hk => hk.2) (.int .i64 t113)) (fun _ hk => hk.2) (.slice Ao25 t114.length co25)) (fun _ hk => hk.2) (.slice Ao26 t117.length co26)) (fun _ h_ => h_.1))) hb); have n1_ := Aside0.mk (Kd.R_below (by (with_reducible repeat (first | apply Kd.R_alloc | apply Kd.R_drewN | apply Kd.R_drew)); exact (Kd.R_mono (Kd.R_far (p := ⟨gb120, 3, none⟩) (Kd.R_far (p := ⟨gb120, 2, none⟩) (Kd.R_far (p := ⟨gb120, 1, none⟩) (Kd.R_far (p := ⟨gb120, 0, none⟩) (Kd.R_types HO110.out BK120.out (by decide)) (fun _ hk => hk.2) (.int .i64 t112)) (fun _ hk => hk.2) (.int .i64 t113)) (fun _ hk => hk.2) (.slice Ao25 t114.length co25)) (fun _ hk => hk.2) (.slice Ao26 t117.length co26)) (fun _ h_ => h_.1))) hb); have n2_ := Aside0.mk (Kd.R_below (by (with_reducible repeat (first | apply Kd.R_alloc | apply Kd.R_drewN | apply Kd.R_drew)); exact (Kd.R_mono (Kd.R_far (p := ⟨gb120, 3, none⟩) (Kd.R_far (p := ⟨gb120, 2, none⟩) (Kd.R_far (p := ⟨gb120, 1, none⟩) (Kd.R_far (p := ⟨gb120, 0, none⟩) (Kd.R_types HO116.out BK120.out (by decide)) (fun _ hk => hk.2) (.int .i64 t112)) (fun _ hk => hk.2) (.int .i64 t113)) (fun _ hk => hk.2) (.slice Ao25 t114.length co25)) (fun _ hk => hk.2) (.slice Ao26 t117.length co26)) (fun _ h_ => h_.1))) hb); have n3_ := Aside0.mk (Kd.R_below (by (with_reducible repeat (first | apply Kd.R_alloc | apply Kd.R_drewN | apply Kd.R_drew)); exact (Kd.R_mono (Kd.R_far (p := ⟨gb120, 3, none⟩) (Kd.R_far (p := ⟨gb120, 2, none⟩) (Kd.R_far (p := ⟨gb120, 1, none⟩) (Kd.R_far (p := ⟨gb120, 0, none⟩) (Kd.R_types HO119.out BK120.out (by decide)) (fun _ hk => hk.2) (.int .i64 t112)) (fun _ hk => hk.2) (.int .i64 t113)) (fun _ hk => hk.2) (.slice Ao25 t114.length co25)) (fun _ hk => hk.2) (.slice Ao26 t117.length co26)) (fun _ h_ => h_.1))) hb); have n4_ := Aside0.mk (blk_below (g := gb101) (o := .cells #[.int .i64 a0_0, .int .i64 a0_1, .slice A0_2 l0_2.length c0_2, .slice A0_3 l0_3.length c0_3] 38 (0, 0)) (by refine px ?_; refine blk_far ?_ NB101_120.out _; refine px ?_; refine blk_far ?_ NB101_120.out _; refine px ?_; refine blk_far ?_ NB101_120.out _; refine px ?_; refine blk_far ?_ NB101_120.out _; refine px ?_; exact BK101.out) hb); have n5_ := Aside0.mk (blk_below (g := gb120) (o := .cells #[.int .i64 t112, .int .i64 t113, .slice Ao25 t114.length co25, .slice Ao26 t117.length co26] 42 (0, 0)) (by refine px ?_; refine blk_put (cs := #[.int .i64 t112, .int .i64 t113, .slice Ao25 t114.length co25, .slice none 0 0]) ?_ 3 _ rfl; refine px ?_; refine blk_put (cs := #[.int .i64 t112, .int .i64 t113, .slice none 0 0, .slice none 0 0]) ?_ 2 _ rfl; refine px ?_; refine blk_put (cs := #[.int .i64 t112, .int .i64 0, .slice none 0 0, .slice none 0 0]) ?_ 1 _ rfl; refine px ?_; refine blk_put (cs := #[.int .i64 0, .int .i64 0, .slice none 0 0, .slice none 0 0]) ?_ 0 _ rfl; refine px ?_; exact BK120.out) hb); have n6_ := Aside0.mk (below_step (by repeat (first | (with_reducible first | exact HB.out | apply below_alloc | apply pw_below_drewN | apply below_drew1 | refine below_set ?_ GE101.out | refine below_set ?_ GE120.out) | exact HB.out)) hb); clear HO107; clear HO110; clear HO116; clear HO119; clear BK101; clear BK120; clear HB; have HO107 := n0_; have HO110 := n1_; have HO116 := n2_; have HO119 := n3_; have BK101 := n4_; have BK120 := n5_; have HB := n6_; clear n0_ n1_ n2_ n3_ n4_ n5_ n6_; (try clear hb); (try clear hb2); (try clear hk); (try clear hi)))
   go_ret
   exact ⟨by first | rfl | (simp [errW_none, errW_some] <;> rfl) | (simp [*, errW_none, errW_some] <;> rfl), by repeat (first | (with_reducible first | exact HB.out | apply below_alloc | apply pw_below_drewN | apply below_drew1 | refine below_set ?_ GE101.out | refine below_set ?_ GE120.out) | exact HB.out)⟩
  ·rw [if_neg c11] at H
   have c11b0 : (t121 != t111) = false := by simpa using c11
   (try (have c11b1 : decide (t121 = t111) = true := by simpa using c11))
   (try (have c11b2 : (t121 == t111) = true := by simpa using c11))
   clear c11
   replace H := Option.bind_eq_some_iff.mp H
   obtain ⟨⟨t122, t123, t124, t127⟩, A280, H⟩ := H
   replace H : ((laws_eqStripBook.f k t112 t113 t114 t117 t122 t123 t124 t127).bind fun t130 => (if t130 = true then (some true) else (some false))) = some r := H
   have A28 := Aside0.mk A280
   clear A280
   replace H := Option.bind_eq_some_iff.mp H
   obtain ⟨t130, A290, H⟩ := H
   replace H : (if t130 = true then (some true) else (some false)) = some r := H
   have A29 := Aside0.mk A290
   clear A290
   by_cases c30 : t130 = true
   ·subst c30
    have H1 : (some true) = some r := by rw [if_pos rfl] at H; exact H
    clear H
    have H := H1
    clear H1
    obtain rfl := Option.some.inj H
    go_enter Try.func7, Try.ntmps7
    try go_wp2_with (first | ((with_reducible refine gate_dst (N := 1) rfl ?_); refine box_event ?hg (N := 1) ?hd (cs := #[.int .i64 a0_0, .int .i64 a0_1, .slice A0_2 l0_2.length c0_2, .slice A0_3 l0_3.length c0_3]) (t := 38) ?hr ?_; (case hd => rfl); (case hg => rfl); (case hr => first | (go_simp; done) | (go_simp; rfl)); intro gb101 hg w31 hbox hb; have n0_ := Aside0.mk (below_step (eb HB.out) hb); have n1_ := Aside0.mk (hbox); have n2_ := Aside0.mk ((by rw [hg]; exact (below_size (eb HB.out)) : w.heap.size ≤ gb101)); have n3_ := Aside0.mk ((by rw [hg]; exact (below_size (eb HB.out)) : w.heap.size ≤ gb101)); clear HB; have HB := n0_; have BK101 := n1_; have GW101 := n2_; have GE101 := n3_; clear n0_ n1_ n2_ n3_; clear hb hbox hg; obtain ⟨hcz32_0, hcz32_1, hcz32_2, hcz32_3⟩ := bc4 BK101.out; obtain ⟨hfz32_0, hfz32_1, hfz32_2, hfz32_3⟩ := bf4 BK101.out) | ((with_reducible refine gate_callee (f := 24) rfl ?_); refine goesL_ (some 9) rfl rfl Try.func24 (by kernel_rfl) rfl #[.agg #[.int .i64 a0_0, .int .i64 a0_1, .slice A0_2 l0_2.length c0_2, .slice A0_3 l0_3.length c0_3], .int .i64 1048576] rfl (by (try simp only [List.map_toArray, List.map_cons, List.map_nil]); first | done | rfl | (simp only [List.length_drop, List.length_take]; rfl)) ?_; (with_reducible refine (laws_szStripBook.calls k a0_0 a0_1 _ _ l0_2 _ _ l0_3 1048576 t102 _ ?side1 ?side2 ?side3 ?side4 A2.out).mono ?_); (case side1 => repeat (first | exact (Kd.C_below HR0_2.out HB.out) | (with_reducible refine Kd.C_alloc ?_ _) | (with_reducible refine Kd.C_drewN ?_ _) | (with_reducible refine Kd.C_drew ?_))); (case side2 => exact HC0_2.out); (case side3 => repeat (first | exact (Kd.C_below HR0_3.out HB.out) | (with_reducible refine Kd.C_alloc ?_ _) | (with_reducible refine Kd.C_drewN ?_ _) | (with_reducible refine Kd.C_drew ?_))); (case side4 => exact HC0_3.out); rintro e w33 ⟨rfl, hb⟩; refine ⟨_, rfl, ?_⟩; have n0_ := Aside0.mk (blk_below (g := gb101) (o := .cells #[.int .i64 a0_0, .int .i64 a0_1, .slice A0_2 l0_2.length c0_2, .slice A0_3 l0_3.length c0_3] 38 (0, 0)) (ex BK101.out) hb); have n1_ := Aside0.mk (below_step (by repeat (first | (with_reducible first | exact HB.out | apply below_alloc | apply pw_below_drewN | apply below_drew1 | refine below_set ?_ GE101.out) | exact HB.out)) hb); clear BK101; clear HB; have BK101 := n0_; have HB := n1_; clear n0_ n1_; (try clear hb); (try clear hb2); (try clear hk); (try clear hi); obtain ⟨hcz34_0, hcz34_1, hcz34_2, hcz34_3⟩ := bc4 BK101.out; obtain ⟨hfz34_0, hfz34_1, hfz34_2, hfz34_3⟩ := bf4 BK101.out) | ((with_reducible refine gate_callee (f := 26) rfl ?_); refine goesL_ (some 13) rfl rfl Try.func26 (by kernel_rfl) rfl #[.agg #[.int .i64 a0_0, .int .i64 a0_1, .slice A0_2 l0_2.length c0_2, .slice A0_3 l0_3.length c0_3]] rfl (by (try simp only [List.map_toArray, List.map_cons, List.map_nil]); first | done | rfl | (simp only [List.length_drop, List.length_take]; rfl)) ?_; (with_reducible refine (laws_toStripBook.calls k a0_0 a0_1 _ _ l0_2 _ _ l0_3 t103 t104 t105 t108 _ ?side1 ?side2 ?side3 ?side4 A7.out).mono ?_); (case side1 => repeat (first | exact (Kd.C_below HR0_2.out HB.out) | (with_reducible refine Kd.C_alloc ?_ _) | (with_reducible refine Kd.C_drewN ?_ _) | (with_reducible refine Kd.C_drew ?_))); (case side2 => exact HC0_2.out); (case side3 => repeat (first | exact (Kd.C_below HR0_3.out HB.out) | (with_reducible refine Kd.C_alloc ?_ _) | (with_reducible refine Kd.C_drewN ?_ _) | (with_reducible refine Kd.C_drew ?_))); (case side4 => exact HC0_3.out); rintro e w35 ⟨v106, v109, rfl, ho0, ho1, hb⟩; refine ⟨_, rfl, ?_⟩; have n0_ := Aside0.mk (Kd.R_lower ho0 (below_size (by repeat (first | (with_reducible first | exact HB.out | apply below_alloc | apply pw_below_drewN | apply below_drew1 | refine below_set ?_ GE101.out) | exact HB.out)))); have n1_ := Aside0.mk (Kd.R_lower ho1 (below_size (by repeat (first | (with_reducible first | exact HB.out | apply below_alloc | apply pw_below_drewN | apply below_drew1 | refine below_set ?_ GE101.out) | exact HB.out)))); have n2_ := Aside0.mk (blk_below (g := gb101) (o := .cells #[.int .i64 a0_0, .int .i64 a0_1, .slice A0_2 l0_2.length c0_2, .slice A0_3 l0_3.length c0_3] 38 (0, 0)) (ex BK101.out) hb); have n3_ := Aside0.mk (below_step (by repeat (first | (with_reducible first | exact HB.out | apply below_alloc | apply pw_below_drewN | apply below_drew1 | refine below_set ?_ GE101.out) | exact HB.out)) hb); clear BK101; clear HB; have HO107 := n0_; have HO110 := n1_; have BK101 := n2_; have HB := n3_; clear n0_ n1_ n2_ n3_; (try clear hb); (try clear hb2); (try clear hk); (try clear hi); (try clear ho0); (try clear ho1); obtain ⟨Ao36, co36, eo36⟩ := Kd.R_slice HO107.out; subst eo36; obtain ⟨Ao37, co37, eo37⟩ := Kd.R_slice HO110.out; subst eo37) | ((with_reducible refine gate_callee (f := 25) rfl ?_); refine goesL_ (some 14) rfl rfl Try.func25 (by kernel_rfl) rfl #[.agg #[.int .i64 t103, .int .i64 t104, .slice Ao36 t105.length co36, .slice Ao37 t108.length co37]] rfl (by (try simp only [List.map_toArray, List.map_cons, List.map_nil]); first | done | rfl | (simp only [List.length_drop, List.length_take]; rfl)) ?_; (with_reducible refine (spec_StripBookOk.calls k t103 t104 _ _ t105 _ _ t108 t111 _ ?side1 ?side2 ?side3 ?side4 A8.out).mono ?_); (case side1 => repeat (first | exact (Kd.R_reads' HO107.out).2.2 | (with_reducible refine Kd.C_alloc ?_ _) | (with_reducible refine Kd.C_drewN ?_ _) | (with_reducible refine Kd.C_drew ?_))); (case side2 => exact (Kd.R_reads' HO107.out).2.1); (case side3 => repeat (first | exact (Kd.R_reads' HO110.out).2.2 | (with_reducible refine Kd.C_alloc ?_ _) | (with_reducible refine Kd.C_drewN ?_ _) | (with_reducible refine Kd.C_drew ?_))); (case side4 => exact (Kd.R_reads' HO110.out).2.1); rintro e w38 ⟨rfl, hb⟩; refine ⟨_, rfl, ?_⟩; have n0_ := Aside0.mk (Kd.R_below (er HO107.out) hb); have n1_ := Aside0.mk (Kd.R_below (er HO110.out) hb); have n2_ := Aside0.mk (blk_below (g := gb101) (o := .cells #[.int .i64 a0_0, .int .i64 a0_1, .slice A0_2 l0_2.length c0_2, .slice A0_3 l0_3.length c0_3] 38 (0, 0)) (ex BK101.out) hb); have n3_ := Aside0.mk (below_step (by repeat (first | (with_reducible first | exact HB.out | apply below_alloc | apply pw_below_drewN | apply below_drew1 | refine below_set ?_ GE101.out) | exact HB.out)) hb); clear HO107; clear HO110; clear BK101; clear HB; have HO107 := n0_; have HO110 := n1_; have BK101 := n2_; have HB := n3_; clear n0_ n1_ n2_ n3_; (try clear hb); (try clear hb2); (try clear hk); (try clear hi); obtain ⟨hcz39_0, hcz39_1, hcz39_2, hcz39_3⟩ := bc4 BK101.out; obtain ⟨hfz39_0, hfz39_1, hfz39_2, hfz39_3⟩ := bf4 BK101.out) | ((with_reducible refine gate_callee (f := 26) rfl ?_); refine goesL_ (some 16) rfl rfl Try.func26 (by kernel_rfl) rfl #[.agg #[.int .i64 a0_0, .int .i64 a0_1, .slice A0_2 l0_2.length c0_2, .slice A0_3 l0_3.length c0_3]] rfl (by (try simp only [List.map_toArray, List.map_cons, List.map_nil]); first | done | rfl | (simp only [List.length_drop, List.length_take]; rfl)) ?_; (with_reducible refine (laws_toStripBook.calls k a0_0 a0_1 _ _ l0_2 _ _ l0_3 t112 t113 t114 t117 _ ?side1 ?side2 ?side3 ?side4 A9.out).mono ?_); (case side1 => repeat (first | exact (Kd.C_below HR0_2.out HB.out) | (with_reducible refine Kd.C_alloc ?_ _) | (with_reducible refine Kd.C_drewN ?_ _) | (with_reducible refine Kd.C_drew ?_))); (case side2 => exact HC0_2.out); (case side3 => repeat (first | exact (Kd.C_below HR0_3.out HB.out) | (with_reducible refine Kd.C_alloc ?_ _) | (with_reducible refine Kd.C_drewN ?_ _) | (with_reducible refine Kd.C_drew ?_))); (case side4 => exact HC0_3.out); rintro e w40 ⟨v115, v118, rfl, ho0, ho1, hb⟩; refine ⟨_, rfl, ?_⟩; have n0_ := Aside0.mk (Kd.R_elder' (er HO107.out) (Kd.R_base ho0) hb); have n1_ := Aside0.mk (Kd.R_elder' (er HO110.out) (Kd.R_base ho1) hb); have n2_ := Aside0.mk (Kd.R_lower (Kd.R_new' ho0 (Kd.R_lt (er HO107.out))) (below_size (by repeat (first | (with_reducible first | exact HB.out | apply below_alloc | apply pw_below_drewN | apply below_drew1 | refine below_set ?_ GE101.out) | exact HB.out)))); have n3_ := Aside0.mk (Kd.R_lower (Kd.R_new' ho1 (Kd.R_lt (er HO110.out))) (below_size (by repeat (first | (with_reducible first | exact HB.out | apply below_alloc | apply pw_below_drewN | apply below_drew1 | refine below_set ?_ GE101.out) | exact HB.out)))); have n4_ := Aside0.mk (blk_below (g := gb101) (o := .cells #[.int .i64 a0_0, .int .i64 a0_1, .slice A0_2 l0_2.length c0_2, .slice A0_3 l0_3.length c0_3] 38 (0, 0)) (ex BK101.out) hb); have n5_ := Aside0.mk (below_step (by repeat (first | (with_reducible first | exact HB.out | apply below_alloc | apply pw_below_drewN | apply below_drew1 | refine below_set ?_ GE101.out) | exact HB.out)) hb); clear HO107; clear HO110; clear BK101; clear HB; have HO107 := n0_; have HO110 := n1_; have HO116 := n2_; have HO119 := n3_; have BK101 := n4_; have HB := n5_; clear n0_ n1_ n2_ n3_ n4_ n5_; (try clear hb); (try clear hb2); (try clear hk); (try clear hi); (try clear ho0); (try clear ho1)) | ((with_reducible refine gate_dst (N := 5) rfl ?_); refine box_event ?hg (N := 5) ?hd (cs := #[.int .i64 0, .int .i64 0, .slice none 0 0, .slice none 0 0]) (t := 42) ?hr ?_; (case hd => rfl); (case hg => rfl); (case hr => first | (go_simp; done) | (go_simp; rfl)); intro gb120 hg w41 hbox hb; have n0_ := Aside0.mk (Kd.R_below (er HO107.out) hb); have n1_ := Aside0.mk (Kd.R_below (er HO110.out) hb); have n2_ := Aside0.mk (Kd.R_below (er HO116.out) hb); have n3_ := Aside0.mk (Kd.R_below (er HO119.out) hb); have n4_ := Aside0.mk (blk_below (g := gb101) (o := .cells #[.int .i64 a0_0, .int .i64 a0_1, .slice A0_2 l0_2.length c0_2, .slice A0_3 l0_3.length c0_3] 38 (0, 0)) (ex BK101.out) hb); have n5_ := Aside0.mk (below_step (by repeat (first | (with_reducible first | exact HB.out | apply below_alloc | apply pw_below_drewN | apply below_drew1 | refine below_set ?_ GE101.out) | exact HB.out)) hb); have n6_ := Aside0.mk (hbox); have n7_ := Aside0.mk ((by rw [hg]; exact (below_size (by repeat (first | (with_reducible first | exact HB.out | apply below_alloc | apply pw_below_drewN | apply below_drew1 | refine below_set ?_ GE101.out) | exact HB.out))) : w.heap.size ≤ gb120)); have n8_ := Aside0.mk ((by rw [hg]; exact (below_size (by repeat (first | (with_reducible first | exact HB.out | apply below_alloc | apply pw_below_drewN | apply below_drew1 | refine below_set ?_ GE101.out) | exact HB.out))) : w.heap.size ≤ gb120)); have n9_ := Aside0.mk ((by rw [hg]; exact Nat.ne_of_lt (blk_lt (g := gb101) (o := .cells #[.int .i64 a0_0, .int .i64 a0_1, .slice A0_2 l0_2.length c0_2, .slice A0_3 l0_3.length c0_3] 38 (0, 0)) (ex BK101.out)) : gb101 ≠ gb120)); have n10_ := Aside0.mk ((by rw [hg]; exact Nat.ne_of_gt (blk_lt (g := gb101) (o := .cells #[.int .i64 a0_0, .int .i64 a0_1, .slice A0_2 l0_2.length c0_2, .slice A0_3 l0_3.length c0_3] 38 (0, 0)) (ex BK101.out)) : gb120 ≠ gb101)); clear HO107; clear HO110; clear HO116; clear HO119; clear BK101; clear HB; have HO107 := n0_; have HO110 := n1_; have HO116 := n2_; have HO119 := n3_; have BK101 := n4_; have HB := n5_; have BK120 := n6_; have GW120 := n7_; have GE120 := n8_; have NB101_120 := n9_; have NB120_101 := n10_; clear n0_ n1_ n2_ n3_ n4_ n5_ n6_ n7_ n8_ n9_ n10_; clear hb hbox hg; have hnb42 := NB120_101.out; have hnc42 := NB101_120.out; obtain ⟨hcz43_0, hcz43_1, hcz43_2, hcz43_3⟩ := bc4 BK120.out; obtain ⟨hfz43_0, hfz43_1, hfz43_2, hfz43_3⟩ := bf4 BK120.out; obtain ⟨Ao44, co44, eo44⟩ := Kd.R_slice HO116.out; subst eo44; obtain ⟨Ao45, co45, eo45⟩ := Kd.R_slice HO119.out; subst eo45) | ((with_reducible refine gate_callee (f := 27) rfl ?_); refine goesL_ (some 18) rfl rfl Try.func27 (by kernel_rfl) rfl #[.agg #[.int .i64 t112, .int .i64 t113, .slice Ao44 t114.length co44, .slice Ao45 t117.length co45]] rfl (by (try simp only [List.map_toArray, List.map_cons, List.map_nil]); first | done | rfl | (simp only [List.length_drop, List.length_take]; rfl)) ?_; (with_reducible refine (impl_StripBookOk.calls k t112 t113 _ _ t114 _ _ t117 t121 _ ?side1 ?side2 ?side3 ?side4 A10.out).mono ?_); (case side1 => refine (Kd.R_reads' (e := 54) (base := w.heap.size) (ok := fun k_ => (True ∧ some k_ ≠ (.slice Ao36 t105.length co36 : Value).ownBlock)) (n := t114.length) (c := co44) ?_).2.2; exact (by (with_reducible repeat (first | apply Kd.R_alloc | apply Kd.R_drewN | apply Kd.R_drew)); exact (Kd.R_mono (Kd.R_far (p := ⟨gb120, 3, none⟩) (Kd.R_far (p := ⟨gb120, 2, none⟩) (Kd.R_far (p := ⟨gb120, 1, none⟩) (Kd.R_far (p := ⟨gb120, 0, none⟩) (Kd.R_types HO116.out BK120.out (by decide)) (fun _ hk => hk.2) (.int .i64 t112)) (fun _ hk => hk.2) (.int .i64 t113)) (fun _ hk => hk.2) (.slice Ao44 t114.length co44)) (fun _ hk => hk.2) (.slice Ao45 t117.length co45)) (fun _ h_ => h_.1)))); (case side2 => exact (Kd.R_reads' HO116.out).2.1); (case side3 => refine (Kd.R_reads' (e := 3) (base := w.heap.size) (ok := fun k_ => (True ∧ some k_ ≠ (.slice Ao37 t108.length co37 : Value).ownBlock)) (n := t117.length) (c := co45) ?_).2.2; exact (by (with_reducible repeat (first | apply Kd.R_alloc | apply Kd.R_drewN | apply Kd.R_drew)); exact (Kd.R_mono (Kd.R_far (p := ⟨gb120, 3, none⟩) (Kd.R_far (p := ⟨gb120, 2, none⟩) (Kd.R_far (p := ⟨gb120, 1, none⟩) (Kd.R_far (p := ⟨gb120, 0, none⟩) (Kd.R_types HO119.out BK120.out (by decide)) (fun _ hk => hk.2) (.int .i64 t112)) (fun _ hk => hk.2) (.int .i64 t113)) (fun _ hk => hk.2) (.slice Ao44 t114.length co44)) (fun _ hk => hk.2) (.slice Ao45 t117.length co45)) (fun _ h_ => h_.1)))); (case side4 => exact (Kd.R_reads' HO119.out).2.1); rintro e w46 ⟨rfl, hb⟩; refine ⟨_, rfl, ?_⟩; have n0_ := Aside0.mk (Kd.R_below (by (with_reducible repeat (first | apply Kd.R_alloc | apply Kd.R_drewN | apply Kd.R_drew)); exact (Kd.R_mono (Kd.R_far (p := ⟨gb120, 3, none⟩) (Kd.R_far (p := ⟨gb120, 2, none⟩) (Kd.R_far (p := ⟨gb120, 1, none⟩) (Kd.R_far (p := ⟨gb120, 0, none⟩) (Kd.R_types HO107.out BK120.out (by decide)) (fun _ hk => hk.2) (.int .i64 t112)) (fun _ hk => hk.2) (.int .i64 t113)) (fun _ hk => hk.2) (.slice Ao44 t114.length co44)) (fun _ hk => hk.2) (.slice Ao45 t117.length co45)) (fun _ h_ => h_.1))) hb); have n1_ := Aside0.mk (Kd.R_below (by (with_reducible repeat (first | apply Kd.R_alloc | apply Kd.R_drewN | apply Kd.R_drew)); exact (Kd.R_mono (Kd.R_far (p := ⟨gb120, 3, none⟩) (Kd.R_far (p := ⟨gb120, 2, none⟩) (Kd.R_far (p := ⟨gb120, 1, none⟩) (Kd.R_far (p := ⟨gb120, 0, none⟩) (Kd.R_types HO110.out BK120.out (by decide)) (fun _ hk => hk.2) (.int .i64 t112)) (fun _ hk => hk.2) (.int .i64 t113)) (fun _ hk => hk.2) (.slice Ao44 t114.length co44)) (fun _ hk => hk.2) (.slice Ao45 t117.length co45)) (fun _ h_ => h_.1))) hb); have n2_ := Aside0.mk (Kd.R_below (by (with_reducible repeat (first | apply Kd.R_alloc | apply Kd.R_drewN | apply Kd.R_drew)); exact (Kd.R_mono (Kd.R_far (p := ⟨gb120, 3, none⟩) (Kd.R_far (p := ⟨gb120, 2, none⟩) (Kd.R_far (p := ⟨gb120, 1, none⟩) (Kd.R_far (p := ⟨gb120, 0, none⟩) (Kd.R_types HO116.out BK120.out (by decide)) (fun _ hk => hk.2) (.int .i64 t112)) (fun _ hk => hk.2) (.int .i64 t113)) (fun _ hk => hk.2) (.slice Ao44 t114.length co44)) (fun _ hk => hk.2) (.slice Ao45 t117.length co45)) (fun _ h_ => h_.1))) hb); have n3_ := Aside0.mk (Kd.R_below (by (with_reducible repeat (first | apply Kd.R_alloc | apply Kd.R_drewN | apply Kd.R_drew)); exact (Kd.R_mono (Kd.R_far (p := ⟨gb120, 3, none⟩) (Kd.R_far (p := ⟨gb120, 2, none⟩) (Kd.R_far (p := ⟨gb120, 1, none⟩) (Kd.R_far (p := ⟨gb120, 0, none⟩) (Kd.R_types HO119.out BK120.out (by decide)) (fun _ hk => hk.2) (.int .i64 t112)) (fun _ hk => hk.2) (.int .i64 t113)) (fun _ hk => hk.2) (.slice Ao44 t114.length co44)) (fun _ hk => hk.2) (.slice Ao45 t117.length co45)) (fun _ h_ => h_.1))) hb); have n4_ := Aside0.mk (blk_below (g := gb101) (o := .cells #[.int .i64 a0_0, .int .i64 a0_1, .slice A0_2 l0_2.length c0_2, .slice A0_3 l0_3.length c0_3] 38 (0, 0)) (by refine px ?_; refine blk_far ?_ NB101_120.out _; refine px ?_; refine blk_far ?_ NB101_120.out _; refine px ?_; refine blk_far ?_ NB101_120.out _; refine px ?_; refine blk_far ?_ NB101_120.out _; refine px ?_; exact BK101.out) hb); have n5_ := Aside0.mk (blk_below (g := gb120) (o := .cells #[.int .i64 t112, .int .i64 t113, .slice Ao44 t114.length co44, .slice Ao45 t117.length co45] 42 (0, 0)) (by refine px ?_; refine blk_put (cs := #[.int .i64 t112, .int .i64 t113, .slice Ao44 t114.length co44, .slice none 0 0]) ?_ 3 _ rfl; refine px ?_; refine blk_put (cs := #[.int .i64 t112, .int .i64 t113, .slice none 0 0, .slice none 0 0]) ?_ 2 _ rfl; refine px ?_; refine blk_put (cs := #[.int .i64 t112, .int .i64 0, .slice none 0 0, .slice none 0 0]) ?_ 1 _ rfl; refine px ?_; refine blk_put (cs := #[.int .i64 0, .int .i64 0, .slice none 0 0, .slice none 0 0]) ?_ 0 _ rfl; refine px ?_; exact BK120.out) hb); have n6_ := Aside0.mk (below_step (by repeat (first | (with_reducible first | exact HB.out | apply below_alloc | apply pw_below_drewN | apply below_drew1 | refine below_set ?_ GE101.out | refine below_set ?_ GE120.out) | exact HB.out)) hb); clear HO107; clear HO110; clear HO116; clear HO119; clear BK101; clear BK120; clear HB; have HO107 := n0_; have HO110 := n1_; have HO116 := n2_; have HO119 := n3_; have BK101 := n4_; have BK120 := n5_; have HB := n6_; clear n0_ n1_ n2_ n3_ n4_ n5_ n6_; (try clear hb); (try clear hb2); (try clear hk); (try clear hi)))
    have n0_ := Aside0.mk (Kd.R_drew HO107.out)
    have n1_ := Aside0.mk (Kd.R_drew HO110.out)
    have n2_ := Aside0.mk (Kd.R_drew HO116.out)
    have n3_ := Aside0.mk (Kd.R_drew HO119.out)
    have n4_ := Aside0.mk (blk_drew BK101.out)
    have n5_ := Aside0.mk (blk_drew BK120.out)
    have n6_ := Aside0.mk (below_drew1 HB.out)
    clear HO107
    clear HO110
    clear HO116
    clear HO119
    clear BK101
    clear BK120
    clear HB
    have HO107 := n0_
    have HO110 := n1_
    have HO116 := n2_
    have HO119 := n3_
    have BK101 := n4_
    have BK120 := n5_
    have HB := n6_
    clear n0_ n1_ n2_ n3_ n4_ n5_ n6_
    refine start_ (n := 5) (S := fun w' => w'.cell? ⟨gb120, 0, none⟩ = some (.int .i64 t112) ∧ w'.cell? ⟨gb120, 1, none⟩ = some (.int .i64 t113) ∧ w'.cell? ⟨gb120, 2, none⟩ = some (.slice Ao44 t114.length co44) ∧ w'.cell? ⟨gb120, 3, none⟩ = some (.slice Ao45 t117.length co45) ∧ w'.cell? ⟨gb101, 0, none⟩ = some (.int .i64 a0_0) ∧ w'.cell? ⟨gb101, 1, none⟩ = some (.int .i64 a0_1) ∧ w'.cell? ⟨gb101, 2, none⟩ = some (.slice A0_2 l0_2.length c0_2) ∧ w'.cell? ⟨gb101, 3, none⟩ = some (.slice A0_3 l0_3.length c0_3)) (ds := []) #[false, false, false, false, false] (by kernel_rfl) rfl rfl ⟨(blk_cell BK120.out 0).trans rfl, (blk_cell BK120.out 1).trans rfl, (blk_cell BK120.out 2).trans rfl, (blk_cell BK120.out 3).trans rfl, (blk_cell BK101.out 0).trans rfl, (blk_cell BK101.out 1).trans rfl, (blk_cell BK101.out 2).trans rfl, (blk_cell BK101.out 3).trans rfl⟩ (fun hHeld => ?_)
    generalize w46.drew = w47 at HO107 HO110 HO116 HO119 BK101 BK120 HB hHeld ⊢
    refine take_ (i := 0) (N := some 22) (v := ?_) (a' := ?_) #[true, false, false, false, false] rfl rfl (by kernel_rfl) (fun _ _ _ h => h) (Or.inl ⟨by rfl, ?_⟩) hHeld ?_ ?_
    rotate_left
    ·rintro w' ⟨s0, s1, s2, s3, s4, s5, s6, s7⟩
     go_simp
     with_reducible rfl
    rotate_left
    ·simp only [P0, P0n, P2, P3, P4, P5, P6]
     rfl
    refine take_ (i := 1) (N := some 23) (v := ?_) (a' := ?_) #[true, true, false, false, false] rfl rfl (by kernel_rfl) (fun _ _ _ h => h) (Or.inl ⟨by rfl, ?_⟩) hHeld ?_ ?_
    rotate_left
    ·rintro w' ⟨s0, s1, s2, s3, s4, s5, s6, s7⟩
     go_simp
     with_reducible rfl
    rotate_left
    ·simp only [P0, P0n, P2, P3, P4, P5, P6]
     rfl
    refine one_ (i := 2) (N := some 24) #[true, true, true, false, false] rfl rfl (by kernel_rfl) (by decide) (fun K hK => ?_)
    refine goes_ Try.func26 (by kernel_rfl) rfl #[.agg #[.int .i64 a0_0, .int .i64 a0_1, .slice A0_2 l0_2.length c0_2, .slice A0_3 l0_3.length c0_3]] (by rfl) rfl rfl (by (try simp only [List.map_toArray, List.map_cons, List.map_nil]); first | done | rfl | (simp only [List.length_drop, List.length_take]; rfl)) ?_
    with_reducible refine (laws_toStripBook.calls k a0_0 a0_1 _ _ l0_2 _ _ l0_3 t122 t123 t124 t127 _ ?side1 ?side2 ?side3 ?side4 A28.out).mono ?_
    (case side1 => repeat (first | exact (Kd.C_below HR0_2.out HB.out) | (with_reducible refine Kd.C_alloc ?_ _) | (with_reducible refine Kd.C_drewN ?_ _) | (with_reducible refine Kd.C_drew ?_)))
    (case side2 => exact HC0_2.out)
    (case side3 => repeat (first | exact (Kd.C_below HR0_3.out HB.out) | (with_reducible refine Kd.C_alloc ?_ _) | (with_reducible refine Kd.C_drewN ?_ _) | (with_reducible refine Kd.C_drew ?_)))
    (case side4 => exact HC0_3.out)
    rintro e w48 ⟨v125, v128, rfl, ho0, ho1, hb⟩
    refine ⟨_, rfl, ?_⟩
    have n0_ := Aside0.mk (Kd.R_elder' (er HO107.out) (Kd.R_base ho0) hb)
    have n1_ := Aside0.mk (Kd.R_elder' (er HO110.out) (Kd.R_base ho1) hb)
    have n2_ := Aside0.mk (Kd.R_elder' (er HO116.out) (Kd.R_base ho0) hb)
    have n3_ := Aside0.mk (Kd.R_elder' (er HO119.out) (Kd.R_base ho1) hb)
    have n4_ := Aside0.mk (Kd.R_lower (Kd.R_new' (Kd.R_new' ho0 (Kd.R_lt (er HO107.out))) (Kd.R_lt (er HO116.out))) (below_size (by repeat (first | (with_reducible first | exact HB.out | apply below_alloc | apply pw_below_drewN | apply below_drew1 | refine below_set ?_ GE101.out | refine below_set ?_ GE120.out) | exact HB.out))))
    have n5_ := Aside0.mk (Kd.R_lower (Kd.R_new' (Kd.R_new' ho1 (Kd.R_lt (er HO110.out))) (Kd.R_lt (er HO119.out))) (below_size (by repeat (first | (with_reducible first | exact HB.out | apply below_alloc | apply pw_below_drewN | apply below_drew1 | refine below_set ?_ GE101.out | refine below_set ?_ GE120.out) | exact HB.out))))
    have n6_ := Aside0.mk (blk_below (g := gb101) (o := .cells #[.int .i64 a0_0, .int .i64 a0_1, .slice A0_2 l0_2.length c0_2, .slice A0_3 l0_3.length c0_3] 38 (0, 0)) (ex BK101.out) hb)
    have n7_ := Aside0.mk (blk_below (g := gb120) (o := .cells #[.int .i64 t112, .int .i64 t113, .slice Ao44 t114.length co44, .slice Ao45 t117.length co45] 42 (0, 0)) (ex BK120.out) hb)
    have n8_ := Aside0.mk (below_step (by repeat (first | (with_reducible first | exact HB.out | apply below_alloc | apply pw_below_drewN | apply below_drew1 | refine below_set ?_ GE101.out | refine below_set ?_ GE120.out) | exact HB.out)) hb)
    clear HO107
    clear HO110
    clear HO116
    clear HO119
    clear BK101
    clear BK120
    clear HB
    have HO107 := n0_
    have HO110 := n1_
    have HO116 := n2_
    have HO119 := n3_
    have HO126 := n4_
    have HO129 := n5_
    have BK101 := n6_
    have BK120 := n7_
    have HB := n8_
    clear n0_ n1_ n2_ n3_ n4_ n5_ n6_ n7_ n8_
    (try clear hb)
    (try clear hb2)
    (try clear hk)
    (try clear hi)
    (try clear ho0)
    (try clear ho1)
    obtain ⟨Ao49, co49, eo49⟩ := Kd.R_slice HO126.out
    (first | subst eo49 | (injection eo49 with f1_ f2_ f3_; have f4_ := f1_.symm; have f5_ := f3_.symm; clear f1_ f2_ f3_; subst f4_; subst f5_))
    obtain ⟨Ao50, co50, eo50⟩ := Kd.R_slice HO129.out
    (first | subst eo50 | (injection eo50 with f1_ f2_ f3_; have f4_ := f1_.symm; have f5_ := f3_.symm; clear f1_ f2_ f3_; subst f4_; subst f5_))
    refine hK.out _ _ ⟨(blk_cell BK120.out 0).trans rfl, (blk_cell BK120.out 1).trans rfl, (blk_cell BK120.out 2).trans rfl, (blk_cell BK120.out 3).trans rfl, (blk_cell BK101.out 0).trans rfl, (blk_cell BK101.out 1).trans rfl, (blk_cell BK101.out 2).trans rfl, (blk_cell BK101.out 3).trans rfl⟩ (fun hHeld => ?_)
    clear hK K
    refine norm_ (a' := ?_) ?_ ?_
    rotate_left
    ·show Act.put _ (some 24) _ = _
     simp only [P0, P0n, P2, P3, P4, P5, P6]
     rfl
    refine one_ (i := 3) (N := some 25) #[true, true, true, true, false] rfl rfl (by kernel_rfl) (by decide) (fun K hK => ?_)
    refine goes_ Try.func28 (by kernel_rfl) rfl #[.agg #[.int .i64 t112, .int .i64 t113, .slice Ao44 t114.length co44, .slice Ao45 t117.length co45], .agg #[.int .i64 t122, .int .i64 t123, .slice Ao49 t124.length co49, .slice Ao50 t127.length co50]] (by rfl) rfl rfl (by (try simp only [List.map_toArray, List.map_cons, List.map_nil]); first | done | rfl | (simp only [List.length_drop, List.length_take]; rfl)) ?_
    with_reducible refine (laws_eqStripBook.calls k t112 t113 _ _ t114 _ _ t117 t122 t123 _ _ t124 _ _ t127 true _ ?side1 ?side2 ?side3 ?side4 ?side5 ?side6 ?side7 ?side8 A29.out).mono ?_
    (case side1 => repeat (first | exact (Kd.R_reads' HO116.out).2.2 | (with_reducible refine Kd.C_alloc ?_ _) | (with_reducible refine Kd.C_drewN ?_ _) | (with_reducible refine Kd.C_drew ?_)))
    (case side2 => exact (Kd.R_reads' HO116.out).2.1)
    (case side3 => repeat (first | exact (Kd.R_reads' HO119.out).2.2 | (with_reducible refine Kd.C_alloc ?_ _) | (with_reducible refine Kd.C_drewN ?_ _) | (with_reducible refine Kd.C_drew ?_)))
    (case side4 => exact (Kd.R_reads' HO119.out).2.1)
    (case side5 => repeat (first | exact (Kd.R_reads' HO126.out).2.2 | (with_reducible refine Kd.C_alloc ?_ _) | (with_reducible refine Kd.C_drewN ?_ _) | (with_reducible refine Kd.C_drew ?_)))
    (case side6 => exact (Kd.R_reads' HO126.out).2.1)
    (case side7 => repeat (first | exact (Kd.R_reads' HO129.out).2.2 | (with_reducible refine Kd.C_alloc ?_ _) | (with_reducible refine Kd.C_drewN ?_ _) | (with_reducible refine Kd.C_drew ?_)))
    (case side8 => exact (Kd.R_reads' HO129.out).2.1)
    rintro e w51 ⟨rfl, hb⟩
    refine ⟨_, rfl, ?_⟩
    have n0_ := Aside0.mk (Kd.R_below (er HO107.out) hb)
    have n1_ := Aside0.mk (Kd.R_below (er HO110.out) hb)
    have n2_ := Aside0.mk (Kd.R_below (er HO116.out) hb)
    have n3_ := Aside0.mk (Kd.R_below (er HO119.out) hb)
    have n4_ := Aside0.mk (Kd.R_below (er HO126.out) hb)
    have n5_ := Aside0.mk (Kd.R_below (er HO129.out) hb)
    have n6_ := Aside0.mk (blk_below (g := gb101) (o := .cells #[.int .i64 a0_0, .int .i64 a0_1, .slice A0_2 l0_2.length c0_2, .slice A0_3 l0_3.length c0_3] 38 (0, 0)) (ex BK101.out) hb)
    have n7_ := Aside0.mk (blk_below (g := gb120) (o := .cells #[.int .i64 t112, .int .i64 t113, .slice Ao44 t114.length co44, .slice Ao45 t117.length co45] 42 (0, 0)) (ex BK120.out) hb)
    have n8_ := Aside0.mk (below_step (by repeat (first | (with_reducible first | exact HB.out | apply below_alloc | apply pw_below_drewN | apply below_drew1 | refine below_set ?_ GE101.out | refine below_set ?_ GE120.out) | exact HB.out)) hb)
    clear HO107
    clear HO110
    clear HO116
    clear HO119
    clear HO126
    clear HO129
    clear BK101
    clear BK120
    clear HB
    have HO107 := n0_
    have HO110 := n1_
    have HO116 := n2_
    have HO119 := n3_
    have HO126 := n4_
    have HO129 := n5_
    have BK101 := n6_
    have BK120 := n7_
    have HB := n8_
    clear n0_ n1_ n2_ n3_ n4_ n5_ n6_ n7_ n8_
    (try clear hb)
    (try clear hb2)
    (try clear hk)
    (try clear hi)
    refine hK.out _ _ ⟨(blk_cell BK120.out 0).trans rfl, (blk_cell BK120.out 1).trans rfl, (blk_cell BK120.out 2).trans rfl, (blk_cell BK120.out 3).trans rfl, (blk_cell BK101.out 0).trans rfl, (blk_cell BK101.out 1).trans rfl, (blk_cell BK101.out 2).trans rfl, (blk_cell BK101.out 3).trans rfl⟩ (fun hHeld => ?_)
    clear hK K
    refine norm_ (a' := ?_) ?_ ?_
    rotate_left
    ·show Act.put _ (some 25) _ = _
     simp only [P0, P0n, P2, P3, P4, P5, P6]
     rfl
    refine pure_ (i := 4) (N := some 26) (v := ?_) (a' := ?_) #[true, true, true, true, true] rfl rfl (by kernel_rfl) (fun _ _ _ h => h) (Or.inl ⟨by rfl, ?_⟩) ?_ ?_
    rotate_left; (intro w'; go_simp; with_reducible rfl); rotate_left; (simp only [P0, P0n, P2, P3, P4, P5, P6]; rfl)
    refine done_ (by kernel_rfl) ?_
    try go_wp2
    go_ret
    exact ⟨by first | rfl | (simp [errW_none, errW_some] <;> rfl) | (simp [*, errW_none, errW_some] <;> rfl), by repeat (first | (with_reducible first | exact HB.out | apply below_alloc | apply pw_below_drewN | apply below_drew1 | refine below_set ?_ GE101.out | refine below_set ?_ GE120.out) | exact HB.out)⟩
   ·replace c30 := Bool.eq_false_iff.mpr c30
    subst c30
    have H1 : (some false) = some r := by rw [if_neg (show ¬ (false = true) by decide)] at H; exact H
    clear H
    have H := H1
    clear H1
    obtain rfl := Option.some.inj H
    go_enter Try.func7, Try.ntmps7
    try go_wp2_with (first | ((with_reducible refine gate_dst (N := 1) rfl ?_); refine box_event ?hg (N := 1) ?hd (cs := #[.int .i64 a0_0, .int .i64 a0_1, .slice A0_2 l0_2.length c0_2, .slice A0_3 l0_3.length c0_3]) (t := 38) ?hr ?_; (case hd => rfl); (case hg => rfl); (case hr => first | (go_simp; done) | (go_simp; rfl)); intro gb101 hg w52 hbox hb; have n0_ := Aside0.mk (below_step (eb HB.out) hb); have n1_ := Aside0.mk (hbox); have n2_ := Aside0.mk ((by rw [hg]; exact (below_size (eb HB.out)) : w.heap.size ≤ gb101)); have n3_ := Aside0.mk ((by rw [hg]; exact (below_size (eb HB.out)) : w.heap.size ≤ gb101)); clear HB; have HB := n0_; have BK101 := n1_; have GW101 := n2_; have GE101 := n3_; clear n0_ n1_ n2_ n3_; clear hb hbox hg; obtain ⟨hcz53_0, hcz53_1, hcz53_2, hcz53_3⟩ := bc4 BK101.out; obtain ⟨hfz53_0, hfz53_1, hfz53_2, hfz53_3⟩ := bf4 BK101.out) | ((with_reducible refine gate_callee (f := 24) rfl ?_); refine goesL_ (some 9) rfl rfl Try.func24 (by kernel_rfl) rfl #[.agg #[.int .i64 a0_0, .int .i64 a0_1, .slice A0_2 l0_2.length c0_2, .slice A0_3 l0_3.length c0_3], .int .i64 1048576] rfl (by (try simp only [List.map_toArray, List.map_cons, List.map_nil]); first | done | rfl | (simp only [List.length_drop, List.length_take]; rfl)) ?_; (with_reducible refine (laws_szStripBook.calls k a0_0 a0_1 _ _ l0_2 _ _ l0_3 1048576 t102 _ ?side1 ?side2 ?side3 ?side4 A2.out).mono ?_); (case side1 => repeat (first | exact (Kd.C_below HR0_2.out HB.out) | (with_reducible refine Kd.C_alloc ?_ _) | (with_reducible refine Kd.C_drewN ?_ _) | (with_reducible refine Kd.C_drew ?_))); (case side2 => exact HC0_2.out); (case side3 => repeat (first | exact (Kd.C_below HR0_3.out HB.out) | (with_reducible refine Kd.C_alloc ?_ _) | (with_reducible refine Kd.C_drewN ?_ _) | (with_reducible refine Kd.C_drew ?_))); (case side4 => exact HC0_3.out); rintro e w54 ⟨rfl, hb⟩; refine ⟨_, rfl, ?_⟩; have n0_ := Aside0.mk (blk_below (g := gb101) (o := .cells #[.int .i64 a0_0, .int .i64 a0_1, .slice A0_2 l0_2.length c0_2, .slice A0_3 l0_3.length c0_3] 38 (0, 0)) (ex BK101.out) hb); have n1_ := Aside0.mk (below_step (by repeat (first | (with_reducible first | exact HB.out | apply below_alloc | apply pw_below_drewN | apply below_drew1 | refine below_set ?_ GE101.out) | exact HB.out)) hb); clear BK101; clear HB; have BK101 := n0_; have HB := n1_; clear n0_ n1_; (try clear hb); (try clear hb2); (try clear hk); (try clear hi); obtain ⟨hcz55_0, hcz55_1, hcz55_2, hcz55_3⟩ := bc4 BK101.out; obtain ⟨hfz55_0, hfz55_1, hfz55_2, hfz55_3⟩ := bf4 BK101.out) | ((with_reducible refine gate_callee (f := 26) rfl ?_); refine goesL_ (some 13) rfl rfl Try.func26 (by kernel_rfl) rfl #[.agg #[.int .i64 a0_0, .int .i64 a0_1, .slice A0_2 l0_2.length c0_2, .slice A0_3 l0_3.length c0_3]] rfl (by (try simp only [List.map_toArray, List.map_cons, List.map_nil]); first | done | rfl | (simp only [List.length_drop, List.length_take]; rfl)) ?_; (with_reducible refine (laws_toStripBook.calls k a0_0 a0_1 _ _ l0_2 _ _ l0_3 t103 t104 t105 t108 _ ?side1 ?side2 ?side3 ?side4 A7.out).mono ?_); (case side1 => repeat (first | exact (Kd.C_below HR0_2.out HB.out) | (with_reducible refine Kd.C_alloc ?_ _) | (with_reducible refine Kd.C_drewN ?_ _) | (with_reducible refine Kd.C_drew ?_))); (case side2 => exact HC0_2.out); (case side3 => repeat (first | exact (Kd.C_below HR0_3.out HB.out) | (with_reducible refine Kd.C_alloc ?_ _) | (with_reducible refine Kd.C_drewN ?_ _) | (with_reducible refine Kd.C_drew ?_))); (case side4 => exact HC0_3.out); rintro e w56 ⟨v106, v109, rfl, ho0, ho1, hb⟩; refine ⟨_, rfl, ?_⟩; have n0_ := Aside0.mk (Kd.R_lower ho0 (below_size (by repeat (first | (with_reducible first | exact HB.out | apply below_alloc | apply pw_below_drewN | apply below_drew1 | refine below_set ?_ GE101.out) | exact HB.out)))); have n1_ := Aside0.mk (Kd.R_lower ho1 (below_size (by repeat (first | (with_reducible first | exact HB.out | apply below_alloc | apply pw_below_drewN | apply below_drew1 | refine below_set ?_ GE101.out) | exact HB.out)))); have n2_ := Aside0.mk (blk_below (g := gb101) (o := .cells #[.int .i64 a0_0, .int .i64 a0_1, .slice A0_2 l0_2.length c0_2, .slice A0_3 l0_3.length c0_3] 38 (0, 0)) (ex BK101.out) hb); have n3_ := Aside0.mk (below_step (by repeat (first | (with_reducible first | exact HB.out | apply below_alloc | apply pw_below_drewN | apply below_drew1 | refine below_set ?_ GE101.out) | exact HB.out)) hb); clear BK101; clear HB; have HO107 := n0_; have HO110 := n1_; have BK101 := n2_; have HB := n3_; clear n0_ n1_ n2_ n3_; (try clear hb); (try clear hb2); (try clear hk); (try clear hi); (try clear ho0); (try clear ho1); obtain ⟨Ao57, co57, eo57⟩ := Kd.R_slice HO107.out; subst eo57; obtain ⟨Ao58, co58, eo58⟩ := Kd.R_slice HO110.out; subst eo58) | ((with_reducible refine gate_callee (f := 25) rfl ?_); refine goesL_ (some 14) rfl rfl Try.func25 (by kernel_rfl) rfl #[.agg #[.int .i64 t103, .int .i64 t104, .slice Ao57 t105.length co57, .slice Ao58 t108.length co58]] rfl (by (try simp only [List.map_toArray, List.map_cons, List.map_nil]); first | done | rfl | (simp only [List.length_drop, List.length_take]; rfl)) ?_; (with_reducible refine (spec_StripBookOk.calls k t103 t104 _ _ t105 _ _ t108 t111 _ ?side1 ?side2 ?side3 ?side4 A8.out).mono ?_); (case side1 => repeat (first | exact (Kd.R_reads' HO107.out).2.2 | (with_reducible refine Kd.C_alloc ?_ _) | (with_reducible refine Kd.C_drewN ?_ _) | (with_reducible refine Kd.C_drew ?_))); (case side2 => exact (Kd.R_reads' HO107.out).2.1); (case side3 => repeat (first | exact (Kd.R_reads' HO110.out).2.2 | (with_reducible refine Kd.C_alloc ?_ _) | (with_reducible refine Kd.C_drewN ?_ _) | (with_reducible refine Kd.C_drew ?_))); (case side4 => exact (Kd.R_reads' HO110.out).2.1); rintro e w59 ⟨rfl, hb⟩; refine ⟨_, rfl, ?_⟩; have n0_ := Aside0.mk (Kd.R_below (er HO107.out) hb); have n1_ := Aside0.mk (Kd.R_below (er HO110.out) hb); have n2_ := Aside0.mk (blk_below (g := gb101) (o := .cells #[.int .i64 a0_0, .int .i64 a0_1, .slice A0_2 l0_2.length c0_2, .slice A0_3 l0_3.length c0_3] 38 (0, 0)) (ex BK101.out) hb); have n3_ := Aside0.mk (below_step (by repeat (first | (with_reducible first | exact HB.out | apply below_alloc | apply pw_below_drewN | apply below_drew1 | refine below_set ?_ GE101.out) | exact HB.out)) hb); clear HO107; clear HO110; clear BK101; clear HB; have HO107 := n0_; have HO110 := n1_; have BK101 := n2_; have HB := n3_; clear n0_ n1_ n2_ n3_; (try clear hb); (try clear hb2); (try clear hk); (try clear hi); obtain ⟨hcz60_0, hcz60_1, hcz60_2, hcz60_3⟩ := bc4 BK101.out; obtain ⟨hfz60_0, hfz60_1, hfz60_2, hfz60_3⟩ := bf4 BK101.out) | ((with_reducible refine gate_callee (f := 26) rfl ?_); refine goesL_ (some 16) rfl rfl Try.func26 (by kernel_rfl) rfl #[.agg #[.int .i64 a0_0, .int .i64 a0_1, .slice A0_2 l0_2.length c0_2, .slice A0_3 l0_3.length c0_3]] rfl (by (try simp only [List.map_toArray, List.map_cons, List.map_nil]); first | done | rfl | (simp only [List.length_drop, List.length_take]; rfl)) ?_; (with_reducible refine (laws_toStripBook.calls k a0_0 a0_1 _ _ l0_2 _ _ l0_3 t112 t113 t114 t117 _ ?side1 ?side2 ?side3 ?side4 A9.out).mono ?_); (case side1 => repeat (first | exact (Kd.C_below HR0_2.out HB.out) | (with_reducible refine Kd.C_alloc ?_ _) | (with_reducible refine Kd.C_drewN ?_ _) | (with_reducible refine Kd.C_drew ?_))); (case side2 => exact HC0_2.out); (case side3 => repeat (first | exact (Kd.C_below HR0_3.out HB.out) | (with_reducible refine Kd.C_alloc ?_ _) | (with_reducible refine Kd.C_drewN ?_ _) | (with_reducible refine Kd.C_drew ?_))); (case side4 => exact HC0_3.out); rintro e w61 ⟨v115, v118, rfl, ho0, ho1, hb⟩; refine ⟨_, rfl, ?_⟩; have n0_ := Aside0.mk (Kd.R_elder' (er HO107.out) (Kd.R_base ho0) hb); have n1_ := Aside0.mk (Kd.R_elder' (er HO110.out) (Kd.R_base ho1) hb); have n2_ := Aside0.mk (Kd.R_lower (Kd.R_new' ho0 (Kd.R_lt (er HO107.out))) (below_size (by repeat (first | (with_reducible first | exact HB.out | apply below_alloc | apply pw_below_drewN | apply below_drew1 | refine below_set ?_ GE101.out) | exact HB.out)))); have n3_ := Aside0.mk (Kd.R_lower (Kd.R_new' ho1 (Kd.R_lt (er HO110.out))) (below_size (by repeat (first | (with_reducible first | exact HB.out | apply below_alloc | apply pw_below_drewN | apply below_drew1 | refine below_set ?_ GE101.out) | exact HB.out)))); have n4_ := Aside0.mk (blk_below (g := gb101) (o := .cells #[.int .i64 a0_0, .int .i64 a0_1, .slice A0_2 l0_2.length c0_2, .slice A0_3 l0_3.length c0_3] 38 (0, 0)) (ex BK101.out) hb); have n5_ := Aside0.mk (below_step (by repeat (first | (with_reducible first | exact HB.out | apply below_alloc | apply pw_below_drewN | apply below_drew1 | refine below_set ?_ GE101.out) | exact HB.out)) hb); clear HO107; clear HO110; clear BK101; clear HB; have HO107 := n0_; have HO110 := n1_; have HO116 := n2_; have HO119 := n3_; have BK101 := n4_; have HB := n5_; clear n0_ n1_ n2_ n3_ n4_ n5_; (try clear hb); (try clear hb2); (try clear hk); (try clear hi); (try clear ho0); (try clear ho1)) | ((with_reducible refine gate_dst (N := 5) rfl ?_); refine box_event ?hg (N := 5) ?hd (cs := #[.int .i64 0, .int .i64 0, .slice none 0 0, .slice none 0 0]) (t := 42) ?hr ?_; (case hd => rfl); (case hg => rfl); (case hr => first | (go_simp; done) | (go_simp; rfl)); intro gb120 hg w62 hbox hb; have n0_ := Aside0.mk (Kd.R_below (er HO107.out) hb); have n1_ := Aside0.mk (Kd.R_below (er HO110.out) hb); have n2_ := Aside0.mk (Kd.R_below (er HO116.out) hb); have n3_ := Aside0.mk (Kd.R_below (er HO119.out) hb); have n4_ := Aside0.mk (blk_below (g := gb101) (o := .cells #[.int .i64 a0_0, .int .i64 a0_1, .slice A0_2 l0_2.length c0_2, .slice A0_3 l0_3.length c0_3] 38 (0, 0)) (ex BK101.out) hb); have n5_ := Aside0.mk (below_step (by repeat (first | (with_reducible first | exact HB.out | apply below_alloc | apply pw_below_drewN | apply below_drew1 | refine below_set ?_ GE101.out) | exact HB.out)) hb); have n6_ := Aside0.mk (hbox); have n7_ := Aside0.mk ((by rw [hg]; exact (below_size (by repeat (first | (with_reducible first | exact HB.out | apply below_alloc | apply pw_below_drewN | apply below_drew1 | refine below_set ?_ GE101.out) | exact HB.out))) : w.heap.size ≤ gb120)); have n8_ := Aside0.mk ((by rw [hg]; exact (below_size (by repeat (first | (with_reducible first | exact HB.out | apply below_alloc | apply pw_below_drewN | apply below_drew1 | refine below_set ?_ GE101.out) | exact HB.out))) : w.heap.size ≤ gb120)); have n9_ := Aside0.mk ((by rw [hg]; exact Nat.ne_of_lt (blk_lt (g := gb101) (o := .cells #[.int .i64 a0_0, .int .i64 a0_1, .slice A0_2 l0_2.length c0_2, .slice A0_3 l0_3.length c0_3] 38 (0, 0)) (ex BK101.out)) : gb101 ≠ gb120)); have n10_ := Aside0.mk ((by rw [hg]; exact Nat.ne_of_gt (blk_lt (g := gb101) (o := .cells #[.int .i64 a0_0, .int .i64 a0_1, .slice A0_2 l0_2.length c0_2, .slice A0_3 l0_3.length c0_3] 38 (0, 0)) (ex BK101.out)) : gb120 ≠ gb101)); clear HO107; clear HO110; clear HO116; clear HO119; clear BK101; clear HB; have HO107 := n0_; have HO110 := n1_; have HO116 := n2_; have HO119 := n3_; have BK101 := n4_; have HB := n5_; have BK120 := n6_; have GW120 := n7_; have GE120 := n8_; have NB101_120 := n9_; have NB120_101 := n10_; clear n0_ n1_ n2_ n3_ n4_ n5_ n6_ n7_ n8_ n9_ n10_; clear hb hbox hg; have hnb63 := NB120_101.out; have hnc63 := NB101_120.out; obtain ⟨hcz64_0, hcz64_1, hcz64_2, hcz64_3⟩ := bc4 BK120.out; obtain ⟨hfz64_0, hfz64_1, hfz64_2, hfz64_3⟩ := bf4 BK120.out; obtain ⟨Ao65, co65, eo65⟩ := Kd.R_slice HO116.out; subst eo65; obtain ⟨Ao66, co66, eo66⟩ := Kd.R_slice HO119.out; subst eo66) | ((with_reducible refine gate_callee (f := 27) rfl ?_); refine goesL_ (some 18) rfl rfl Try.func27 (by kernel_rfl) rfl #[.agg #[.int .i64 t112, .int .i64 t113, .slice Ao65 t114.length co65, .slice Ao66 t117.length co66]] rfl (by (try simp only [List.map_toArray, List.map_cons, List.map_nil]); first | done | rfl | (simp only [List.length_drop, List.length_take]; rfl)) ?_; (with_reducible refine (impl_StripBookOk.calls k t112 t113 _ _ t114 _ _ t117 t121 _ ?side1 ?side2 ?side3 ?side4 A10.out).mono ?_); (case side1 => refine (Kd.R_reads' (e := 54) (base := w.heap.size) (ok := fun k_ => (True ∧ some k_ ≠ (.slice Ao57 t105.length co57 : Value).ownBlock)) (n := t114.length) (c := co65) ?_).2.2; exact (by (with_reducible repeat (first | apply Kd.R_alloc | apply Kd.R_drewN | apply Kd.R_drew)); exact (Kd.R_mono (Kd.R_far (p := ⟨gb120, 3, none⟩) (Kd.R_far (p := ⟨gb120, 2, none⟩) (Kd.R_far (p := ⟨gb120, 1, none⟩) (Kd.R_far (p := ⟨gb120, 0, none⟩) (Kd.R_types HO116.out BK120.out (by decide)) (fun _ hk => hk.2) (.int .i64 t112)) (fun _ hk => hk.2) (.int .i64 t113)) (fun _ hk => hk.2) (.slice Ao65 t114.length co65)) (fun _ hk => hk.2) (.slice Ao66 t117.length co66)) (fun _ h_ => h_.1)))); (case side2 => exact (Kd.R_reads' HO116.out).2.1); (case side3 => refine (Kd.R_reads' (e := 3) (base := w.heap.size) (ok := fun k_ => (True ∧ some k_ ≠ (.slice Ao58 t108.length co58 : Value).ownBlock)) (n := t117.length) (c := co66) ?_).2.2; exact (by (with_reducible repeat (first | apply Kd.R_alloc | apply Kd.R_drewN | apply Kd.R_drew)); exact (Kd.R_mono (Kd.R_far (p := ⟨gb120, 3, none⟩) (Kd.R_far (p := ⟨gb120, 2, none⟩) (Kd.R_far (p := ⟨gb120, 1, none⟩) (Kd.R_far (p := ⟨gb120, 0, none⟩) (Kd.R_types HO119.out BK120.out (by decide)) (fun _ hk => hk.2) (.int .i64 t112)) (fun _ hk => hk.2) (.int .i64 t113)) (fun _ hk => hk.2) (.slice Ao65 t114.length co65)) (fun _ hk => hk.2) (.slice Ao66 t117.length co66)) (fun _ h_ => h_.1)))); (case side4 => exact (Kd.R_reads' HO119.out).2.1); rintro e w67 ⟨rfl, hb⟩; refine ⟨_, rfl, ?_⟩; have n0_ := Aside0.mk (Kd.R_below (by (with_reducible repeat (first | apply Kd.R_alloc | apply Kd.R_drewN | apply Kd.R_drew)); exact (Kd.R_mono (Kd.R_far (p := ⟨gb120, 3, none⟩) (Kd.R_far (p := ⟨gb120, 2, none⟩) (Kd.R_far (p := ⟨gb120, 1, none⟩) (Kd.R_far (p := ⟨gb120, 0, none⟩) (Kd.R_types HO107.out BK120.out (by decide)) (fun _ hk => hk.2) (.int .i64 t112)) (fun _ hk => hk.2) (.int .i64 t113)) (fun _ hk => hk.2) (.slice Ao65 t114.length co65)) (fun _ hk => hk.2) (.slice Ao66 t117.length co66)) (fun _ h_ => h_.1))) hb); have n1_ := Aside0.mk (Kd.R_below (by (with_reducible repeat (first | apply Kd.R_alloc | apply Kd.R_drewN | apply Kd.R_drew)); exact (Kd.R_mono (Kd.R_far (p := ⟨gb120, 3, none⟩) (Kd.R_far (p := ⟨gb120, 2, none⟩) (Kd.R_far (p := ⟨gb120, 1, none⟩) (Kd.R_far (p := ⟨gb120, 0, none⟩) (Kd.R_types HO110.out BK120.out (by decide)) (fun _ hk => hk.2) (.int .i64 t112)) (fun _ hk => hk.2) (.int .i64 t113)) (fun _ hk => hk.2) (.slice Ao65 t114.length co65)) (fun _ hk => hk.2) (.slice Ao66 t117.length co66)) (fun _ h_ => h_.1))) hb); have n2_ := Aside0.mk (Kd.R_below (by (with_reducible repeat (first | apply Kd.R_alloc | apply Kd.R_drewN | apply Kd.R_drew)); exact (Kd.R_mono (Kd.R_far (p := ⟨gb120, 3, none⟩) (Kd.R_far (p := ⟨gb120, 2, none⟩) (Kd.R_far (p := ⟨gb120, 1, none⟩) (Kd.R_far (p := ⟨gb120, 0, none⟩) (Kd.R_types HO116.out BK120.out (by decide)) (fun _ hk => hk.2) (.int .i64 t112)) (fun _ hk => hk.2) (.int .i64 t113)) (fun _ hk => hk.2) (.slice Ao65 t114.length co65)) (fun _ hk => hk.2) (.slice Ao66 t117.length co66)) (fun _ h_ => h_.1))) hb); have n3_ := Aside0.mk (Kd.R_below (by (with_reducible repeat (first | apply Kd.R_alloc | apply Kd.R_drewN | apply Kd.R_drew)); exact (Kd.R_mono (Kd.R_far (p := ⟨gb120, 3, none⟩) (Kd.R_far (p := ⟨gb120, 2, none⟩) (Kd.R_far (p := ⟨gb120, 1, none⟩) (Kd.R_far (p := ⟨gb120, 0, none⟩) (Kd.R_types HO119.out BK120.out (by decide)) (fun _ hk => hk.2) (.int .i64 t112)) (fun _ hk => hk.2) (.int .i64 t113)) (fun _ hk => hk.2) (.slice Ao65 t114.length co65)) (fun _ hk => hk.2) (.slice Ao66 t117.length co66)) (fun _ h_ => h_.1))) hb); have n4_ := Aside0.mk (blk_below (g := gb101) (o := .cells #[.int .i64 a0_0, .int .i64 a0_1, .slice A0_2 l0_2.length c0_2, .slice A0_3 l0_3.length c0_3] 38 (0, 0)) (by refine px ?_; refine blk_far ?_ NB101_120.out _; refine px ?_; refine blk_far ?_ NB101_120.out _; refine px ?_; refine blk_far ?_ NB101_120.out _; refine px ?_; refine blk_far ?_ NB101_120.out _; refine px ?_; exact BK101.out) hb); have n5_ := Aside0.mk (blk_below (g := gb120) (o := .cells #[.int .i64 t112, .int .i64 t113, .slice Ao65 t114.length co65, .slice Ao66 t117.length co66] 42 (0, 0)) (by refine px ?_; refine blk_put (cs := #[.int .i64 t112, .int .i64 t113, .slice Ao65 t114.length co65, .slice none 0 0]) ?_ 3 _ rfl; refine px ?_; refine blk_put (cs := #[.int .i64 t112, .int .i64 t113, .slice none 0 0, .slice none 0 0]) ?_ 2 _ rfl; refine px ?_; refine blk_put (cs := #[.int .i64 t112, .int .i64 0, .slice none 0 0, .slice none 0 0]) ?_ 1 _ rfl; refine px ?_; refine blk_put (cs := #[.int .i64 0, .int .i64 0, .slice none 0 0, .slice none 0 0]) ?_ 0 _ rfl; refine px ?_; exact BK120.out) hb); have n6_ := Aside0.mk (below_step (by repeat (first | (with_reducible first | exact HB.out | apply below_alloc | apply pw_below_drewN | apply below_drew1 | refine below_set ?_ GE101.out | refine below_set ?_ GE120.out) | exact HB.out)) hb); clear HO107; clear HO110; clear HO116; clear HO119; clear BK101; clear BK120; clear HB; have HO107 := n0_; have HO110 := n1_; have HO116 := n2_; have HO119 := n3_; have BK101 := n4_; have BK120 := n5_; have HB := n6_; clear n0_ n1_ n2_ n3_ n4_ n5_ n6_; (try clear hb); (try clear hb2); (try clear hk); (try clear hi)))
    have n0_ := Aside0.mk (Kd.R_drew HO107.out)
    have n1_ := Aside0.mk (Kd.R_drew HO110.out)
    have n2_ := Aside0.mk (Kd.R_drew HO116.out)
    have n3_ := Aside0.mk (Kd.R_drew HO119.out)
    have n4_ := Aside0.mk (blk_drew BK101.out)
    have n5_ := Aside0.mk (blk_drew BK120.out)
    have n6_ := Aside0.mk (below_drew1 HB.out)
    clear HO107
    clear HO110
    clear HO116
    clear HO119
    clear BK101
    clear BK120
    clear HB
    have HO107 := n0_
    have HO110 := n1_
    have HO116 := n2_
    have HO119 := n3_
    have BK101 := n4_
    have BK120 := n5_
    have HB := n6_
    clear n0_ n1_ n2_ n3_ n4_ n5_ n6_
    refine start_ (n := 5) (S := fun w' => w'.cell? ⟨gb120, 0, none⟩ = some (.int .i64 t112) ∧ w'.cell? ⟨gb120, 1, none⟩ = some (.int .i64 t113) ∧ w'.cell? ⟨gb120, 2, none⟩ = some (.slice Ao65 t114.length co65) ∧ w'.cell? ⟨gb120, 3, none⟩ = some (.slice Ao66 t117.length co66) ∧ w'.cell? ⟨gb101, 0, none⟩ = some (.int .i64 a0_0) ∧ w'.cell? ⟨gb101, 1, none⟩ = some (.int .i64 a0_1) ∧ w'.cell? ⟨gb101, 2, none⟩ = some (.slice A0_2 l0_2.length c0_2) ∧ w'.cell? ⟨gb101, 3, none⟩ = some (.slice A0_3 l0_3.length c0_3)) (ds := []) #[false, false, false, false, false] (by kernel_rfl) rfl rfl ⟨(blk_cell BK120.out 0).trans rfl, (blk_cell BK120.out 1).trans rfl, (blk_cell BK120.out 2).trans rfl, (blk_cell BK120.out 3).trans rfl, (blk_cell BK101.out 0).trans rfl, (blk_cell BK101.out 1).trans rfl, (blk_cell BK101.out 2).trans rfl, (blk_cell BK101.out 3).trans rfl⟩ (fun hHeld => ?_)
    generalize w67.drew = w68 at HO107 HO110 HO116 HO119 BK101 BK120 HB hHeld ⊢
    refine take_ (i := 0) (N := some 22) (v := ?_) (a' := ?_) #[true, false, false, false, false] rfl rfl (by kernel_rfl) (fun _ _ _ h => h) (Or.inl ⟨by rfl, ?_⟩) hHeld ?_ ?_
    rotate_left
    ·rintro w' ⟨s0, s1, s2, s3, s4, s5, s6, s7⟩
     go_simp
     with_reducible rfl
    rotate_left
    ·simp only [P0, P0n, P2, P3, P4, P5, P6]
     rfl
    refine take_ (i := 1) (N := some 23) (v := ?_) (a' := ?_) #[true, true, false, false, false] rfl rfl (by kernel_rfl) (fun _ _ _ h => h) (Or.inl ⟨by rfl, ?_⟩) hHeld ?_ ?_
    rotate_left
    ·rintro w' ⟨s0, s1, s2, s3, s4, s5, s6, s7⟩
     go_simp
     with_reducible rfl
    rotate_left
    ·simp only [P0, P0n, P2, P3, P4, P5, P6]
     rfl
    refine one_ (i := 2) (N := some 24) #[true, true, true, false, false] rfl rfl (by kernel_rfl) (by decide) (fun K hK => ?_)
    refine goes_ Try.func26 (by kernel_rfl) rfl #[.agg #[.int .i64 a0_0, .int .i64 a0_1, .slice A0_2 l0_2.length c0_2, .slice A0_3 l0_3.length c0_3]] (by rfl) rfl rfl (by (try simp only [List.map_toArray, List.map_cons, List.map_nil]); first | done | rfl | (simp only [List.length_drop, List.length_take]; rfl)) ?_
    with_reducible refine (laws_toStripBook.calls k a0_0 a0_1 _ _ l0_2 _ _ l0_3 t122 t123 t124 t127 _ ?side1 ?side2 ?side3 ?side4 A28.out).mono ?_
    (case side1 => repeat (first | exact (Kd.C_below HR0_2.out HB.out) | (with_reducible refine Kd.C_alloc ?_ _) | (with_reducible refine Kd.C_drewN ?_ _) | (with_reducible refine Kd.C_drew ?_)))
    (case side2 => exact HC0_2.out)
    (case side3 => repeat (first | exact (Kd.C_below HR0_3.out HB.out) | (with_reducible refine Kd.C_alloc ?_ _) | (with_reducible refine Kd.C_drewN ?_ _) | (with_reducible refine Kd.C_drew ?_)))
    (case side4 => exact HC0_3.out)
    rintro e w69 ⟨v125, v128, rfl, ho0, ho1, hb⟩
    refine ⟨_, rfl, ?_⟩
    have n0_ := Aside0.mk (Kd.R_elder' (er HO107.out) (Kd.R_base ho0) hb)
    have n1_ := Aside0.mk (Kd.R_elder' (er HO110.out) (Kd.R_base ho1) hb)
    have n2_ := Aside0.mk (Kd.R_elder' (er HO116.out) (Kd.R_base ho0) hb)
    have n3_ := Aside0.mk (Kd.R_elder' (er HO119.out) (Kd.R_base ho1) hb)
    have n4_ := Aside0.mk (Kd.R_lower (Kd.R_new' (Kd.R_new' ho0 (Kd.R_lt (er HO107.out))) (Kd.R_lt (er HO116.out))) (below_size (by repeat (first | (with_reducible first | exact HB.out | apply below_alloc | apply pw_below_drewN | apply below_drew1 | refine below_set ?_ GE101.out | refine below_set ?_ GE120.out) | exact HB.out))))
    have n5_ := Aside0.mk (Kd.R_lower (Kd.R_new' (Kd.R_new' ho1 (Kd.R_lt (er HO110.out))) (Kd.R_lt (er HO119.out))) (below_size (by repeat (first | (with_reducible first | exact HB.out | apply below_alloc | apply pw_below_drewN | apply below_drew1 | refine below_set ?_ GE101.out | refine below_set ?_ GE120.out) | exact HB.out))))
    have n6_ := Aside0.mk (blk_below (g := gb101) (o := .cells #[.int .i64 a0_0, .int .i64 a0_1, .slice A0_2 l0_2.length c0_2, .slice A0_3 l0_3.length c0_3] 38 (0, 0)) (ex BK101.out) hb)
    have n7_ := Aside0.mk (blk_below (g := gb120) (o := .cells #[.int .i64 t112, .int .i64 t113, .slice Ao65 t114.length co65, .slice Ao66 t117.length co66] 42 (0, 0)) (ex BK120.out) hb)
    have n8_ := Aside0.mk (below_step (by repeat (first | (with_reducible first | exact HB.out | apply below_alloc | apply pw_below_drewN | apply below_drew1 | refine below_set ?_ GE101.out | refine below_set ?_ GE120.out) | exact HB.out)) hb)
    clear HO107
    clear HO110
    clear HO116
    clear HO119
    clear BK101
    clear BK120
    clear HB
    have HO107 := n0_
    have HO110 := n1_
    have HO116 := n2_
    have HO119 := n3_
    have HO126 := n4_
    have HO129 := n5_
    have BK101 := n6_
    have BK120 := n7_
    have HB := n8_
    clear n0_ n1_ n2_ n3_ n4_ n5_ n6_ n7_ n8_
    (try clear hb)
    (try clear hb2)
    (try clear hk)
    (try clear hi)
    (try clear ho0)
    (try clear ho1)
    obtain ⟨Ao70, co70, eo70⟩ := Kd.R_slice HO126.out
    (first | subst eo70 | (injection eo70 with f1_ f2_ f3_; have f4_ := f1_.symm; have f5_ := f3_.symm; clear f1_ f2_ f3_; subst f4_; subst f5_))
    obtain ⟨Ao71, co71, eo71⟩ := Kd.R_slice HO129.out
    (first | subst eo71 | (injection eo71 with f1_ f2_ f3_; have f4_ := f1_.symm; have f5_ := f3_.symm; clear f1_ f2_ f3_; subst f4_; subst f5_))
    refine hK.out _ _ ⟨(blk_cell BK120.out 0).trans rfl, (blk_cell BK120.out 1).trans rfl, (blk_cell BK120.out 2).trans rfl, (blk_cell BK120.out 3).trans rfl, (blk_cell BK101.out 0).trans rfl, (blk_cell BK101.out 1).trans rfl, (blk_cell BK101.out 2).trans rfl, (blk_cell BK101.out 3).trans rfl⟩ (fun hHeld => ?_)
    clear hK K
    refine norm_ (a' := ?_) ?_ ?_
    rotate_left
    ·show Act.put _ (some 24) _ = _
     simp only [P0, P0n, P2, P3, P4, P5, P6]
     rfl
    refine one_ (i := 3) (N := some 25) #[true, true, true, true, false] rfl rfl (by kernel_rfl) (by decide) (fun K hK => ?_)
    refine goes_ Try.func28 (by kernel_rfl) rfl #[.agg #[.int .i64 t112, .int .i64 t113, .slice Ao65 t114.length co65, .slice Ao66 t117.length co66], .agg #[.int .i64 t122, .int .i64 t123, .slice Ao70 t124.length co70, .slice Ao71 t127.length co71]] (by rfl) rfl rfl (by (try simp only [List.map_toArray, List.map_cons, List.map_nil]); first | done | rfl | (simp only [List.length_drop, List.length_take]; rfl)) ?_
    with_reducible refine (laws_eqStripBook.calls k t112 t113 _ _ t114 _ _ t117 t122 t123 _ _ t124 _ _ t127 false _ ?side1 ?side2 ?side3 ?side4 ?side5 ?side6 ?side7 ?side8 A29.out).mono ?_
    (case side1 => repeat (first | exact (Kd.R_reads' HO116.out).2.2 | (with_reducible refine Kd.C_alloc ?_ _) | (with_reducible refine Kd.C_drewN ?_ _) | (with_reducible refine Kd.C_drew ?_)))
    (case side2 => exact (Kd.R_reads' HO116.out).2.1)
    (case side3 => repeat (first | exact (Kd.R_reads' HO119.out).2.2 | (with_reducible refine Kd.C_alloc ?_ _) | (with_reducible refine Kd.C_drewN ?_ _) | (with_reducible refine Kd.C_drew ?_)))
    (case side4 => exact (Kd.R_reads' HO119.out).2.1)
    (case side5 => repeat (first | exact (Kd.R_reads' HO126.out).2.2 | (with_reducible refine Kd.C_alloc ?_ _) | (with_reducible refine Kd.C_drewN ?_ _) | (with_reducible refine Kd.C_drew ?_)))
    (case side6 => exact (Kd.R_reads' HO126.out).2.1)
    (case side7 => repeat (first | exact (Kd.R_reads' HO129.out).2.2 | (with_reducible refine Kd.C_alloc ?_ _) | (with_reducible refine Kd.C_drewN ?_ _) | (with_reducible refine Kd.C_drew ?_)))
    (case side8 => exact (Kd.R_reads' HO129.out).2.1)
    rintro e w72 ⟨rfl, hb⟩
    refine ⟨_, rfl, ?_⟩
    have n0_ := Aside0.mk (Kd.R_below (er HO107.out) hb)
    have n1_ := Aside0.mk (Kd.R_below (er HO110.out) hb)
    have n2_ := Aside0.mk (Kd.R_below (er HO116.out) hb)
    have n3_ := Aside0.mk (Kd.R_below (er HO119.out) hb)
    have n4_ := Aside0.mk (Kd.R_below (er HO126.out) hb)
    have n5_ := Aside0.mk (Kd.R_below (er HO129.out) hb)
    have n6_ := Aside0.mk (blk_below (g := gb101) (o := .cells #[.int .i64 a0_0, .int .i64 a0_1, .slice A0_2 l0_2.length c0_2, .slice A0_3 l0_3.length c0_3] 38 (0, 0)) (ex BK101.out) hb)
    have n7_ := Aside0.mk (blk_below (g := gb120) (o := .cells #[.int .i64 t112, .int .i64 t113, .slice Ao65 t114.length co65, .slice Ao66 t117.length co66] 42 (0, 0)) (ex BK120.out) hb)
    have n8_ := Aside0.mk (below_step (by repeat (first | (with_reducible first | exact HB.out | apply below_alloc | apply pw_below_drewN | apply below_drew1 | refine below_set ?_ GE101.out | refine below_set ?_ GE120.out) | exact HB.out)) hb)
    clear HO107
    clear HO110
    clear HO116
    clear HO119
    clear HO126
    clear HO129
    clear BK101
    clear BK120
    clear HB
    have HO107 := n0_
    have HO110 := n1_
    have HO116 := n2_
    have HO119 := n3_
    have HO126 := n4_
    have HO129 := n5_
    have BK101 := n6_
    have BK120 := n7_
    have HB := n8_
    clear n0_ n1_ n2_ n3_ n4_ n5_ n6_ n7_ n8_
    (try clear hb)
    (try clear hb2)
    (try clear hk)
    (try clear hi)
    refine hK.out _ _ ⟨(blk_cell BK120.out 0).trans rfl, (blk_cell BK120.out 1).trans rfl, (blk_cell BK120.out 2).trans rfl, (blk_cell BK120.out 3).trans rfl, (blk_cell BK101.out 0).trans rfl, (blk_cell BK101.out 1).trans rfl, (blk_cell BK101.out 2).trans rfl, (blk_cell BK101.out 3).trans rfl⟩ (fun hHeld => ?_)
    clear hK K
    refine norm_ (a' := ?_) ?_ ?_
    rotate_left
    ·show Act.put _ (some 25) _ = _
     simp only [P0, P0n, P2, P3, P4, P5, P6]
     rfl
    refine pure_ (i := 4) (N := some 26) (v := ?_) (a' := ?_) #[true, true, true, true, true] rfl rfl (by kernel_rfl) (fun _ _ _ h => h) (Or.inl ⟨by rfl, ?_⟩) ?_ ?_
    rotate_left; (intro w'; go_simp; with_reducible rfl); rotate_left; (simp only [P0, P0n, P2, P3, P4, P5, P6]; rfl)
    refine done_ (by kernel_rfl) ?_
    try go_wp2
    go_ret
    exact ⟨by first | rfl | (simp [errW_none, errW_some] <;> rfl) | (simp [*, errW_none, errW_some] <;> rfl), by repeat (first | (with_reducible first | exact HB.out | apply below_alloc | apply pw_below_drewN | apply below_drew1 | refine below_set ?_ GE101.out | refine below_set ?_ GE120.out) | exact HB.out)⟩

end Go.Proofs.Ytpdmimlkgmhepaa.G

/- What comes in as a struct, a slice of structs or a book reads as plain values: shape, cells and bounds; conditions: the argument reads as data of its type. -/
namespace Go.Proofs.Ytpdmimlkgmhepaa.G
open Go.Joins Go.ChangeShapes Go.WideShapes Go.RowKit Go.Deep Go.Proofs.YtpdmimlkgmhepaaW.PrintWords

section
variable {H : Type} {enc : TypeId × Value → H} {P : Program} {w : World} {base : Nat} {spare : Nat → Bool} {held : Bool}

theorem cells_split {cs : List Value} (j : Nat) (h : j < cs.length) : (cs.drop j).take 1 = [cs[j]'h] := by
  rw [List.drop_eq_getElem_cons h]
  rfl

/-- A slice whose elements read as plain values. -/
theorem open_rows {α : Type} (d : Kd α) (Wf : α → Prop) {t e : TypeId} {fuel : Nat} {cs : List Value} {x : DataW H × List MemPlace} (ht : P.underlying t = some (.slice e)) (hC : P.cellsOf e = d.sz)
    (hel : ∀ n cs' y, DataW.trod enc P w base spare held n e cs' = some y → ∃ z : α, d.K w z cs' ∧ Wf z) (h : DataW.trod enc P w base spare held fuel t cs = some x) :
    ∃ A c xs, cs = [.slice A xs.length c] ∧ xs.length ≤ c ∧ c ≤ maxLen ∧ d.C w A xs.length xs ∧ (∀ z ∈ xs, Wf z) := by
  classical
  rcases open_slice ht h with ⟨h0, _⟩ | ⟨a, len, cap, m, n, D, Pl, hcs, hb, hl, hm, hmm, hx, hi⟩
  · refine ⟨none, 0, [], by simpa using h0, by simp, by simp [maxLen], ⟨rfl, by simp, fun h => absurd h (by simp)⟩, fun z hz => by simp at hz⟩
  · have hlm : len ≤ m := by rw [hmm]; split <;> omega
    have key : ∀ i, i < len → ∃ z : α, Wf z ∧ ∃ cs', cs'.length = d.sz ∧ d.K w z cs' ∧ ∀ j u, cs'[j]? = some u → w.cell? (a.add (i * d.sz + j)) = some u := by
      intro i hil
      obtain ⟨cs', hc, ht'⟩ := hi i (by omega)
      obtain ⟨z, hz, hw⟩ := hel _ _ _ ht'
      obtain ⟨_, hcl, hat⟩ := World.cells?_some hc
      rw [hC] at hcl hat
      refine ⟨z, hw, cs', hcl, hz, fun j u hu => ?_⟩
      have hj : j < d.sz := by
        have := (List.getElem?_eq_some_iff.1 hu).1
        omega
      have h1 := hat j hj
      rw [Go.Deep.add_add] at h1
      rw [h1, hu]
    let f : Nat → Option α := fun i => if hil : i < len then some (Classical.choose (key i hil)) else none
    have hsome : ∀ i, (h : i < len) → f i = some (Classical.choose (key i h)) := fun i h => by simp [f, h]
    let xs : List α := (List.range len).pmap (fun i h => Classical.choose (key i h)) (fun i hi => List.mem_range.1 hi)
    have hxl : xs.length = len := by simp [xs]
    have hxi : ∀ i (h : i < len), xs[i]? = some (Classical.choose (key i h)) := by
      intro i h
      have hh : i < xs.length := by omega
      rw [List.getElem?_eq_getElem hh]
      simp [xs]
    refine ⟨some a, cap, xs, by rw [hcs, hxl], by omega, hm, ⟨rfl, by rw [hxl]; simp only [maxLen] at hm; omega, fun _ => ⟨a, rfl, fun j p hj => ?_⟩⟩, fun z hz => ?_⟩
    · have hjl : j < len := by
        have := (List.getElem?_eq_some_iff.1 hj).1
        omega
      have e := hxi j hjl
      rw [hj] at e
      injection e with e
      subst e
      obtain ⟨_, cs', h1, h2, h3⟩ := Classical.choose_spec (key j hjl)
      exact ⟨cs', h1, h2, h3⟩
    · obtain ⟨j, hj, e⟩ := List.getElem_of_mem hz
      have hjl : j < len := by omega
      have e2 := hxi j hjl
      rw [List.getElem?_eq_getElem hj, e] at e2
      injection e2 with e2
      subst e2
      exact (Classical.choose_spec (key j hjl)).1

theorem open_ints_rows {t e : TypeId} {fuel : Nat} {cs : List Value} {x : DataW H × List MemPlace} (ht : P.underlying t = some (.slice e)) (he : P.underlying e = some (.int .i64)) (hC : P.cellsOf e = 1) (h : DataW.trod enc P w base spare held fuel t cs = some x) :
    ∃ A c, ∃ xs : List Int, cs = [.slice A xs.length c] ∧ xs.length ≤ c ∧ c ≤ maxLen ∧ (Kd.int .i64).C w A xs.length xs ∧ (∀ z ∈ xs, (Lit.int .i64 z).wf = true) :=
  open_rows (Kd.int .i64) (fun z => (Lit.int .i64 z).wf = true) ht hC (fun n cs' y hy => by
    obtain ⟨z, h1, _, h2⟩ := DataW.trod_int he hy
    exact ⟨z, h1, h2⟩) h
end

section
variable {H : Type} {enc : TypeId × Value → H} {w : World} {base : Nat} {spare : Nat → Bool} {held : Bool}
theorem open_move {n : Nat} {cs : List Value} {y : DataW H × List MemPlace} (h : DataW.trod enc Try.prog w base spare held n 71 cs = some y) (hl : cs.length = 6) :
    ∃ (a0 : ByteArray) (a1 : Bool) (a2 a3 a4 a5 : Int), cs = [.string a0, .bool a1, .int .i64 a2, .int .i64 a3, .int .i64 a4, .int .i64 a5] ∧ a0.size ≤ maxLen ∧
      (Lit.int .i64 a2).wf = true ∧ (Lit.int .i64 a3).wf = true ∧ (Lit.int .i64 a4).wf = true ∧ (Lit.int .i64 a5).wf = true := by
  obtain ⟨xs, n', _, _, _, hxl, hf⟩ := DataW.trod_struct Try.underlying71 h
  match cs, hl with
  | [c0, c1, c2, c3, c4, c5], _ =>
    have h0 := hf 0 _ rfl
    have h1 := hf 1 _ rfl
    have h2 := hf 2 _ rfl
    have h3 := hf 3 _ rfl
    have h4 := hf 4 _ rfl
    have h5 := hf 5 _ rfl
    have k1 : Try.prog.cellsOf 9 = 1 := by kernel_rfl
    have k2 : Try.prog.cellsOf 4 = 1 := by kernel_rfl
    have k3 : Try.prog.cellsOf 3 = 1 := by kernel_rfl
    have e0 : xs[0]? = some (xs[0]'(by rw [hxl]; decide)) := List.getElem?_eq_getElem _
    have e1 : xs[1]? = some (xs[1]'(by rw [hxl]; decide)) := List.getElem?_eq_getElem _
    have e2 : xs[2]? = some (xs[2]'(by rw [hxl]; decide)) := List.getElem?_eq_getElem _
    have e3 : xs[3]? = some (xs[3]'(by rw [hxl]; decide)) := List.getElem?_eq_getElem _
    have e4 : xs[4]? = some (xs[4]'(by rw [hxl]; decide)) := List.getElem?_eq_getElem _
    have e5 : xs[5]? = some (xs[5]'(by rw [hxl]; decide)) := List.getElem?_eq_getElem _
    obtain ⟨a0, q0, _, w0⟩ := DataW.trod_string Try.underlying9 (h0.trans e0)
    obtain ⟨a1, q1, _⟩ := DataW.trod_bool Try.underlying4 (h1.trans e1)
    obtain ⟨a2, q2, _, w2⟩ := DataW.trod_int Try.underlying3 (h2.trans e2)
    obtain ⟨a3, q3, _, w3⟩ := DataW.trod_int Try.underlying3 (h3.trans e3)
    obtain ⟨a4, q4, _, w4⟩ := DataW.trod_int Try.underlying3 (h4.trans e4)
    obtain ⟨a5, q5, _, w5⟩ := DataW.trod_int Try.underlying3 (h5.trans e5)
    simp [k1, k2, k3] at q0 q1 q2 q3 q4 q5
    subst q0 q1 q2 q3 q4 q5
    exact ⟨a0, a1, a2, a3, a4, a5, rfl, w0, w2, w3, w4, w5⟩
end
end Go.Proofs.Ytpdmimlkgmhepaa.G

/- Small plain lemmas on 'from some number of rounds on' and on numbers; no condition. -/
namespace Go.Proofs.Ytpdmimlkgmhepaa.Pure
set_option linter.unusedVariables false
set_option linter.unusedSimpArgs false
open Go.RowKit Go.Proofs.YtpdmimlkgmhepaaW.PrintWords
theorem Ev.some {α : Type} {r s : α} (h : r = s) : Ev (fun _ => some r) s := h ▸ Ev.now r
theorem Ev.eq {α : Type} {g : Nat → Option α} {r s : α} (h : Ev g r) (e : r = s) : Ev g s := e ▸ h
theorem Ev.ite {α : Type} {c : Prop} [Decidable c] {a b : Nat → Option α} {r : α} (h1 : c → Ev a r) (h2 : ¬ c → Ev b r) : Ev (fun k => if c then a k else b k) r := by
  by_cases h : c
  · simpa only [if_pos h] using h1 h
  · simpa only [if_neg h] using h2 h
theorem Ev.pos {α : Type} {c : Prop} [Decidable c] {a b : Nat → Option α} {r : α} (h : c) (h1 : Ev a r) : Ev (fun k => if c then a k else b k) r := by simpa only [if_pos h] using h1
theorem Ev.neg {α : Type} {c : Prop} [Decidable c] {a b : Nat → Option α} {r : α} (h : ¬ c) (h1 : Ev b r) : Ev (fun k => if c then a k else b k) r := by simpa only [if_neg h] using h1
/-- A call without rounds. -/
theorem Ev.call {α β : Type} {g : Option α} {f : Nat → α → Option β} {a : α} {r : β} (h : g = Option.some a) (k : Ev (fun n => f n a) r) : Ev (fun n => g.bind (f n)) r := by
  subst h
  exact k
theorem wf_range {x : Int} (h : (Lit.int .i64 x).wf = true) : -9223372036854775808 ≤ x ∧ x ≤ 9223372036854775807 := by
  exact bounds_i64 h
theorem wrap_eq {x : Int} (h : -9223372036854775808 ≤ x) (h' : x ≤ 9223372036854775807) : wrap64 x = x := by unfold wrap64; omega
end Go.Proofs.Ytpdmimlkgmhepaa.Pure

/- Plain laws of loops 'from some number of rounds on'; no condition. -/
namespace Go.Proofs.Ytpdmimlkgmhepaa.Pure
set_option linter.unusedVariables false
set_option linter.unusedSimpArgs false
open Go.RowKit Go.Proofs.YtpdmimlkgmhepaaW.PrintWords

/-- A loop that ends at the first place that fails. -/
theorem ev_all {β : Type} {n : Nat} {P : Nat → Prop} {R F : β} (g : Nat → Nat → Option β) (hend : Ev (g n) R)
    (hyes : ∀ i, i < n → P i → ∀ r, Ev (g (i + 1)) r → Ev (g i) r) (hno : ∀ i, i < n → (∀ j, j < i → P j) → ¬ P i → Ev (g i) F) :
    ((∀ j, j < n → P j) → Ev (g 0) R) ∧ ((¬ ∀ j, j < n → P j) → Ev (g 0) F) := by
  have key : ∀ d i, i + d = n → (∀ j, j < i → P j) → ((∀ j, i ≤ j → j < n → P j) → Ev (g i) R) ∧ ((¬ ∀ j, i ≤ j → j < n → P j) → Ev (g i) F) := by
    intro d
    induction d with
    | zero =>
      intro i hi _
      obtain rfl : i = n := by omega
      exact ⟨fun _ => hend, fun h => absurd (fun j h1 h2 => absurd h1 (by omega)) h⟩
    | succ d ih =>
      intro i hi hp
      by_cases hP : P i
      · obtain ⟨h1, h2⟩ := ih (i + 1) (by omega) (fun j hj => by
          by_cases e : j = i
          · exact e ▸ hP
          · exact hp j (by omega))
        refine ⟨fun h => hyes i (by omega) hP _ (h1 fun j hj => h j (by omega)), fun h => hyes i (by omega) hP _ (h2 fun h' => h fun j hj hn => ?_)⟩
        by_cases e : j = i
        · exact e ▸ hP
        · exact h' j (by omega) hn
      · exact ⟨fun h => absurd (h i (Nat.le_refl _) (by omega)) hP, fun _ => hno i (by omega) hp hP⟩
  obtain ⟨h1, h2⟩ := key n 0 (by omega) (fun j hj => absurd hj (by omega))
  exact ⟨fun h => h1 fun j _ hj => h j hj, fun h => h2 fun h' => h fun j hj => h' j (by omega) hj⟩
theorem ev_yes {β : Type} {n : Nat} {P : Nat → Prop} {R : β} (g : Nat → Nat → Option β) (h : ∀ j, j < n → P j) (hend : Ev (g n) R) (hyes : ∀ i, i < n → P i → Ev (g (i + 1)) R → Ev (g i) R) : Ev (g 0) R := by
  have key : ∀ d i, i + d = n → Ev (g i) R := by
    intro d
    induction d with
    | zero =>
      intro i hi
      obtain rfl : i = n := by omega
      exact hend
    | succ d ih => exact fun i hi => hyes i (by omega) (h i (by omega)) (ih (i + 1) (by omega))
  exact key n 0 (by omega)
/-- The same, with what held ahead at hand. -/
theorem ev_no' {β : Type} {n : Nat} {P : Nat → Prop} {F : β} (g : Nat → Nat → Option β) (h : ¬ ∀ j, j < n → P j) (hyes : ∀ i, i < n → (∀ j, j < i → P j) → P i → Ev (g (i + 1)) F → Ev (g i) F) (hno : ∀ i, i < n → (∀ j, j < i → P j) → ¬ P i → Ev (g i) F) : Ev (g 0) F := by
  have key : ∀ d i, i + d = n → (∀ j, j < i → P j) → (¬ ∀ j, i ≤ j → j < n → P j) → Ev (g i) F := by
    intro d
    induction d with
    | zero => exact fun i hi _ h => absurd (fun j h1 h2 => absurd h1 (by omega)) h
    | succ d ih =>
      intro i hi hp h
      by_cases hP : P i
      · refine hyes i (by omega) hp hP (ih (i + 1) (by omega) (fun j hj => ?_) fun h' => h fun j hj hn => ?_)
        · by_cases e : j = i
          · exact e ▸ hP
          · exact hp j (by omega)
        · by_cases e : j = i
          · exact e ▸ hP
          · exact h' j (by omega) hn
      · exact hno i (by omega) hp hP
  exact key n 0 (by omega) (fun j hj => absurd hj (by omega)) fun h' => h fun j hj => h' j (by omega) hj
theorem ev_no {β : Type} {n : Nat} {P : Nat → Prop} {F : β} (g : Nat → Nat → Option β) (h : ¬ ∀ j, j < n → P j) (hyes : ∀ i, i < n → P i → Ev (g (i + 1)) F → Ev (g i) F) (hno : ∀ i, i < n → (∀ j, j < i → P j) → ¬ P i → Ev (g i) F) : Ev (g 0) F := by
  have key : ∀ d i, i + d = n → (∀ j, j < i → P j) → (¬ ∀ j, i ≤ j → j < n → P j) → Ev (g i) F := by
    intro d
    induction d with
    | zero => exact fun i hi _ h => absurd (fun j h1 h2 => absurd h1 (by omega)) h
    | succ d ih =>
      intro i hi hp h
      by_cases hP : P i
      · refine hyes i (by omega) hP (ih (i + 1) (by omega) (fun j hj => ?_) fun h' => h fun j hj hn => ?_)
        · by_cases e : j = i
          · exact e ▸ hP
          · exact hp j (by omega)
        · by_cases e : j = i
          · exact e ▸ hP
          · exact h' j (by omega) hn
      · exact hno i (by omega) hp hP
  exact key n 0 (by omega) (fun j hj => absurd hj (by omega)) fun h' => h fun j hj => h' j (by omega) hj
theorem ev_all_if {β : Type} {n : Nat} {P : Nat → Prop} {R F : β} [Decidable (∀ j, j < n → P j)] (g : Nat → Nat → Option β) (hend : Ev (g n) R)
    (hyes : ∀ i, i < n → P i → ∀ r, Ev (g (i + 1)) r → Ev (g i) r) (hno : ∀ i, i < n → (∀ j, j < i → P j) → ¬ P i → Ev (g i) F) : Ev (g 0) (if ∀ j, j < n → P j then R else F) := by
  obtain ⟨h1, h2⟩ := ev_all g hend hyes hno
  by_cases h : ∀ j, j < n → P j
  · rw [if_pos h]; exact h1 h
  · rw [if_neg h]; exact h2 h

/-- d steps from place i on. -/
def foldFrom {σ : Type} (step : Nat → σ → σ) : Nat → Nat → σ → σ
  | _, 0, s => s
  | i, d + 1, s => foldFrom step (i + 1) d (step i s)
theorem foldFrom_last {σ : Type} (step : Nat → σ → σ) (d : Nat) : ∀ i s, foldFrom step i (d + 1) s = step (i + d) (foldFrom step i d s) := by
  induction d with
  | zero => intro i s; rfl
  | succ d ih =>
    intro i s
    show foldFrom step (i + 1) (d + 1) (step i s) = _
    rw [ih, show i + 1 + d = i + (d + 1) by omega]
    rfl
theorem foldFrom_inv {σ : Type} {step : Nat → σ → σ} (I : Nat → σ → Prop) {n : Nat} (hI : ∀ i s, i < n → I i s → I (i + 1) (step i s)) : ∀ d i s, i + d ≤ n → I i s → I (i + d) (foldFrom step i d s) := by
  intro d
  induction d with
  | zero => intro i s _ h; exact h
  | succ d ih =>
    intro i s hd h
    have := ih (i + 1) (step i s) (by omega) (hI i s (by omega) h)
    rwa [show i + 1 + d = i + (d + 1) by omega] at this
theorem foldFrom_congr {σ : Type} {f g : Nat → σ → σ} : ∀ d i s, (∀ j s, i ≤ j → j < i + d → f j s = g j s) → foldFrom f i d s = foldFrom g i d s := by
  intro d
  induction d with
  | zero => intro i s _; rfl
  | succ d ih =>
    intro i s h
    show foldFrom f (i + 1) d (f i s) = foldFrom g (i + 1) d (g i s)
    rw [h i s (Nat.le_refl _) (by omega)]
    exact ih _ _ fun j s h1 h2 => h j s (by omega) (by omega)
/-- A loop that goes on to its end. -/
theorem ev_fold {σ β : Type} {n : Nat} (I : Nat → σ → Prop) (step : Nat → σ → σ) (g : Nat → σ → Nat → Option β) (hI : ∀ i s, i < n → I i s → I (i + 1) (step i s))
    (hstep : ∀ i s r, i < n → I i s → Ev (g (i + 1) (step i s)) r → Ev (g i s) r) (s : σ) (r : β) (h0 : I 0 s) (hend : I n (foldFrom step 0 n s) → Ev (g n (foldFrom step 0 n s)) r) : Ev (g 0 s) r := by
  have key : ∀ d i s, i + d = n → I i s → Ev (g n (foldFrom step i d s)) r → Ev (g i s) r := by
    intro d
    induction d with
    | zero =>
      intro i s hi _ h
      obtain rfl : i = n := by omega
      exact h
    | succ d ih =>
      intro i s hi hs h
      exact hstep i s r (by omega) hs (ih (i + 1) _ (by omega) (hI i s (by omega) hs) h)
  refine key n 0 s (by omega) h0 (hend ?_)
  have := foldFrom_inv I hI n 0 s (by omega) h0
  simpa using this

theorem rd_nat (xs : List Int) (i : Nat) : rd xs (i : Int) = xs.getD i 0 := by simp [rd]
theorem rdOf_nat {α : Type} (d : α) (xs : List α) (i : Nat) : rdOf d xs (i : Int) = xs.getD i d := by simp [rdOf]
theorem wrap_succ {i n : Nat} (h : i < n) (hn : n ≤ 1000000000000000000) : wrap64 ((i : Int) + 1) = ((i + 1 : Nat) : Int) := by unfold wrap64; omega
end Go.Proofs.Ytpdmimlkgmhepaa.Pure

/- The laws' helpers on whole numbers: a copy is the list, equal lists are equal, what was marked is held; condition: at most 2^20 elements. -/
namespace Go.Proofs.Ytpdmimlkgmhepaa.Pure
set_option linter.unusedVariables false
set_option linter.unusedSimpArgs false
open Go.RowKit Go.Proofs.YtpdmimlkgmhepaaW.PrintWords Go.Proofs.Ytpdmimlkgmhepaa.G

theorem copy_step {α : Type} (f : Nat → α) {n i : Nat} {s : List α} (d : α) (hl : s.length = n) (hs : ∀ j, j < i → s.getD j d = f j) (hi : i < n) : (s.set i (f i)).length = n ∧ ∀ j, j < i + 1 → (s.set i (f i)).getD j d = f j := by
  refine ⟨by rw [List.length_set]; exact hl, fun j hj => ?_⟩
  by_cases e : j = i
  · subst e
    rw [List.getD_eq_getElem?_getD, List.getElem?_set_self (by omega)]
    rfl
  · rw [List.getD_eq_getElem?_getD, List.getElem?_set_ne (fun h => e h.symm), ← List.getD_eq_getElem?_getD]
    exact hs j (by omega)
theorem list_eq_getD {α : Type} {a b : List α} (d : α) (hl : a.length = b.length) (h : ∀ j, j < a.length → a.getD j d = b.getD j d) : a = b := by
  refine List.ext_getElem hl fun j h1 h2 => ?_
  have := h j h1
  rw [List.getD_eq_getElem?_getD, List.getD_eq_getElem?_getD, List.getElem?_eq_getElem h1, List.getElem?_eq_getElem h2] at this
  exact this

theorem toInts (l : List Int) (hl : l.length ≤ 1048576) : Ev (fun k => laws_toIntS.f k l) l := by
  unfold laws_toIntS.f
  refine Ev.pos (by omega) (Ev.pos (by omega) ?_)
  simp only [Int.toNat_natCast]
  have key : ∀ d i (s : List Int), i + d = l.length → s.length = l.length → (∀ j, j < i → s.getD j 0 = l.getD j 0) → Ev (fun k => laws_toIntS.l0 k l s i) l := by
    intro d
    induction d with
    | zero =>
      intro i s hi hs hp
      refine Ev.step (fun _ => laws_toIntS.l0.eq_2 ..) (Ev.neg (by omega) (Ev.some ?_))
      exact list_eq_getD 0 hs fun j hj => hp j (by omega)
    | succ d ih =>
      intro i s hi hs hp
      refine Ev.step (fun _ => laws_toIntS.l0.eq_2 ..) (Ev.pos (by omega) (Ev.pos (by omega) (Ev.pos (by omega) ?_)))
      simp only [rd_nat, Int.toNat_natCast, wrap_succ (show i < l.length by omega) (show l.length ≤ 1000000000000000000 by omega)]
      obtain ⟨h1, h2⟩ := copy_step (fun j => l.getD j 0) 0 hs hp (show i < l.length by omega)
      exact ih (i + 1) _ (by omega) h1 h2
  exact key l.length 0 _ (by omega) (by simp) (fun j hj => absurd hj (by omega))

theorem eqInts (a : List Int) (hl : a.length ≤ 1048576) : Ev (fun k => laws_eqIntS.f k a a) true := by
  unfold laws_eqIntS.f
  refine Ev.pos rfl ?_
  refine ev_yes (n := a.length) (P := fun _ => True) (fun i k => laws_eqIntS.l0 k a a i) (fun _ _ => trivial) ?_ ?_
  · exact Ev.step (fun _ => laws_eqIntS.l0.eq_2 ..) (Ev.neg (by omega) (Ev.some rfl))
  · intro i hi _ hr
    refine Ev.step (fun _ => laws_eqIntS.l0.eq_2 ..) (Ev.pos (by omega) (Ev.pos (by omega) (Ev.pos (by omega) (Ev.pos rfl ?_))))
    simpa only [wrap_succ hi (show a.length ≤ 1000000000000000000 by omega)] using hr
end Go.Proofs.Ytpdmimlkgmhepaa.Pure

/- StripMoveOk, the program's and the reference's, is one plain test; condition: enough rounds. -/
namespace Go.Proofs.Ytpdmimlkgmhepaa.Pure
set_option linter.unusedVariables false
set_option linter.unusedSimpArgs false
open Go.RowKit Go.Proofs.YtpdmimlkgmhepaaW.PrintWords Go.Proofs.Ytpdmimlkgmhepaa.G

theorem spec_in {α : Type} (a b c : Int) (f : Bool → Option α) : (spec_l1In.f a b c).bind f = if b ≤ a ∧ a ≤ c then f true else f false := by
  unfold spec_l1In.f
  by_cases h : b ≤ a
  · by_cases h2 : a ≤ c <;> simp [h, h2]
  · simp [h]
theorem impl_in {α : Type} (a b c : Int) (f : Bool → Option α) : (impl_in.f a b c).bind f = if b ≤ a ∧ a ≤ c then f true else f false := by
  unfold impl_in.f
  by_cases h : b ≤ a
  · by_cases h2 : a ≤ c <;> simp [h, h2]
  · simp [h]
def okB (c : Int) : Bool := decide (97 ≤ c ∧ c ≤ 122 ∨ 48 ≤ c ∧ c ≤ 57 ∨ c = 45)
def allB (s : ByteArray) : Nat → Int → Bool
  | 0, _ => true
  | d + 1, i => okB (bt s i) && allB s d (i + 1)
theorem allB_succ (s : ByteArray) (d : Nat) (i : Int) : allB s (d + 1) i = (okB (bt s i) && allB s d (i + 1)) := rfl
/-- What a move's other parts must be. -/
def MoveP (n : Nat) (w e l p : Int) : Prop := 1 ≤ n ∧ n ≤ 8 ∧ 1 ≤ w ∧ w ≤ 3 ∧ 0 ≤ e ∧ e ≤ l ∧ l ≤ 10000 ∧ (p = -1 ∨ e ≤ p ∧ p ≤ l)
instance (n : Nat) (w e l p : Int) : Decidable (MoveP n w e l p) := by unfold MoveP; infer_instance
def moveOkM (s : ByteArray) (w e l p : Int) : Bool := if MoveP s.size w e l p then allB s s.size 0 else false
theorem moveOkM_pos {s : ByteArray} {w e l p : Int} (h : MoveP s.size w e l p) : moveOkM s w e l p = allB s s.size 0 := if_pos h
theorem moveOkM_neg {s : ByteArray} {w e l p : Int} (h : ¬ MoveP s.size w e l p) : moveOkM s w e l p = false := if_neg h

theorem ite_okB {α : Type} (c : Int) (A B : α) : (if c ≥ 97 then (if c ≤ 122 then A else (if c ≥ 48 then (if c ≤ 57 then A else (if c = 45 then A else B)) else (if c = 45 then A else B))) else (if c ≥ 48 then (if c ≤ 57 then A else (if c = 45 then A else B)) else (if c = 45 then A else B))) = if okB c = true then A else B := by
  by_cases h : okB c = true
  · rw [if_pos h]
    simp only [okB, decide_eq_true_eq] at h
    (repeat' split) <;> first | rfl | (exfalso; omega)
  · rw [if_neg h]
    simp only [okB, decide_eq_true_eq] at h
    (repeat' split) <;> first | rfl | (exfalso; omega)

theorem spec_name_l (s : ByteArray) (hs : s.size ≤ 8) (d : Nat) : ∀ (k : Nat) (i : Int), 0 ≤ i → (s.size : Int) - i = d → d < k → spec_l1NameOk.l0 k s i = some (allB s d i) := by
  induction d with
  | zero =>
    intro k i h0 hd hk
    obtain ⟨k, rfl⟩ : ∃ m, k = m + 1 := ⟨k - 1, by omega⟩
    simp only [spec_l1NameOk.l0]
    rw [if_neg (by omega)]; rfl
  | succ d ih =>
    intro k i h0 hd hk
    obtain ⟨k, rfl⟩ : ∃ m, k = m + 1 := ⟨k - 1, by omega⟩
    have ih' := ih k (i + 1) (by omega) (by omega) (by omega)
    simp only [spec_l1NameOk.l0]
    rw [if_pos (show i < (s.size : Int) by omega), if_pos h0, wrap_eq (x := i + 1) (by omega) (by omega), ih', ite_okB, allB_succ]
    cases okB (bt s i) <;> rfl

theorem spec_moveOk (s : ByteArray) (b : Bool) (w e l p : Int) (k : Nat) (hk : 9 < k) : spec_StripMoveOk.f k s b w e l p = some (moveOkM s w e l p) := by
  simp only [spec_StripMoveOk.f, spec_l1NameOk.f, spec_in, if_true, Bool.false_eq_true, if_false]
  by_cases hs : 1 ≤ s.size ∧ s.size ≤ 8
  · rw [if_pos (show 1 ≤ (s.size : Int) ∧ (s.size : Int) ≤ 8 by omega), spec_name_l s hs.2 s.size k 0 (by omega) (by omega) (by omega)]
    simp only [Option.bind_some]
    by_cases hm : MoveP s.size w e l p
    · rw [moveOkM_pos hm]
      unfold MoveP at hm
      cases allB s s.size 0 <;> simp only [if_true, Bool.false_eq_true, if_false] <;> (repeat' split) <;> first | rfl | (exfalso; omega)
    · rw [moveOkM_neg hm]
      unfold MoveP at hm
      cases allB s s.size 0 <;> simp only [if_true, Bool.false_eq_true, if_false] <;> (repeat' split) <;> first | rfl | (exfalso; omega)
  · rw [if_neg (show ¬ (1 ≤ (s.size : Int) ∧ (s.size : Int) ≤ 8) by omega), moveOkM_neg (fun h => hs ⟨h.1, h.2.1⟩)]
    rfl

def promM (e l p : Int) : Bool := if p = -1 ∨ e ≤ p ∧ p ≤ l then true else false
theorem impl_name_l (s : ByteArray) (b : Bool) (w e l p : Int) (hs : s.size ≤ 8) (d : Nat) : ∀ (k : Nat) (i : Int), 0 ≤ i → (s.size : Int) - i = d → d < k → impl_StripMoveOk.l0 k i s b w e l p = some (allB s d i && promM e l p) := by
  induction d with
  | zero =>
    intro k i h0 hd hk
    obtain ⟨k, rfl⟩ : ∃ m, k = m + 1 := ⟨k - 1, by omega⟩
    simp only [impl_StripMoveOk.l0, impl_in, allB, promM, Bool.true_and]
    rw [if_neg (show ¬ i < (s.size : Int) by omega)]
    (repeat' split) <;> first | rfl | (exfalso; omega)
  | succ d ih =>
    intro k i h0 hd hk
    obtain ⟨k, rfl⟩ : ∃ m, k = m + 1 := ⟨k - 1, by omega⟩
    have ih' := ih k (i + 1) (by omega) (by omega) (by omega)
    simp only [impl_StripMoveOk.l0]
    rw [if_pos (show i < (s.size : Int) by omega), if_pos h0, wrap_eq (x := i + 1) (by omega) (by omega), ih', ite_okB, allB_succ]
    cases okB (bt s i) <;> rfl

theorem impl_moveOk (s : ByteArray) (b : Bool) (w e l p : Int) (k : Nat) (hk : 10 < k) : impl_StripMoveOk.f k s b w e l p = some (moveOkM s w e l p) := by
  obtain ⟨k, rfl⟩ : ∃ m, k = m + 1 := ⟨k - 1, by omega⟩
  simp only [impl_StripMoveOk.f, impl_StripMoveOk.j0, impl_in, if_true, Bool.false_eq_true, if_false, decide_eq_true_eq]
  by_cases hs : 1 ≤ s.size ∧ s.size ≤ 8
  · rw [if_pos (show 1 ≤ (s.size : Int) ∧ (s.size : Int) ≤ 8 by omega), impl_name_l s b w e l p hs.2 s.size k 0 (by omega) (by omega) (by omega)]
    unfold promM
    by_cases hm : MoveP s.size w e l p
    · rw [moveOkM_pos hm]
      unfold MoveP at hm
      cases allB s s.size 0 <;> (repeat' split) <;> first | rfl | (exfalso; omega)
    · rw [moveOkM_neg hm]
      unfold MoveP at hm
      cases allB s s.size 0 <;> (repeat' split) <;> first | rfl | (exfalso; omega)
  · rw [if_neg (show ¬ (1 ≤ (s.size : Int) ∧ (s.size : Int) ≤ 8) by omega), moveOkM_neg (fun h => hs ⟨h.1, h.2.1⟩)]
end Go.Proofs.Ytpdmimlkgmhepaa.Pure

/- StripMovesOk, the program's and the reference's, is one plain test; no condition. -/
namespace Go.Proofs.Ytpdmimlkgmhepaa.Pure
set_option linter.unusedVariables false
set_option linter.unusedSimpArgs false
open Go.RowKit Go.Proofs.YtpdmimlkgmhepaaW.PrintWords Go.Proofs.Ytpdmimlkgmhepaa.G

/-- The program's moves. -/
abbrev Mv := S54
abbrev z0 : Mv := z54
/-- The move at a place. -/
def at' (l : List Mv) (i : Nat) : Mv := l.getD i z0
theorem rdM (l : List Mv) (i : Nat) : rd_T54 l (i : Int) = at' l i := by simp [rd_T54, at']
theorem rdM_pred (l : List Mv) (i : Nat) (h : 0 < i) : rd_T54 l ((i : Int) - 1) = at' l (i - 1) := by rw [show (i : Int) - 1 = ((i - 1 : Nat) : Int) by omega, rdM]
def mvOk (m : Mv) : Bool := moveOkM m.f0 m.f2 m.f3 m.f4 m.f5
def ltN (a b : ByteArray) : Bool := Op.bytesLess a.toList b.toList
/-- Place i is ok, and above the one ahead. -/
def OkAt (l : List Mv) (i : Nat) : Prop := mvOk (at' l i) = true ∧ (0 < i → ltN (at' l (i - 1)).f0 (at' l i).f0 = true)
instance (l : List Mv) (i : Nat) : Decidable (OkAt l i) := by unfold OkAt; infer_instance
def MovesOk (l : List Mv) : Prop := l.length ≤ 6 ∧ ∀ i, i < l.length → OkAt l i
instance (l : List Mv) : Decidable (MovesOk l) := by unfold MovesOk; infer_instance

theorem spec_mvOk (m : Mv) : Ev (fun k => spec_StripMoveOk.f k m.f0 m.f1 m.f2 m.f3 m.f4 m.f5) (mvOk m) := ⟨10, fun k hk => spec_moveOk _ _ _ _ _ _ k (by omega)⟩
theorem impl_mvOk (m : Mv) : Ev (fun k => impl_StripMoveOk.f k m.f0 m.f1 m.f2 m.f3 m.f4 m.f5) (mvOk m) := ⟨11, fun k hk => impl_moveOk _ _ _ _ _ _ k (by omega)⟩

theorem spec_movesOk (l : List Mv) : Ev (fun k => spec_StripMovesOk.f k l) (decide (MovesOk l)) := by
  unfold spec_StripMovesOk.f
  by_cases h6 : l.length ≤ 6
  · refine Ev.neg (by omega) ?_
    have step : ∀ (i : Nat) (r : Bool), i < l.length → OkAt l i → Ev (fun k => spec_StripMovesOk.l0 k l ((i + 1 : Nat) : Int)) r → Ev (fun k => spec_StripMovesOk.l0 k l (i : Int)) r := by
      intro i r hi ⟨h1, h2⟩ hr
      refine Ev.step (fun _ => spec_StripMovesOk.l0.eq_2 ..) (Ev.pos (by omega) (Ev.pos (by omega) ?_))
      simp only [rdM, wrap_succ hi (show l.length ≤ 1000000000000000000 by omega)]
      refine Ev.bind (spec_mvOk _) (Ev.pos h1 ?_)
      by_cases hp : 0 < i
      · refine Ev.pos (by omega) ?_
        simp only [wrap_eq (x := (i : Int) - 1) (by omega) (by omega), rdM_pred l i hp]
        exact Ev.pos (by omega) (Ev.pos (by omega) (Ev.pos (h2 hp) hr))
      · exact Ev.neg (by omega) hr
    by_cases hall : ∀ i, i < l.length → OkAt l i
    · rw [decide_eq_true (show MovesOk l from ⟨h6, hall⟩)]
      refine ev_yes (n := l.length) (fun i k => spec_StripMovesOk.l0 k l i) hall ?_ (fun i hi h hr => step i _ hi h hr)
      exact Ev.step (fun _ => spec_StripMovesOk.l0.eq_2 ..) (Ev.neg (by omega) (Ev.some rfl))
    · rw [decide_eq_false (fun h : MovesOk l => hall h.2)]
      refine ev_no (n := l.length) (fun i k => spec_StripMovesOk.l0 k l i) hall (fun i hi h hr => step i _ hi h hr) ?_
      intro i hi _ hno
      refine Ev.step (fun _ => spec_StripMovesOk.l0.eq_2 ..) (Ev.pos (by omega) (Ev.pos (by omega) ?_))
      simp only [rdM]
      refine Ev.bind (spec_mvOk _) ?_
      refine Ev.ite (fun h1 => ?_) (fun _ => Ev.some rfl)
      have hp : 0 < i := by
        rcases Nat.eq_zero_or_pos i with e | h
        · exact absurd ⟨h1, fun h => absurd h (by omega)⟩ hno
        · exact h
      refine Ev.pos (by omega) ?_
      simp only [wrap_eq (x := (i : Int) - 1) (by omega) (by omega), rdM_pred l i hp]
      exact Ev.pos (by omega) (Ev.pos (by omega) (Ev.neg (fun h => hno ⟨h1, fun _ => h⟩) (Ev.some rfl)))
  · rw [decide_eq_false (fun h : MovesOk l => h6 h.1)]
    exact Ev.pos (by omega) (Ev.some rfl)

theorem impl_movesOk (l : List Mv) : Ev (fun k => impl_StripMovesOk.f k l) (decide (MovesOk l)) := by
  unfold impl_StripMovesOk.f
  by_cases h6 : l.length ≤ 6
  · refine Ev.neg (by omega) ?_
    have step : ∀ (i : Nat) (r : Bool), i < l.length → OkAt l i → Ev (fun k => impl_StripMovesOk.l0 k l l (l.length : Int) ((i + 1 : Nat) : Int)) r → Ev (fun k => impl_StripMovesOk.l0 k l l (l.length : Int) (i : Int)) r := by
      intro i r hi ⟨h1, h2⟩ hr
      refine Ev.step (fun _ => impl_StripMovesOk.l0.eq_2 ..) (Ev.pos (by omega) (Ev.pos (by omega) (Ev.pos (by omega) ?_)))
      simp only [rdM, wrap_succ hi (show l.length ≤ 1000000000000000000 by omega)]
      refine Ev.bind (impl_mvOk _) (Ev.pos h1 ?_)
      by_cases hp : 0 < i
      · refine Ev.pos (by omega) ?_
        simp only [wrap_eq (x := (i : Int) - 1) (by omega) (by omega), rdM_pred l i hp]
        exact Ev.pos (by omega) (Ev.pos (by omega) (Ev.pos (h2 hp) hr))
      · exact Ev.neg (by omega) hr
    by_cases hall : ∀ i, i < l.length → OkAt l i
    · rw [decide_eq_true (show MovesOk l from ⟨h6, hall⟩)]
      refine ev_yes (n := l.length) (fun i k => impl_StripMovesOk.l0 k l l (l.length : Int) i) hall ?_ (fun i hi h hr => step i _ hi h hr)
      exact Ev.step (fun _ => impl_StripMovesOk.l0.eq_2 ..) (Ev.neg (by omega) (Ev.some rfl))
    · rw [decide_eq_false (fun h : MovesOk l => hall h.2)]
      refine ev_no (n := l.length) (fun i k => impl_StripMovesOk.l0 k l l (l.length : Int) i) hall (fun i hi h hr => step i _ hi h hr) ?_
      intro i hi _ hno
      refine Ev.step (fun _ => impl_StripMovesOk.l0.eq_2 ..) (Ev.pos (by omega) (Ev.pos (by omega) (Ev.pos (by omega) ?_)))
      simp only [rdM]
      refine Ev.bind (impl_mvOk _) ?_
      refine Ev.ite (fun h1 => ?_) (fun _ => Ev.some rfl)
      have hp : 0 < i := by
        rcases Nat.eq_zero_or_pos i with e | h
        · exact absurd ⟨h1, fun h => absurd h (by omega)⟩ hno
        · exact h
      refine Ev.pos (by omega) ?_
      simp only [wrap_eq (x := (i : Int) - 1) (by omega) (by omega), rdM_pred l i hp]
      exact Ev.pos (by omega) (Ev.pos (by omega) (Ev.neg (fun h => hno ⟨h1, fun _ => h⟩) (Ev.some rfl)))
  · rw [decide_eq_false (fun h : MovesOk l => h6 h.1)]
    exact Ev.pos (by omega) (Ev.some rfl)
end Go.Proofs.Ytpdmimlkgmhepaa.Pure

/- The laws' helpers on moves: a copy is the list, turned move by move; equal lists are equal; sizes; condition: what the laws' own guard lets by. -/
namespace Go.Proofs.Ytpdmimlkgmhepaa.Pure
set_option linter.unusedVariables false
set_option linter.unusedSimpArgs false
open Go.RowKit Go.Proofs.YtpdmimlkgmhepaaW.PrintWords Go.Proofs.Ytpdmimlkgmhepaa.G
/-- The laws' moves. -/
abbrev Lm := S71
def LmWf (x : Lm) : Prop := x.f0.size ≤ maxLen ∧ (Lit.int .i64 x.f2).wf = true ∧ (Lit.int .i64 x.f3).wf = true ∧ (Lit.int .i64 x.f4).wf = true ∧ (Lit.int .i64 x.f5).wf = true
def toM (x : Lm) : Mv := ⟨x.f0, x.f1, x.f2, x.f3, x.f4, x.f5⟩
def lat (l : List Lm) (i : Nat) : Lm := l.getD i z71
theorem rdL (l : List Lm) (i : Nat) : rd_T71 l (i : Int) = lat l i := by simp [rd_T71, lat]

theorem toMoves (l : List Lm) (hl : l.length ≤ 1048576) : Ev (fun k => laws_toStripMoveS.f k l) (l.map toM) := by
  unfold laws_toStripMoveS.f
  refine Ev.pos (by omega) (Ev.pos (by omega) ?_)
  simp only [Int.toNat_natCast]
  have key : ∀ d i (s : List Mv), i + d = l.length → s.length = l.length → (∀ j, j < i → s.getD j z0 = toM (lat l j)) → Ev (fun k => laws_toStripMoveS.l0 k l s i) (l.map toM) := by
    intro d
    induction d with
    | zero =>
      intro i s hi hs hp
      refine Ev.step (fun _ => laws_toStripMoveS.l0.eq_2 ..) (Ev.neg (by omega) (Ev.some ?_))
      refine list_eq_getD z0 (by rw [hs, List.length_map]) fun j hj => ?_
      rw [hp j (by omega)]
      simp [List.getD_eq_getElem?_getD, lat, List.getElem?_eq_getElem (show j < l.length by omega)]
    | succ d ih =>
      intro i s hi hs hp
      refine Ev.step (fun _ => laws_toStripMoveS.l0.eq_2 ..) (Ev.pos (by omega) (Ev.pos (by omega) ?_))
      simp only [rdL, laws_toStripMove.f, Option.bind_some, Int.toNat_natCast, wrap_succ (show i < l.length by omega) (show l.length ≤ 1000000000000000000 by omega)]
      refine Ev.pos (by omega) ?_
      obtain ⟨h1, h2⟩ := copy_step (fun j => toM (lat l j)) z0 hs hp (show i < l.length by omega)
      exact ih (i + 1) _ (by omega) h1 h2
  exact key l.length 0 _ (by omega) (by simp) (fun j hj => absurd hj (by omega))

theorem eqMove_self (m : Mv) : laws_eqStripMove.f m.f0 m.f1 m.f2 m.f3 m.f4 m.f5 m.f0 m.f1 m.f2 m.f3 m.f4 m.f5 = some true := by
  unfold laws_eqStripMove.f
  simp
theorem eqMoves (a : List Mv) (hl : a.length ≤ 1048576) : Ev (fun k => laws_eqStripMoveS.f k a a) true := by
  unfold laws_eqStripMoveS.f
  refine Ev.pos rfl ?_
  refine ev_yes (n := a.length) (P := fun _ => True) (fun i k => laws_eqStripMoveS.l0 k a a i) (fun _ _ => trivial) ?_ ?_
  · exact Ev.step (fun _ => laws_eqStripMoveS.l0.eq_2 ..) (Ev.neg (by omega) (Ev.some rfl))
  · intro i hi _ hr
    refine Ev.step (fun _ => laws_eqStripMoveS.l0.eq_2 ..) (Ev.pos (by omega) (Ev.pos (by omega) (Ev.pos (by omega) ?_)))
    simp only [eqMove_self, Option.bind_some]
    refine Ev.pos trivial ?_
    simpa only [wrap_succ hi (show a.length ≤ 1000000000000000000 by omega)] using hr

/-- What the laws' guard says of what it lets by. -/
theorem szMoves (l : List Lm) (a : Int) (ha : 0 ≤ a) (ha' : a ≤ 1048576) (hl : l.length ≤ maxLen) (hw : ∀ x ∈ l, LmWf x) :
    ∃ t : Int, Ev (fun k => laws_szStripMoveS.f k l a) t ∧ t ≤ 1048576 ∧ (0 ≤ t → (l.length : Int) ≤ a ∧ ∀ i, i < l.length → (lat l i).f0.size ≤ 1048576) := by
  unfold maxLen at hl
  unfold laws_szStripMoveS.f
  simp only [wrap_eq (x := a - (l.length : Int)) (by omega) (by omega)]
  by_cases h : a - (l.length : Int) < 0
  · exact ⟨-1, Ev.pos h (Ev.some rfl), by omega, fun h => absurd h (by omega)⟩
  · have key : ∀ d (i : Nat) (a : Int), 0 ≤ a → a ≤ 1048576 → i + d = l.length → (∀ j, j < i → (lat l j).f0.size ≤ 1048576) →
        ∃ t : Int, Ev (fun k => laws_szStripMoveS.l0 k l a (i : Int)) t ∧ t ≤ 1048576 ∧ (0 ≤ t → ∀ i, i < l.length → (lat l i).f0.size ≤ 1048576) := by
      intro d
      induction d with
      | zero =>
        intro i a h0 h1 hi hp
        exact ⟨a, Ev.step (fun _ => laws_szStripMoveS.l0.eq_2 ..) (Ev.neg (by omega) (Ev.some rfl)), h1, fun _ j hj => hp j (by omega)⟩
      | succ d ih =>
        intro i a h0 h1 hi hp
        have hx : LmWf (lat l i) := by
          unfold lat
          rw [List.getD_eq_getElem?_getD, List.getElem?_eq_getElem (show i < l.length by omega)]
          exact hw _ (List.getElem_mem _)
        have hn := hx.1
        unfold maxLen at hn
        by_cases hs : a - ((lat l i).f0.size : Int) < 0
        · refine ⟨-1, Ev.step (fun _ => laws_szStripMoveS.l0.eq_2 ..) (Ev.pos (by omega) (Ev.pos (by omega) ?_)), by omega, fun h => absurd h (by omega)⟩
          simp only [rdL, laws_szStripMove.f, wrap_eq (x := a - ((lat l i).f0.size : Int)) (by omega) (by omega)]
          simp only [if_pos hs, Option.bind_some]
          exact Ev.pos (by decide) (Ev.some rfl)
        · obtain ⟨t, h2, h3, h4⟩ := ih (i + 1) (a - (lat l i).f0.size) (by omega) (by omega) (by omega) (fun j hj => by
            by_cases e : j = i
            · subst e; omega
            · exact hp j (by omega))
          refine ⟨t, Ev.step (fun _ => laws_szStripMoveS.l0.eq_2 ..) (Ev.pos (by omega) (Ev.pos (by omega) ?_)), h3, h4⟩
          simp only [rdL, laws_szStripMove.f, wrap_eq (x := a - ((lat l i).f0.size : Int)) (by omega) (by omega), wrap_succ (show i < l.length by omega) (show l.length ≤ 1000000000000000000 by omega)]
          simp only [if_neg hs, Option.bind_some]
          exact h2
    obtain ⟨t, h2, h3, h4⟩ := key l.length 0 (a - (l.length : Int)) (by omega) (by omega) (by omega) (fun j hj => absurd hj (by omega))
    exact ⟨t, Ev.neg h h2, h3, fun ht => ⟨by omega, h4 ht⟩⟩
end Go.Proofs.Ytpdmimlkgmhepaa.Pure

/- Slices of moves and books that come in read as plain lists; condition: the argument reads as data of its type. -/
namespace Go.Proofs.Ytpdmimlkgmhepaa.G
open Go.Joins Go.ChangeShapes Go.WideShapes Go.RowKit Go.Deep Go.Proofs.YtpdmimlkgmhepaaW.PrintWords
section
variable {H : Type} {enc : TypeId × Value → H} {w : World} {base : Nat} {spare : Nat → Bool} {held : Bool}
theorem open_moves {t fuel : Nat} {cs : List Value} {y : DataW H × List MemPlace} (ht : Try.prog.underlying t = some (.slice 71)) (h : DataW.trod enc Try.prog w base spare held fuel t cs = some y) :
    ∃ A c, ∃ xs : List S71, cs = [.slice A xs.length c] ∧ xs.length ≤ c ∧ c ≤ maxLen ∧ k71.C w A xs.length xs ∧ (∀ z ∈ xs, Pure.LmWf z) :=
  open_rows k71 Pure.LmWf ht (by kernel_rfl) (fun n cs' y hy => by
    have hl : cs'.length = 6 := by
      obtain ⟨_, _, _, _, hl, _⟩ := DataW.trod_struct Try.underlying71 hy
      exact hl.trans (by kernel_rfl)
    obtain ⟨a0, a1, a2, a3, a4, a5, rfl, w0, w2, w3, w4, w5⟩ := open_move hy hl
    exact ⟨⟨a0, a1, a2, a3, a4, a5⟩, k71_mk w ⟨a0, a1, a2, a3, a4, a5⟩, w0, w2, w3, w4, w5⟩) h
/-- A book: four cells. -/
theorem open_book {n : Nat} {cs : List Value} {y : DataW H × List MemPlace} (h : DataW.trod enc Try.prog w base spare held n 38 cs = some y) (hl : cs.length = 4) :
    ∃ (a0 a1 : Int) (A2 : Option Addr) (c2 : Nat) (l2 : List S71) (A3 : Option Addr) (c3 : Nat) (l3 : List Int), cs = [.int .i64 a0, .int .i64 a1, .slice A2 l2.length c2, .slice A3 l3.length c3] ∧
      (Lit.int .i64 a0).wf = true ∧ (Lit.int .i64 a1).wf = true ∧ l2.length ≤ c2 ∧ c2 ≤ maxLen ∧ k71.C w A2 l2.length l2 ∧ (∀ z ∈ l2, Pure.LmWf z) ∧
      l3.length ≤ c3 ∧ c3 ≤ maxLen ∧ (Kd.int .i64).C w A3 l3.length l3 ∧ (∀ z ∈ l3, (Lit.int .i64 z).wf = true) := by
  obtain ⟨xs, n', _, _, _, hxl, hf⟩ := DataW.trod_struct Try.underlying38 h
  match cs, hl with
  | [d0, d1, d2, d3], _ =>
    have h0 := hf 0 _ rfl
    have h1 := hf 1 _ rfl
    have h2 := hf 2 _ rfl
    have h3 := hf 3 _ rfl
    have k1 : Try.prog.cellsOf 3 = 1 := by kernel_rfl
    have k2 : Try.prog.cellsOf 26 = 1 := by kernel_rfl
    have k3 : Try.prog.cellsOf 22 = 1 := by kernel_rfl
    have e0 : xs[0]? = some (xs[0]'(by rw [hxl]; decide)) := List.getElem?_eq_getElem _
    have e1 : xs[1]? = some (xs[1]'(by rw [hxl]; decide)) := List.getElem?_eq_getElem _
    have e2 : xs[2]? = some (xs[2]'(by rw [hxl]; decide)) := List.getElem?_eq_getElem _
    have e3 : xs[3]? = some (xs[3]'(by rw [hxl]; decide)) := List.getElem?_eq_getElem _
    obtain ⟨a0, q0, _, w0⟩ := DataW.trod_int Try.underlying3 (h0.trans e0)
    obtain ⟨a1, q1, _, w1⟩ := DataW.trod_int Try.underlying3 (h1.trans e1)
    obtain ⟨A2, c2, l2, q2, hc2, hm2, hr2, w2⟩ := open_moves Try.underlying26 (h2.trans e2)
    obtain ⟨A3, c3, l3, q3, hc3, hm3, hr3, w3⟩ := open_ints_rows Try.underlying22 Try.underlying3 (by kernel_rfl) (h3.trans e3)
    simp [k1, k2, k3] at q0 q1 q2 q3
    subst q0 q1 q2 q3
    exact ⟨a0, a1, A2, c2, l2, A3, c3, l3, rfl, w0, w1, hc2, hm2, hr2, w2, hc3, hm3, hr3, w3⟩
end
end Go.Proofs.Ytpdmimlkgmhepaa.G

/- StripGap, the program's and the reference's, is one plain number; condition: a round. -/
namespace Go.Proofs.Ytpdmimlkgmhepaa.Pure
set_option linter.unusedVariables false
set_option linter.unusedSimpArgs false
open Go.RowKit Go.Proofs.YtpdmimlkgmhepaaW.PrintWords Go.Proofs.Ytpdmimlkgmhepaa.G

/-- The gap, plainly. -/
def gapM (l : Bool) (a b : Int) : Int := (if l = true then 2 else 1) + (if 1 ≤ a ∧ a ≤ 3 ∧ 1 ≤ b ∧ b ≤ 3 ∧ b < a then a - b else 0)

theorem spec_gap (n1 n2 : ByteArray) (b1 b2 : Bool) (w1 e1 l1 p1 w2 e2 l2 p2 : Int) (k : Nat) : spec_StripGap.f (k + 1) n1 b1 w1 e1 l1 p1 n2 b2 w2 e2 l2 p2 = some (gapM b1 w1 w2) := by
  simp only [spec_StripGap.f, spec_StripGap.j0, spec_l1In.f, gapM]
  cases b1 <;> (repeat' split) <;> simp_all [wrap64] <;> (repeat' split) <;> omega

theorem impl_gap (n1 n2 : ByteArray) (b1 b2 : Bool) (w1 e1 l1 p1 w2 e2 l2 p2 : Int) (k : Nat) : impl_StripGap.f (k + 1) n1 b1 w1 e1 l1 p1 n2 b2 w2 e2 l2 p2 = some (gapM b1 w1 w2) := by
  simp only [impl_StripGap.f, impl_StripGap.j0, impl_in.f, gapM]
  cases b1 <;> (repeat' split) <;> simp_all [wrap64] <;> (repeat' split) <;> omega

theorem gapM_range (l : Bool) (a b : Int) : 1 ≤ gapM l a b ∧ gapM l a b ≤ 4 := by
  unfold gapM
  (repeat' split) <;> omega
end Go.Proofs.Ytpdmimlkgmhepaa.Pure

/- StripFits, StripCost and StripBookOk, the program's and the reference's, plainly; condition: ticks are int64s. -/
namespace Go.Proofs.Ytpdmimlkgmhepaa.Pure
set_option linter.unusedVariables false
set_option linter.unusedSimpArgs false
open Go.RowKit Go.Proofs.YtpdmimlkgmhepaaW.PrintWords Go.Proofs.Ytpdmimlkgmhepaa.G

def gap (a b : Mv) : Int := gapM a.f1 a.f2 b.f2
theorem gap_range (a b : Mv) : 1 ≤ gap a b ∧ gap a b ≤ 4 := gapM_range _ _ _
theorem spec_gapE (a b : Mv) : Ev (fun k => spec_StripGap.f k a.f0 a.f1 a.f2 a.f3 a.f4 a.f5 b.f0 b.f1 b.f2 b.f3 b.f4 b.f5) (gap a b) := ⟨1, fun k hk => by
  obtain ⟨k, rfl⟩ : ∃ m, k = m + 1 := ⟨k - 1, by omega⟩
  exact spec_gap ..⟩
theorem impl_gapE (a b : Mv) : Ev (fun k => impl_StripGap.f k a.f0 a.f1 a.f2 a.f3 a.f4 a.f5 b.f0 b.f1 b.f2 b.f3 b.f4 b.f5) (gap a b) := ⟨1, fun k hk => by
  obtain ⟨k, rfl⟩ : ∃ m, k = m + 1 := ⟨k - 1, by omega⟩
  exact impl_gap ..⟩

/-- The tick at a place. -/
def tk (t : List Int) (i : Nat) : Int := t.getD i 0
def TkWf (t : List Int) : Prop := ∀ i, i < t.length → -9223372036854775808 ≤ tk t i ∧ tk t i ≤ 9223372036854775807
theorem rdT (t : List Int) (i : Nat) : rd t (i : Int) = tk t i := rd_nat t i
/-- Tick i is within its move's bounds. -/
def InR (l : List Mv) (t : List Int) (i : Nat) : Prop := ((at' l i).f3 ≤ tk t i ∧ tk t i ≤ (at' l i).f4) ∧ (0 ≤ (at' l i).f5 → tk t i = (at' l i).f5)
/-- Place k is far enough behind place i, if it is behind. -/
def Ap (l : List Mv) (t : List Int) (i k : Nat) : Prop := tk t i ≠ tk t k ∧ (tk t i < tk t k → gap (at' l i) (at' l k) ≤ tk t k - tk t i)
instance (l : List Mv) (t : List Int) (i : Nat) : Decidable (InR l t i) := by unfold InR; infer_instance
instance (l : List Mv) (t : List Int) (i k : Nat) : Decidable (Ap l t i k) := by unfold Ap; infer_instance
def FitsAt (l : List Mv) (t : List Int) (i : Nat) : Prop := InR l t i ∧ ∀ k, k < l.length → k ≠ i → Ap l t i k
instance (l : List Mv) (t : List Int) (i : Nat) : Decidable (FitsAt l t i) := by unfold FitsAt; infer_instance
def Fits (l : List Mv) (t : List Int) : Prop := MovesOk l ∧ t.length = l.length ∧ ∀ i, i < l.length → FitsAt l t i
instance (l : List Mv) (t : List Int) : Decidable (Fits l t) := by unfold Fits; infer_instance

theorem mvOk_range {m : Mv} (h : mvOk m = true) : 1 ≤ m.f0.size ∧ m.f0.size ≤ 8 ∧ 1 ≤ m.f2 ∧ m.f2 ≤ 3 ∧ 0 ≤ m.f3 ∧ m.f3 ≤ m.f4 ∧ m.f4 ≤ 10000 ∧ (m.f5 = -1 ∨ m.f3 ≤ m.f5 ∧ m.f5 ≤ m.f4) := by
  unfold mvOk at h
  by_cases hm : MoveP m.f0.size m.f2 m.f3 m.f4 m.f5
  · exact hm
  · rw [moveOkM_neg hm] at h
    cases h

theorem impl_fits (l : List Mv) (t : List Int) (hl : l.length ≤ 1048576) (ht : t.length ≤ 1048576) (hw : TkWf t) : Ev (fun k => impl_StripFits.f k l t) (decide (Fits l t)) := by
  unfold impl_StripFits.f
  refine Ev.bind (impl_movesOk l) ?_
  by_cases hm : MovesOk l
  · refine Ev.pos (decide_eq_true hm) (Ev.step (fun _ => impl_StripFits.j0.eq_2 ..) ?_)
    by_cases hlen : t.length = l.length
    · refine Ev.neg (by simp [hlen]) ?_
      -- a round up to its second loop
      have open_ : ∀ (i : Nat) (r : Bool), i < l.length → (InR l t i → Ev (fun k => impl_StripFits.l1 k l t i l l.length i l l.length 0 (at' l i).f0 (at' l i).f1 (at' l i).f2 (at' l i).f3 (at' l i).f4 (at' l i).f5) r) → (¬ InR l t i → r = false) →
          Ev (fun k => impl_StripFits.l0 k l t l l.length i) r := by
        intro i r hi h1 h2
        refine Ev.step (fun _ => impl_StripFits.l0.eq_2 ..) (Ev.pos (by omega) (Ev.pos (by omega) (Ev.pos (by omega) (Ev.pos (by omega) ?_))))
        simp only [rdM, rdT, impl_in]
        refine Ev.ite (fun hr => ?_) (fun hr => ?_)
        · simp only [if_true]
          refine Ev.ite (fun hp => ?_) (fun hp => ?_)
          · refine Ev.step (fun _ => impl_StripFits.j2.eq_2 ..) ?_
            by_cases he : tk t i = (at' l i).f5
            · exact Ev.neg (by simp [he]) (h1 ⟨hr, fun _ => he⟩)
            · exact Ev.pos (by simp [he]) (Ev.some (h2 fun h => he (h.2 hp)).symm)
          · exact Ev.step (fun _ => impl_StripFits.j2.eq_2 ..) (Ev.neg (by decide) (h1 ⟨hr, fun h => absurd h hp⟩))
        · simp only [Bool.false_eq_true, if_false]
          exact Ev.step (fun _ => impl_StripFits.j2.eq_2 ..) (Ev.pos rfl (Ev.some (h2 fun h => hr h.1).symm))
      -- one step of the second loop
      have inner : ∀ (i j : Nat) (r : Bool), i < l.length → InR l t i → j < l.length → (j ≠ i → Ap l t i j) →
          Ev (fun k => impl_StripFits.l1 k l t i l l.length i l l.length ((j + 1 : Nat) : Int) (at' l i).f0 (at' l i).f1 (at' l i).f2 (at' l i).f3 (at' l i).f4 (at' l i).f5) r →
          Ev (fun k => impl_StripFits.l1 k l t i l l.length i l l.length (j : Int) (at' l i).f0 (at' l i).f1 (at' l i).f2 (at' l i).f3 (at' l i).f4 (at' l i).f5) r := by
        intro i j r hi hin hj hap hr
        have hmi := mvOk_range (hm.2 i hi).1
        have hwj := hw j (by omega)
        have hir := hin.1
        refine Ev.step (fun _ => impl_StripFits.l1.eq_2 ..) (Ev.pos (by omega) (Ev.pos (by omega) (Ev.pos (by omega) ?_)))
        simp only [rdM, rdT, wrap_succ hj (show l.length ≤ 1000000000000000000 by omega)]
        by_cases e : j = i
        · exact Ev.pos (by omega) hr
        · have hne := hap e
          refine Ev.neg (by omega) (Ev.pos (by omega) (Ev.pos (by omega) (Ev.pos (by omega) (Ev.neg hne.1 ?_))))
          refine Ev.ite (fun hlt => ?_) (fun _ => hr)
          refine Ev.bind (impl_gapE _ _) ?_
          simp only [wrap_eq (x := tk t j - tk t i) (by omega) (by omega)]
          exact Ev.neg (by have := hne.2 hlt; omega) hr
      by_cases hall : ∀ i, i < l.length → FitsAt l t i
      · rw [decide_eq_true (show Fits l t from ⟨hm, hlen, hall⟩)]
        refine ev_yes (n := l.length) (fun i k => impl_StripFits.l0 k l t l l.length i) hall ?_ ?_
        · exact Ev.step (fun _ => impl_StripFits.l0.eq_2 ..) (Ev.neg (by omega) (Ev.some rfl))
        · intro i hi hP hr
          refine open_ i true hi (fun hin => ?_) (fun h => absurd hP.1 h)
          refine ev_yes (n := l.length) (P := fun j => j ≠ i → Ap l t i j) (fun j k => impl_StripFits.l1 k l t i l l.length i l l.length (j : Int) (at' l i).f0 (at' l i).f1 (at' l i).f2 (at' l i).f3 (at' l i).f4 (at' l i).f5) (fun j hj => hP.2 j hj) ?_ (fun j hj hp hr' => inner i j true hi hin hj hp hr')
          refine Ev.step (fun _ => impl_StripFits.l1.eq_2 ..) (Ev.neg (by omega) ?_)
          simpa only [wrap_succ hi (show l.length ≤ 1000000000000000000 by omega)] using hr
      · rw [decide_eq_false (fun h : Fits l t => hall h.2.2)]
        refine ev_no (n := l.length) (fun i k => impl_StripFits.l0 k l t l l.length i) hall ?_ ?_
        · intro i hi hP hr
          refine open_ i false hi (fun hin => ?_) (fun h => absurd hP.1 h)
          refine ev_yes (n := l.length) (P := fun j => j ≠ i → Ap l t i j) (fun j k => impl_StripFits.l1 k l t i l l.length i l l.length (j : Int) (at' l i).f0 (at' l i).f1 (at' l i).f2 (at' l i).f3 (at' l i).f4 (at' l i).f5) (fun j hj => hP.2 j hj) ?_ (fun j hj hp hr' => inner i j false hi hin hj hp hr')
          refine Ev.step (fun _ => impl_StripFits.l1.eq_2 ..) (Ev.neg (by omega) ?_)
          simpa only [wrap_succ hi (show l.length ≤ 1000000000000000000 by omega)] using hr
        · intro i hi _ hno
          refine open_ i false hi (fun hin => ?_) (fun _ => rfl)
          have hx : ¬ ∀ j, j < l.length → (j ≠ i → Ap l t i j) := fun h => hno ⟨hin, h⟩
          refine ev_no (n := l.length) (P := fun j => j ≠ i → Ap l t i j) (fun j k => impl_StripFits.l1 k l t i l l.length i l l.length (j : Int) (at' l i).f0 (at' l i).f1 (at' l i).f2 (at' l i).f3 (at' l i).f4 (at' l i).f5) hx (fun j hj hp hr' => inner i j false hi hin hj hp hr') ?_
          intro j hj _ hnp
          have hmi := mvOk_range (hm.2 i hi).1
          have hwj := hw j (by omega)
          have hir := hin.1
          have e : j ≠ i := fun e => hnp fun h => absurd e h
          have hna : ¬ Ap l t i j := fun h => hnp fun _ => h
          refine Ev.step (fun _ => impl_StripFits.l1.eq_2 ..) (Ev.pos (by omega) (Ev.pos (by omega) (Ev.pos (by omega) ?_)))
          simp only [rdM, rdT]
          refine Ev.neg (by omega) (Ev.pos (by omega) (Ev.pos (by omega) (Ev.pos (by omega) ?_)))
          by_cases heq : tk t i = tk t j
          · exact Ev.pos heq (Ev.some rfl)
          · refine Ev.neg heq ?_
            have hlt : tk t i < tk t j := by
              rcases Int.lt_trichotomy (tk t i) (tk t j) with h | h | h
              · exact h
              · exact absurd h heq
              · exact absurd ⟨heq, fun h' => absurd h' (by omega)⟩ hna
            refine Ev.pos hlt (Ev.bind (impl_gapE _ _) ?_)
            simp only [wrap_eq (x := tk t j - tk t i) (by omega) (by omega)]
            refine Ev.pos ?_ (Ev.some rfl)
            by_cases hg : tk t j - tk t i < gap (at' l i) (at' l j)
            · exact hg
            · exact absurd ⟨heq, fun _ => by omega⟩ hna
    · rw [decide_eq_false (fun h : Fits l t => hlen h.2.1)]
      refine Ev.pos ?_ (Ev.some rfl)
      simp only [bne_iff_ne, ne_eq]
      omega
  · rw [decide_eq_false (fun h : Fits l t => hm h.1)]
    refine Ev.neg (by simp [hm]) (Ev.step (fun _ => impl_StripFits.j0.eq_2 ..) (Ev.pos rfl (Ev.some rfl)))

/-- What the reference asks at a place. -/
def FitsSp (l : List Mv) (t : List Int) (i : Nat) : Prop := InR l t i ∧ ∀ k, k < i → Ap l t k i ∧ Ap l t i k
theorem fitsSp_iff (l : List Mv) (t : List Int) : (∀ i, i < l.length → FitsSp l t i) ↔ ∀ i, i < l.length → FitsAt l t i := by
  constructor
  · intro h i hi
    refine ⟨(h i hi).1, fun k hk hne => ?_⟩
    rcases Nat.lt_or_ge k i with hlt | hge
    · exact ((h i hi).2 k hlt).2
    · exact ((h k hk).2 i (by omega)).1
  · intro h i hi
    exact ⟨(h i hi).1, fun k hk => ⟨(h k (by omega)).2 i hi (by omega), (h i hi).2 k (by omega) (by omega)⟩⟩

theorem spec_apart (a b : Mv) (s t : Int) (hs : 0 ≤ s ∧ s ≤ 10000) (ht : 0 ≤ t ∧ t ≤ 10000) :
    Ev (fun k => spec_l2Apart.f k a.f0 a.f1 a.f2 a.f3 a.f4 a.f5 s b.f0 b.f1 b.f2 b.f3 b.f4 b.f5 t) (decide ((s ≠ t ∧ (s < t → gap a b ≤ t - s)) ∧ (t ≠ s ∧ (t < s → gap b a ≤ s - t)))) := by
  unfold spec_l2Apart.f
  simp only [wrap_eq (x := s - t) (by omega) (by omega), wrap_eq (x := t - s) (by omega) (by omega)]
  refine Ev.ite (fun e => ?_) (fun e => Ev.ite (fun hlt => ?_) (fun hge => ?_))
  · exact Ev.some (by simp [e])
  · refine Ev.bind (spec_gapE a b) (Ev.some ?_)
    refine decide_eq_decide.2 ⟨fun h => ⟨⟨e, fun _ => h⟩, fun h' => e h'.symm, fun h' => absurd h' (by omega)⟩, fun h => h.1.2 hlt⟩
  · refine Ev.bind (spec_gapE b a) (Ev.some ?_)
    refine decide_eq_decide.2 ⟨fun h => ⟨⟨e, fun h' => absurd h' hge⟩, fun h' => e h'.symm, fun _ => h⟩, fun h => h.2.2 (by omega)⟩

theorem spec_fits (l : List Mv) (t : List Int) (hl : l.length ≤ 1048576) (ht : t.length ≤ 1048576) : Ev (fun k => spec_StripFits.f k l t) (decide (Fits l t)) := by
  unfold spec_StripFits.f
  refine Ev.bind (spec_movesOk l) ?_
  by_cases hm : MovesOk l
  · refine Ev.pos (decide_eq_true hm) (Ev.step (fun _ => spec_StripFits.j0.eq_2 ..) ?_)
    by_cases hlen : t.length = l.length
    · refine Ev.neg (by simp [hlen]) ?_
      have rng : ∀ i, i < l.length → InR l t i → 0 ≤ tk t i ∧ tk t i ≤ 10000 := by
        intro i hi hin
        have hmi := mvOk_range (hm.2 i hi).1
        have hir := hin.1
        omega
      have open_ : ∀ (i : Nat) (r : Bool), i < l.length → (InR l t i → Ev (fun k => spec_StripFits.l1 k l t i 0) r) → (¬ InR l t i → r = false) → Ev (fun k => spec_StripFits.l0 k l t i) r := by
        intro i r hi h1 h2
        refine Ev.step (fun _ => spec_StripFits.l0.eq_2 ..) (Ev.pos (by omega) (Ev.pos (by omega) (Ev.pos (by omega) ?_)))
        simp only [rdM, rdT, spec_in]
        refine Ev.ite (fun hr => ?_) (fun hr => ?_)
        · simp only [if_true]
          refine Ev.ite (fun hp => ?_) (fun hp => ?_)
          · refine Ev.step (fun _ => spec_StripFits.j2.eq_2 ..) ?_
            by_cases he : tk t i = (at' l i).f5
            · exact Ev.neg (by simp [he]) (h1 ⟨hr, fun _ => he⟩)
            · exact Ev.pos (by simp [he]) (Ev.some (h2 fun h => he (h.2 hp)).symm)
          · exact Ev.step (fun _ => spec_StripFits.j2.eq_2 ..) (Ev.neg (by decide) (h1 ⟨hr, fun h => absurd h hp⟩))
        · simp only [Bool.false_eq_true, if_false]
          exact Ev.step (fun _ => spec_StripFits.j2.eq_2 ..) (Ev.pos rfl (Ev.some (h2 fun h => hr h.1).symm))
      have inner : ∀ (i j : Nat) (r : Bool), i < l.length → InR l t i → InR l t j → j < i → (Ap l t j i ∧ Ap l t i j → Ev (fun k => spec_StripFits.l1 k l t i ((j + 1 : Nat) : Int)) r) → (¬ (Ap l t j i ∧ Ap l t i j) → r = false) →
          Ev (fun k => spec_StripFits.l1 k l t i (j : Int)) r := by
        intro i j r hi hin hjn hj h1 h2
        refine Ev.step (fun _ => spec_StripFits.l1.eq_2 ..) (Ev.pos (by omega) (Ev.pos (by omega) (Ev.pos (by omega) (Ev.pos (by omega) (Ev.pos (by omega) (Ev.pos (by omega) (Ev.pos (by omega) ?_)))))))
        simp only [rdM, rdT, wrap_succ hj (show i ≤ 1000000000000000000 by omega)]
        refine Ev.bind (spec_apart _ _ _ _ (rng j (by omega) hjn) (rng i hi hin)) ?_
        refine Ev.ite (fun h => h1 (of_decide_eq_true h)) (fun h => Ev.some (h2 fun h' => h (decide_eq_true h')).symm)
      by_cases hall : ∀ i, i < l.length → FitsSp l t i
      · rw [decide_eq_true (show Fits l t from ⟨hm, hlen, (fitsSp_iff l t).1 hall⟩)]
        refine ev_yes (n := l.length) (fun i k => spec_StripFits.l0 k l t i) hall ?_ ?_
        · exact Ev.step (fun _ => spec_StripFits.l0.eq_2 ..) (Ev.neg (by omega) (Ev.some rfl))
        · intro i hi hP hr
          refine open_ i true hi (fun hin => ?_) (fun h => absurd hP.1 h)
          refine ev_yes (n := i) (P := fun j => Ap l t j i ∧ Ap l t i j) (fun j k => spec_StripFits.l1 k l t i j) hP.2 ?_ (fun j hj hp hr' => inner i j true hi hin (hall j (by omega)).1 hj (fun _ => hr') (fun h => absurd hp h))
          refine Ev.step (fun _ => spec_StripFits.l1.eq_2 ..) (Ev.neg (by omega) ?_)
          simpa only [wrap_succ hi (show l.length ≤ 1000000000000000000 by omega)] using hr
      · rw [decide_eq_false (fun h : Fits l t => hall ((fitsSp_iff l t).2 h.2.2))]
        refine ev_no' (n := l.length) (fun i k => spec_StripFits.l0 k l t i) hall ?_ ?_
        · intro i hi hpre hP hr
          refine open_ i false hi (fun hin => ?_) (fun h => absurd hP.1 h)
          refine ev_yes (n := i) (P := fun j => Ap l t j i ∧ Ap l t i j) (fun j k => spec_StripFits.l1 k l t i j) hP.2 ?_ (fun j hj hp hr' => inner i j false hi hin (hpre j hj).1 hj (fun _ => hr') (fun _ => rfl))
          refine Ev.step (fun _ => spec_StripFits.l1.eq_2 ..) (Ev.neg (by omega) ?_)
          simpa only [wrap_succ hi (show l.length ≤ 1000000000000000000 by omega)] using hr
        · intro i hi hpre hno
          refine open_ i false hi (fun hin => ?_) (fun _ => rfl)
          have hx : ¬ ∀ j, j < i → (Ap l t j i ∧ Ap l t i j) := fun h => hno ⟨hin, h⟩
          exact ev_no (n := i) (P := fun j => Ap l t j i ∧ Ap l t i j) (fun j k => spec_StripFits.l1 k l t i j) hx (fun j hj hp hr' => inner i j false hi hin (hpre j hj).1 hj (fun _ => hr') (fun _ => rfl))
            (fun j hj _ hnp => inner i j false hi hin (hpre j hj).1 hj (fun h => absurd h hnp) (fun _ => rfl))
    · rw [decide_eq_false (fun h : Fits l t => hlen h.2.1)]
      refine Ev.pos ?_ (Ev.some rfl)
      simp only [bne_iff_ne, ne_eq]
      omega
  · rw [decide_eq_false (fun h : Fits l t => hm h.1)]
    refine Ev.neg (by simp [hm]) (Ev.step (fun _ => spec_StripFits.j0.eq_2 ..) (Ev.pos rfl (Ev.some rfl)))
end Go.Proofs.Ytpdmimlkgmhepaa.Pure

/- The laws' helpers on books: a copy, equal books, sizes; condition: what the laws' own guard lets by. -/
namespace Go.Proofs.Ytpdmimlkgmhepaa.Pure
set_option linter.unusedVariables false
set_option linter.unusedSimpArgs false
open Go.RowKit Go.Proofs.YtpdmimlkgmhepaaW.PrintWords Go.Proofs.Ytpdmimlkgmhepaa.G
theorem tkWf {t : List Int} (h : ∀ z ∈ t, (Lit.int .i64 z).wf = true) : TkWf t := by
  intro i hi
  have e : tk t i = t[i] := by simp [tk, List.getD_eq_getElem?_getD, List.getElem?_eq_getElem hi]
  rw [e]
  exact wf_range (h _ (List.getElem_mem _))
theorem szBook (a0 a1 : Int) (l : List Lm) (t : List Int) (hl : l.length ≤ maxLen) (hw : ∀ x ∈ l, LmWf x) (ht : t.length ≤ maxLen) :
    ∃ r : Int, Ev (fun k => laws_szStripBook.f k a0 a1 l t 1048576) r ∧ r ≤ 1048576 ∧ (0 ≤ r → l.length ≤ 1048576 ∧ t.length ≤ 1048576 ∧ ∀ i, i < l.length → (lat l i).f0.size ≤ 1048576) := by
  unfold maxLen at ht
  unfold laws_szStripBook.f
  obtain ⟨r, h1, h2, h3⟩ := szMoves l 1048576 (by omega) (by omega) hl hw
  by_cases h0 : r < 0
  · exact ⟨-1, Ev.bind h1 (Ev.pos h0 (Ev.some rfl)), by omega, fun h => absurd h (by omega)⟩
  · obtain ⟨h4, h5⟩ := h3 (by omega)
    by_cases h6 : r - (t.length : Int) < 0
    · refine ⟨-1, Ev.bind h1 (Ev.neg h0 ?_), by omega, fun h => absurd h (by omega)⟩
      simp only [laws_szIntS.f, wrap_eq (x := r - (t.length : Int)) (by omega) (by omega), if_pos h6, Option.bind_some]
      exact Ev.pos (by decide) (Ev.some rfl)
    · refine ⟨r - t.length, Ev.bind h1 (Ev.neg h0 ?_), by omega, fun h => ⟨by omega, by omega, h5⟩⟩
      simp only [laws_szIntS.f, wrap_eq (x := r - (t.length : Int)) (by omega) (by omega), if_neg h6, Option.bind_some]
      exact Ev.some rfl
theorem toBook (a0 a1 : Int) (l : List Lm) (t : List Int) (hl : l.length ≤ 1048576) (ht : t.length ≤ 1048576) : Ev (fun k => laws_toStripBook.f k a0 a1 l t) (a0, a1, l.map toM, t) := by
  unfold laws_toStripBook.f
  exact Ev.bind (toMoves l hl) (Ev.bind (toInts t ht) (Ev.some rfl))
theorem eqBook (a0 a1 : Int) (l : List Mv) (t : List Int) (hl : l.length ≤ 1048576) (ht : t.length ≤ 1048576) : Ev (fun k => laws_eqStripBook.f k a0 a1 l t a0 a1 l t) true := by
  unfold laws_eqStripBook.f
  exact Ev.pos rfl (Ev.pos rfl (Ev.bind (eqMoves l hl) (Ev.pos rfl (Ev.bind (eqInts t ht) (Ev.pos rfl (Ev.some rfl))))))
end Go.Proofs.Ytpdmimlkgmhepaa.Pure

/- StripBookOk, the program's and the reference's, plainly; condition: ticks are int64s, at most 2^20. -/
namespace Go.Proofs.Ytpdmimlkgmhepaa.Pure
set_option linter.unusedVariables false
set_option linter.unusedSimpArgs false
open Go.RowKit Go.Proofs.YtpdmimlkgmhepaaW.PrintWords Go.Proofs.Ytpdmimlkgmhepaa.G

/-- No tick ahead of now, what is soon is promised. -/
def SoonAt (now : Int) (l : List Mv) (t : List Int) (i : Nat) : Prop := now ≤ tk t i ∧ (tk t i < now + 4 → 0 ≤ (at' l i).f5)
instance (now : Int) (l : List Mv) (t : List Int) (i : Nat) : Decidable (SoonAt now l t i) := by unfold SoonAt; infer_instance
def BookOk (now shift : Int) (l : List Mv) (t : List Int) : Prop := (0 ≤ now ∧ now ≤ 10000) ∧ (0 ≤ shift ∧ shift ≤ 6) ∧ Fits l t ∧ ∀ i, i < t.length → SoonAt now l t i
instance (now shift : Int) (l : List Mv) (t : List Int) : Decidable (BookOk now shift l t) := by unfold BookOk; infer_instance

theorem impl_bookOk (now shift : Int) (l : List Mv) (t : List Int) (hl : l.length ≤ 1048576) (ht : t.length ≤ 1048576) (hw : TkWf t) : Ev (fun k => impl_StripBookOk.f k now shift l t) (decide (BookOk now shift l t)) := by
  unfold impl_StripBookOk.f
  simp only [impl_in]
  refine Ev.ite (fun h1 => ?_) (fun h1 => ?_)
  · simp only [if_true]
    refine Ev.ite (fun h2 => ?_) (fun h2 => ?_)
    · refine Ev.bind (impl_fits l t hl ht hw) (Ev.step (fun _ => impl_StripBookOk.j0.eq_2 ..) ?_)
      by_cases hf : Fits l t
      · refine Ev.neg (by simp [hf]) ?_
        have hlen := hf.2.1
        have step : ∀ (i : Nat) (r : Bool), i < t.length → (SoonAt now l t i → Ev (fun k => impl_StripBookOk.l0 k t t.length ((i + 1 : Nat) : Int) now shift l t) r) → (¬ SoonAt now l t i → r = false) → Ev (fun k => impl_StripBookOk.l0 k t t.length (i : Int) now shift l t) r := by
          intro i r hi hs hn
          refine Ev.step (fun _ => impl_StripBookOk.l0.eq_2 ..) (Ev.pos (by omega) (Ev.pos (by omega) (Ev.pos (by omega) ?_)))
          simp only [rdM, rdT, wrap_eq (x := now + 4) (by omega) (by omega), wrap_succ hi (show t.length ≤ 1000000000000000000 by omega)]
          refine Ev.ite (fun h => Ev.some (hn fun h' => absurd h'.1 (by omega)).symm) (fun ha => ?_)
          refine Ev.ite (fun hb => Ev.pos (by omega) ?_) (fun hb => hs ⟨by omega, fun h => absurd h hb⟩)
          exact Ev.ite (fun hc => Ev.some (hn fun h' => absurd (h'.2 hb) (by omega)).symm) (fun hc => hs ⟨by omega, fun _ => by omega⟩)
        by_cases hall : ∀ i, i < t.length → SoonAt now l t i
        · rw [decide_eq_true (show BookOk now shift l t from ⟨h1, h2, hf, hall⟩)]
          refine ev_yes (n := t.length) (fun i k => impl_StripBookOk.l0 k t t.length (i : Int) now shift l t) hall ?_ (fun i hi hp hr => step i true hi (fun _ => hr) (fun h => absurd hp h))
          exact Ev.step (fun _ => impl_StripBookOk.l0.eq_2 ..) (Ev.neg (by omega) (Ev.some rfl))
        · rw [decide_eq_false (fun h : BookOk now shift l t => hall h.2.2.2)]
          exact ev_no (n := t.length) (fun i k => impl_StripBookOk.l0 k t t.length (i : Int) now shift l t) hall (fun i hi hp hr => step i false hi (fun _ => hr) (fun _ => rfl)) (fun i hi _ hp => step i false hi (fun h => absurd h hp) (fun _ => rfl))
      · rw [decide_eq_false (fun h : BookOk now shift l t => hf h.2.2.1)]
        exact Ev.pos (by simp [hf]) (Ev.some rfl)
    · simp only [Bool.false_eq_true, if_false]
      rw [decide_eq_false (fun h : BookOk now shift l t => h2 h.2.1)]
      exact Ev.step (fun _ => impl_StripBookOk.j0.eq_2 ..) (Ev.pos rfl (Ev.some rfl))
  · simp only [Bool.false_eq_true, if_false]
    rw [decide_eq_false (fun h : BookOk now shift l t => h1 h.1)]
    exact Ev.step (fun _ => impl_StripBookOk.j0.eq_2 ..) (Ev.pos rfl (Ev.some rfl))

theorem spec_bookOk (now shift : Int) (l : List Mv) (t : List Int) (hl : l.length ≤ 1048576) (ht : t.length ≤ 1048576) : Ev (fun k => spec_StripBookOk.f k now shift l t) (decide (BookOk now shift l t)) := by
  unfold spec_StripBookOk.f
  simp only [spec_in]
  refine Ev.ite (fun h1 => ?_) (fun h1 => ?_)
  · simp only [if_true]
    refine Ev.ite (fun h2 => ?_) (fun h2 => ?_)
    · refine Ev.bind (spec_fits l t hl ht) (Ev.step (fun _ => spec_StripBookOk.j0.eq_2 ..) ?_)
      by_cases hf : Fits l t
      · refine Ev.neg (by simp [hf]) ?_
        have hlen := hf.2.1
        have step : ∀ (i : Nat) (r : Bool), i < t.length → (SoonAt now l t i → Ev (fun k => spec_StripBookOk.l0 k ((i + 1 : Nat) : Int) now shift l t) r) → (¬ SoonAt now l t i → r = false) → Ev (fun k => spec_StripBookOk.l0 k (i : Int) now shift l t) r := by
          intro i r hi hs hn
          refine Ev.step (fun _ => spec_StripBookOk.l0.eq_2 ..) (Ev.pos (by omega) (Ev.pos (by omega) ?_))
          simp only [rdM, rdT, wrap_eq (x := now + 4) (by omega) (by omega), wrap_succ hi (show t.length ≤ 1000000000000000000 by omega)]
          refine Ev.ite (fun h => Ev.some (hn fun h' => absurd h'.1 (by omega)).symm) (fun ha => ?_)
          refine Ev.ite (fun hb => Ev.pos (by omega) ?_) (fun hb => hs ⟨by omega, fun h => absurd h hb⟩)
          exact Ev.ite (fun hc => Ev.some (hn fun h' => absurd (h'.2 hb) (by omega)).symm) (fun hc => hs ⟨by omega, fun _ => by omega⟩)
        by_cases hall : ∀ i, i < t.length → SoonAt now l t i
        · rw [decide_eq_true (show BookOk now shift l t from ⟨h1, h2, hf, hall⟩)]
          refine ev_yes (n := t.length) (fun i k => spec_StripBookOk.l0 k (i : Int) now shift l t) hall ?_ (fun i hi hp hr => step i true hi (fun _ => hr) (fun h => absurd hp h))
          exact Ev.step (fun _ => spec_StripBookOk.l0.eq_2 ..) (Ev.neg (by omega) (Ev.some rfl))
        · rw [decide_eq_false (fun h : BookOk now shift l t => hall h.2.2.2)]
          exact ev_no (n := t.length) (fun i k => spec_StripBookOk.l0 k (i : Int) now shift l t) hall (fun i hi hp hr => step i false hi (fun _ => hr) (fun _ => rfl)) (fun i hi _ hp => step i false hi (fun h => absurd h hp) (fun _ => rfl))
      · rw [decide_eq_false (fun h : BookOk now shift l t => hf h.2.2.1)]
        exact Ev.pos (by simp [hf]) (Ev.some rfl)
    · simp only [Bool.false_eq_true, if_false]
      rw [decide_eq_false (fun h : BookOk now shift l t => h2 h.2.1)]
      exact Ev.step (fun _ => spec_StripBookOk.j0.eq_2 ..) (Ev.pos rfl (Ev.some rfl))
  · simp only [Bool.false_eq_true, if_false]
    rw [decide_eq_false (fun h : BookOk now shift l t => h1 h.1)]
    exact Ev.step (fun _ => spec_StripBookOk.j0.eq_2 ..) (Ev.pos rfl (Ev.some rfl))
end Go.Proofs.Ytpdmimlkgmhepaa.Pure

/- FnExactStripBookOk, the pure statement: both answers are the same and the book reads as before; no condition but the argument's kinds. -/
namespace Go.Proofs.Ytpdmimlkgmhepaa.Pure
set_option linter.unusedVariables false
set_option linter.unusedSimpArgs false
open Go.RowKit Go.Proofs.YtpdmimlkgmhepaaW.PrintWords Go.Proofs.Ytpdmimlkgmhepaa.G
theorem FnExactStripBookOk (a0 a1 : Int) (l : List Lm) (t : List Int) (w0 : (Lit.int .i64 a0).wf = true) (w1 : (Lit.int .i64 a1).wf = true) (hl : l.length ≤ maxLen) (hw : ∀ x ∈ l, LmWf x) (ht : t.length ≤ maxLen) (hwt : ∀ z ∈ t, (Lit.int .i64 z).wf = true) : ∃ k, laws_FnExactStripBookOk.f k a0 a1 l t = some true := by
  refine Ev.rounds (r := true) ?_
  unfold laws_FnExactStripBookOk.f
  obtain ⟨r, h1, h2, h3⟩ := szBook a0 a1 l t hl hw ht
  refine Ev.bind h1 (Ev.ite (fun _ => Ev.some rfl) (fun h0 => ?_))
  obtain ⟨k0, k2, _⟩ := h3 (by omega)
  have k1 : (l.map toM).length ≤ 1048576 := by rw [List.length_map]; exact k0
  refine Ev.bind (toBook a0 a1 l t k0 k2) (Ev.bind (spec_bookOk _ _ _ _ k1 k2) (Ev.bind (toBook a0 a1 l t k0 k2) (Ev.bind (impl_bookOk _ _ _ _ k1 k2 (tkWf hwt)) ?_)))
  refine Ev.neg (by simp) ?_
  exact Ev.bind (toBook a0 a1 l t k0 k2) (Ev.bind (eqBook _ _ _ _ k1 k2) (Ev.pos rfl (Ev.some rfl)))
end Go.Proofs.Ytpdmimlkgmhepaa.Pure

/- FnExactStripBookOk: for every input the law returns true and each argument reads behind the call as it read before; no condition. -/
namespace Go.Proofs.Ytpdmimlkgmhepaa.fnExactStripBookOk
open Go.ChangeShapes Go.WideShapes Go.ChangeAt Go.RowKit
open Go.ChangeMaps (open_string shut_string)
set_option linter.unusedVariables false
theorem own : ownKnob Try.prog.godebug = none := by kernel_rfl
theorem laidOut : laidOutB Try.prog = true := by kernel_rfl
set_option maxRecDepth 100000 in
theorem lifted (os : Os) (started : os.Started) (H : Type) (enc : TypeId × Value → H) :
    ReturnsInHanded {} Try.checked os 7 .any (Rows.fnExactStripBookOkSpec.pre6 enc Try.prog Try.f7 Rows.fnExactStripBookOkRow.domain false) (Rows.fnExactStripBookOkSpec.post enc Try.prog Try.f7 false true false false) := by
  refine returnsInHanded_of_change_sized (C := Try.checked) own started (by kernel_rfl) Try.func7
    (ChangeSpec.witness6 (enc := enc) (C := Try.checked) false ⟨#[], #[.agg #[.int .i64 0, .int .i64 0, .slice none 0 0, .slice none 0 0]], []⟩ 8 (by kernel_rfl) (by kernel_rfl) (by kernel_rfl) (by kernel_rfl)) ?_
  intro W base args ds gs before hval0 hW hcnd hsz0 _
  have hval : ∀ (j : Nat) t v, Try.f7.params[j]? = some t → args[j]? = some v → Value.okWide Try.prog W .any base t v := hval0
  have hW' := hW
  obtain ⟨p, q, hA0, hV, rfl, hfz, hnd⟩ := hW
  have hA : DataW.TrodAll enc Try.prog W 0 (fun _ => true) true Try.f7.params.toList args.toList ds p := hA0
  rw [Try.params7] at hA hval
  obtain ⟨v0, vs0, d0, ds0, p0, q0, hargs, rfl, rfl, h0, r0⟩ := trodAll_cons hA
  obtain ⟨rfl, rfl, rfl⟩ := trodAll_nil r0
  obtain rfl : args = #[v0] := by cases args; simp_all
  obtain ⟨rfl, rfl⟩ := trodVars_none hV
  have k0 := h0
  have lt0 : ∀ x ∈ p0, x.block < W.heap.size := by obtain ⟨m, hm⟩ := k0; exact DataW.trod_lt m _ _ _ hm
  obtain ⟨cs0, rfl, hsz0⟩ := okWide_struct Try.underlying38 (hval 0 38 v0 rfl rfl)
  obtain ⟨b0⟩ := cs0
  obtain ⟨fuel0, hf0⟩ := h0
  obtain ⟨a0_0, a0_1, A0_2, c0_2, l0_2, A0_3, c0_3, l0_3, rfl, w0_0, w0_1, hc0_2, hm0_2, hr0_2, w0_2, hc0_3, hm0_3, hr0_3, w0_3⟩ := G.open_book hf0 (hsz0.trans (by kernel_rfl))
  have hm0_2' : l0_2.length ≤ maxLen := Nat.le_trans hc0_2 hm0_2
  have hm0_3' : l0_3.length ≤ maxLen := Nat.le_trans hc0_3 hm0_3
  obtain ⟨k, hp⟩ := Pure.FnExactStripBookOk a0_0 a0_1 l0_2 l0_3 w0_0 w0_1 hm0_2' w0_2 hm0_3' w0_3
  refine (G.laws_FnExactStripBookOk.calls k a0_0 a0_1 _ _ l0_2 _ _ l0_3 true W hr0_2 hc0_2 hr0_3 hc0_3 hp).mono fun e W' ⟨he, bel0⟩ => ?_
  have bel : Below W.heap.size W W' := by first | exact bel0 | exact bel0.below
  subst he
  exact ⟨_, rfl, _, _, _, [], _, [], hW', trodAll_mk1 (shut_bool Try.underlying4 _), (trodAll_cons_mk (Below.trod laidOut (by kernel_rfl) (of_decide_eq_true (by kernel_rfl)) k0 bel lt0) trodAll_mk0), rfl, bel.frame _, fun h => by cases h⟩
theorem over : Rows.fnExactStripBookOkRow.holds Try.pinned (OpenSpec.ofChange Rows.fnExactStripBookOkSpec) :=
  OpenClaim.holds_of_wide 7 Try.f7 rfl rfl rfl rfl rfl rfl rfl ⟨rfl, rfl, rfl, rfl, rfl⟩ rfl rfl rfl rfl rfl (by kernel_rfl) Try.func7 (by kernel_rfl)
    (of_decide_eq_true (by kernel_rfl)) (by unfold Func.isWrapper; first | (rw [if_pos (by decide +kernel)]; kernel_rfl) | (rw [if_neg (by decide +kernel)]; exact ⟨rfl, rfl⟩))
    (fun os started H enc _ => lifted os started H enc)
theorem proved : Rows.FnExactStripBookOkSaid := over
end Go.Proofs.Ytpdmimlkgmhepaa.fnExactStripBookOk
namespace Go.Proofs.Ytpdmimlkgmhepaa
theorem fnExactStripBookOk_holds : Rows.FnExactStripBookOkSaid := fnExactStripBookOk.proved
#print axioms fnExactStripBookOk_holds
end Go.Proofs.Ytpdmimlkgmhepaa
