/- FnExactStripOrder, part 3 of 6: the plain functions of the Go text that the law reaches, what the calls come to, and plain lemmas on them; no condition -/
import Derived.Deep.Slices
import Derived.Deep.Fields
import Derived.ChangeSame
import Derived.Lib.SmallJoins
import Derived.WalkKit
import Derived.ProofKit
import Derived.OpenShut
import Derived.ShutString
import Derived.ChangeOld
import Derived.SizedLaws
import Derived.Test.YtpdmimlkgmhepaaYXOrder0
import Derived.Test.YtpdmimlkgmhepaaYXOrder1
import Derived.Test.YtpdmimlkgmhepaaYXOrder2
/- The plain functions of this seat's Go text and, for each, that the call comes to what its plain function says: written for this claim by a program of the session (drv.py) over the kit's print.py. -/
namespace Go.Proofs.Ytpdmimlkgmhepaa.G
open Go.RowKit Go.Proofs.YtpdmimlkgmhepaaW.PrintWords Go.Proofs.YtpdmimlkgmhepaaW.PrintLast Go.Proofs.YtpdmimlkgmhepaaW.PrintMore
attribute [local go_sem] max2_int min2_int max_two min_two max_three min_three max_four min_four   -- for this text's walks alone
set_option linter.unusedVariables false
set_option linter.unusedSimpArgs false

/-! ### impl_ordered: function 62 -/
mutual
def impl_ordered.l0 : Nat → List (S54) → List Int → List Int → List Int → Int → Int → Option (List Int × Bool)
 | 0, _, _, _, _, _, _ => none
 | k + 1, x0, x1, x6, x16, x17, x18 => if x18 < x17 then (if 0 ≤ x18 then (if x18 < (x16.length : Int) then (if 0 ≤ (rd x16 x18) then (if (rd x16 x18) < (x0.length : Int) then (if x18 ≤ (x1.length : Int) then (impl_ordered.l1 k x0 x1 x6 (rd x16 x18) ((rd_T54 x0 (rd x16 x18)).f3) x16 x17 x18 (x1.take (x18 : Int).toNat) ((x1.take (x18 : Int).toNat).length : Int) 0 ((rd_T54 x0 (rd x16 x18)).f0) ((rd_T54 x0 (rd x16 x18)).f1) ((rd_T54 x0 (rd x16 x18)).f2) ((rd_T54 x0 (rd x16 x18)).f3) ((rd_T54 x0 (rd x16 x18)).f4) ((rd_T54 x0 (rd x16 x18)).f5)) else (none)) else (none)) else (none)) else (none)) else (none)) else (some (x6, true))
def impl_ordered.l1 : Nat → List (S54) → List Int → List Int → Int → Int → List Int → Int → Int → List Int → Int → Int → ByteArray → Bool → Int → Int → Int → Int → Option (List Int × Bool)
 | 0, _, _, _, _, _, _, _, _, _, _, _, _, _, _, _, _, _ => none
 | k + 1, x0, x1, x6, x8, x10, x16, x17, x18, x31, x32, x33, x107000, x107001, x107002, x107003, x107004, x107005 => if x33 < x32 then (if 0 ≤ x33 then (if x33 < (x31.length : Int) then (if 0 ≤ (rd x31 x33) then (if (rd x31 x33) < (x6.length : Int) then (if (rd x31 x33) < (x0.length : Int) then ((impl_StripGap.f k ((rd_T54 x0 (rd x31 x33)).f0) ((rd_T54 x0 (rd x31 x33)).f1) ((rd_T54 x0 (rd x31 x33)).f2) ((rd_T54 x0 (rd x31 x33)).f3) ((rd_T54 x0 (rd x31 x33)).f4) ((rd_T54 x0 (rd x31 x33)).f5) x107000 x107001 x107002 x107003 x107004 x107005).bind fun t111 => (impl_ordered.l1 k x0 x1 x6 x8 (mx x10 (wrap64 ((rd x6 (rd x31 x33)) + t111))) x16 x17 x18 x31 x32 (wrap64 (x33 + 1)) x107000 x107001 x107002 x107003 x107004 x107005)) else (none)) else (none)) else (none)) else (none)) else (none)) else (if x107005 ≥ 0 then (if x10 > x107005 then (some (([] : List Int), false)) else (if x107005 > x107004 then (some (([] : List Int), false)) else (if 0 ≤ x8 then (if x8 < (x6.length : Int) then (impl_ordered.l0 k x0 x1 (x6.set (x8 : Int).toNat x107005) x16 x17 (wrap64 (x18 + 1))) else (none)) else (none)))) else (if x10 > x107004 then (some (([] : List Int), false)) else (if 0 ≤ x8 then (if x8 < (x6.length : Int) then (impl_ordered.l0 k x0 x1 (x6.set (x8 : Int).toNat x10) x16 x17 (wrap64 (x18 + 1))) else (none)) else (none))))
end
def impl_ordered.f (k : Nat) (l0 : List (S54)) (l1 : List Int) : Option (List Int × Bool) := if 0 ≤ (l0.length : Int) then (if ((l0.length : Int) : Int).toNat ≤ 35184372088832 then (impl_ordered.l0 k l0 l1 (List.replicate ((l0.length : Int) : Int).toNat 0) l1 (l1.length : Int) 0) else (none)) else (none)
theorem impl_ordered.mono_l : ∀ k, (∀ y0 y1 y2 y3 y4 y5, LeO (impl_ordered.l0 k y0 y1 y2 y3 y4 y5) (impl_ordered.l0 (k + 1) y0 y1 y2 y3 y4 y5)) ∧ (∀ y0 y1 y2 y3 y4 y5 y6 y7 y8 y9 y10 y11 y12 y13 y14 y15 y16, LeO (impl_ordered.l1 k y0 y1 y2 y3 y4 y5 y6 y7 y8 y9 y10 y11 y12 y13 y14 y15 y16) (impl_ordered.l1 (k + 1) y0 y1 y2 y3 y4 y5 y6 y7 y8 y9 y10 y11 y12 y13 y14 y15 y16))
 | 0 => ⟨fun _ _ _ _ _ _ r h => by simp [impl_ordered.l0] at h, fun _ _ _ _ _ _ _ _ _ _ _ _ _ _ _ _ _ r h => by simp [impl_ordered.l1] at h⟩
 | k + 1 => by
  obtain ⟨ih0, ih1⟩ := impl_ordered.mono_l k
  refine ⟨?_, ?_⟩
  ·intro y0 y1 y2 y3 y4 y5
   unfold impl_ordered.l0
   repeat' first
   | (with_reducible exact ih0 _ _ _ _ _ _)
   | (with_reducible exact ih1 _ _ _ _ _ _ _ _ _ _ _ _ _ _ _ _ _)
   | (with_reducible exact impl_StripGap.mono _ _ _ _ _ _ _ _ _ _ _ _ _)
   | (with_reducible exact LeO.refl _)
   | (with_reducible exact LeO.none _)
   | (with_reducible refine LeO.ite ?_ ?_)
   | (with_reducible refine LeO.bind ?_ (fun _ => ?_))
   | exact ih0 _ _ _ _ _ _
   | exact ih1 _ _ _ _ _ _ _ _ _ _ _ _ _ _ _ _ _
   | exact impl_StripGap.mono _ _ _ _ _ _ _ _ _ _ _ _ _
   | exact LeO.none _
   | refine LeO.ite ?_ ?_
   | refine LeO.bind ?_ (fun _ => ?_)
  ·intro y0 y1 y2 y3 y4 y5 y6 y7 y8 y9 y10 y11 y12 y13 y14 y15 y16
   unfold impl_ordered.l1
   repeat' first
   | (with_reducible exact ih0 _ _ _ _ _ _)
   | (with_reducible exact ih1 _ _ _ _ _ _ _ _ _ _ _ _ _ _ _ _ _)
   | (with_reducible exact impl_StripGap.mono _ _ _ _ _ _ _ _ _ _ _ _ _)
   | (with_reducible exact LeO.refl _)
   | (with_reducible exact LeO.none _)
   | (with_reducible refine LeO.ite ?_ ?_)
   | (with_reducible refine LeO.bind ?_ (fun _ => ?_))
   | exact ih0 _ _ _ _ _ _
   | exact ih1 _ _ _ _ _ _ _ _ _ _ _ _ _ _ _ _ _
   | exact impl_StripGap.mono _ _ _ _ _ _ _ _ _ _ _ _ _
   | exact LeO.none _
   | refine LeO.ite ?_ ?_
   | refine LeO.bind ?_ (fun _ => ?_)
theorem impl_ordered.mono : ∀ a0 a1 k, LeO (impl_ordered.f k a0 a1) (impl_ordered.f (k + 1) a0 a1) := by
 intro a0 a1 k
 obtain ⟨ih0, ih1⟩ := impl_ordered.mono_l k
 unfold impl_ordered.f
 repeat' first
   | (with_reducible exact ih0 _ _ _ _ _ _)
   | (with_reducible exact ih1 _ _ _ _ _ _ _ _ _ _ _ _ _ _ _ _ _)
   | (with_reducible exact impl_StripGap.mono _ _ _ _ _ _ _ _ _ _ _ _ _)
   | (with_reducible exact LeO.refl _)
   | (with_reducible exact LeO.none _)
   | (with_reducible refine LeO.ite ?_ ?_)
   | (with_reducible refine LeO.bind ?_ (fun _ => ?_))
   | exact ih0 _ _ _ _ _ _
   | exact ih1 _ _ _ _ _ _ _ _ _ _ _ _ _ _ _ _ _
   | exact impl_StripGap.mono _ _ _ _ _ _ _ _ _ _ _ _ _
   | exact LeO.none _
   | refine LeO.ite ?_ ?_
   | refine LeO.bind ?_ (fun _ => ?_)
def impl_ordered.T10 : Bool × List (List Nat × List Nat) := (true, [([], []), ([], []), ([], []), ([1, 2], [1, 2]), ([3], [3]), ([], []), ([], []), ([5, 6], [5, 6]), ([7], [7]), ([], []), ([8, 9], [8, 9]), ([4, 10], [4, 10]), ([0, 11], [0, 11]), ([12, 10, 0, 1, 2, 3, 4, 5, 6, 7, 8, 9, 10, 11, 12], [0, 12])])
def impl_ordered.B10 : List Nat := [0, 0, 0, 6, 14, 0, 0, 96, 224, 0, 992, 2046, 4095, 8191]
theorem impl_ordered.tab10 : rtab .any (opsOf Try.f62 10) = impl_ordered.T10 := by kernel_rfl
theorem impl_ordered.bits10 : waitsOk impl_ordered.T10.2 impl_ordered.B10 = true := by kernel_rfl
set_option maxHeartbeats 8000000 in
set_option maxRecDepth 100000 in
theorem impl_ordered.calls (k : Nat) (A0 : Option Addr) (c0 : Nat) (l0 : List (S54)) (A1 : Option Addr) (c1 : Nat) (l1 : List Int) (r1 : List Int) (r2 : Bool) (w : World) (hr0 : Kd.C k54 w A0 l0.length l0) (hc0 : l0.length ≤ c0) (hr1 : Kd.C (Kd.int .i64) w A1 l1.length l1) (hc1 : l1.length ≤ c1) (h : impl_ordered.f k l0 l1 = some (r1, r2)) :
  Calls Try.prog 62 #[.slice A0 l0.length c0, .slice A1 l1.length c1] w fun e w' => ∃ v0_ : Value, e = .returned (.tuple #[v0_, .bool r2]) ∧ Kd.R (Kd.int .i64) 3 w' w.heap.size (fun _ => True) v0_ r1 ∧ Below w.heap.size w w' := by
 have hu54 := Try.underlying54
 have HR0 := Aside0.mk hr0
 have HC0 := Aside0.mk hc0
 clear hr0 hc0
 have HR1 := Aside0.mk hr1
 have HC1 := Aside0.mk hc1
 clear hr1 hc1
 have HB := Aside0.mk (Below.refl w.heap.size w)
 have H : (if 0 ≤ (l0.length : Int) then (if ((l0.length : Int) : Int).toNat ≤ 35184372088832 then (impl_ordered.l0 k l0 l1 (List.replicate ((l0.length : Int) : Int).toNat 0) l1 (l1.length : Int) 0) else (none)) else (none)) = some (r1, r2) := h
 clear h
 by_cases c3 : 0 ≤ (l0.length : Int)
 ·rw [if_pos c3] at H
  have c3b0 := eq_true c3
  have c3b1 : decide (0 ≤ (l0.length : Int)) = true := decide_eq_true c3
  clear c3
  by_cases c4 : ((l0.length : Int) : Int).toNat ≤ 35184372088832
  ·rw [if_pos c4] at H
   have c4b0 := eq_true c4
   have c4b1 : decide (((l0.length : Int) : Int).toNat ≤ 35184372088832) = true := decide_eq_true c4
   clear c4
   obtain ⟨y101, hy101⟩ : ∃ y_ : List Int, y_ = (List.replicate ((l0.length : Int) : Int).toNat 0) := ⟨_, rfl⟩
   replace H : (impl_ordered.l0 k l0 l1 y101 l1 (l1.length : Int) 0) = some (r1, r2) := by first | (rw [hy101]; with_reducible exact H) | (have H2_ := (Option.bind_some _ _).symm.trans H; rw [hy101]; with_reducible exact H2_) | (have H2_ := (Option.bind_some _ _).symm.trans H; with_reducible exact H2_) | with_reducible exact H | (rw [hy101]; exact H) | exact H
   have Ny101 := Aside0.mk hy101
   clear hy101
   have H' := Aside0.mk H
   clear H
   go_enter Try.func62, Try.ntmps62
   go_wp2_with (first | ((with_reducible refine gate_dst (N := 15) rfl ?_); refine Kd.R_make (Kd.int .i64) _ 3 rfl (N := 15) rfl 22 _ _ rfl (l0.length : Int) rfl rfl Try.underlying22 (.int .i64 0) 8 info3 rfl (by decide) (by omega) 0 (ok := fun _ => True) (okp := fun _ => True) rfl (fun _ hk => hk) trivial (of_decide_eq_true (by first | (with_reducible assumption) | assumption)) (Nat.le_trans (Nat.mul_le_mul_right _ (of_decide_eq_true (by first | (with_reducible assumption) | assumption) : (l0.length : Int).toNat ≤ 35184372088832)) (by omega)) (Below.refl _ _) (Nat.le_refl _) ?_; intro v102 w5 ho6 hb hg_ hnew_; clear hg_ hnew_; (first | rw [← Ny101.out] at ho6 | (simp only [Int.reduceToNat] at ho6; rw [← Ny101.out] at ho6)); have n0_ := Aside0.mk (Kd.R_lower ho6 (below_size (eb HB.out))); have n1_ := Aside0.mk (below_step (eb HB.out) hb); clear HB; have HO103 := n0_; have HB := n1_; clear n0_ n1_; clear hb ho6))
   go_loopg [18] k (fun kq v18 w' => ∃ (x6_1 : List Int) (x18_1 : Int), v18 = .int .i64 x18_1 ∧ Aside0 (impl_ordered.l0 kq l0 l1 x6_1 l1 (l1.length : Int) x18_1 = some (r1, r2)) ∧ Aside0 (kq ≤ k) ∧ Aside0 (Kd.R (Kd.int .i64) 3 w' w.heap.size (fun _ => True) v102 x6_1) ∧ Aside0 (Below w.heap.size w w'))
   case atStart => exact ⟨(y101), (0), (by first | rfl | (simp; done) | (simp [*]; done)), H', ⟨Nat.le_refl _⟩, ⟨er HO103.out⟩, ⟨eb HB.out⟩⟩
   case round =>
    clear H'
    try clear c1
    try clear p2
    try clear c3
    try clear c3b0
    try clear c4
    try clear c4b0
    try clear c4b1
    try clear c6
    obtain ⟨x6_1, x18_1, rfl, HA, HK1, HO_6, HB⟩ := hrel
    cases gk with
    | zero => exact absurd HA.out (by simp [impl_ordered.l0])
    | succ k1 =>
     have H := HA.out
     clear HA
     simp only [impl_ordered.l0] at H
     by_cases c7 : x18_1 < (l1.length : Int)
     ·rw [if_pos c7] at H
      have c7b0 : decide (x18_1 < (l1.length : Int)) = true := decide_eq_true c7
      clear c7
      by_cases c8 : 0 ≤ x18_1
      ·rw [if_pos c8] at H
       have c8b0 : decide (0 ≤ x18_1) = true := decide_eq_true c8
       clear c8
       by_cases c9 : x18_1 < (l1.length : Int)
       ·rw [if_pos c9] at H
        have c9b0 : decide (x18_1 < (l1.length : Int)) = true := decide_eq_true c9
        clear c9
        by_cases c10 : 0 ≤ (rd l1 x18_1)
        ·rw [if_pos c10] at H
         have c10b0 : decide (0 ≤ (rd l1 x18_1)) = true := decide_eq_true c10
         clear c10
         by_cases c11 : (rd l1 x18_1) < (l0.length : Int)
         ·rw [if_pos c11] at H
          have c11b0 : decide ((rd l1 x18_1) < (l0.length : Int)) = true := decide_eq_true c11
          clear c11
          have c12b0 := eq_true (of_decide_eq_true (by first | (with_reducible assumption) | assumption) : 0 ≤ x18_1)
          by_cases c13 : x18_1 ≤ (l1.length : Int)
          ·rw [if_pos c13] at H
           have c13b0 := eq_true c13
           have c13b1 : decide (x18_1 ≤ (l1.length : Int)) = true := decide_eq_true c13
           clear c13
           have H' := Aside0.mk H
           clear H
           have p104 : 0 ≤ (x18_1 : Int) := of_decide_eq_true (by first | (with_reducible assumption) | assumption)
           have q104 : x18_1 < (l1.length : Int) := of_decide_eq_true (by first | (with_reducible assumption) | assumption)
           obtain ⟨ad104, e104, hx104_0⟩ := Kd.at_int HR1.out x18_1 p104 q104
           cases e104
           replace hx104_0 := pw_cell_below HB.out hx104_0
           replace p104 := eq_true p104
           replace q104 := eq_true q104
           have p105 : 0 ≤ ((rd l1 x18_1) : Int) := of_decide_eq_true (by first | (with_reducible assumption) | assumption)
           have q105 : (rd l1 x18_1) < (l0.length : Int) := of_decide_eq_true (by first | (with_reducible assumption) | assumption)
           obtain ⟨ad105, e105, hx105_0, hx105_1, hx105_2, hx105_3, hx105_4, hx105_5⟩ := at_T54 HR0.out (rd l1 x18_1) p105 q105
           cases e105
           replace hx105_0 := pw_cell_below HB.out hx105_0
           replace hx105_1 := pw_cell_below HB.out hx105_1
           replace hx105_2 := pw_cell_below HB.out hx105_2
           replace hx105_3 := pw_cell_below HB.out hx105_3
           replace hx105_4 := pw_cell_below HB.out hx105_4
           replace hx105_5 := pw_cell_below HB.out hx105_5
           replace p105 := eq_true p105
           replace q105 := eq_true q105
           go_wp2_with (first | ((with_reducible refine gate_dst (N := 9) rfl ?_); refine box_event ?hg (N := 9) ?hd (cs := #[.string (⟨#[]⟩ : ByteArray), .bool false, .int .i64 0, .int .i64 0, .int .i64 0, .int .i64 0]) (t := 54) ?hr ?_; (case hd => rfl); (case hg => rfl); (case hr => first | (go_simp; done) | (go_simp; rfl)); intro gb106 hg w14 hbox hb; have n0_ := Aside0.mk (Kd.R_below (er HO_6.out) hb); have n1_ := Aside0.mk (below_step (eb HB.out) hb); have n2_ := Aside0.mk (hbox); have n3_ := Aside0.mk ((by rw [hg]; exact (below_size (eb HB.out)) : w.heap.size ≤ gb106)); have n4_ := Aside0.mk ((by rw [hg]; exact (below_size (eb HB.out)) : w.heap.size ≤ gb106)); clear HO_6; clear HB; have HO_6 := n0_; have HB := n1_; have BK106 := n2_; have GW106 := n3_; have GE106 := n4_; clear n0_ n1_ n2_ n3_ n4_; clear hb hbox hg; obtain ⟨hcz15_0, hcz15_1, hcz15_2, hcz15_3, hcz15_4, hcz15_5⟩ := bc6 BK106.out; obtain ⟨hfz15_0, hfz15_1, hfz15_2, hfz15_3, hfz15_4, hfz15_5⟩ := bf6 BK106.out; obtain ⟨i016, hi016, _, hsz16, _⟩ := info_parts info3; obtain ⟨hcut16, hA16, hC16⟩ := print_take_of (P := Try.prog) (Value.int .i64) 0 22 3 .i64 Try.underlying22 hi016 hsz16 (some ad104) c1 l1 x18_1 (of_decide_eq_true (by first | (with_reducible assumption) | assumption)) (of_decide_eq_true (by first | (with_reducible assumption) | assumption)) HC1.out; have HR107 := Aside0.mk (Kd.C_of_reads (h1 := fun _ => rfl) (hA16 _ (Kd.reads_of_C HR1.out))); have HC107 := Aside0.mk hC16; clear hA16 hC16 hi016 hsz16))
           go_loopg [10, 33] k1 (fun kq v10 v33 w' => ∃ (x10_2 : Int) (x33_2 : Int), v10 = .int .i64 x10_2 ∧ v33 = .int .i64 x33_2 ∧ Aside0 (impl_ordered.l1 kq l0 l1 x6_1 (rd l1 x18_1) x10_2 l1 (l1.length : Int) x18_1 (l1.take (x18_1 : Int).toNat) ((l1.take (x18_1 : Int).toNat).length : Int) x33_2 ((rd_T54 l0 (rd l1 x18_1)).f0) ((rd_T54 l0 (rd l1 x18_1)).f1) ((rd_T54 l0 (rd l1 x18_1)).f2) ((rd_T54 l0 (rd l1 x18_1)).f3) ((rd_T54 l0 (rd l1 x18_1)).f4) ((rd_T54 l0 (rd l1 x18_1)).f5) = some (r1, r2)) ∧ Aside0 (kq ≤ k1) ∧ Aside0 (Kd.R (Kd.int .i64) 3 w' w.heap.size (fun _ => True) v102 x6_1) ∧ Aside0 (w'.heap[gb106]? = some (.cells #[.string ((rd_T54 l0 (rd l1 x18_1)).f0), .bool ((rd_T54 l0 (rd l1 x18_1)).f1), .int .i64 ((rd_T54 l0 (rd l1 x18_1)).f2), .int .i64 ((rd_T54 l0 (rd l1 x18_1)).f3), .int .i64 ((rd_T54 l0 (rd l1 x18_1)).f4), .int .i64 ((rd_T54 l0 (rd l1 x18_1)).f5)] 54 (0, 0))) ∧ Aside0 (Below w.heap.size w w'))
           case atStart => exact ⟨((rd_T54 l0 (rd l1 x18_1)).f3), (0), (by first | rfl | (simp; done) | (simp [*]; done)), (by first | rfl | (simp; done) | (simp [*]; done)), H', ⟨Nat.le_refl _⟩, ⟨by (with_reducible repeat (first | apply Kd.R_alloc | apply Kd.R_drewN | apply Kd.R_drew)); exact Kd.R_mono (Kd.R_far (p := ⟨gb106, 5, none⟩) (Kd.R_far (p := ⟨gb106, 4, none⟩) (Kd.R_far (p := ⟨gb106, 3, none⟩) (Kd.R_far (p := ⟨gb106, 2, none⟩) (Kd.R_far (p := ⟨gb106, 1, none⟩) (Kd.R_far (p := ⟨gb106, 0, none⟩) (Kd.R_types HO_6.out BK106.out (by decide)) (fun _ hk => hk.2) (.string ((rd_T54 l0 (rd l1 x18_1)).f0))) (fun _ hk => hk.2) (.bool ((rd_T54 l0 (rd l1 x18_1)).f1))) (fun _ hk => hk.2) (.int .i64 ((rd_T54 l0 (rd l1 x18_1)).f2))) (fun _ hk => hk.2) (.int .i64 ((rd_T54 l0 (rd l1 x18_1)).f3))) (fun _ hk => hk.2) (.int .i64 ((rd_T54 l0 (rd l1 x18_1)).f4))) (fun _ hk => hk.2) (.int .i64 ((rd_T54 l0 (rd l1 x18_1)).f5))) (fun _ hk => trivial)⟩, ⟨by refine px ?_; refine blk_put (cs := #[.string ((rd_T54 l0 (rd l1 x18_1)).f0), .bool ((rd_T54 l0 (rd l1 x18_1)).f1), .int .i64 ((rd_T54 l0 (rd l1 x18_1)).f2), .int .i64 ((rd_T54 l0 (rd l1 x18_1)).f3), .int .i64 ((rd_T54 l0 (rd l1 x18_1)).f4), .int .i64 0]) ?_ 5 _ rfl; refine px ?_; refine blk_put (cs := #[.string ((rd_T54 l0 (rd l1 x18_1)).f0), .bool ((rd_T54 l0 (rd l1 x18_1)).f1), .int .i64 ((rd_T54 l0 (rd l1 x18_1)).f2), .int .i64 ((rd_T54 l0 (rd l1 x18_1)).f3), .int .i64 0, .int .i64 0]) ?_ 4 _ rfl; refine px ?_; refine blk_put (cs := #[.string ((rd_T54 l0 (rd l1 x18_1)).f0), .bool ((rd_T54 l0 (rd l1 x18_1)).f1), .int .i64 ((rd_T54 l0 (rd l1 x18_1)).f2), .int .i64 0, .int .i64 0, .int .i64 0]) ?_ 3 _ rfl; refine px ?_; refine blk_put (cs := #[.string ((rd_T54 l0 (rd l1 x18_1)).f0), .bool ((rd_T54 l0 (rd l1 x18_1)).f1), .int .i64 0, .int .i64 0, .int .i64 0, .int .i64 0]) ?_ 2 _ rfl; refine px ?_; refine blk_put (cs := #[.string ((rd_T54 l0 (rd l1 x18_1)).f0), .bool false, .int .i64 0, .int .i64 0, .int .i64 0, .int .i64 0]) ?_ 1 _ rfl; refine px ?_; refine blk_put (cs := #[.string (⟨#[]⟩ : ByteArray), .bool false, .int .i64 0, .int .i64 0, .int .i64 0, .int .i64 0]) ?_ 0 _ rfl; refine px ?_; exact BK106.out⟩, ⟨by repeat (first | (with_reducible first | exact HB.out | apply below_alloc | apply pw_below_drewN | apply below_drew1 | refine below_set ?_ GE106.out) | exact HB.out)⟩⟩
           case round =>
            clear H'
            try clear c1
            try clear p1
            try clear q1
            try clear hx1
            try clear p2
            try clear c3
            try clear c3b0
            try clear c4
            try clear c4b0
            try clear c4b1
            try clear c6
            try clear c7
            try clear c7b0
            try clear c8
            try clear c8b0
            try clear c9
            try clear c9b0
            try clear c10
            try clear c10b0
            try clear p10
            try clear q10
            try clear hx10
            try clear c11
            try clear c11b0
            try clear c12
            try clear c12b0
            try clear c13
            try clear c13b0
            try clear hcz15_0
            try clear hcz15_1
            try clear hcz15_2
            try clear hcz15_3
            try clear hcz15_4
            try clear hcz15_5
            try clear hfz15_0
            try clear hfz15_1
            try clear hfz15_2
            try clear hfz15_3
            try clear hfz15_4
            try clear hfz15_5
            try clear hx104_0
            try clear hx105_0
            try clear hx105_1
            try clear hx105_2
            try clear hx105_3
            try clear hx105_4
            try clear hx105_5
            try clear p104
            try clear p105
            try clear p2
            try clear q104
            try clear q105
            obtain ⟨x10_2, x33_2, rfl, rfl, HA, HK2, HO_6, BK106, HB⟩ := hrel
            cases gk with
            | zero => exact absurd HA.out (by simp [impl_ordered.l1])
            | succ k2 =>
             have H := HA.out
             clear HA
             simp only [impl_ordered.l1] at H
             by_cases c17 : x33_2 < ((l1.take (x18_1 : Int).toNat).length : Int)
             ·rw [if_pos c17] at H
              have c17b0 : decide (x33_2 < ((l1.take (x18_1 : Int).toNat).length : Int)) = true := decide_eq_true c17
              have c17b9 : decide (x33_2 < max x18_1 0) = true := decide_eq_true (by have q_ := of_decide_eq_true (show decide (x18_1 ≤ (l1.length : Int)) = true by assumption); rw [List.length_take] at c17; omega)
              have c17p9 : (x33_2 < max x18_1 0) = True := eq_true (of_decide_eq_true c17b9)
              clear c17
              by_cases c18 : 0 ≤ x33_2
              ·rw [if_pos c18] at H
               have c18b0 : decide (0 ≤ x33_2) = true := decide_eq_true c18
               clear c18
               by_cases c19 : x33_2 < ((l1.take (x18_1 : Int).toNat).length : Int)
               ·rw [if_pos c19] at H
                have c19b0 : decide (x33_2 < ((l1.take (x18_1 : Int).toNat).length : Int)) = true := decide_eq_true c19
                have c19b9 : decide (x33_2 < max x18_1 0) = true := decide_eq_true (by have q_ := of_decide_eq_true (show decide (x18_1 ≤ (l1.length : Int)) = true by assumption); rw [List.length_take] at c19; omega)
                have c19p9 : (x33_2 < max x18_1 0) = True := eq_true (of_decide_eq_true c19b9)
                clear c19
                by_cases c20 : 0 ≤ (rd (l1.take (x18_1 : Int).toNat) x33_2)
                ·rw [if_pos c20] at H
                 have c20b0 : decide (0 ≤ (rd (l1.take (x18_1 : Int).toNat) x33_2)) = true := decide_eq_true c20
                 clear c20
                 by_cases c21 : (rd (l1.take (x18_1 : Int).toNat) x33_2) < (x6_1.length : Int)
                 ·rw [if_pos c21] at H
                  have c21b0 : decide ((rd (l1.take (x18_1 : Int).toNat) x33_2) < (x6_1.length : Int)) = true := decide_eq_true c21
                  clear c21
                  by_cases c22 : (rd (l1.take (x18_1 : Int).toNat) x33_2) < (l0.length : Int)
                  ·rw [if_pos c22] at H
                   have c22b0 : decide ((rd (l1.take (x18_1 : Int).toNat) x33_2) < (l0.length : Int)) = true := decide_eq_true c22
                   clear c22
                   replace H := Option.bind_eq_some_iff.mp H
                   obtain ⟨t111, A230, H⟩ := H
                   replace H : (impl_ordered.l1 k2 l0 l1 x6_1 (rd l1 x18_1) (mx x10_2 (wrap64 ((rd x6_1 (rd (l1.take (x18_1 : Int).toNat) x33_2)) + t111))) l1 (l1.length : Int) x18_1 (l1.take (x18_1 : Int).toNat) ((l1.take (x18_1 : Int).toNat).length : Int) (wrap64 (x33_2 + 1)) ((rd_T54 l0 (rd l1 x18_1)).f0) ((rd_T54 l0 (rd l1 x18_1)).f1) ((rd_T54 l0 (rd l1 x18_1)).f2) ((rd_T54 l0 (rd l1 x18_1)).f3) ((rd_T54 l0 (rd l1 x18_1)).f4) ((rd_T54 l0 (rd l1 x18_1)).f5)) = some (r1, r2) := H
                   have A23 := Aside0.mk A230
                   clear A230
                   obtain ⟨ji24, hji24⟩ : ∃ j_ : Int, (mx x10_2 (wrap64 ((rd x6_1 (rd (l1.take (x18_1 : Int).toNat) x33_2)) + t111))) = j_ := ⟨_, rfl⟩
                   replace H : (impl_ordered.l1 k2 l0 l1 x6_1 (rd l1 x18_1) ji24 l1 (l1.length : Int) x18_1 (l1.take (x18_1 : Int).toNat) ((l1.take (x18_1 : Int).toNat).length : Int) (wrap64 (x33_2 + 1)) ((rd_T54 l0 (rd l1 x18_1)).f0) ((rd_T54 l0 (rd l1 x18_1)).f1) ((rd_T54 l0 (rd l1 x18_1)).f2) ((rd_T54 l0 (rd l1 x18_1)).f3) ((rd_T54 l0 (rd l1 x18_1)).f4) ((rd_T54 l0 (rd l1 x18_1)).f5)) = some (r1, r2) := by first | (rw [hji24] at H; exact H) | (simp only [hji24] at H ⊢; exact H)
                   (try rw [hji24] at A23)
                   have hji24_ : (if x10_2 < (wrap64 ((rd x6_1 (rd (l1.take (x18_1 : Int).toNat) x33_2)) + t111)) then (wrap64 ((rd x6_1 (rd (l1.take (x18_1 : Int).toNat) x33_2)) + t111)) else x10_2) = ji24 := hji24
                   have H' := Aside0.mk H
                   clear H
                   have p108 : 0 ≤ (x33_2 : Int) := of_decide_eq_true (by first | (with_reducible assumption) | assumption)
                   have q108 : x33_2 < ((l1.take (x18_1 : Int).toNat).length : Int) := of_decide_eq_true (by first | (with_reducible assumption) | assumption)
                   obtain ⟨ad108, e108, hx108_0⟩ := Kd.at_int HR107.out x33_2 p108 q108
                   obtain rfl : ad104 = ad108 := (by injection e108)
                   replace hx108_0 := pw_cell_below HB.out hx108_0
                   replace p108 := eq_true p108
                   replace q108 := eq_true q108
                   try go_wp2
                   have n0_ := Aside0.mk (Kd.R_drew HO_6.out)
                   have n1_ := Aside0.mk (blk_drew BK106.out)
                   have n2_ := Aside0.mk (below_drew1 HB.out)
                   clear HO_6
                   clear BK106
                   clear HB
                   have HO_6 := n0_
                   have BK106 := n1_
                   have HB := n2_
                   clear n0_ n1_ n2_
                   obtain ⟨Ao26, co26, eo26⟩ := Kd.R_slice HO_6.out
                   (first | subst eo26 | (injection eo26 with f1_ f2_ f3_; have f4_ := f1_.symm; have f5_ := f3_.symm; clear f1_ f2_ f3_; subst f4_; subst f5_))
                   have p109 : 0 ≤ ((rd (l1.take (x18_1 : Int).toNat) x33_2) : Int) := of_decide_eq_true (by first | (with_reducible assumption) | assumption)
                   have q109 : (rd (l1.take (x18_1 : Int).toNat) x33_2) < (x6_1.length : Int) := of_decide_eq_true (by first | (with_reducible assumption) | assumption)
                   obtain ⟨ad109, e109, hx109_0⟩ := Kd.at_int (Kd.R_reads' HO_6.out).2.2 (rd (l1.take (x18_1 : Int).toNat) x33_2) p109 q109
                   cases e109
                   replace p109 := eq_true p109
                   replace q109 := eq_true q109
                   have p110 : 0 ≤ ((rd (l1.take (x18_1 : Int).toNat) x33_2) : Int) := of_decide_eq_true (by first | (with_reducible assumption) | assumption)
                   have q110 : (rd (l1.take (x18_1 : Int).toNat) x33_2) < (l0.length : Int) := of_decide_eq_true (by first | (with_reducible assumption) | assumption)
                   obtain ⟨ad110, e110, hx110_0, hx110_1, hx110_2, hx110_3, hx110_4, hx110_5⟩ := at_T54 HR0.out (rd (l1.take (x18_1 : Int).toNat) x33_2) p110 q110
                   have hw110_5 := hx110_5
                   have hw110_4 := hx110_4
                   have hw110_3 := hx110_3
                   have hw110_2 := hx110_2
                   have hw110_1 := hx110_1
                   have hw110_0 := hx110_0
                   obtain rfl : ad105 = ad110 := (by injection e110)
                   replace hx110_0 := pw_cell_below HB.out hx110_0
                   replace hx110_1 := pw_cell_below HB.out hx110_1
                   replace hx110_2 := pw_cell_below HB.out hx110_2
                   replace hx110_3 := pw_cell_below HB.out hx110_3
                   replace hx110_4 := pw_cell_below HB.out hx110_4
                   replace hx110_5 := pw_cell_below HB.out hx110_5
                   replace p110 := eq_true p110
                   replace q110 := eq_true q110
                   refine start_ (n := 14) (S := fun w' => w'.cell? ⟨gb106, 0, none⟩ = some (.string ((rd_T54 l0 (rd l1 x18_1)).f0)) ∧ w'.cell? ⟨gb106, 1, none⟩ = some (.bool ((rd_T54 l0 (rd l1 x18_1)).f1)) ∧ w'.cell? ⟨gb106, 2, none⟩ = some (.int .i64 ((rd_T54 l0 (rd l1 x18_1)).f2)) ∧ w'.cell? ⟨gb106, 3, none⟩ = some (.int .i64 ((rd_T54 l0 (rd l1 x18_1)).f3)) ∧ w'.cell? ⟨gb106, 4, none⟩ = some (.int .i64 ((rd_T54 l0 (rd l1 x18_1)).f4)) ∧ w'.cell? ⟨gb106, 5, none⟩ = some (.int .i64 ((rd_T54 l0 (rd l1 x18_1)).f5)) ∧ w'.cell? (ad109.add ((rd (l1.take (x18_1 : Int).toNat) x33_2)).toNat) = some (.int .i64 (rd x6_1 (rd (l1.take (x18_1 : Int).toNat) x33_2))) ∧ w'.cell? (ad105.add (((rd (l1.take (x18_1 : Int).toNat) x33_2)).toNat * 6)) = some (.string ((rd_T54 l0 (rd (l1.take (x18_1 : Int).toNat) x33_2)).f0)) ∧ w'.cell? ⟨(ad105.add (((rd (l1.take (x18_1 : Int).toNat) x33_2)).toNat * 6)).block, (ad105.add (((rd (l1.take (x18_1 : Int).toNat) x33_2)).toNat * 6)).off + 1, none⟩ = some (.bool ((rd_T54 l0 (rd (l1.take (x18_1 : Int).toNat) x33_2)).f1)) ∧ w'.cell? ⟨(ad105.add (((rd (l1.take (x18_1 : Int).toNat) x33_2)).toNat * 6)).block, (ad105.add (((rd (l1.take (x18_1 : Int).toNat) x33_2)).toNat * 6)).off + 2, none⟩ = some (.int .i64 ((rd_T54 l0 (rd (l1.take (x18_1 : Int).toNat) x33_2)).f2)) ∧ w'.cell? ⟨(ad105.add (((rd (l1.take (x18_1 : Int).toNat) x33_2)).toNat * 6)).block, (ad105.add (((rd (l1.take (x18_1 : Int).toNat) x33_2)).toNat * 6)).off + 3, none⟩ = some (.int .i64 ((rd_T54 l0 (rd (l1.take (x18_1 : Int).toNat) x33_2)).f3)) ∧ w'.cell? ⟨(ad105.add (((rd (l1.take (x18_1 : Int).toNat) x33_2)).toNat * 6)).block, (ad105.add (((rd (l1.take (x18_1 : Int).toNat) x33_2)).toNat * 6)).off + 4, none⟩ = some (.int .i64 ((rd_T54 l0 (rd (l1.take (x18_1 : Int).toNat) x33_2)).f4)) ∧ w'.cell? ⟨(ad105.add (((rd (l1.take (x18_1 : Int).toNat) x33_2)).toNat * 6)).block, (ad105.add (((rd (l1.take (x18_1 : Int).toNat) x33_2)).toNat * 6)).off + 5, none⟩ = some (.int .i64 ((rd_T54 l0 (rd (l1.take (x18_1 : Int).toNat) x33_2)).f5))) (ds := []) #[F, F, F, F, F, F, F, F, F, F, F, F, F, F] (by kernel_rfl) rfl rfl ⟨(blk_cell BK106.out 0).trans rfl, (blk_cell BK106.out 1).trans rfl, (blk_cell BK106.out 2).trans rfl, (blk_cell BK106.out 3).trans rfl, (blk_cell BK106.out 4).trans rfl, (blk_cell BK106.out 5).trans rfl, hx109_0, (pw_cell_below HB.out hw110_0), (pw_cell_below HB.out hw110_1), (pw_cell_below HB.out hw110_2), (pw_cell_below HB.out hw110_3), (pw_cell_below HB.out hw110_4), (pw_cell_below HB.out hw110_5)⟩ (fun hHeld => ?_); refine with_tabW impl_ordered.tab10 impl_ordered.bits10 (fun HT_ HW_ => ?_)
                   generalize wr.drew = w25 at HO_6 BK106 HB hx109_0 hx110_0 hx110_1 hx110_2 hx110_3 hx110_4 hx110_5 hHeld ⊢
                   refine pu (i := 0) (N := some 37) (v := ?_) (a' := ?_) HT_.out rfl rfl (by kernel_rfl) (fun _ _ _ h => h) (Or.inl ⟨by rfl, ?_⟩) ?_ ?_
                   rotate_left; (intro w'; go_simp; with_reducible rfl); rotate_left; (simp only [P0, P0n, P2, P3, P4, P5, P6]; rfl)
                   refine pu (i := 1) (N := some 38) (v := ?_) (a' := ?_) HT_.out rfl rfl (by kernel_rfl) (fun _ _ _ h => h) (Or.inl ⟨by rfl, ?_⟩) ?_ ?_
                   rotate_left; (intro w'; go_simp; with_reducible rfl); rotate_left; (simp only [P0, P0n, P2, P3, P4, P5, P6]; rfl)
                   refine pu (i := 2) (N := some 39) (v := ?_) (a' := ?_) HT_.out rfl rfl (by kernel_rfl) (fun _ _ _ h => h) (Or.inl ⟨by rfl, ?_⟩) ?_ ?_
                   rotate_left; (intro w'; go_simp; with_reducible rfl); rotate_left; (simp only [P0, P0n, P2, P3, P4, P5, P6]; rfl)
                   refine pu (i := 3) (N := some 40) (v := ?_) (a' := ?_) HT_.out rfl rfl (by kernel_rfl) (fun _ _ _ h => h) (Or.inl ⟨by rfl, ?_⟩) ?_ ?_
                   rotate_left; (intro w'; go_simp; with_reducible rfl); rotate_left; (simp only [P0, P0n, P2, P3, P4, P5, P6]; rfl)
                   refine pu (i := 5) (N := some 42) (v := ?_) (a' := ?_) HT_.out rfl rfl (by kernel_rfl) (fun _ _ _ h => h) (Or.inl ⟨by rfl, ?_⟩) ?_ ?_
                   rotate_left; (intro w'; go_simp; with_reducible rfl); rotate_left; (simp only [P0, P0n, P2, P3, P4, P5, P6]; rfl)
                   refine pu (i := 6) (N := some 43) (v := ?_) (a' := ?_) HT_.out rfl rfl (by kernel_rfl) (fun _ _ _ h => h) (Or.inl ⟨by rfl, ?_⟩) ?_ ?_
                   rotate_left; (intro w'; go_simp; with_reducible rfl); rotate_left; (simp only [P0, P0n, P2, P3, P4, P5, P6]; rfl)
                   refine pu (i := 7) (N := some 44) (v := ?_) (a' := ?_) HT_.out rfl rfl (by kernel_rfl) (fun _ _ _ h => h) (Or.inl ⟨by rfl, ?_⟩) ?_ ?_
                   rotate_left; (intro w'; go_simp; with_reducible rfl); rotate_left; (simp only [P0, P0n, P2, P3, P4, P5, P6]; rfl)
                   refine tw (i := 4) (N := some 41) (v := ?_) (a' := ?_) HT_.out HW_.out rfl rfl (by kernel_rfl) (fun _ _ _ h => h) (Or.inl ⟨by rfl, ?_⟩) hHeld ?_ ?_
                   rotate_left
                   ·rintro w' ⟨s0, s1, s2, s3, s4, s5, s6, s7, s8, s9, s10, s11, s12⟩
                    go_simp
                    with_reducible rfl
                   rotate_left
                   ·simp only [P0, P0n, P2, P3, P4, P5, P6]
                    rfl
                   refine tw (i := 8) (N := some 45) (v := ?_) (a' := ?_) HT_.out HW_.out rfl rfl (by kernel_rfl) (fun _ _ _ h => h) (Or.inl ⟨by rfl, ?_⟩) hHeld ?_ ?_
                   rotate_left
                   ·rintro w' ⟨s0, s1, s2, s3, s4, s5, s6, s7, s8, s9, s10, s11, s12⟩
                    go_simp
                    with_reducible rfl
                   rotate_left
                   ·simp only [P0, P0n, P2, P3, P4, P5, P6]
                    rfl
                   refine tw (i := 9) (N := some 46) (v := ?_) (a' := ?_) HT_.out HW_.out rfl rfl (by kernel_rfl) (fun _ _ _ h => h) (Or.inl ⟨by rfl, ?_⟩) hHeld ?_ ?_
                   rotate_left
                   ·rintro w' ⟨s0, s1, s2, s3, s4, s5, s6, s7, s8, s9, s10, s11, s12⟩
                    go_simp
                    with_reducible rfl
                   rotate_left
                   ·simp only [P0, P0n, P2, P3, P4, P5, P6]
                    rfl
                   refine one_ (i := 10) (N := some 47) #[T, T, T, T, T, T, T, T, T, T, T, F, F, F] rfl rfl (one_of HT_.out (by kernel_rfl)) (by decide) (fun K hK => ?_)
                   refine goes_ Try.func37 (by kernel_rfl) rfl #[.agg #[.string ((rd_T54 l0 (rd (l1.take (x18_1 : Int).toNat) x33_2)).f0), .bool ((rd_T54 l0 (rd (l1.take (x18_1 : Int).toNat) x33_2)).f1), .int .i64 ((rd_T54 l0 (rd (l1.take (x18_1 : Int).toNat) x33_2)).f2), .int .i64 ((rd_T54 l0 (rd (l1.take (x18_1 : Int).toNat) x33_2)).f3), .int .i64 ((rd_T54 l0 (rd (l1.take (x18_1 : Int).toNat) x33_2)).f4), .int .i64 ((rd_T54 l0 (rd (l1.take (x18_1 : Int).toNat) x33_2)).f5)], .agg #[.string ((rd_T54 l0 (rd l1 x18_1)).f0), .bool ((rd_T54 l0 (rd l1 x18_1)).f1), .int .i64 ((rd_T54 l0 (rd l1 x18_1)).f2), .int .i64 ((rd_T54 l0 (rd l1 x18_1)).f3), .int .i64 ((rd_T54 l0 (rd l1 x18_1)).f4), .int .i64 ((rd_T54 l0 (rd l1 x18_1)).f5)]] (by rfl) rfl rfl (by (try simp only [List.map_toArray, List.map_cons, List.map_nil]); first | done | rfl | (simp only [List.length_drop, List.length_take]; rfl)) ?_
                   with_reducible refine (impl_StripGap.calls k2 ((rd_T54 l0 (rd (l1.take (x18_1 : Int).toNat) x33_2)).f0) ((rd_T54 l0 (rd (l1.take (x18_1 : Int).toNat) x33_2)).f1) ((rd_T54 l0 (rd (l1.take (x18_1 : Int).toNat) x33_2)).f2) ((rd_T54 l0 (rd (l1.take (x18_1 : Int).toNat) x33_2)).f3) ((rd_T54 l0 (rd (l1.take (x18_1 : Int).toNat) x33_2)).f4) ((rd_T54 l0 (rd (l1.take (x18_1 : Int).toNat) x33_2)).f5) ((rd_T54 l0 (rd l1 x18_1)).f0) ((rd_T54 l0 (rd l1 x18_1)).f1) ((rd_T54 l0 (rd l1 x18_1)).f2) ((rd_T54 l0 (rd l1 x18_1)).f3) ((rd_T54 l0 (rd l1 x18_1)).f4) ((rd_T54 l0 (rd l1 x18_1)).f5) t111 _ A23.out).mono ?_
                   rintro e w27 ⟨rfl, hb⟩
                   have HS6_ := (hb.cell (World.block_lt_of_cell? _ _ (hHeld.2.2.2.2.2.2.1))).trans (hHeld.2.2.2.2.2.2.1)
                   refine ⟨_, rfl, ?_⟩
                   have n0_ := Aside0.mk (Kd.R_below (er HO_6.out) hb)
                   have n1_ := Aside0.mk (blk_below (g := gb106) (o := .cells #[.string ((rd_T54 l0 (rd l1 x18_1)).f0), .bool ((rd_T54 l0 (rd l1 x18_1)).f1), .int .i64 ((rd_T54 l0 (rd l1 x18_1)).f2), .int .i64 ((rd_T54 l0 (rd l1 x18_1)).f3), .int .i64 ((rd_T54 l0 (rd l1 x18_1)).f4), .int .i64 ((rd_T54 l0 (rd l1 x18_1)).f5)] 54 (0, 0)) (ex BK106.out) hb)
                   have n2_ := Aside0.mk (below_step (by repeat (first | (with_reducible first | exact HB.out | apply below_alloc | apply pw_below_drewN | apply below_drew1 | refine below_set ?_ GE106.out) | exact HB.out)) hb)
                   clear HO_6
                   clear BK106
                   clear HB
                   have HO_6 := n0_
                   have BK106 := n1_
                   have HB := n2_
                   clear n0_ n1_ n2_
                   (try clear hb)
                   (try clear hb2)
                   (try clear hk)
                   (try clear hi)
                   refine hK.out _ _ ⟨(blk_cell BK106.out 0).trans rfl, (blk_cell BK106.out 1).trans rfl, (blk_cell BK106.out 2).trans rfl, (blk_cell BK106.out 3).trans rfl, (blk_cell BK106.out 4).trans rfl, (blk_cell BK106.out 5).trans rfl, HS6_, (pw_cell_below HB.out hw110_0), (pw_cell_below HB.out hw110_1), (pw_cell_below HB.out hw110_2), (pw_cell_below HB.out hw110_3), (pw_cell_below HB.out hw110_4), (pw_cell_below HB.out hw110_5)⟩ (fun hHeld => ?_)
                   clear hK K
                   refine norm_ (a' := ?_) ?_ ?_
                   rotate_left
                   ·show Act.put _ (some 47) _ = _
                    simp only [P0, P0n, P2, P3, P4, P5, P6]
                    rfl
                   refine pu (i := 11) (N := some 48) (v := ?_) (a' := ?_) HT_.out rfl rfl (by kernel_rfl) (fun _ _ _ h => h) (Or.inl ⟨by rfl, ?_⟩) ?_ ?_
                   rotate_left; (intro w'; go_simp; with_reducible rfl); rotate_left; (simp only [P0, P0n, P2, P3, P4, P5, P6]; rfl)
                   refine pu (i := 12) (N := some 49) (v := ?_) (a' := ?_) HT_.out rfl rfl (by kernel_rfl) (fun _ _ _ h => h) (Or.inl ⟨by rfl, ?_⟩) ?_ ?_
                   rotate_left; (intro w'; go_simp; with_reducible rfl); rotate_left; (simp only [P0, P0n, P2, P3, P4, P5, P6]; rfl)
                   refine pu (i := 13) (N := some 10) (v := ?_) (a' := ?_) HT_.out rfl rfl (by kernel_rfl) (fun _ _ _ h => h) (Or.inl ⟨by rfl, ?_⟩) ?_ ?_
                   rotate_left; (intro w'; go_simp; with_reducible rfl); rotate_left; (simp only [P0, P0n, P2, P3, P4, P5, P6]; rfl)
                   refine done_ (done_of HT_.out (by kernel_rfl)) ?_
                   try go_wp2
                   go_roundg k2
                   case measure => have := HK1.out; have := HK2.out; omega
                   case rel => exact ⟨(ji24), (wrap64 (x33_2 + 1)), (by first | rfl | (simp; done) | (simp only [← hji24] <;> (first | rfl | simp)) | (simp [*]; done)), (by first | rfl | (simp; done) | (simp [*]; done)), H', ⟨by have := HK1.out; have := HK2.out; omega⟩, ⟨er HO_6.out⟩, ⟨ex BK106.out⟩, ⟨by repeat (first | (with_reducible first | exact HB.out | apply below_alloc | apply pw_below_drewN | apply below_drew1 | refine below_set ?_ GE106.out) | exact HB.out)⟩⟩
                  ·rw [if_neg c22] at H
                   exact absurd H (by simp)
                 ·rw [if_neg c21] at H
                  exact absurd H (by simp)
                ·rw [if_neg c20] at H
                 exact absurd H (by simp)
               ·rw [if_neg c19] at H
                exact absurd H (by simp)
              ·rw [if_neg c18] at H
               exact absurd H (by simp)
             ·rw [if_neg c17] at H
              have c17b0 : decide (x33_2 < ((l1.take (x18_1 : Int).toNat).length : Int)) = false := decide_eq_false c17
              have c17b9 : decide (x33_2 < max x18_1 0) = false := decide_eq_false (by have q_ := of_decide_eq_true (show decide (x18_1 ≤ (l1.length : Int)) = true by assumption); rw [List.length_take] at c17; omega)
              clear c17
              by_cases c28 : ((rd_T54 l0 (rd l1 x18_1)).f5) ≥ 0
              ·rw [if_pos c28] at H
               have c28b0 : decide (0 ≤ ((rd_T54 l0 (rd l1 x18_1)).f5)) = true := decide_eq_true c28
               clear c28
               by_cases c29 : x10_2 > ((rd_T54 l0 (rd l1 x18_1)).f5)
               ·rw [if_pos c29] at H
                have c29b0 : decide (((rd_T54 l0 (rd l1 x18_1)).f5) < x10_2) = true := decide_eq_true c29
                clear c29
                simp only [Option.some.injEq, Prod.mk.injEq] at H
                obtain ⟨rfl, rfl⟩ := H
                obtain ⟨hcz30_0, hcz30_1, hcz30_2, hcz30_3, hcz30_4, hcz30_5⟩ := bc6 BK106.out
                obtain ⟨hfz30_0, hfz30_1, hfz30_2, hfz30_3, hfz30_4, hfz30_5⟩ := bf6 BK106.out
                go_wp2
                go_ret2
                exact ⟨_, by first | rfl | (simp [errW_none, errW_some] <;> rfl) | (simp [*, errW_none, errW_some] <;> rfl), by first | exact Kd.R_nil _ _ _ _ _ | exact Kd.N_nil _ _ _ _ _ | exact Kd.V_nil _ _ _ _ _ | exact Kd.Q_nil _ _ _ _ _ | exact Kd.S_nil _ _ _ _ _, by repeat (first | (with_reducible first | exact HB.out | apply below_alloc | apply pw_below_drewN | apply below_drew1 | refine below_set ?_ GE106.out) | exact HB.out)⟩
               ·rw [if_neg c29] at H
                have c29b0 : decide (((rd_T54 l0 (rd l1 x18_1)).f5) < x10_2) = false := decide_eq_false c29
                clear c29
                by_cases c31 : ((rd_T54 l0 (rd l1 x18_1)).f5) > ((rd_T54 l0 (rd l1 x18_1)).f4)
                ·rw [if_pos c31] at H
                 have c31b0 : decide (((rd_T54 l0 (rd l1 x18_1)).f4) < ((rd_T54 l0 (rd l1 x18_1)).f5)) = true := decide_eq_true c31
                 clear c31
                 simp only [Option.some.injEq, Prod.mk.injEq] at H
                 obtain ⟨rfl, rfl⟩ := H
                 obtain ⟨hcz32_0, hcz32_1, hcz32_2, hcz32_3, hcz32_4, hcz32_5⟩ := bc6 BK106.out
                 obtain ⟨hfz32_0, hfz32_1, hfz32_2, hfz32_3, hfz32_4, hfz32_5⟩ := bf6 BK106.out
                 go_wp2
                 go_ret2
                 exact ⟨_, by first | rfl | (simp [errW_none, errW_some] <;> rfl) | (simp [*, errW_none, errW_some] <;> rfl), by first | exact Kd.R_nil _ _ _ _ _ | exact Kd.N_nil _ _ _ _ _ | exact Kd.V_nil _ _ _ _ _ | exact Kd.Q_nil _ _ _ _ _ | exact Kd.S_nil _ _ _ _ _, by repeat (first | (with_reducible first | exact HB.out | apply below_alloc | apply pw_below_drewN | apply below_drew1 | refine below_set ?_ GE106.out) | exact HB.out)⟩
                ·rw [if_neg c31] at H
                 have c31b0 : decide (((rd_T54 l0 (rd l1 x18_1)).f4) < ((rd_T54 l0 (rd l1 x18_1)).f5)) = false := decide_eq_false c31
                 clear c31
                 by_cases c33 : 0 ≤ (rd l1 x18_1)
                 ·rw [if_pos c33] at H
                  have c33b0 : decide (0 ≤ (rd l1 x18_1)) = true := decide_eq_true c33
                  clear c33
                  by_cases c34 : (rd l1 x18_1) < (x6_1.length : Int)
                  ·rw [if_pos c34] at H
                   have c34b0 : decide ((rd l1 x18_1) < (x6_1.length : Int)) = true := decide_eq_true c34
                   clear c34
                   obtain ⟨y112, hy112⟩ : ∃ y_ : List Int, y_ = (x6_1.set ((rd l1 x18_1) : Int).toNat ((rd_T54 l0 (rd l1 x18_1)).f5)) := ⟨_, rfl⟩
                   replace H : (impl_ordered.l0 k2 l0 l1 y112 l1 (l1.length : Int) (wrap64 (x18_1 + 1))) = some (r1, r2) := by first | (rw [hy112]; with_reducible exact H) | (have H2_ := (Option.bind_some _ _).symm.trans H; rw [hy112]; with_reducible exact H2_) | (have H2_ := (Option.bind_some _ _).symm.trans H; with_reducible exact H2_) | with_reducible exact H | (rw [hy112]; exact H) | exact H
                   have Ny112 := Aside0.mk hy112
                   clear hy112
                   have H' := Aside0.mk H
                   clear H
                   obtain ⟨hcz36_0, hcz36_1, hcz36_2, hcz36_3, hcz36_4, hcz36_5⟩ := bc6 BK106.out
                   obtain ⟨hfz36_0, hfz36_1, hfz36_2, hfz36_3, hfz36_4, hfz36_5⟩ := bf6 BK106.out
                   have p35 : 0 ≤ ((rd l1 x18_1) : Int) := of_decide_eq_true (by first | (with_reducible assumption) | assumption)
                   have q35 : ((rd l1 x18_1) : Int) < ((x6_1.length : Int) : Int) := of_decide_eq_true (by first | (with_reducible assumption) | assumption)
                   obtain ⟨go35, co35, eo35, gb35, gl35, cl35, HG35⟩ := Kd.R_form HO_6.out (by omega)
                   (first | cases eo35 | (injection eo35 with ea_ en_ ec_; (first | subst ea_ | (injection ea_ with ea_; subst ea_)); subst ec_; clear en_))
                   have GB35 := Aside0.mk gb35
                   have GG35 := Aside0.mk HG35
                   clear gb35 gl35 HG35
                   obtain ⟨hx35_0, hf35_0⟩ := Kd.R_celln 0 HO_6.out ((rd l1 x18_1) : Int) p35 q35
                   replace p35 := eq_true p35
                   replace q35 := eq_true q35
                   have HP37 := Kd.R_putg HO_6.out ((rd l1 x18_1) : Int) ((rd_T54 l0 (rd l1 x18_1)).f5)
                   go_wp2_with (first | ((with_reducible refine gate_store (t := 3) (p := 67) rfl ?_); refine store_event (t := 3) (p := 67) (v := ?vo_w38) (w1 := (wr.setCell ⟨go35, ((rd l1 x18_1) : Int).toNat, none⟩ (.int .i64 ((rd_T54 l0 (rd l1 x18_1)).f5)))) ?hg ?ho ?hn ?hr ?_; (case ho => rfl); (case hg => rfl); (case hn => rfl); (case hr => first | (go_simp; done) | (go_simp; rfl)); intro w38 hw; have hg : wr.grownBy w38 (some go35) := (by rw [hw]; exact HP37.2); have hp_ : Kd.R (Kd.int .i64) 3 w38 w.heap.size (fun _ => True) (.slice (some ⟨go35, 0, none⟩) x6_1.length co35) y112 := (by rw [hw, Ny112.out]; exact HP37.1); clear HP37; have n0_ := Aside0.mk (hp_); have n1_ := Aside0.mk (blk_grown (g := gb106) (o := .cells #[.string ((rd_T54 l0 (rd l1 x18_1)).f0), .bool ((rd_T54 l0 (rd l1 x18_1)).f1), .int .i64 ((rd_T54 l0 (rd l1 x18_1)).f2), .int .i64 ((rd_T54 l0 (rd l1 x18_1)).f3), .int .i64 ((rd_T54 l0 (rd l1 x18_1)).f4), .int .i64 ((rd_T54 l0 (rd l1 x18_1)).f5)] 54 (0, 0)) (ex BK106.out) hg (Kd.R_ne HO_6.out BK106.out (by decide))); have n2_ := Aside0.mk ((by rw [hw]; exact below_set (HB.out) GB35.out : Below w.heap.size w w38)); clear HO_6; clear BK106; clear HB; have HO_6 := n0_; have BK106 := n1_; have HB := n2_; clear n0_ n1_ n2_; clear hg hw hp_))
                   go_roundg k2
                   case measure => have := HK1.out; have := HK2.out; omega
                   case rel => exact ⟨(y112), (wrap64 (x18_1 + 1)), (by first | rfl | (simp; done) | (simp [*]; done)), H', ⟨by have := HK1.out; have := HK2.out; omega⟩, ⟨er HO_6.out⟩, ⟨by repeat (first | (with_reducible first | exact HB.out | apply below_alloc | apply pw_below_drewN | apply below_drew1 | refine below_set ?_ GE106.out) | exact HB.out)⟩⟩
                  ·rw [if_neg c34] at H
                   exact absurd H (by simp)
                 ·rw [if_neg c33] at H
                  exact absurd H (by simp)
              ·rw [if_neg c28] at H
               have c28b0 : decide (0 ≤ ((rd_T54 l0 (rd l1 x18_1)).f5)) = false := decide_eq_false c28
               clear c28
               by_cases c39 : x10_2 > ((rd_T54 l0 (rd l1 x18_1)).f4)
               ·rw [if_pos c39] at H
                have c39b0 : decide (((rd_T54 l0 (rd l1 x18_1)).f4) < x10_2) = true := decide_eq_true c39
                clear c39
                simp only [Option.some.injEq, Prod.mk.injEq] at H
                obtain ⟨rfl, rfl⟩ := H
                obtain ⟨hcz40_0, hcz40_1, hcz40_2, hcz40_3, hcz40_4, hcz40_5⟩ := bc6 BK106.out
                obtain ⟨hfz40_0, hfz40_1, hfz40_2, hfz40_3, hfz40_4, hfz40_5⟩ := bf6 BK106.out
                go_wp2
                go_ret2
                exact ⟨_, by first | rfl | (simp [errW_none, errW_some] <;> rfl) | (simp [*, errW_none, errW_some] <;> rfl), by first | exact Kd.R_nil _ _ _ _ _ | exact Kd.N_nil _ _ _ _ _ | exact Kd.V_nil _ _ _ _ _ | exact Kd.Q_nil _ _ _ _ _ | exact Kd.S_nil _ _ _ _ _, by repeat (first | (with_reducible first | exact HB.out | apply below_alloc | apply pw_below_drewN | apply below_drew1 | refine below_set ?_ GE106.out) | exact HB.out)⟩
               ·rw [if_neg c39] at H
                have c39b0 : decide (((rd_T54 l0 (rd l1 x18_1)).f4) < x10_2) = false := decide_eq_false c39
                clear c39
                by_cases c41 : 0 ≤ (rd l1 x18_1)
                ·rw [if_pos c41] at H
                 have c41b0 : decide (0 ≤ (rd l1 x18_1)) = true := decide_eq_true c41
                 clear c41
                 by_cases c42 : (rd l1 x18_1) < (x6_1.length : Int)
                 ·rw [if_pos c42] at H
                  have c42b0 : decide ((rd l1 x18_1) < (x6_1.length : Int)) = true := decide_eq_true c42
                  clear c42
                  obtain ⟨y113, hy113⟩ : ∃ y_ : List Int, y_ = (x6_1.set ((rd l1 x18_1) : Int).toNat x10_2) := ⟨_, rfl⟩
                  replace H : (impl_ordered.l0 k2 l0 l1 y113 l1 (l1.length : Int) (wrap64 (x18_1 + 1))) = some (r1, r2) := by first | (rw [hy113]; with_reducible exact H) | (have H2_ := (Option.bind_some _ _).symm.trans H; rw [hy113]; with_reducible exact H2_) | (have H2_ := (Option.bind_some _ _).symm.trans H; with_reducible exact H2_) | with_reducible exact H | (rw [hy113]; exact H) | exact H
                  have Ny113 := Aside0.mk hy113
                  clear hy113
                  have H' := Aside0.mk H
                  clear H
                  obtain ⟨hcz44_0, hcz44_1, hcz44_2, hcz44_3, hcz44_4, hcz44_5⟩ := bc6 BK106.out
                  obtain ⟨hfz44_0, hfz44_1, hfz44_2, hfz44_3, hfz44_4, hfz44_5⟩ := bf6 BK106.out
                  have p43 : 0 ≤ ((rd l1 x18_1) : Int) := of_decide_eq_true (by first | (with_reducible assumption) | assumption)
                  have q43 : ((rd l1 x18_1) : Int) < ((x6_1.length : Int) : Int) := of_decide_eq_true (by first | (with_reducible assumption) | assumption)
                  obtain ⟨go43, co43, eo43, gb43, gl43, cl43, HG43⟩ := Kd.R_form HO_6.out (by omega)
                  (first | cases eo43 | (injection eo43 with ea_ en_ ec_; (first | subst ea_ | (injection ea_ with ea_; subst ea_)); subst ec_; clear en_))
                  have GB43 := Aside0.mk gb43
                  have GG43 := Aside0.mk HG43
                  clear gb43 gl43 HG43
                  obtain ⟨hx43_0, hf43_0⟩ := Kd.R_celln 0 HO_6.out ((rd l1 x18_1) : Int) p43 q43
                  replace p43 := eq_true p43
                  replace q43 := eq_true q43
                  have HP45 := Kd.R_putg HO_6.out ((rd l1 x18_1) : Int) x10_2
                  go_wp2_with (first | ((with_reducible refine gate_store (t := 3) (p := 67) rfl ?_); refine store_event (t := 3) (p := 67) (v := ?vo_w46) (w1 := (wr.setCell ⟨go43, ((rd l1 x18_1) : Int).toNat, none⟩ (.int .i64 x10_2))) ?hg ?ho ?hn ?hr ?_; (case ho => rfl); (case hg => rfl); (case hn => rfl); (case hr => first | (go_simp; done) | (go_simp; rfl)); intro w46 hw; have hg : wr.grownBy w46 (some go43) := (by rw [hw]; exact HP45.2); have hp_ : Kd.R (Kd.int .i64) 3 w46 w.heap.size (fun _ => True) (.slice (some ⟨go43, 0, none⟩) x6_1.length co43) y113 := (by rw [hw, Ny113.out]; exact HP45.1); clear HP45; have n0_ := Aside0.mk (hp_); have n1_ := Aside0.mk (blk_grown (g := gb106) (o := .cells #[.string ((rd_T54 l0 (rd l1 x18_1)).f0), .bool ((rd_T54 l0 (rd l1 x18_1)).f1), .int .i64 ((rd_T54 l0 (rd l1 x18_1)).f2), .int .i64 ((rd_T54 l0 (rd l1 x18_1)).f3), .int .i64 ((rd_T54 l0 (rd l1 x18_1)).f4), .int .i64 ((rd_T54 l0 (rd l1 x18_1)).f5)] 54 (0, 0)) (ex BK106.out) hg (Kd.R_ne HO_6.out BK106.out (by decide))); have n2_ := Aside0.mk ((by rw [hw]; exact below_set (HB.out) GB43.out : Below w.heap.size w w46)); clear HO_6; clear BK106; clear HB; have HO_6 := n0_; have BK106 := n1_; have HB := n2_; clear n0_ n1_ n2_; clear hg hw hp_))
                  go_roundg k2
                  case measure => have := HK1.out; have := HK2.out; omega
                  case rel => exact ⟨(y113), (wrap64 (x18_1 + 1)), (by first | rfl | (simp; done) | (simp [*]; done)), H', ⟨by have := HK1.out; have := HK2.out; omega⟩, ⟨er HO_6.out⟩, ⟨by repeat (first | (with_reducible first | exact HB.out | apply below_alloc | apply pw_below_drewN | apply below_drew1 | refine below_set ?_ GE106.out) | exact HB.out)⟩⟩
                 ·rw [if_neg c42] at H
                  exact absurd H (by simp)
                ·rw [if_neg c41] at H
                 exact absurd H (by simp)
          ·rw [if_neg c13] at H
           exact absurd H (by simp)
         ·rw [if_neg c11] at H
          exact absurd H (by simp)
        ·rw [if_neg c10] at H
         exact absurd H (by simp)
       ·rw [if_neg c9] at H
        exact absurd H (by simp)
      ·rw [if_neg c8] at H
       exact absurd H (by simp)
     ·rw [if_neg c7] at H
      have c7b0 : decide (x18_1 < (l1.length : Int)) = false := decide_eq_false c7
      clear c7
      simp only [Option.some.injEq, Prod.mk.injEq] at H
      obtain ⟨rfl, rfl⟩ := H
      go_wp2
      go_ret2
      exact ⟨_, by first | rfl | (simp [errW_none, errW_some] <;> rfl) | (simp [*, errW_none, errW_some] <;> rfl), er HO_6.out, eb HB.out⟩
  ·rw [if_neg c4] at H
   exact absurd H (by simp)
 ·rw [if_neg c3] at H
  exact absurd H (by simp)

end Go.Proofs.Ytpdmimlkgmhepaa.G

/- The plain functions of this seat's Go text and, for each, that the call comes to what its plain function says: written for this claim by a program of the session (drv.py) over the kit's print.py. -/
namespace Go.Proofs.Ytpdmimlkgmhepaa.G
open Go.RowKit Go.Proofs.YtpdmimlkgmhepaaW.PrintWords Go.Proofs.YtpdmimlkgmhepaaW.PrintLast Go.Proofs.YtpdmimlkgmhepaaW.PrintMore
attribute [local go_sem] max2_int min2_int max_two min_two max_three min_three max_four min_four   -- for this text's walks alone
set_option linter.unusedVariables false
set_option linter.unusedSimpArgs false

/-! ### impl_StripOrder: function 30 -/
def impl_StripOrder.f (k : Nat) (l0 : List (S54)) (l1 : List Int) : Option (List Int × Bool) := (impl_StripMovesOk.f k l0).bind fun t101 => (if t101 = true then (if (l1.length : Int) = (l0.length : Int) then ((impl_isOrder.f k l1).bind fun t102 => (if t102 = true then ((impl_ordered.f k l0 l1).bind fun bt103 => (some (bt103.1, bt103.2))) else (some (([] : List Int), false)))) else (some (([] : List Int), false))) else (some (([] : List Int), false)))
theorem impl_StripOrder.mono : ∀ a0 a1 k, LeO (impl_StripOrder.f k a0 a1) (impl_StripOrder.f (k + 1) a0 a1) := by
 intro a0 a1 k
 unfold impl_StripOrder.f
 repeat' first
   | (with_reducible exact impl_StripMovesOk.mono _ _)
   | (with_reducible exact impl_isOrder.mono _ _)
   | (with_reducible exact impl_ordered.mono _ _ _)
   | (with_reducible exact LeO.refl _)
   | (with_reducible exact LeO.none _)
   | (with_reducible refine LeO.ite ?_ ?_)
   | (with_reducible refine LeO.bind ?_ (fun _ => ?_))
   | exact impl_StripMovesOk.mono _ _
   | exact impl_isOrder.mono _ _
   | exact impl_ordered.mono _ _ _
   | exact LeO.none _
   | refine LeO.ite ?_ ?_
   | refine LeO.bind ?_ (fun _ => ?_)
set_option maxHeartbeats 8000000 in
set_option maxRecDepth 100000 in
theorem impl_StripOrder.calls (k : Nat) (A0 : Option Addr) (c0 : Nat) (l0 : List (S54)) (A1 : Option Addr) (c1 : Nat) (l1 : List Int) (r1 : List Int) (r2 : Bool) (w : World) (hr0 : Kd.C k54 w A0 l0.length l0) (hc0 : l0.length ≤ c0) (hr1 : Kd.C (Kd.int .i64) w A1 l1.length l1) (hc1 : l1.length ≤ c1) (h : impl_StripOrder.f k l0 l1 = some (r1, r2)) :
  Calls Try.prog 30 #[.slice A0 l0.length c0, .slice A1 l1.length c1] w fun e w' => ∃ v0_ : Value, e = .returned (.tuple #[v0_, .bool r2]) ∧ Kd.R (Kd.int .i64) 3 w' w.heap.size (fun _ => True) v0_ r1 ∧ Below w.heap.size w w' := by
 have HR0 := Aside0.mk hr0
 have HC0 := Aside0.mk hc0
 clear hr0 hc0
 have HR1 := Aside0.mk hr1
 have HC1 := Aside0.mk hc1
 clear hr1 hc1
 have HB := Aside0.mk (Below.refl w.heap.size w)
 have H : ((impl_StripMovesOk.f k l0).bind fun t101 => (if t101 = true then (if (l1.length : Int) = (l0.length : Int) then ((impl_isOrder.f k l1).bind fun t102 => (if t102 = true then ((impl_ordered.f k l0 l1).bind fun bt103 => (some (bt103.1, bt103.2))) else (some (([] : List Int), false)))) else (some (([] : List Int), false))) else (some (([] : List Int), false)))) = some (r1, r2) := h
 clear h
 replace H := Option.bind_eq_some_iff.mp H
 obtain ⟨t101, A30, H⟩ := H
 replace H : (if t101 = true then (if (l1.length : Int) = (l0.length : Int) then ((impl_isOrder.f k l1).bind fun t102 => (if t102 = true then ((impl_ordered.f k l0 l1).bind fun bt103 => (some (bt103.1, bt103.2))) else (some (([] : List Int), false)))) else (some (([] : List Int), false))) else (some (([] : List Int), false))) = some (r1, r2) := H
 have A3 := Aside0.mk A30
 clear A30
 by_cases c4 : t101 = true
 ·subst c4
  have H1 : (if (l1.length : Int) = (l0.length : Int) then ((impl_isOrder.f k l1).bind fun t102 => (if t102 = true then ((impl_ordered.f k l0 l1).bind fun bt103 => (some (bt103.1, bt103.2))) else (some (([] : List Int), false)))) else (some (([] : List Int), false))) = some (r1, r2) := by rw [if_pos rfl] at H; exact H
  clear H
  have H := H1
  clear H1
  by_cases c5 : (l1.length : Int) = (l0.length : Int)
  ·rw [if_pos c5] at H
   have c5b0 : ((l1.length : Int) == (l0.length : Int)) = true := beq_iff_eq.mpr c5
   have c5b1 : ((l1.length : Int) != (l0.length : Int)) = false := bne_eq_false_iff_eq.mpr c5
   have c5b2 : (l1.length == l0.length) = true := by first | simpa using c5 | (simp at c5 ⊢; omega)
   clear c5
   replace H := Option.bind_eq_some_iff.mp H
   obtain ⟨t102, A60, H⟩ := H
   replace H : (if t102 = true then ((impl_ordered.f k l0 l1).bind fun bt103 => (some (bt103.1, bt103.2))) else (some (([] : List Int), false))) = some (r1, r2) := H
   have A6 := Aside0.mk A60
   clear A60
   by_cases c7 : t102 = true
   ·subst c7
    have H1 : ((impl_ordered.f k l0 l1).bind fun bt103 => (some (bt103.1, bt103.2))) = some (r1, r2) := by rw [if_pos rfl] at H; exact H
    clear H
    have H := H1
    clear H1
    replace H := Option.bind_eq_some_iff.mp H
    obtain ⟨⟨t103, t104⟩, A80, H⟩ := H
    replace H : (some (t103, t104)) = some (r1, r2) := H
    have A8 := Aside0.mk A80
    clear A80
    simp only [Option.some.injEq, Prod.mk.injEq] at H
    obtain ⟨rfl, rfl⟩ := H
    go_enter Try.func30, Try.ntmps30
    go_wp2_with (first | ((with_reducible refine gate_callee (f := 18) rfl ?_); refine goesL_ (some 7) rfl rfl Try.func18 (by kernel_rfl) rfl #[.slice A0 l0.length c0] rfl (by (try simp only [List.map_toArray, List.map_cons, List.map_nil]); first | done | rfl | (simp only [List.length_drop, List.length_take]; rfl)) ?_; (with_reducible refine (impl_StripMovesOk.calls k _ _ l0 true _ ?side1 ?side2 A3.out).mono ?_); (case side1 => repeat (first | exact HR0.out | (with_reducible refine Kd.C_alloc ?_ _) | (with_reducible refine Kd.C_drewN ?_ _) | (with_reducible refine Kd.C_drew ?_))); (case side2 => exact HC0.out); rintro e w9 ⟨rfl, hb⟩; refine ⟨_, rfl, ?_⟩; have n0_ := Aside0.mk (below_step (eb HB.out) hb); clear HB; have HB := n0_; clear n0_; (try clear hb); (try clear hb2); (try clear hk); (try clear hi)) | (go_at_call 50; (with_reducible refine (impl_isOrder.calls k _ _ l1 true _ ?side1 ?side2 A6.out).mono ?_); (case side1 => repeat (first | exact (Kd.C_below HR1.out HB.out) | (with_reducible refine Kd.C_alloc ?_ _) | (with_reducible refine Kd.C_drewN ?_ _) | (with_reducible refine Kd.C_drew ?_))); (case side2 => exact HC1.out); rintro e w10 ⟨rfl, hb⟩; have n0_ := Aside0.mk (below_step (eb HB.out) hb); clear HB; have HB := n0_; clear n0_; (try clear hb); (try clear hb2); (try clear hk); (try clear hi)) | ((with_reducible refine gate_callee (f := 62) rfl ?_); refine goesL_ (some 23) rfl rfl Try.func62 (by kernel_rfl) rfl #[.slice A0 l0.length c0, .slice A1 l1.length c1] rfl (by (try simp only [List.map_toArray, List.map_cons, List.map_nil]); first | done | rfl | (simp only [List.length_drop, List.length_take]; rfl)) ?_; (with_reducible refine (impl_ordered.calls k _ _ l0 _ _ l1 t103 t104 _ ?side1 ?side2 ?side3 ?side4 A8.out).mono ?_); (case side1 => repeat (first | exact (Kd.C_below HR0.out HB.out) | (with_reducible refine Kd.C_alloc ?_ _) | (with_reducible refine Kd.C_drewN ?_ _) | (with_reducible refine Kd.C_drew ?_))); (case side2 => exact HC0.out); (case side3 => repeat (first | exact (Kd.C_below HR1.out HB.out) | (with_reducible refine Kd.C_alloc ?_ _) | (with_reducible refine Kd.C_drewN ?_ _) | (with_reducible refine Kd.C_drew ?_))); (case side4 => exact HC1.out); rintro e w11 ⟨v105, rfl, ho0, hb⟩; refine ⟨_, rfl, ?_⟩; have n0_ := Aside0.mk (Kd.R_lower ho0 (below_size (eb HB.out))); have n1_ := Aside0.mk (below_step (eb HB.out) hb); clear HB; have HO106 := n0_; have HB := n1_; clear n0_ n1_; (try clear hb); (try clear hb2); (try clear hk); (try clear hi); (try clear ho0)))
    go_ret2
    exact ⟨_, by first | rfl | (simp [errW_none, errW_some] <;> rfl) | (simp [*, errW_none, errW_some] <;> rfl), er HO106.out, eb HB.out⟩
   ·replace c7 := Bool.eq_false_iff.mpr c7
    subst c7
    have H1 : (some (([] : List Int), false)) = some (r1, r2) := by rw [if_neg (show ¬ (false = true) by decide)] at H; exact H
    clear H
    have H := H1
    clear H1
    simp only [Option.some.injEq, Prod.mk.injEq] at H
    obtain ⟨rfl, rfl⟩ := H
    go_enter Try.func30, Try.ntmps30
    go_wp2_with (first | ((with_reducible refine gate_callee (f := 18) rfl ?_); refine goesL_ (some 7) rfl rfl Try.func18 (by kernel_rfl) rfl #[.slice A0 l0.length c0] rfl (by (try simp only [List.map_toArray, List.map_cons, List.map_nil]); first | done | rfl | (simp only [List.length_drop, List.length_take]; rfl)) ?_; (with_reducible refine (impl_StripMovesOk.calls k _ _ l0 true _ ?side1 ?side2 A3.out).mono ?_); (case side1 => repeat (first | exact HR0.out | (with_reducible refine Kd.C_alloc ?_ _) | (with_reducible refine Kd.C_drewN ?_ _) | (with_reducible refine Kd.C_drew ?_))); (case side2 => exact HC0.out); rintro e w12 ⟨rfl, hb⟩; refine ⟨_, rfl, ?_⟩; have n0_ := Aside0.mk (below_step (eb HB.out) hb); clear HB; have HB := n0_; clear n0_; (try clear hb); (try clear hb2); (try clear hk); (try clear hi)) | (go_at_call 50; (with_reducible refine (impl_isOrder.calls k _ _ l1 false _ ?side1 ?side2 A6.out).mono ?_); (case side1 => repeat (first | exact (Kd.C_below HR1.out HB.out) | (with_reducible refine Kd.C_alloc ?_ _) | (with_reducible refine Kd.C_drewN ?_ _) | (with_reducible refine Kd.C_drew ?_))); (case side2 => exact HC1.out); rintro e w13 ⟨rfl, hb⟩; have n0_ := Aside0.mk (below_step (eb HB.out) hb); clear HB; have HB := n0_; clear n0_; (try clear hb); (try clear hb2); (try clear hk); (try clear hi)))
    go_ret2
    exact ⟨_, by first | rfl | (simp [errW_none, errW_some] <;> rfl) | (simp [*, errW_none, errW_some] <;> rfl), by first | exact Kd.R_nil _ _ _ _ _ | exact Kd.N_nil _ _ _ _ _ | exact Kd.V_nil _ _ _ _ _ | exact Kd.Q_nil _ _ _ _ _ | exact Kd.S_nil _ _ _ _ _, eb HB.out⟩
  ·rw [if_neg c5] at H
   have c5b0 : ((l1.length : Int) == (l0.length : Int)) = false := beq_eq_false_iff_ne.mpr c5
   have c5b1 : ((l1.length : Int) != (l0.length : Int)) = true := bne_iff_ne.mpr c5
   have c5b2 : (l1.length == l0.length) = false := by first | simpa using c5 | (simp at c5 ⊢; omega)
   simp only [Option.some.injEq, Prod.mk.injEq] at H
   obtain ⟨rfl, rfl⟩ := H
   go_enter Try.func30, Try.ntmps30
   go_wp2_with (first | ((with_reducible refine gate_callee (f := 18) rfl ?_); refine goesL_ (some 7) rfl rfl Try.func18 (by kernel_rfl) rfl #[.slice A0 l0.length c0] rfl (by (try simp only [List.map_toArray, List.map_cons, List.map_nil]); first | done | rfl | (simp only [List.length_drop, List.length_take]; rfl)) ?_; (with_reducible refine (impl_StripMovesOk.calls k _ _ l0 true _ ?side1 ?side2 A3.out).mono ?_); (case side1 => repeat (first | exact HR0.out | (with_reducible refine Kd.C_alloc ?_ _) | (with_reducible refine Kd.C_drewN ?_ _) | (with_reducible refine Kd.C_drew ?_))); (case side2 => exact HC0.out); rintro e w14 ⟨rfl, hb⟩; refine ⟨_, rfl, ?_⟩; have n0_ := Aside0.mk (below_step (eb HB.out) hb); clear HB; have HB := n0_; clear n0_; (try clear hb); (try clear hb2); (try clear hk); (try clear hi)))
   go_ret2
   exact ⟨_, by first | rfl | (simp [errW_none, errW_some] <;> rfl) | (simp [*, errW_none, errW_some] <;> rfl), by first | exact Kd.R_nil _ _ _ _ _ | exact Kd.N_nil _ _ _ _ _ | exact Kd.V_nil _ _ _ _ _ | exact Kd.Q_nil _ _ _ _ _ | exact Kd.S_nil _ _ _ _ _, eb HB.out⟩
 ·replace c4 := Bool.eq_false_iff.mpr c4
  subst c4
  have H1 : (some (([] : List Int), false)) = some (r1, r2) := by rw [if_neg (show ¬ (false = true) by decide)] at H; exact H
  clear H
  have H := H1
  clear H1
  simp only [Option.some.injEq, Prod.mk.injEq] at H
  obtain ⟨rfl, rfl⟩ := H
  go_enter Try.func30, Try.ntmps30
  go_wp2_with (first | ((with_reducible refine gate_callee (f := 18) rfl ?_); refine goesL_ (some 7) rfl rfl Try.func18 (by kernel_rfl) rfl #[.slice A0 l0.length c0] rfl (by (try simp only [List.map_toArray, List.map_cons, List.map_nil]); first | done | rfl | (simp only [List.length_drop, List.length_take]; rfl)) ?_; (with_reducible refine (impl_StripMovesOk.calls k _ _ l0 false _ ?side1 ?side2 A3.out).mono ?_); (case side1 => repeat (first | exact HR0.out | (with_reducible refine Kd.C_alloc ?_ _) | (with_reducible refine Kd.C_drewN ?_ _) | (with_reducible refine Kd.C_drew ?_))); (case side2 => exact HC0.out); rintro e w15 ⟨rfl, hb⟩; refine ⟨_, rfl, ?_⟩; have n0_ := Aside0.mk (below_step (eb HB.out) hb); clear HB; have HB := n0_; clear n0_; (try clear hb); (try clear hb2); (try clear hk); (try clear hi)))
  go_ret2
  exact ⟨_, by first | rfl | (simp [errW_none, errW_some] <;> rfl) | (simp [*, errW_none, errW_some] <;> rfl), by first | exact Kd.R_nil _ _ _ _ _ | exact Kd.N_nil _ _ _ _ _ | exact Kd.V_nil _ _ _ _ _ | exact Kd.Q_nil _ _ _ _ _ | exact Kd.S_nil _ _ _ _ _, eb HB.out⟩

end Go.Proofs.Ytpdmimlkgmhepaa.G

/- The plain functions of this seat's Go text and, for each, that the call comes to what its plain function says: written for this claim by a program of the session (drv.py) over the kit's print.py. -/
namespace Go.Proofs.Ytpdmimlkgmhepaa.G
open Go.RowKit Go.Proofs.YtpdmimlkgmhepaaW.PrintWords Go.Proofs.YtpdmimlkgmhepaaW.PrintLast Go.Proofs.YtpdmimlkgmhepaaW.PrintMore
attribute [local go_sem] max2_int min2_int max_two min_two max_three min_three max_four min_four   -- for this text's walks alone
set_option linter.unusedVariables false
set_option linter.unusedSimpArgs false

/-! ### laws_markText: function 63 -/
def laws_markText.l0 : Nat → Int → ByteArray → Option (ByteArray)
 | 0, _, _ => none
 | k + 1, x0, x3 => if x0 > 0 then ((some (([(wrap64 (48 + (Int.tmod x0 10))) % 256] : List Int) : List Int)).bind fun y101 => (if (strOfNums y101).size + x3.size ≤ 9223372036854775807 then (laws_markText.l0 k (wrap64 (Int.tdiv x0 10)) ((strOfNums y101) ++ x3)) else (none))) else (if 1 + x3.size ≤ 9223372036854775807 then (some ((⟨#[109]⟩ : ByteArray) ++ x3)) else (none))
def laws_markText.f (k : Nat) (a0 : Int) : Option (ByteArray) := if a0 ≤ 0 then (some (⟨#[109, 48]⟩ : ByteArray)) else (laws_markText.l0 k a0 (⟨#[]⟩ : ByteArray))
theorem laws_markText.mono_l : ∀ k, (∀ y0 y1, LeO (laws_markText.l0 k y0 y1) (laws_markText.l0 (k + 1) y0 y1))
 | 0 => fun _ _ r h => by simp [laws_markText.l0] at h
 | k + 1 => by
  have ih0 := laws_markText.mono_l k
  ·intro y0 y1
   unfold laws_markText.l0
   repeat' first
   | (with_reducible exact ih0 _ _)
   | (with_reducible exact LeO.refl _)
   | (with_reducible exact LeO.none _)
   | (with_reducible refine LeO.ite ?_ ?_)
   | (with_reducible refine LeO.bind ?_ (fun _ => ?_))
   | exact ih0 _ _
   | exact LeO.none _
   | refine LeO.ite ?_ ?_
   | refine LeO.bind ?_ (fun _ => ?_)
theorem laws_markText.mono : ∀ a0 k, LeO (laws_markText.f k a0) (laws_markText.f (k + 1) a0) := by
 intro a0 k
 have ih0 := laws_markText.mono_l k
 unfold laws_markText.f
 repeat' first
   | (with_reducible exact ih0 _ _)
   | (with_reducible exact LeO.refl _)
   | (with_reducible exact LeO.none _)
   | (with_reducible refine LeO.ite ?_ ?_)
   | (with_reducible refine LeO.bind ?_ (fun _ => ?_))
   | exact ih0 _ _
   | exact LeO.none _
   | refine LeO.ite ?_ ?_
   | refine LeO.bind ?_ (fun _ => ?_)
set_option maxHeartbeats 8000000 in
set_option maxRecDepth 100000 in
theorem laws_markText.calls (k : Nat) (a0 : Int) (r : ByteArray) (w : World) (h : laws_markText.f k a0 = some r) :
  Calls Try.prog 63 #[.int .i64 a0] w fun e w' => e = .returned (.string r) ∧ Below w.heap.size w w' := by
 have HB := Aside0.mk (Below.refl w.heap.size w)
 have H : (if a0 ≤ 0 then (some (⟨#[109, 48]⟩ : ByteArray)) else (laws_markText.l0 k a0 (⟨#[]⟩ : ByteArray))) = some r := h
 clear h
 by_cases c2 : a0 ≤ 0
 ·rw [if_pos c2] at H
  have c2b0 : decide (a0 ≤ 0) = true := decide_eq_true c2
  clear c2
  obtain rfl := Option.some.inj H
  go_enter Try.func63, Try.ntmps63
  go_wp2
  go_ret
  exact ⟨by first | rfl | (simp [errW_none, errW_some] <;> rfl) | (simp [*, errW_none, errW_some] <;> rfl), eb HB.out⟩
 ·rw [if_neg c2] at H
  have c2b0 : decide (a0 ≤ 0) = false := decide_eq_false c2
  clear c2
  have H' := Aside0.mk H
  clear H
  go_enter Try.func63, Try.ntmps63
  go_wp2
  go_loopg [0, 3] k (fun kq v0 v3 w' => ∃ (x0_1 : Int) (x3_1 : ByteArray), v0 = .int .i64 x0_1 ∧ v3 = .string x3_1 ∧ Aside0 (laws_markText.l0 kq x0_1 x3_1 = some r) ∧ Aside0 (kq ≤ k) ∧ Aside0 (Below w.heap.size w w'))
  case atStart => exact ⟨(a0), ((⟨#[]⟩ : ByteArray)), (by first | rfl | (simp; done) | (simp [*]; done)), (by first | rfl | (simp; done) | (simp [*]; done)), H', ⟨Nat.le_refl _⟩, ⟨eb HB.out⟩⟩
  case round =>
   clear H'
   try clear c2
   try clear c2b0
   try clear p2
   obtain ⟨x0_1, x3_1, rfl, rfl, HA, HK1, HB⟩ := hrel
   cases gk with
   | zero => exact absurd HA.out (by simp [laws_markText.l0])
   | succ k1 =>
    have H := HA.out
    clear HA
    simp only [laws_markText.l0] at H
    by_cases c3 : x0_1 > 0
    ·rw [if_pos c3] at H
     have c3b0 : decide (0 < x0_1) = true := decide_eq_true c3
     clear c3
     obtain ⟨y101, hy101⟩ : ∃ y_ : List Int, y_ = (([(wrap64 (48 + (Int.tmod x0_1 10))) % 256] : List Int)) := ⟨_, rfl⟩
     replace H : (if (strOfNums y101).size + x3_1.size ≤ 9223372036854775807 then (laws_markText.l0 k1 (wrap64 (Int.tdiv x0_1 10)) ((strOfNums y101) ++ x3_1)) else (none)) = some r := by first | (rw [hy101]; with_reducible exact H) | (have H2_ := (Option.bind_some _ _).symm.trans H; rw [hy101]; with_reducible exact H2_) | (have H2_ := (Option.bind_some _ _).symm.trans H; with_reducible exact H2_) | with_reducible exact H | (rw [hy101]; exact H) | exact H
     have Ny101 := Aside0.mk hy101
     clear hy101
     by_cases c4 : (strOfNums y101).size + x3_1.size ≤ 9223372036854775807
     ·rw [if_pos c4] at H
      have c4b0 := eq_true c4
      have c4b1 : decide ((strOfNums y101).size + x3_1.size ≤ 9223372036854775807) = true := decide_eq_true c4
      try have c4b2 : (9223372036854775807 < (strOfNums y101).size + x3_1.size) = False := eq_false (Nat.not_lt.2 c4)
      have H' := Aside0.mk H
      clear H
      go_wp2_with (first | ((with_reducible refine gate_dst (N := 12) rfl ?_); refine Kd.R_lit (Kd.int .u8) _ 5 ?hg (N := 12) ?hd (xs := ([(wrap64 (48 + (Int.tmod x0_1 10))) % 256] : List Int)) (inner := [.int .u8 ((wrap64 (48 + (Int.tmod x0_1 10))) % 256)]) (ok := fun _ => True) (okp := fun _ => True) ?hr ?hp (fun _ hk => hk) trivial (Below.refl _ _) (Nat.le_refl _) (by simp) ?_; (case hd => rfl); (case hg => rfl); (case hr => first | (go_simp; done) | (go_simp; rfl)); (case hp => exact (Reps.one (show Kd.M (Kd.int .u8) _ _ _ ((wrap64 (48 + (Int.tmod x0_1 10))) % 256) [.int .u8 ((wrap64 (48 + (Int.tmod x0_1 10))) % 256)] from rfl) (Reps.none _ _))); intro v102 w5 ho6 hb hg_ hnew_; clear hg_ hnew_; (first | rw [← Ny101.out] at ho6 | (simp only [Int.reduceToNat] at ho6; rw [← Ny101.out] at ho6)); have n0_ := Aside0.mk (Kd.R_lower ho6 (below_size (eb HB.out))); have n1_ := Aside0.mk (below_step (eb HB.out) hb); clear HB; have HO103 := n0_; have HB := n1_; clear n0_ n1_; clear hb ho6; have hcv7 := own_string (P := Try.prog) Try.underlying50 Try.underlying5 Try.underlying9 (Kd.own_of_R HO103.out)))
      go_roundg k1
      case measure => have := HK1.out; omega
      case rel => exact ⟨(wrap64 (Int.tdiv x0_1 10)), ((strOfNums y101) ++ x3_1), (by first | rfl | (simp; done) | (simp [*]; done)), (by first | rfl | (simp; done) | (simp [*]; done)), H', ⟨by have := HK1.out; omega⟩, ⟨eb HB.out⟩⟩
     ·rw [if_neg c4] at H
      exact absurd H (by simp)
    ·rw [if_neg c3] at H
     have c3b0 : decide (0 < x0_1) = false := decide_eq_false c3
     clear c3
     by_cases c8 : 1 + x3_1.size ≤ 9223372036854775807
     ·rw [if_pos c8] at H
      have c8b0 := eq_true c8
      have c8b1 : decide (1 + x3_1.size ≤ 9223372036854775807) = true := decide_eq_true c8
      try have c8b2 : (9223372036854775807 < 1 + x3_1.size) = False := eq_false (Nat.not_lt.2 c8)
      obtain rfl := Option.some.inj H
      go_wp2
      go_ret
      exact ⟨by first | rfl | (simp [errW_none, errW_some] <;> rfl) | (simp [*, errW_none, errW_some] <;> rfl), eb HB.out⟩
     ·rw [if_neg c8] at H
      exact absurd H (by simp)

end Go.Proofs.Ytpdmimlkgmhepaa.G

/- The plain functions of this seat's Go text and, for each, that the call comes to what its plain function says: written for this claim by a program of the session (drv.py) over the kit's print.py. -/
namespace Go.Proofs.Ytpdmimlkgmhepaa.G
open Go.RowKit Go.Proofs.YtpdmimlkgmhepaaW.PrintWords Go.Proofs.YtpdmimlkgmhepaaW.PrintLast Go.Proofs.YtpdmimlkgmhepaaW.PrintMore
attribute [local go_sem] max2_int min2_int max_two min_two max_three min_three max_four min_four   -- for this text's walks alone
set_option linter.unusedVariables false
set_option linter.unusedSimpArgs false

/-! ### laws_markStripMoveS: function 31 -/
def laws_markStripMoveS.l0 : Nat → List (S54) → Int → Int → Option (Int × (List (S54)))
 | 0, _, _, _ => none
 | k + 1, x0, x1, x5 => if x5 < (x0.length : Int) then ((laws_markText.f k x1).bind fun t101 => (if 0 ≤ x5 then ((some (x0.set (x5 : Int).toNat (⟨t101, (rd_T54 x0 x5).f1, (rd_T54 x0 x5).f2, (rd_T54 x0 x5).f3, (rd_T54 x0 x5).f4, (rd_T54 x0 x5).f5⟩ : S54) : List (S54))).bind fun y102 => ((some (y102.set (x5 : Int).toNat (⟨(rd_T54 y102 x5).f0, ((Int.tmod (wrap64 (x1 + 1)) 3) == 0), (rd_T54 y102 x5).f2, (rd_T54 y102 x5).f3, (rd_T54 y102 x5).f4, (rd_T54 y102 x5).f5⟩ : S54) : List (S54))).bind fun y103 => ((some (y103.set (x5 : Int).toNat (⟨(rd_T54 y103 x5).f0, (rd_T54 y103 x5).f1, wrap64 ((wrap64 (x1 + 1)) + 1), (rd_T54 y103 x5).f3, (rd_T54 y103 x5).f4, (rd_T54 y103 x5).f5⟩ : S54) : List (S54))).bind fun y104 => ((some (y104.set (x5 : Int).toNat (⟨(rd_T54 y104 x5).f0, (rd_T54 y104 x5).f1, (rd_T54 y104 x5).f2, wrap64 ((wrap64 ((wrap64 (x1 + 1)) + 1)) + 1), (rd_T54 y104 x5).f4, (rd_T54 y104 x5).f5⟩ : S54) : List (S54))).bind fun y105 => ((some (y105.set (x5 : Int).toNat (⟨(rd_T54 y105 x5).f0, (rd_T54 y105 x5).f1, (rd_T54 y105 x5).f2, (rd_T54 y105 x5).f3, wrap64 ((wrap64 ((wrap64 ((wrap64 (x1 + 1)) + 1)) + 1)) + 1), (rd_T54 y105 x5).f5⟩ : S54) : List (S54))).bind fun y106 => (laws_markStripMoveS.l0 k (y106.set (x5 : Int).toNat (⟨(rd_T54 y106 x5).f0, (rd_T54 y106 x5).f1, (rd_T54 y106 x5).f2, (rd_T54 y106 x5).f3, (rd_T54 y106 x5).f4, wrap64 ((wrap64 ((wrap64 ((wrap64 ((wrap64 (x1 + 1)) + 1)) + 1)) + 1)) + 1)⟩ : S54)) (wrap64 ((wrap64 ((wrap64 ((wrap64 ((wrap64 ((wrap64 (x1 + 1)) + 1)) + 1)) + 1)) + 1)) + 1)) (wrap64 (x5 + 1)))))))) else (none))) else (some (x1, x0))
def laws_markStripMoveS.f (k : Nat) (l0 : List (S54)) (a1 : Int) : Option (Int × (List (S54))) := laws_markStripMoveS.l0 k l0 a1 0
theorem laws_markStripMoveS.mono_l : ∀ k, (∀ y0 y1 y2, LeO (laws_markStripMoveS.l0 k y0 y1 y2) (laws_markStripMoveS.l0 (k + 1) y0 y1 y2))
 | 0 => fun _ _ _ r h => by simp [laws_markStripMoveS.l0] at h
 | k + 1 => by
  have ih0 := laws_markStripMoveS.mono_l k
  ·intro y0 y1 y2
   unfold laws_markStripMoveS.l0
   repeat' first
   | (with_reducible exact ih0 _ _ _)
   | (with_reducible exact laws_markText.mono _ _)
   | (with_reducible exact LeO.refl _)
   | (with_reducible exact LeO.none _)
   | (with_reducible refine LeO.ite ?_ ?_)
   | (with_reducible refine LeO.bind ?_ (fun _ => ?_))
   | exact ih0 _ _ _
   | exact laws_markText.mono _ _
   | exact LeO.none _
   | refine LeO.ite ?_ ?_
   | refine LeO.bind ?_ (fun _ => ?_)
theorem laws_markStripMoveS.mono : ∀ a0 a1 k, LeO (laws_markStripMoveS.f k a0 a1) (laws_markStripMoveS.f (k + 1) a0 a1) := by
 intro a0 a1 k
 have ih0 := laws_markStripMoveS.mono_l k
 unfold laws_markStripMoveS.f
 repeat' first
   | (with_reducible exact ih0 _ _ _)
   | (with_reducible exact laws_markText.mono _ _)
   | (with_reducible exact LeO.refl _)
   | (with_reducible exact LeO.none _)
   | (with_reducible refine LeO.ite ?_ ?_)
   | (with_reducible refine LeO.bind ?_ (fun _ => ?_))
   | exact ih0 _ _ _
   | exact laws_markText.mono _ _
   | exact LeO.none _
   | refine LeO.ite ?_ ?_
   | refine LeO.bind ?_ (fun _ => ?_)
set_option maxHeartbeats 8000000 in
set_option maxRecDepth 100000 in
theorem laws_markStripMoveS.calls (k : Nat) (P0_ : Nat → Prop) (u9000_ : Value) (l0 : List (S54)) (a1 : Int) (r1 : Int) (r2 : List (S54)) (w0 w : World) (hB : Below w0.heap.size w0 w) (ho0 : Kd.R k54 54 w w0.heap.size P0_ u9000_ l0) (h : laws_markStripMoveS.f k l0 a1 = some (r1, r2)) :
  Calls Try.prog 31 #[u9000_, .int .i64 a1] w fun e w' => e = .returned (.int .i64 r1) ∧ Kd.R k54 54 w' w0.heap.size (fun k_ => (P0_ k_ ∨ w.heap.size ≤ k_)) u9000_ r2 ∧ Below w0.heap.size w0 w' ∧ Kept w w' (fun k_ => P0_ k_) := by
 have HO0 := Aside0.mk (show Kd.R k54 54 w w0.heap.size (fun k_ => (P0_ k_ ∨ w.heap.size ≤ k_)) u9000_ l0 from Kd.R_mono ho0 (fun k_ hk => (.inl hk)))
 have HK := Aside0.mk (Kept.refl w (fun k_ => P0_ k_))
 have HW0 := Aside0.mk hB.size
 have HB := Aside0.mk hB
 clear hB
 have H : (laws_markStripMoveS.l0 k l0 a1 0) = some (r1, r2) := h
 clear h
 have H' := Aside0.mk H
 clear H
 go_enter Try.func31, Try.ntmps31
 go_wp2
 go_loopg [1, 5] k (fun kq v1 v5 w' => ∃ (x0_1 : List (S54)) (x1_1 : Int) (x5_1 : Int), v1 = .int .i64 x1_1 ∧ v5 = .int .i64 x5_1 ∧ Aside0 (laws_markStripMoveS.l0 kq x0_1 x1_1 x5_1 = some (r1, r2)) ∧ Aside0 (kq ≤ k) ∧ Aside0 (Kd.R k54 54 w' w0.heap.size (fun k_ => (P0_ k_ ∨ w.heap.size ≤ k_)) u9000_ x0_1) ∧ Aside0 (Kept w w' (fun k_ => P0_ k_)) ∧ Aside0 (Below w0.heap.size w0 w'))
 case atStart => exact ⟨(l0), (a1), (0), (by first | rfl | (simp; done) | (simp [*]; done)), (by first | rfl | (simp; done) | (simp [*]; done)), H', ⟨Nat.le_refl _⟩, ⟨er HO0.out⟩, ⟨by repeat (first | (with_reducible first | exact HK.out | apply Kept.alloc | apply Kept.drewN | apply Kept.drew) | exact HK.out)⟩, ⟨eb HB.out⟩⟩
 case round =>
  clear H'
  try clear p2
  obtain ⟨x0_1, x1_1, x5_1, rfl, rfl, HA, HK1, HO_0, HK, HB⟩ := hrel
  cases gk with
  | zero => exact absurd HA.out (by simp [laws_markStripMoveS.l0])
  | succ k1 =>
   have H := HA.out
   clear HA
   simp only [laws_markStripMoveS.l0] at H
   by_cases c3 : x5_1 < (x0_1.length : Int)
   ·rw [if_pos c3] at H
    have c3b0 : decide (x5_1 < (x0_1.length : Int)) = true := decide_eq_true c3
    clear c3
    replace H := Option.bind_eq_some_iff.mp H
    obtain ⟨t101, A40, H⟩ := H
    replace H : (if 0 ≤ x5_1 then ((some (x0_1.set (x5_1 : Int).toNat (⟨t101, (rd_T54 x0_1 x5_1).f1, (rd_T54 x0_1 x5_1).f2, (rd_T54 x0_1 x5_1).f3, (rd_T54 x0_1 x5_1).f4, (rd_T54 x0_1 x5_1).f5⟩ : S54) : List (S54))).bind fun y102 => ((some (y102.set (x5_1 : Int).toNat (⟨(rd_T54 y102 x5_1).f0, ((Int.tmod (wrap64 (x1_1 + 1)) 3) == 0), (rd_T54 y102 x5_1).f2, (rd_T54 y102 x5_1).f3, (rd_T54 y102 x5_1).f4, (rd_T54 y102 x5_1).f5⟩ : S54) : List (S54))).bind fun y103 => ((some (y103.set (x5_1 : Int).toNat (⟨(rd_T54 y103 x5_1).f0, (rd_T54 y103 x5_1).f1, wrap64 ((wrap64 (x1_1 + 1)) + 1), (rd_T54 y103 x5_1).f3, (rd_T54 y103 x5_1).f4, (rd_T54 y103 x5_1).f5⟩ : S54) : List (S54))).bind fun y104 => ((some (y104.set (x5_1 : Int).toNat (⟨(rd_T54 y104 x5_1).f0, (rd_T54 y104 x5_1).f1, (rd_T54 y104 x5_1).f2, wrap64 ((wrap64 ((wrap64 (x1_1 + 1)) + 1)) + 1), (rd_T54 y104 x5_1).f4, (rd_T54 y104 x5_1).f5⟩ : S54) : List (S54))).bind fun y105 => ((some (y105.set (x5_1 : Int).toNat (⟨(rd_T54 y105 x5_1).f0, (rd_T54 y105 x5_1).f1, (rd_T54 y105 x5_1).f2, (rd_T54 y105 x5_1).f3, wrap64 ((wrap64 ((wrap64 ((wrap64 (x1_1 + 1)) + 1)) + 1)) + 1), (rd_T54 y105 x5_1).f5⟩ : S54) : List (S54))).bind fun y106 => (laws_markStripMoveS.l0 k1 (y106.set (x5_1 : Int).toNat (⟨(rd_T54 y106 x5_1).f0, (rd_T54 y106 x5_1).f1, (rd_T54 y106 x5_1).f2, (rd_T54 y106 x5_1).f3, (rd_T54 y106 x5_1).f4, wrap64 ((wrap64 ((wrap64 ((wrap64 ((wrap64 (x1_1 + 1)) + 1)) + 1)) + 1)) + 1)⟩ : S54)) (wrap64 ((wrap64 ((wrap64 ((wrap64 ((wrap64 ((wrap64 (x1_1 + 1)) + 1)) + 1)) + 1)) + 1)) + 1)) (wrap64 (x5_1 + 1)))))))) else (none)) = some (r1, r2) := H
    have A4 := Aside0.mk A40
    clear A40
    by_cases c5 : 0 ≤ x5_1
    ·rw [if_pos c5] at H
     have c5b0 : decide (0 ≤ x5_1) = true := decide_eq_true c5
     clear c5
     obtain ⟨y102, hy102⟩ : ∃ y_ : List (S54), y_ = (x0_1.set (x5_1 : Int).toNat (⟨t101, (rd_T54 x0_1 x5_1).f1, (rd_T54 x0_1 x5_1).f2, (rd_T54 x0_1 x5_1).f3, (rd_T54 x0_1 x5_1).f4, (rd_T54 x0_1 x5_1).f5⟩ : S54)) := ⟨_, rfl⟩
     replace H : ((some (y102.set (x5_1 : Int).toNat (⟨(rd_T54 y102 x5_1).f0, ((Int.tmod (wrap64 (x1_1 + 1)) 3) == 0), (rd_T54 y102 x5_1).f2, (rd_T54 y102 x5_1).f3, (rd_T54 y102 x5_1).f4, (rd_T54 y102 x5_1).f5⟩ : S54) : List (S54))).bind fun y103 => ((some (y103.set (x5_1 : Int).toNat (⟨(rd_T54 y103 x5_1).f0, (rd_T54 y103 x5_1).f1, wrap64 ((wrap64 (x1_1 + 1)) + 1), (rd_T54 y103 x5_1).f3, (rd_T54 y103 x5_1).f4, (rd_T54 y103 x5_1).f5⟩ : S54) : List (S54))).bind fun y104 => ((some (y104.set (x5_1 : Int).toNat (⟨(rd_T54 y104 x5_1).f0, (rd_T54 y104 x5_1).f1, (rd_T54 y104 x5_1).f2, wrap64 ((wrap64 ((wrap64 (x1_1 + 1)) + 1)) + 1), (rd_T54 y104 x5_1).f4, (rd_T54 y104 x5_1).f5⟩ : S54) : List (S54))).bind fun y105 => ((some (y105.set (x5_1 : Int).toNat (⟨(rd_T54 y105 x5_1).f0, (rd_T54 y105 x5_1).f1, (rd_T54 y105 x5_1).f2, (rd_T54 y105 x5_1).f3, wrap64 ((wrap64 ((wrap64 ((wrap64 (x1_1 + 1)) + 1)) + 1)) + 1), (rd_T54 y105 x5_1).f5⟩ : S54) : List (S54))).bind fun y106 => (laws_markStripMoveS.l0 k1 (y106.set (x5_1 : Int).toNat (⟨(rd_T54 y106 x5_1).f0, (rd_T54 y106 x5_1).f1, (rd_T54 y106 x5_1).f2, (rd_T54 y106 x5_1).f3, (rd_T54 y106 x5_1).f4, wrap64 ((wrap64 ((wrap64 ((wrap64 ((wrap64 (x1_1 + 1)) + 1)) + 1)) + 1)) + 1)⟩ : S54)) (wrap64 ((wrap64 ((wrap64 ((wrap64 ((wrap64 ((wrap64 (x1_1 + 1)) + 1)) + 1)) + 1)) + 1)) + 1)) (wrap64 (x5_1 + 1))))))) = some (r1, r2) := by first | (rw [hy102]; with_reducible exact H) | (have H2_ := (Option.bind_some _ _).symm.trans H; rw [hy102]; with_reducible exact H2_) | (have H2_ := (Option.bind_some _ _).symm.trans H; with_reducible exact H2_) | with_reducible exact H | (rw [hy102]; exact H) | exact H
     have Ny102 := Aside0.mk hy102
     clear hy102
     obtain ⟨y103, hy103⟩ : ∃ y_ : List (S54), y_ = (y102.set (x5_1 : Int).toNat (⟨(rd_T54 y102 x5_1).f0, ((Int.tmod (wrap64 (x1_1 + 1)) 3) == 0), (rd_T54 y102 x5_1).f2, (rd_T54 y102 x5_1).f3, (rd_T54 y102 x5_1).f4, (rd_T54 y102 x5_1).f5⟩ : S54)) := ⟨_, rfl⟩
     replace H : ((some (y103.set (x5_1 : Int).toNat (⟨(rd_T54 y103 x5_1).f0, (rd_T54 y103 x5_1).f1, wrap64 ((wrap64 (x1_1 + 1)) + 1), (rd_T54 y103 x5_1).f3, (rd_T54 y103 x5_1).f4, (rd_T54 y103 x5_1).f5⟩ : S54) : List (S54))).bind fun y104 => ((some (y104.set (x5_1 : Int).toNat (⟨(rd_T54 y104 x5_1).f0, (rd_T54 y104 x5_1).f1, (rd_T54 y104 x5_1).f2, wrap64 ((wrap64 ((wrap64 (x1_1 + 1)) + 1)) + 1), (rd_T54 y104 x5_1).f4, (rd_T54 y104 x5_1).f5⟩ : S54) : List (S54))).bind fun y105 => ((some (y105.set (x5_1 : Int).toNat (⟨(rd_T54 y105 x5_1).f0, (rd_T54 y105 x5_1).f1, (rd_T54 y105 x5_1).f2, (rd_T54 y105 x5_1).f3, wrap64 ((wrap64 ((wrap64 ((wrap64 (x1_1 + 1)) + 1)) + 1)) + 1), (rd_T54 y105 x5_1).f5⟩ : S54) : List (S54))).bind fun y106 => (laws_markStripMoveS.l0 k1 (y106.set (x5_1 : Int).toNat (⟨(rd_T54 y106 x5_1).f0, (rd_T54 y106 x5_1).f1, (rd_T54 y106 x5_1).f2, (rd_T54 y106 x5_1).f3, (rd_T54 y106 x5_1).f4, wrap64 ((wrap64 ((wrap64 ((wrap64 ((wrap64 (x1_1 + 1)) + 1)) + 1)) + 1)) + 1)⟩ : S54)) (wrap64 ((wrap64 ((wrap64 ((wrap64 ((wrap64 ((wrap64 (x1_1 + 1)) + 1)) + 1)) + 1)) + 1)) + 1)) (wrap64 (x5_1 + 1)))))) = some (r1, r2) := by first | (rw [hy103]; with_reducible exact H) | (have H2_ := (Option.bind_some _ _).symm.trans H; rw [hy103]; with_reducible exact H2_) | (have H2_ := (Option.bind_some _ _).symm.trans H; with_reducible exact H2_) | with_reducible exact H | (rw [hy103]; exact H) | exact H
     have Ny103 := Aside0.mk hy103
     clear hy103
     obtain ⟨y104, hy104⟩ : ∃ y_ : List (S54), y_ = (y103.set (x5_1 : Int).toNat (⟨(rd_T54 y103 x5_1).f0, (rd_T54 y103 x5_1).f1, wrap64 ((wrap64 (x1_1 + 1)) + 1), (rd_T54 y103 x5_1).f3, (rd_T54 y103 x5_1).f4, (rd_T54 y103 x5_1).f5⟩ : S54)) := ⟨_, rfl⟩
     replace H : ((some (y104.set (x5_1 : Int).toNat (⟨(rd_T54 y104 x5_1).f0, (rd_T54 y104 x5_1).f1, (rd_T54 y104 x5_1).f2, wrap64 ((wrap64 ((wrap64 (x1_1 + 1)) + 1)) + 1), (rd_T54 y104 x5_1).f4, (rd_T54 y104 x5_1).f5⟩ : S54) : List (S54))).bind fun y105 => ((some (y105.set (x5_1 : Int).toNat (⟨(rd_T54 y105 x5_1).f0, (rd_T54 y105 x5_1).f1, (rd_T54 y105 x5_1).f2, (rd_T54 y105 x5_1).f3, wrap64 ((wrap64 ((wrap64 ((wrap64 (x1_1 + 1)) + 1)) + 1)) + 1), (rd_T54 y105 x5_1).f5⟩ : S54) : List (S54))).bind fun y106 => (laws_markStripMoveS.l0 k1 (y106.set (x5_1 : Int).toNat (⟨(rd_T54 y106 x5_1).f0, (rd_T54 y106 x5_1).f1, (rd_T54 y106 x5_1).f2, (rd_T54 y106 x5_1).f3, (rd_T54 y106 x5_1).f4, wrap64 ((wrap64 ((wrap64 ((wrap64 ((wrap64 (x1_1 + 1)) + 1)) + 1)) + 1)) + 1)⟩ : S54)) (wrap64 ((wrap64 ((wrap64 ((wrap64 ((wrap64 ((wrap64 (x1_1 + 1)) + 1)) + 1)) + 1)) + 1)) + 1)) (wrap64 (x5_1 + 1))))) = some (r1, r2) := by first | (rw [hy104]; with_reducible exact H) | (have H2_ := (Option.bind_some _ _).symm.trans H; rw [hy104]; with_reducible exact H2_) | (have H2_ := (Option.bind_some _ _).symm.trans H; with_reducible exact H2_) | with_reducible exact H | (rw [hy104]; exact H) | exact H
     have Ny104 := Aside0.mk hy104
     clear hy104
     obtain ⟨y105, hy105⟩ : ∃ y_ : List (S54), y_ = (y104.set (x5_1 : Int).toNat (⟨(rd_T54 y104 x5_1).f0, (rd_T54 y104 x5_1).f1, (rd_T54 y104 x5_1).f2, wrap64 ((wrap64 ((wrap64 (x1_1 + 1)) + 1)) + 1), (rd_T54 y104 x5_1).f4, (rd_T54 y104 x5_1).f5⟩ : S54)) := ⟨_, rfl⟩
     replace H : ((some (y105.set (x5_1 : Int).toNat (⟨(rd_T54 y105 x5_1).f0, (rd_T54 y105 x5_1).f1, (rd_T54 y105 x5_1).f2, (rd_T54 y105 x5_1).f3, wrap64 ((wrap64 ((wrap64 ((wrap64 (x1_1 + 1)) + 1)) + 1)) + 1), (rd_T54 y105 x5_1).f5⟩ : S54) : List (S54))).bind fun y106 => (laws_markStripMoveS.l0 k1 (y106.set (x5_1 : Int).toNat (⟨(rd_T54 y106 x5_1).f0, (rd_T54 y106 x5_1).f1, (rd_T54 y106 x5_1).f2, (rd_T54 y106 x5_1).f3, (rd_T54 y106 x5_1).f4, wrap64 ((wrap64 ((wrap64 ((wrap64 ((wrap64 (x1_1 + 1)) + 1)) + 1)) + 1)) + 1)⟩ : S54)) (wrap64 ((wrap64 ((wrap64 ((wrap64 ((wrap64 ((wrap64 (x1_1 + 1)) + 1)) + 1)) + 1)) + 1)) + 1)) (wrap64 (x5_1 + 1)))) = some (r1, r2) := by first | (rw [hy105]; with_reducible exact H) | (have H2_ := (Option.bind_some _ _).symm.trans H; rw [hy105]; with_reducible exact H2_) | (have H2_ := (Option.bind_some _ _).symm.trans H; with_reducible exact H2_) | with_reducible exact H | (rw [hy105]; exact H) | exact H
     have Ny105 := Aside0.mk hy105
     clear hy105
     obtain ⟨y106, hy106⟩ : ∃ y_ : List (S54), y_ = (y105.set (x5_1 : Int).toNat (⟨(rd_T54 y105 x5_1).f0, (rd_T54 y105 x5_1).f1, (rd_T54 y105 x5_1).f2, (rd_T54 y105 x5_1).f3, wrap64 ((wrap64 ((wrap64 ((wrap64 (x1_1 + 1)) + 1)) + 1)) + 1), (rd_T54 y105 x5_1).f5⟩ : S54)) := ⟨_, rfl⟩
     replace H : (laws_markStripMoveS.l0 k1 (y106.set (x5_1 : Int).toNat (⟨(rd_T54 y106 x5_1).f0, (rd_T54 y106 x5_1).f1, (rd_T54 y106 x5_1).f2, (rd_T54 y106 x5_1).f3, (rd_T54 y106 x5_1).f4, wrap64 ((wrap64 ((wrap64 ((wrap64 ((wrap64 (x1_1 + 1)) + 1)) + 1)) + 1)) + 1)⟩ : S54)) (wrap64 ((wrap64 ((wrap64 ((wrap64 ((wrap64 ((wrap64 (x1_1 + 1)) + 1)) + 1)) + 1)) + 1)) + 1)) (wrap64 (x5_1 + 1))) = some (r1, r2) := by first | (rw [hy106]; with_reducible exact H) | (have H2_ := (Option.bind_some _ _).symm.trans H; rw [hy106]; with_reducible exact H2_) | (have H2_ := (Option.bind_some _ _).symm.trans H; with_reducible exact H2_) | with_reducible exact H | (rw [hy106]; exact H) | exact H
     have Ny106 := Aside0.mk hy106
     clear hy106
     obtain ⟨y107, hy107⟩ : ∃ y_ : List (S54), y_ = (y106.set (x5_1 : Int).toNat (⟨(rd_T54 y106 x5_1).f0, (rd_T54 y106 x5_1).f1, (rd_T54 y106 x5_1).f2, (rd_T54 y106 x5_1).f3, (rd_T54 y106 x5_1).f4, wrap64 ((wrap64 ((wrap64 ((wrap64 ((wrap64 (x1_1 + 1)) + 1)) + 1)) + 1)) + 1)⟩ : S54)) := ⟨_, rfl⟩
     replace H : (laws_markStripMoveS.l0 k1 y107 (wrap64 ((wrap64 ((wrap64 ((wrap64 ((wrap64 ((wrap64 (x1_1 + 1)) + 1)) + 1)) + 1)) + 1)) + 1)) (wrap64 (x5_1 + 1))) = some (r1, r2) := by first | (rw [hy107]; with_reducible exact H) | (have H2_ := (Option.bind_some _ _).symm.trans H; rw [hy107]; with_reducible exact H2_) | (have H2_ := (Option.bind_some _ _).symm.trans H; with_reducible exact H2_) | with_reducible exact H | (rw [hy107]; exact H) | exact H
     have Ny107 := Aside0.mk hy107
     clear hy107
     have H' := Aside0.mk H
     clear H
     obtain ⟨Ao12, co12, eo12⟩ := Kd.R_slice HO_0.out
     subst eo12
     go_wp2_with (first | ((with_reducible refine gate_callee (f := 63) rfl ?_); refine goesL_ (some 15) rfl rfl Try.func63 (by kernel_rfl) rfl #[.int .i64 x1_1] rfl (by (try simp only [List.map_toArray, List.map_cons, List.map_nil]); first | done | rfl | (simp only [List.length_drop, List.length_take]; rfl)) ?_; (with_reducible refine (laws_markText.calls k1 x1_1 t101 _ A4.out).mono ?_); rintro e w13 ⟨rfl, hb⟩; refine ⟨_, rfl, ?_⟩; have n0_ := Aside0.mk (Kd.R_below (er HO_0.out) hb); have n1_ := Aside0.mk (Kept.below (S := (fun k_ => P0_ k_)) (by repeat (first | (with_reducible first | exact HK.out | apply Kept.alloc | apply Kept.drewN | apply Kept.drew) | exact HK.out)) hb); have n2_ := Aside0.mk (below_step (eb HB.out) hb); clear HO_0; clear HK; clear HB; have HO_0 := n0_; have HK := n1_; have HB := n2_; clear n0_ n1_ n2_; (try clear hb); (try clear hb2); (try clear hk); (try clear hi); have p6 : 0 ≤ (x5_1 : Int) := of_decide_eq_true (by first | (with_reducible assumption) | assumption); have q6 : (x5_1 : Int) < ((x0_1.length : Int) : Int) := of_decide_eq_true (by first | (with_reducible assumption) | assumption); obtain ⟨go6, co6, eo6, gb6, gl6, cl6, HG6⟩ := Kd.R_form HO_0.out (by omega); (first | cases eo6 | (injection eo6 with ea_ en_ ec_; (first | subst ea_ | (injection ea_ with ea_; subst ea_)); subst ec_; clear en_)); have GB6 := Aside0.mk gb6; have GG6 := Aside0.mk HG6; clear gb6 gl6 HG6; have HMgo6 := Aside0.mk (show (P0_ go6 ∨ w.heap.size ≤ go6) from (HO_0.out.1 _ rfl)); obtain ⟨ce6, hcl6, hM6, hcc6, hfr6⟩ := Kd.R_elem HO_0.out z54 (x5_1 : Int) p6 q6; obtain rfl := k54_openM hM6; have hx6_0 : w13.cell? ⟨go6, (x5_1 : Int).toNat * 6, none⟩ = some (.string ((rd_T54 x0_1 x5_1).f0)) := hcc6 0 _ rfl; have hx6_1 : w13.cell? ⟨go6, (x5_1 : Int).toNat * 6 + 1, none⟩ = some (.bool ((rd_T54 x0_1 x5_1).f1)) := hcc6 1 _ rfl; have hx6_2 : w13.cell? ⟨go6, (x5_1 : Int).toNat * 6 + 2, none⟩ = some (.int .i64 ((rd_T54 x0_1 x5_1).f2)) := hcc6 2 _ rfl; have hx6_3 : w13.cell? ⟨go6, (x5_1 : Int).toNat * 6 + 3, none⟩ = some (.int .i64 ((rd_T54 x0_1 x5_1).f3)) := hcc6 3 _ rfl; have hx6_4 : w13.cell? ⟨go6, (x5_1 : Int).toNat * 6 + 4, none⟩ = some (.int .i64 ((rd_T54 x0_1 x5_1).f4)) := hcc6 4 _ rfl; have hx6_5 : w13.cell? ⟨go6, (x5_1 : Int).toNat * 6 + 5, none⟩ = some (.int .i64 ((rd_T54 x0_1 x5_1).f5)) := hcc6 5 _ rfl; have hf6_0 : w13.frozen? ⟨go6, (x5_1 : Int).toNat * 6, none⟩ = false := hfr6 0; have hf6_1 : w13.frozen? ⟨go6, (x5_1 : Int).toNat * 6 + 1, none⟩ = false := hfr6 1; have hf6_2 : w13.frozen? ⟨go6, (x5_1 : Int).toNat * 6 + 2, none⟩ = false := hfr6 2; have hf6_3 : w13.frozen? ⟨go6, (x5_1 : Int).toNat * 6 + 3, none⟩ = false := hfr6 3; have hf6_4 : w13.frozen? ⟨go6, (x5_1 : Int).toNat * 6 + 4, none⟩ = false := hfr6 4; have hf6_5 : w13.frozen? ⟨go6, (x5_1 : Int).toNat * 6 + 5, none⟩ = false := hfr6 5; clear hcl6 hcc6 hfr6 hM6; replace p6 := eq_true p6; replace q6 := eq_true q6; have HX14 := Aside0.mk (show Kd.R k54 54 w13 w0.heap.size (fun k_ => (P0_ k_ ∨ w.heap.size ≤ k_)) (.slice (some ⟨go6, 0, none⟩) x0_1.length co12) x0_1 from (er HO_0.out)); obtain ⟨ce14, hcl14, hM14, hcc14, hfr14⟩ := Kd.R_elem HX14.out z54 (x5_1 : Int) (of_decide_eq_true (by first | (with_reducible assumption) | assumption)) (by have h_ : (x5_1 : Int) < ((x0_1.length : Int) : Int) := of_decide_eq_true (by first | (with_reducible assumption) | assumption); first | exact h_ | (have e_ := (Kd.R_reads' HO_0.out).1; omega) | simpa using h_); obtain rfl := k54_openM hM14; have HP14 := Kd.R_seg HX14.out (x5_1 : Int) (of_decide_eq_true (by first | (with_reducible assumption) | assumption)) (by have h_ : (x5_1 : Int) < ((x0_1.length : Int) : Int) := of_decide_eq_true (by first | (with_reducible assumption) | assumption); first | exact h_ | (have e_ := (Kd.R_reads' HO_0.out).1; omega) | simpa using h_) (seg := [.string t101]) (j := 0) hcl14 hcc14 (show 1 ≤ 6 from by decide) (x' := (⟨t101, (rd_T54 x0_1 x5_1).f1, (rd_T54 x0_1 x5_1).f2, (rd_T54 x0_1 x5_1).f3, (rd_T54 x0_1 x5_1).f4, (rd_T54 x0_1 x5_1).f5⟩ : S54)) (k54_mkM _ _ _ (⟨t101, (rd_T54 x0_1 x5_1).f1, (rd_T54 x0_1 x5_1).f2, (rd_T54 x0_1 x5_1).f3, (rd_T54 x0_1 x5_1).f4, (rd_T54 x0_1 x5_1).f5⟩ : S54) ) (fun _ hk => hk); have hx14_0 := hcc14 0 _ rfl; (try simp only [show (k54).sz = 6 from rfl, Nat.mul_one, Nat.add_zero] at hx14_0); have hf14_0 := hfr14 0; (try simp only [show (k54).sz = 6 from rfl, Nat.mul_one, Nat.add_zero] at hf14_0); clear hcl14 hcc14 hfr14 hM14) | ((with_reducible refine gate_store (t := 9) (p := 17) rfl ?_); refine store_event (t := 9) (p := 17) (v := ?vo_w15) (w1 := (w13.setCell ⟨go6, (x5_1 : Int).toNat * 6, none⟩ (.string t101))) ?hg ?ho ?hn ?hr ?_; (case ho => rfl); (case hg => rfl); (case hn => rfl); (case hr => first | (go_simp; done) | (go_simp; rfl)); intro w15 hw; have hg : w13.grownBy w15 (some go6) := (by rw [hw]; exact HP14.2); have hp_ : Kd.R k54 54 w15 w0.heap.size (fun k_ => (P0_ k_ ∨ w.heap.size ≤ k_)) (.slice (some ⟨go6, 0, none⟩) x0_1.length co12) y102 := (by rw [hw, Ny102.out]; exact HP14.1); clear HP14; have n0_ := Aside0.mk (hp_); have n1_ := Aside0.mk ((by rw [hw]; exact below_set (HB.out) GB6.out : Below w0.heap.size w0 w15)); have n2_ := Aside0.mk (Kept.of_grown (S := (fun k_ => P0_ k_)) hg (by repeat (first | (with_reducible first | exact HK.out | apply Kept.alloc | apply Kept.drewN | apply Kept.drew) | exact HK.out)) (fun k_ e_ => (HO_0.out.1 k_ e_))); clear HO_0; clear HB; clear HK; have HO_0 := n0_; have HB := n1_; have HK := n2_; clear n0_ n1_ n2_; clear hg hw hp_; have p7 : 0 ≤ (x5_1 : Int) := of_decide_eq_true (by first | (with_reducible assumption) | assumption); have q7 : (x5_1 : Int) < ((x0_1.length : Int) : Int) := of_decide_eq_true (by first | (with_reducible assumption) | assumption); obtain ⟨ce7, hcl7, hM7, hcc7, hfr7⟩ := Kd.R_elem HO_0.out z54 (x5_1 : Int) p7 q7; obtain rfl := k54_openM hM7; have hx7_0 : w15.cell? ⟨go6, (x5_1 : Int).toNat * 6, none⟩ = some (.string ((rd_T54 y102 x5_1).f0)) := hcc7 0 _ rfl; have hx7_1 : w15.cell? ⟨go6, (x5_1 : Int).toNat * 6 + 1, none⟩ = some (.bool ((rd_T54 y102 x5_1).f1)) := hcc7 1 _ rfl; have hx7_2 : w15.cell? ⟨go6, (x5_1 : Int).toNat * 6 + 2, none⟩ = some (.int .i64 ((rd_T54 y102 x5_1).f2)) := hcc7 2 _ rfl; have hx7_3 : w15.cell? ⟨go6, (x5_1 : Int).toNat * 6 + 3, none⟩ = some (.int .i64 ((rd_T54 y102 x5_1).f3)) := hcc7 3 _ rfl; have hx7_4 : w15.cell? ⟨go6, (x5_1 : Int).toNat * 6 + 4, none⟩ = some (.int .i64 ((rd_T54 y102 x5_1).f4)) := hcc7 4 _ rfl; have hx7_5 : w15.cell? ⟨go6, (x5_1 : Int).toNat * 6 + 5, none⟩ = some (.int .i64 ((rd_T54 y102 x5_1).f5)) := hcc7 5 _ rfl; have hf7_0 : w15.frozen? ⟨go6, (x5_1 : Int).toNat * 6, none⟩ = false := hfr7 0; have hf7_1 : w15.frozen? ⟨go6, (x5_1 : Int).toNat * 6 + 1, none⟩ = false := hfr7 1; have hf7_2 : w15.frozen? ⟨go6, (x5_1 : Int).toNat * 6 + 2, none⟩ = false := hfr7 2; have hf7_3 : w15.frozen? ⟨go6, (x5_1 : Int).toNat * 6 + 3, none⟩ = false := hfr7 3; have hf7_4 : w15.frozen? ⟨go6, (x5_1 : Int).toNat * 6 + 4, none⟩ = false := hfr7 4; have hf7_5 : w15.frozen? ⟨go6, (x5_1 : Int).toNat * 6 + 5, none⟩ = false := hfr7 5; clear hcl7 hcc7 hfr7 hM7; replace p7 := eq_true p7; replace q7 := eq_true q7; have HX16 := Aside0.mk (show Kd.R k54 54 w15 w0.heap.size (fun k_ => (P0_ k_ ∨ w.heap.size ≤ k_)) (.slice (some ⟨go6, 0, none⟩) x0_1.length co12) y102 from (er HO_0.out)); obtain ⟨ce16, hcl16, hM16, hcc16, hfr16⟩ := Kd.R_elem HX16.out z54 (x5_1 : Int) (of_decide_eq_true (by first | (with_reducible assumption) | assumption)) (by have h_ : (x5_1 : Int) < ((x0_1.length : Int) : Int) := of_decide_eq_true (by first | (with_reducible assumption) | assumption); first | exact h_ | (have e_ := (Kd.R_reads' HO_0.out).1; omega) | simpa using h_); obtain rfl := k54_openM hM16; have HP16 := Kd.R_seg HX16.out (x5_1 : Int) (of_decide_eq_true (by first | (with_reducible assumption) | assumption)) (by have h_ : (x5_1 : Int) < ((x0_1.length : Int) : Int) := of_decide_eq_true (by first | (with_reducible assumption) | assumption); first | exact h_ | (have e_ := (Kd.R_reads' HO_0.out).1; omega) | simpa using h_) (seg := [.bool ((Int.tmod (wrap64 (x1_1 + 1)) 3) == 0)]) (j := 1) hcl16 hcc16 (show 2 ≤ 6 from by decide) (x' := (⟨(rd_T54 y102 x5_1).f0, ((Int.tmod (wrap64 (x1_1 + 1)) 3) == 0), (rd_T54 y102 x5_1).f2, (rd_T54 y102 x5_1).f3, (rd_T54 y102 x5_1).f4, (rd_T54 y102 x5_1).f5⟩ : S54)) (k54_mkM _ _ _ (⟨(rd_T54 y102 x5_1).f0, ((Int.tmod (wrap64 (x1_1 + 1)) 3) == 0), (rd_T54 y102 x5_1).f2, (rd_T54 y102 x5_1).f3, (rd_T54 y102 x5_1).f4, (rd_T54 y102 x5_1).f5⟩ : S54) ) (fun _ hk => hk); have hx16_1 := hcc16 1 _ rfl; (try simp only [show (k54).sz = 6 from rfl, Nat.mul_one, Nat.add_zero] at hx16_1); have hf16_1 := hfr16 1; (try simp only [show (k54).sz = 6 from rfl, Nat.mul_one, Nat.add_zero] at hf16_1); clear hcl16 hcc16 hfr16 hM16) | ((with_reducible refine gate_store (t := 4) (p := 26) rfl ?_); refine store_event (t := 4) (p := 26) (v := ?vo_w17) (w1 := (w15.setCell ⟨go6, (x5_1 : Int).toNat * 6 + 1, none⟩ (.bool ((Int.tmod (wrap64 (x1_1 + 1)) 3) == 0)))) ?hg ?ho ?hn ?hr ?_; (case ho => rfl); (case hg => rfl); (case hn => rfl); (case hr => first | (go_simp; done) | (go_simp; rfl)); intro w17 hw; have hg : w15.grownBy w17 (some go6) := (by rw [hw]; exact HP16.2); have hp_ : Kd.R k54 54 w17 w0.heap.size (fun k_ => (P0_ k_ ∨ w.heap.size ≤ k_)) (.slice (some ⟨go6, 0, none⟩) x0_1.length co12) y103 := (by rw [hw, Ny103.out]; exact HP16.1); clear HP16; have n0_ := Aside0.mk (hp_); have n1_ := Aside0.mk ((by rw [hw]; exact below_set (HB.out) GB6.out : Below w0.heap.size w0 w17)); have n2_ := Aside0.mk (Kept.of_grown (S := (fun k_ => P0_ k_)) hg (by repeat (first | (with_reducible first | exact HK.out | apply Kept.alloc | apply Kept.drewN | apply Kept.drew) | exact HK.out)) (fun k_ e_ => (HO_0.out.1 k_ e_))); clear HO_0; clear HB; clear HK; have HO_0 := n0_; have HB := n1_; have HK := n2_; clear n0_ n1_ n2_; clear hg hw hp_; have p8 : 0 ≤ (x5_1 : Int) := of_decide_eq_true (by first | (with_reducible assumption) | assumption); have q8 : (x5_1 : Int) < ((x0_1.length : Int) : Int) := of_decide_eq_true (by first | (with_reducible assumption) | assumption); obtain ⟨ce8, hcl8, hM8, hcc8, hfr8⟩ := Kd.R_elem HO_0.out z54 (x5_1 : Int) p8 q8; obtain rfl := k54_openM hM8; have hx8_0 : w17.cell? ⟨go6, (x5_1 : Int).toNat * 6, none⟩ = some (.string ((rd_T54 y103 x5_1).f0)) := hcc8 0 _ rfl; have hx8_1 : w17.cell? ⟨go6, (x5_1 : Int).toNat * 6 + 1, none⟩ = some (.bool ((rd_T54 y103 x5_1).f1)) := hcc8 1 _ rfl; have hx8_2 : w17.cell? ⟨go6, (x5_1 : Int).toNat * 6 + 2, none⟩ = some (.int .i64 ((rd_T54 y103 x5_1).f2)) := hcc8 2 _ rfl; have hx8_3 : w17.cell? ⟨go6, (x5_1 : Int).toNat * 6 + 3, none⟩ = some (.int .i64 ((rd_T54 y103 x5_1).f3)) := hcc8 3 _ rfl; have hx8_4 : w17.cell? ⟨go6, (x5_1 : Int).toNat * 6 + 4, none⟩ = some (.int .i64 ((rd_T54 y103 x5_1).f4)) := hcc8 4 _ rfl; have hx8_5 : w17.cell? ⟨go6, (x5_1 : Int).toNat * 6 + 5, none⟩ = some (.int .i64 ((rd_T54 y103 x5_1).f5)) := hcc8 5 _ rfl; have hf8_0 : w17.frozen? ⟨go6, (x5_1 : Int).toNat * 6, none⟩ = false := hfr8 0; have hf8_1 : w17.frozen? ⟨go6, (x5_1 : Int).toNat * 6 + 1, none⟩ = false := hfr8 1; have hf8_2 : w17.frozen? ⟨go6, (x5_1 : Int).toNat * 6 + 2, none⟩ = false := hfr8 2; have hf8_3 : w17.frozen? ⟨go6, (x5_1 : Int).toNat * 6 + 3, none⟩ = false := hfr8 3; have hf8_4 : w17.frozen? ⟨go6, (x5_1 : Int).toNat * 6 + 4, none⟩ = false := hfr8 4; have hf8_5 : w17.frozen? ⟨go6, (x5_1 : Int).toNat * 6 + 5, none⟩ = false := hfr8 5; clear hcl8 hcc8 hfr8 hM8; replace p8 := eq_true p8; replace q8 := eq_true q8; have HX18 := Aside0.mk (show Kd.R k54 54 w17 w0.heap.size (fun k_ => (P0_ k_ ∨ w.heap.size ≤ k_)) (.slice (some ⟨go6, 0, none⟩) x0_1.length co12) y103 from (er HO_0.out)); obtain ⟨ce18, hcl18, hM18, hcc18, hfr18⟩ := Kd.R_elem HX18.out z54 (x5_1 : Int) (of_decide_eq_true (by first | (with_reducible assumption) | assumption)) (by have h_ : (x5_1 : Int) < ((x0_1.length : Int) : Int) := of_decide_eq_true (by first | (with_reducible assumption) | assumption); first | exact h_ | (have e_ := (Kd.R_reads' HO_0.out).1; omega) | simpa using h_); obtain rfl := k54_openM hM18; have HP18 := Kd.R_seg HX18.out (x5_1 : Int) (of_decide_eq_true (by first | (with_reducible assumption) | assumption)) (by have h_ : (x5_1 : Int) < ((x0_1.length : Int) : Int) := of_decide_eq_true (by first | (with_reducible assumption) | assumption); first | exact h_ | (have e_ := (Kd.R_reads' HO_0.out).1; omega) | simpa using h_) (seg := [.int .i64 (wrap64 ((wrap64 (x1_1 + 1)) + 1))]) (j := 2) hcl18 hcc18 (show 3 ≤ 6 from by decide) (x' := (⟨(rd_T54 y103 x5_1).f0, (rd_T54 y103 x5_1).f1, wrap64 ((wrap64 (x1_1 + 1)) + 1), (rd_T54 y103 x5_1).f3, (rd_T54 y103 x5_1).f4, (rd_T54 y103 x5_1).f5⟩ : S54)) (k54_mkM _ _ _ (⟨(rd_T54 y103 x5_1).f0, (rd_T54 y103 x5_1).f1, wrap64 ((wrap64 (x1_1 + 1)) + 1), (rd_T54 y103 x5_1).f3, (rd_T54 y103 x5_1).f4, (rd_T54 y103 x5_1).f5⟩ : S54) ) (fun _ hk => hk); have hx18_2 := hcc18 2 _ rfl; (try simp only [show (k54).sz = 6 from rfl, Nat.mul_one, Nat.add_zero] at hx18_2); have hf18_2 := hfr18 2; (try simp only [show (k54).sz = 6 from rfl, Nat.mul_one, Nat.add_zero] at hf18_2); clear hcl18 hcc18 hfr18 hM18) | ((with_reducible refine gate_store (t := 3) (p := 33) rfl ?_); refine store_event (t := 3) (p := 33) (v := ?vo_w19) (w1 := (w17.setCell ⟨go6, (x5_1 : Int).toNat * 6 + 2, none⟩ (.int .i64 (wrap64 ((wrap64 (x1_1 + 1)) + 1))))) ?hg ?ho ?hn ?hr ?_; (case ho => rfl); (case hg => rfl); (case hn => rfl); (case hr => first | (go_simp; done) | (go_simp; rfl)); intro w19 hw; have hg : w17.grownBy w19 (some go6) := (by rw [hw]; exact HP18.2); have hp_ : Kd.R k54 54 w19 w0.heap.size (fun k_ => (P0_ k_ ∨ w.heap.size ≤ k_)) (.slice (some ⟨go6, 0, none⟩) x0_1.length co12) y104 := (by rw [hw, Ny104.out]; exact HP18.1); clear HP18; have n0_ := Aside0.mk (hp_); have n1_ := Aside0.mk ((by rw [hw]; exact below_set (HB.out) GB6.out : Below w0.heap.size w0 w19)); have n2_ := Aside0.mk (Kept.of_grown (S := (fun k_ => P0_ k_)) hg (by repeat (first | (with_reducible first | exact HK.out | apply Kept.alloc | apply Kept.drewN | apply Kept.drew) | exact HK.out)) (fun k_ e_ => (HO_0.out.1 k_ e_))); clear HO_0; clear HB; clear HK; have HO_0 := n0_; have HB := n1_; have HK := n2_; clear n0_ n1_ n2_; clear hg hw hp_; have p9 : 0 ≤ (x5_1 : Int) := of_decide_eq_true (by first | (with_reducible assumption) | assumption); have q9 : (x5_1 : Int) < ((x0_1.length : Int) : Int) := of_decide_eq_true (by first | (with_reducible assumption) | assumption); obtain ⟨ce9, hcl9, hM9, hcc9, hfr9⟩ := Kd.R_elem HO_0.out z54 (x5_1 : Int) p9 q9; obtain rfl := k54_openM hM9; have hx9_0 : w19.cell? ⟨go6, (x5_1 : Int).toNat * 6, none⟩ = some (.string ((rd_T54 y104 x5_1).f0)) := hcc9 0 _ rfl; have hx9_1 : w19.cell? ⟨go6, (x5_1 : Int).toNat * 6 + 1, none⟩ = some (.bool ((rd_T54 y104 x5_1).f1)) := hcc9 1 _ rfl; have hx9_2 : w19.cell? ⟨go6, (x5_1 : Int).toNat * 6 + 2, none⟩ = some (.int .i64 ((rd_T54 y104 x5_1).f2)) := hcc9 2 _ rfl; have hx9_3 : w19.cell? ⟨go6, (x5_1 : Int).toNat * 6 + 3, none⟩ = some (.int .i64 ((rd_T54 y104 x5_1).f3)) := hcc9 3 _ rfl; have hx9_4 : w19.cell? ⟨go6, (x5_1 : Int).toNat * 6 + 4, none⟩ = some (.int .i64 ((rd_T54 y104 x5_1).f4)) := hcc9 4 _ rfl; have hx9_5 : w19.cell? ⟨go6, (x5_1 : Int).toNat * 6 + 5, none⟩ = some (.int .i64 ((rd_T54 y104 x5_1).f5)) := hcc9 5 _ rfl; have hf9_0 : w19.frozen? ⟨go6, (x5_1 : Int).toNat * 6, none⟩ = false := hfr9 0; have hf9_1 : w19.frozen? ⟨go6, (x5_1 : Int).toNat * 6 + 1, none⟩ = false := hfr9 1; have hf9_2 : w19.frozen? ⟨go6, (x5_1 : Int).toNat * 6 + 2, none⟩ = false := hfr9 2; have hf9_3 : w19.frozen? ⟨go6, (x5_1 : Int).toNat * 6 + 3, none⟩ = false := hfr9 3; have hf9_4 : w19.frozen? ⟨go6, (x5_1 : Int).toNat * 6 + 4, none⟩ = false := hfr9 4; have hf9_5 : w19.frozen? ⟨go6, (x5_1 : Int).toNat * 6 + 5, none⟩ = false := hfr9 5; clear hcl9 hcc9 hfr9 hM9; replace p9 := eq_true p9; replace q9 := eq_true q9; have HX20 := Aside0.mk (show Kd.R k54 54 w19 w0.heap.size (fun k_ => (P0_ k_ ∨ w.heap.size ≤ k_)) (.slice (some ⟨go6, 0, none⟩) x0_1.length co12) y104 from (er HO_0.out)); obtain ⟨ce20, hcl20, hM20, hcc20, hfr20⟩ := Kd.R_elem HX20.out z54 (x5_1 : Int) (of_decide_eq_true (by first | (with_reducible assumption) | assumption)) (by have h_ : (x5_1 : Int) < ((x0_1.length : Int) : Int) := of_decide_eq_true (by first | (with_reducible assumption) | assumption); first | exact h_ | (have e_ := (Kd.R_reads' HO_0.out).1; omega) | simpa using h_); obtain rfl := k54_openM hM20; have HP20 := Kd.R_seg HX20.out (x5_1 : Int) (of_decide_eq_true (by first | (with_reducible assumption) | assumption)) (by have h_ : (x5_1 : Int) < ((x0_1.length : Int) : Int) := of_decide_eq_true (by first | (with_reducible assumption) | assumption); first | exact h_ | (have e_ := (Kd.R_reads' HO_0.out).1; omega) | simpa using h_) (seg := [.int .i64 (wrap64 ((wrap64 ((wrap64 (x1_1 + 1)) + 1)) + 1))]) (j := 3) hcl20 hcc20 (show 4 ≤ 6 from by decide) (x' := (⟨(rd_T54 y104 x5_1).f0, (rd_T54 y104 x5_1).f1, (rd_T54 y104 x5_1).f2, wrap64 ((wrap64 ((wrap64 (x1_1 + 1)) + 1)) + 1), (rd_T54 y104 x5_1).f4, (rd_T54 y104 x5_1).f5⟩ : S54)) (k54_mkM _ _ _ (⟨(rd_T54 y104 x5_1).f0, (rd_T54 y104 x5_1).f1, (rd_T54 y104 x5_1).f2, wrap64 ((wrap64 ((wrap64 (x1_1 + 1)) + 1)) + 1), (rd_T54 y104 x5_1).f4, (rd_T54 y104 x5_1).f5⟩ : S54) ) (fun _ hk => hk); have hx20_3 := hcc20 3 _ rfl; (try simp only [show (k54).sz = 6 from rfl, Nat.mul_one, Nat.add_zero] at hx20_3); have hf20_3 := hfr20 3; (try simp only [show (k54).sz = 6 from rfl, Nat.mul_one, Nat.add_zero] at hf20_3); clear hcl20 hcc20 hfr20 hM20) | ((with_reducible refine gate_store (t := 3) (p := 40) rfl ?_); refine store_event (t := 3) (p := 40) (v := ?vo_w21) (w1 := (w19.setCell ⟨go6, (x5_1 : Int).toNat * 6 + 3, none⟩ (.int .i64 (wrap64 ((wrap64 ((wrap64 (x1_1 + 1)) + 1)) + 1))))) ?hg ?ho ?hn ?hr ?_; (case ho => rfl); (case hg => rfl); (case hn => rfl); (case hr => first | (go_simp; done) | (go_simp; rfl)); intro w21 hw; have hg : w19.grownBy w21 (some go6) := (by rw [hw]; exact HP20.2); have hp_ : Kd.R k54 54 w21 w0.heap.size (fun k_ => (P0_ k_ ∨ w.heap.size ≤ k_)) (.slice (some ⟨go6, 0, none⟩) x0_1.length co12) y105 := (by rw [hw, Ny105.out]; exact HP20.1); clear HP20; have n0_ := Aside0.mk (hp_); have n1_ := Aside0.mk ((by rw [hw]; exact below_set (HB.out) GB6.out : Below w0.heap.size w0 w21)); have n2_ := Aside0.mk (Kept.of_grown (S := (fun k_ => P0_ k_)) hg (by repeat (first | (with_reducible first | exact HK.out | apply Kept.alloc | apply Kept.drewN | apply Kept.drew) | exact HK.out)) (fun k_ e_ => (HO_0.out.1 k_ e_))); clear HO_0; clear HB; clear HK; have HO_0 := n0_; have HB := n1_; have HK := n2_; clear n0_ n1_ n2_; clear hg hw hp_; have p10 : 0 ≤ (x5_1 : Int) := of_decide_eq_true (by first | (with_reducible assumption) | assumption); have q10 : (x5_1 : Int) < ((x0_1.length : Int) : Int) := of_decide_eq_true (by first | (with_reducible assumption) | assumption); obtain ⟨ce10, hcl10, hM10, hcc10, hfr10⟩ := Kd.R_elem HO_0.out z54 (x5_1 : Int) p10 q10; obtain rfl := k54_openM hM10; have hx10_0 : w21.cell? ⟨go6, (x5_1 : Int).toNat * 6, none⟩ = some (.string ((rd_T54 y105 x5_1).f0)) := hcc10 0 _ rfl; have hx10_1 : w21.cell? ⟨go6, (x5_1 : Int).toNat * 6 + 1, none⟩ = some (.bool ((rd_T54 y105 x5_1).f1)) := hcc10 1 _ rfl; have hx10_2 : w21.cell? ⟨go6, (x5_1 : Int).toNat * 6 + 2, none⟩ = some (.int .i64 ((rd_T54 y105 x5_1).f2)) := hcc10 2 _ rfl; have hx10_3 : w21.cell? ⟨go6, (x5_1 : Int).toNat * 6 + 3, none⟩ = some (.int .i64 ((rd_T54 y105 x5_1).f3)) := hcc10 3 _ rfl; have hx10_4 : w21.cell? ⟨go6, (x5_1 : Int).toNat * 6 + 4, none⟩ = some (.int .i64 ((rd_T54 y105 x5_1).f4)) := hcc10 4 _ rfl; have hx10_5 : w21.cell? ⟨go6, (x5_1 : Int).toNat * 6 + 5, none⟩ = some (.int .i64 ((rd_T54 y105 x5_1).f5)) := hcc10 5 _ rfl; have hf10_0 : w21.frozen? ⟨go6, (x5_1 : Int).toNat * 6, none⟩ = false := hfr10 0; have hf10_1 : w21.frozen? ⟨go6, (x5_1 : Int).toNat * 6 + 1, none⟩ = false := hfr10 1; have hf10_2 : w21.frozen? ⟨go6, (x5_1 : Int).toNat * 6 + 2, none⟩ = false := hfr10 2; have hf10_3 : w21.frozen? ⟨go6, (x5_1 : Int).toNat * 6 + 3, none⟩ = false := hfr10 3; have hf10_4 : w21.frozen? ⟨go6, (x5_1 : Int).toNat * 6 + 4, none⟩ = false := hfr10 4; have hf10_5 : w21.frozen? ⟨go6, (x5_1 : Int).toNat * 6 + 5, none⟩ = false := hfr10 5; clear hcl10 hcc10 hfr10 hM10; replace p10 := eq_true p10; replace q10 := eq_true q10; have HX22 := Aside0.mk (show Kd.R k54 54 w21 w0.heap.size (fun k_ => (P0_ k_ ∨ w.heap.size ≤ k_)) (.slice (some ⟨go6, 0, none⟩) x0_1.length co12) y105 from (er HO_0.out)); obtain ⟨ce22, hcl22, hM22, hcc22, hfr22⟩ := Kd.R_elem HX22.out z54 (x5_1 : Int) (of_decide_eq_true (by first | (with_reducible assumption) | assumption)) (by have h_ : (x5_1 : Int) < ((x0_1.length : Int) : Int) := of_decide_eq_true (by first | (with_reducible assumption) | assumption); first | exact h_ | (have e_ := (Kd.R_reads' HO_0.out).1; omega) | simpa using h_); obtain rfl := k54_openM hM22; have HP22 := Kd.R_seg HX22.out (x5_1 : Int) (of_decide_eq_true (by first | (with_reducible assumption) | assumption)) (by have h_ : (x5_1 : Int) < ((x0_1.length : Int) : Int) := of_decide_eq_true (by first | (with_reducible assumption) | assumption); first | exact h_ | (have e_ := (Kd.R_reads' HO_0.out).1; omega) | simpa using h_) (seg := [.int .i64 (wrap64 ((wrap64 ((wrap64 ((wrap64 (x1_1 + 1)) + 1)) + 1)) + 1))]) (j := 4) hcl22 hcc22 (show 5 ≤ 6 from by decide) (x' := (⟨(rd_T54 y105 x5_1).f0, (rd_T54 y105 x5_1).f1, (rd_T54 y105 x5_1).f2, (rd_T54 y105 x5_1).f3, wrap64 ((wrap64 ((wrap64 ((wrap64 (x1_1 + 1)) + 1)) + 1)) + 1), (rd_T54 y105 x5_1).f5⟩ : S54)) (k54_mkM _ _ _ (⟨(rd_T54 y105 x5_1).f0, (rd_T54 y105 x5_1).f1, (rd_T54 y105 x5_1).f2, (rd_T54 y105 x5_1).f3, wrap64 ((wrap64 ((wrap64 ((wrap64 (x1_1 + 1)) + 1)) + 1)) + 1), (rd_T54 y105 x5_1).f5⟩ : S54) ) (fun _ hk => hk); have hx22_4 := hcc22 4 _ rfl; (try simp only [show (k54).sz = 6 from rfl, Nat.mul_one, Nat.add_zero] at hx22_4); have hf22_4 := hfr22 4; (try simp only [show (k54).sz = 6 from rfl, Nat.mul_one, Nat.add_zero] at hf22_4); clear hcl22 hcc22 hfr22 hM22) | ((with_reducible refine gate_store (t := 3) (p := 47) rfl ?_); refine store_event (t := 3) (p := 47) (v := ?vo_w23) (w1 := (w21.setCell ⟨go6, (x5_1 : Int).toNat * 6 + 4, none⟩ (.int .i64 (wrap64 ((wrap64 ((wrap64 ((wrap64 (x1_1 + 1)) + 1)) + 1)) + 1))))) ?hg ?ho ?hn ?hr ?_; (case ho => rfl); (case hg => rfl); (case hn => rfl); (case hr => first | (go_simp; done) | (go_simp; rfl)); intro w23 hw; have hg : w21.grownBy w23 (some go6) := (by rw [hw]; exact HP22.2); have hp_ : Kd.R k54 54 w23 w0.heap.size (fun k_ => (P0_ k_ ∨ w.heap.size ≤ k_)) (.slice (some ⟨go6, 0, none⟩) x0_1.length co12) y106 := (by rw [hw, Ny106.out]; exact HP22.1); clear HP22; have n0_ := Aside0.mk (hp_); have n1_ := Aside0.mk ((by rw [hw]; exact below_set (HB.out) GB6.out : Below w0.heap.size w0 w23)); have n2_ := Aside0.mk (Kept.of_grown (S := (fun k_ => P0_ k_)) hg (by repeat (first | (with_reducible first | exact HK.out | apply Kept.alloc | apply Kept.drewN | apply Kept.drew) | exact HK.out)) (fun k_ e_ => (HO_0.out.1 k_ e_))); clear HO_0; clear HB; clear HK; have HO_0 := n0_; have HB := n1_; have HK := n2_; clear n0_ n1_ n2_; clear hg hw hp_; have p11 : 0 ≤ (x5_1 : Int) := of_decide_eq_true (by first | (with_reducible assumption) | assumption); have q11 : (x5_1 : Int) < ((x0_1.length : Int) : Int) := of_decide_eq_true (by first | (with_reducible assumption) | assumption); obtain ⟨ce11, hcl11, hM11, hcc11, hfr11⟩ := Kd.R_elem HO_0.out z54 (x5_1 : Int) p11 q11; obtain rfl := k54_openM hM11; have hx11_0 : w23.cell? ⟨go6, (x5_1 : Int).toNat * 6, none⟩ = some (.string ((rd_T54 y106 x5_1).f0)) := hcc11 0 _ rfl; have hx11_1 : w23.cell? ⟨go6, (x5_1 : Int).toNat * 6 + 1, none⟩ = some (.bool ((rd_T54 y106 x5_1).f1)) := hcc11 1 _ rfl; have hx11_2 : w23.cell? ⟨go6, (x5_1 : Int).toNat * 6 + 2, none⟩ = some (.int .i64 ((rd_T54 y106 x5_1).f2)) := hcc11 2 _ rfl; have hx11_3 : w23.cell? ⟨go6, (x5_1 : Int).toNat * 6 + 3, none⟩ = some (.int .i64 ((rd_T54 y106 x5_1).f3)) := hcc11 3 _ rfl; have hx11_4 : w23.cell? ⟨go6, (x5_1 : Int).toNat * 6 + 4, none⟩ = some (.int .i64 ((rd_T54 y106 x5_1).f4)) := hcc11 4 _ rfl; have hx11_5 : w23.cell? ⟨go6, (x5_1 : Int).toNat * 6 + 5, none⟩ = some (.int .i64 ((rd_T54 y106 x5_1).f5)) := hcc11 5 _ rfl; have hf11_0 : w23.frozen? ⟨go6, (x5_1 : Int).toNat * 6, none⟩ = false := hfr11 0; have hf11_1 : w23.frozen? ⟨go6, (x5_1 : Int).toNat * 6 + 1, none⟩ = false := hfr11 1; have hf11_2 : w23.frozen? ⟨go6, (x5_1 : Int).toNat * 6 + 2, none⟩ = false := hfr11 2; have hf11_3 : w23.frozen? ⟨go6, (x5_1 : Int).toNat * 6 + 3, none⟩ = false := hfr11 3; have hf11_4 : w23.frozen? ⟨go6, (x5_1 : Int).toNat * 6 + 4, none⟩ = false := hfr11 4; have hf11_5 : w23.frozen? ⟨go6, (x5_1 : Int).toNat * 6 + 5, none⟩ = false := hfr11 5; clear hcl11 hcc11 hfr11 hM11; replace p11 := eq_true p11; replace q11 := eq_true q11; have HX24 := Aside0.mk (show Kd.R k54 54 w23 w0.heap.size (fun k_ => (P0_ k_ ∨ w.heap.size ≤ k_)) (.slice (some ⟨go6, 0, none⟩) x0_1.length co12) y106 from (er HO_0.out)); obtain ⟨ce24, hcl24, hM24, hcc24, hfr24⟩ := Kd.R_elem HX24.out z54 (x5_1 : Int) (of_decide_eq_true (by first | (with_reducible assumption) | assumption)) (by have h_ : (x5_1 : Int) < ((x0_1.length : Int) : Int) := of_decide_eq_true (by first | (with_reducible assumption) | assumption); first | exact h_ | (have e_ := (Kd.R_reads' HO_0.out).1; omega) | simpa using h_); obtain rfl := k54_openM hM24; have HP24 := Kd.R_seg HX24.out (x5_1 : Int) (of_decide_eq_true (by first | (with_reducible assumption) | assumption)) (by have h_ : (x5_1 : Int) < ((x0_1.length : Int) : Int) := of_decide_eq_true (by first | (with_reducible assumption) | assumption); first | exact h_ | (have e_ := (Kd.R_reads' HO_0.out).1; omega) | simpa using h_) (seg := [.int .i64 (wrap64 ((wrap64 ((wrap64 ((wrap64 ((wrap64 (x1_1 + 1)) + 1)) + 1)) + 1)) + 1))]) (j := 5) hcl24 hcc24 (show 6 ≤ 6 from by decide) (x' := (⟨(rd_T54 y106 x5_1).f0, (rd_T54 y106 x5_1).f1, (rd_T54 y106 x5_1).f2, (rd_T54 y106 x5_1).f3, (rd_T54 y106 x5_1).f4, wrap64 ((wrap64 ((wrap64 ((wrap64 ((wrap64 (x1_1 + 1)) + 1)) + 1)) + 1)) + 1)⟩ : S54)) (k54_mkM _ _ _ (⟨(rd_T54 y106 x5_1).f0, (rd_T54 y106 x5_1).f1, (rd_T54 y106 x5_1).f2, (rd_T54 y106 x5_1).f3, (rd_T54 y106 x5_1).f4, wrap64 ((wrap64 ((wrap64 ((wrap64 ((wrap64 (x1_1 + 1)) + 1)) + 1)) + 1)) + 1)⟩ : S54) ) (fun _ hk => hk); have hx24_5 := hcc24 5 _ rfl; (try simp only [show (k54).sz = 6 from rfl, Nat.mul_one, Nat.add_zero] at hx24_5); have hf24_5 := hfr24 5; (try simp only [show (k54).sz = 6 from rfl, Nat.mul_one, Nat.add_zero] at hf24_5); clear hcl24 hcc24 hfr24 hM24) | ((with_reducible refine gate_store (t := 3) (p := 54) rfl ?_); refine store_event (t := 3) (p := 54) (v := ?vo_w25) (w1 := (w23.setCell ⟨go6, (x5_1 : Int).toNat * 6 + 5, none⟩ (.int .i64 (wrap64 ((wrap64 ((wrap64 ((wrap64 ((wrap64 (x1_1 + 1)) + 1)) + 1)) + 1)) + 1))))) ?hg ?ho ?hn ?hr ?_; (case ho => rfl); (case hg => rfl); (case hn => rfl); (case hr => first | (go_simp; done) | (go_simp; rfl)); intro w25 hw; have hg : w23.grownBy w25 (some go6) := (by rw [hw]; exact HP24.2); have hp_ : Kd.R k54 54 w25 w0.heap.size (fun k_ => (P0_ k_ ∨ w.heap.size ≤ k_)) (.slice (some ⟨go6, 0, none⟩) x0_1.length co12) y107 := (by rw [hw, Ny107.out]; exact HP24.1); clear HP24; have n0_ := Aside0.mk (hp_); have n1_ := Aside0.mk ((by rw [hw]; exact below_set (HB.out) GB6.out : Below w0.heap.size w0 w25)); have n2_ := Aside0.mk (Kept.of_grown (S := (fun k_ => P0_ k_)) hg (by repeat (first | (with_reducible first | exact HK.out | apply Kept.alloc | apply Kept.drewN | apply Kept.drew) | exact HK.out)) (fun k_ e_ => (HO_0.out.1 k_ e_))); clear HO_0; clear HB; clear HK; have HO_0 := n0_; have HB := n1_; have HK := n2_; clear n0_ n1_ n2_; clear hg hw hp_))
     go_roundg k1
     case measure => have := HK1.out; omega
     case rel => exact ⟨(y107), (wrap64 ((wrap64 ((wrap64 ((wrap64 ((wrap64 ((wrap64 (x1_1 + 1)) + 1)) + 1)) + 1)) + 1)) + 1)), (wrap64 (x5_1 + 1)), (by first | rfl | (simp; done) | (simp [*]; done)), (by first | rfl | (simp; done) | (simp [*]; done)), H', ⟨by have := HK1.out; omega⟩, ⟨er HO_0.out⟩, ⟨by repeat (first | (with_reducible first | exact HK.out | apply Kept.alloc | apply Kept.drewN | apply Kept.drew) | exact HK.out)⟩, ⟨eb HB.out⟩⟩
    ·rw [if_neg c5] at H
     exact absurd H (by simp)
   ·rw [if_neg c3] at H
    have c3b0 : decide (x5_1 < (x0_1.length : Int)) = false := decide_eq_false c3
    clear c3
    simp only [Option.some.injEq, Prod.mk.injEq] at H
    obtain ⟨rfl, rfl⟩ := H
    obtain ⟨Ao26, co26, eo26⟩ := Kd.R_slice HO_0.out
    subst eo26
    go_wp2
    go_ret
    exact ⟨by first | rfl | (simp [errW_none, errW_some] <;> rfl) | (simp [*, errW_none, errW_some] <;> rfl), er HO_0.out, eb HB.out, by repeat (first | (with_reducible first | exact HK.out | apply Kept.alloc | apply Kept.drewN | apply Kept.drew) | exact HK.out)⟩

end Go.Proofs.Ytpdmimlkgmhepaa.G

/- The plain functions of this seat's Go text and, for each, that the call comes to what its plain function says: written for this claim by a program of the session (drv.py) over the kit's print.py. -/
namespace Go.Proofs.Ytpdmimlkgmhepaa.G
open Go.RowKit Go.Proofs.YtpdmimlkgmhepaaW.PrintWords Go.Proofs.YtpdmimlkgmhepaaW.PrintLast Go.Proofs.YtpdmimlkgmhepaaW.PrintMore
attribute [local go_sem] max2_int min2_int max_two min_two max_three min_three max_four min_four   -- for this text's walks alone
set_option linter.unusedVariables false
set_option linter.unusedSimpArgs false

/-! ### laws_markIntS: function 32 -/
def laws_markIntS.l0 : Nat → List Int → Int → Int → Option (Int × List Int)
 | 0, _, _, _ => none
 | k + 1, x0, x1, x5 => if x5 < (x0.length : Int) then (if 0 ≤ x5 then (laws_markIntS.l0 k (x0.set (x5 : Int).toNat x1) (wrap64 (x1 + 1)) (wrap64 (x5 + 1))) else (none)) else (some (x1, x0))
def laws_markIntS.f (k : Nat) (l0 : List Int) (a1 : Int) : Option (Int × List Int) := laws_markIntS.l0 k l0 a1 0
theorem laws_markIntS.mono_l : ∀ k, (∀ y0 y1 y2, LeO (laws_markIntS.l0 k y0 y1 y2) (laws_markIntS.l0 (k + 1) y0 y1 y2))
 | 0 => fun _ _ _ r h => by simp [laws_markIntS.l0] at h
 | k + 1 => by
  have ih0 := laws_markIntS.mono_l k
  ·intro y0 y1 y2
   unfold laws_markIntS.l0
   repeat' first
   | (with_reducible exact ih0 _ _ _)
   | (with_reducible exact LeO.refl _)
   | (with_reducible exact LeO.none _)
   | (with_reducible refine LeO.ite ?_ ?_)
   | (with_reducible refine LeO.bind ?_ (fun _ => ?_))
   | exact ih0 _ _ _
   | exact LeO.none _
   | refine LeO.ite ?_ ?_
   | refine LeO.bind ?_ (fun _ => ?_)
theorem laws_markIntS.mono : ∀ a0 a1 k, LeO (laws_markIntS.f k a0 a1) (laws_markIntS.f (k + 1) a0 a1) := by
 intro a0 a1 k
 have ih0 := laws_markIntS.mono_l k
 unfold laws_markIntS.f
 repeat' first
   | (with_reducible exact ih0 _ _ _)
   | (with_reducible exact LeO.refl _)
   | (with_reducible exact LeO.none _)
   | (with_reducible refine LeO.ite ?_ ?_)
   | (with_reducible refine LeO.bind ?_ (fun _ => ?_))
   | exact ih0 _ _ _
   | exact LeO.none _
   | refine LeO.ite ?_ ?_
   | refine LeO.bind ?_ (fun _ => ?_)
set_option maxHeartbeats 8000000 in
set_option maxRecDepth 100000 in
theorem laws_markIntS.calls (k : Nat) (P0_ : Nat → Prop) (u9000_ : Value) (l0 : List Int) (a1 : Int) (r1 : Int) (r2 : List Int) (w0 w : World) (hB : Below w0.heap.size w0 w) (ho0 : Kd.R (Kd.int .i64) 3 w w0.heap.size P0_ u9000_ l0) (h : laws_markIntS.f k l0 a1 = some (r1, r2)) :
  Calls Try.prog 32 #[u9000_, .int .i64 a1] w fun e w' => e = .returned (.int .i64 r1) ∧ Kd.R (Kd.int .i64) 3 w' w0.heap.size (fun k_ => (P0_ k_ ∨ w.heap.size ≤ k_)) u9000_ r2 ∧ Below w0.heap.size w0 w' ∧ Kept w w' (fun k_ => P0_ k_) := by
 have HO0 := Aside0.mk (show Kd.R (Kd.int .i64) 3 w w0.heap.size (fun k_ => (P0_ k_ ∨ w.heap.size ≤ k_)) u9000_ l0 from Kd.R_mono ho0 (fun k_ hk => (.inl hk)))
 have HK := Aside0.mk (Kept.refl w (fun k_ => P0_ k_))
 have HW0 := Aside0.mk hB.size
 have HB := Aside0.mk hB
 clear hB
 have H : (laws_markIntS.l0 k l0 a1 0) = some (r1, r2) := h
 clear h
 have H' := Aside0.mk H
 clear H
 go_enter Try.func32, Try.ntmps32
 go_wp2
 go_loopg [1, 5] k (fun kq v1 v5 w' => ∃ (x0_1 : List Int) (x1_1 : Int) (x5_1 : Int), v1 = .int .i64 x1_1 ∧ v5 = .int .i64 x5_1 ∧ Aside0 (laws_markIntS.l0 kq x0_1 x1_1 x5_1 = some (r1, r2)) ∧ Aside0 (kq ≤ k) ∧ Aside0 (Kd.R (Kd.int .i64) 3 w' w0.heap.size (fun k_ => (P0_ k_ ∨ w.heap.size ≤ k_)) u9000_ x0_1) ∧ Aside0 (Kept w w' (fun k_ => P0_ k_)) ∧ Aside0 (Below w0.heap.size w0 w'))
 case atStart => exact ⟨(l0), (a1), (0), (by first | rfl | (simp; done) | (simp [*]; done)), (by first | rfl | (simp; done) | (simp [*]; done)), H', ⟨Nat.le_refl _⟩, ⟨er HO0.out⟩, ⟨by repeat (first | (with_reducible first | exact HK.out | apply Kept.alloc | apply Kept.drewN | apply Kept.drew) | exact HK.out)⟩, ⟨eb HB.out⟩⟩
 case round =>
  clear H'
  try clear p2
  obtain ⟨x0_1, x1_1, x5_1, rfl, rfl, HA, HK1, HO_0, HK, HB⟩ := hrel
  cases gk with
  | zero => exact absurd HA.out (by simp [laws_markIntS.l0])
  | succ k1 =>
   have H := HA.out
   clear HA
   simp only [laws_markIntS.l0] at H
   by_cases c3 : x5_1 < (x0_1.length : Int)
   ·rw [if_pos c3] at H
    have c3b0 : decide (x5_1 < (x0_1.length : Int)) = true := decide_eq_true c3
    clear c3
    by_cases c4 : 0 ≤ x5_1
    ·rw [if_pos c4] at H
     have c4b0 : decide (0 ≤ x5_1) = true := decide_eq_true c4
     clear c4
     obtain ⟨y101, hy101⟩ : ∃ y_ : List Int, y_ = (x0_1.set (x5_1 : Int).toNat x1_1) := ⟨_, rfl⟩
     replace H : (laws_markIntS.l0 k1 y101 (wrap64 (x1_1 + 1)) (wrap64 (x5_1 + 1))) = some (r1, r2) := by first | (rw [hy101]; with_reducible exact H) | (have H2_ := (Option.bind_some _ _).symm.trans H; rw [hy101]; with_reducible exact H2_) | (have H2_ := (Option.bind_some _ _).symm.trans H; with_reducible exact H2_) | with_reducible exact H | (rw [hy101]; exact H) | exact H
     have Ny101 := Aside0.mk hy101
     clear hy101
     have H' := Aside0.mk H
     clear H
     obtain ⟨Ao6, co6, eo6⟩ := Kd.R_slice HO_0.out
     subst eo6
     have p5 : 0 ≤ (x5_1 : Int) := of_decide_eq_true (by first | (with_reducible assumption) | assumption)
     have q5 : (x5_1 : Int) < ((x0_1.length : Int) : Int) := of_decide_eq_true (by first | (with_reducible assumption) | assumption)
     obtain ⟨go5, co5, eo5, gb5, gl5, cl5, HG5⟩ := Kd.R_form HO_0.out (by omega)
     (first | cases eo5 | (injection eo5 with ea_ en_ ec_; (first | subst ea_ | (injection ea_ with ea_; subst ea_)); subst ec_; clear en_))
     have GB5 := Aside0.mk gb5
     have GG5 := Aside0.mk HG5
     clear gb5 gl5 HG5
     have HMgo5 := Aside0.mk (show (P0_ go5 ∨ w.heap.size ≤ go5) from (HO_0.out.1 _ rfl))
     obtain ⟨hx5_0, hf5_0⟩ := Kd.R_celln 0 HO_0.out (x5_1 : Int) p5 q5
     replace p5 := eq_true p5
     replace q5 := eq_true q5
     have HP7 := Kd.R_putg HO_0.out (x5_1 : Int) x1_1
     go_wp2_with (first | ((with_reducible refine gate_store (t := 3) (p := 15) rfl ?_); refine store_event (t := 3) (p := 15) (v := ?vo_w8) (w1 := (wr.setCell ⟨go5, (x5_1 : Int).toNat, none⟩ (.int .i64 x1_1))) ?hg ?ho ?hn ?hr ?_; (case ho => rfl); (case hg => rfl); (case hn => rfl); (case hr => first | (go_simp; done) | (go_simp; rfl)); intro w8 hw; have hg : wr.grownBy w8 (some go5) := (by rw [hw]; exact HP7.2); have hp_ : Kd.R (Kd.int .i64) 3 w8 w0.heap.size (fun k_ => (P0_ k_ ∨ w.heap.size ≤ k_)) (.slice (some ⟨go5, 0, none⟩) x0_1.length co6) y101 := (by rw [hw, Ny101.out]; exact HP7.1); clear HP7; have n0_ := Aside0.mk (hp_); have n1_ := Aside0.mk ((by rw [hw]; exact below_set (HB.out) GB5.out : Below w0.heap.size w0 w8)); have n2_ := Aside0.mk (Kept.of_grown (S := (fun k_ => P0_ k_)) hg (by repeat (first | (with_reducible first | exact HK.out | apply Kept.alloc | apply Kept.drewN | apply Kept.drew) | exact HK.out)) (fun k_ e_ => (HO_0.out.1 k_ e_))); clear HO_0; clear HB; clear HK; have HO_0 := n0_; have HB := n1_; have HK := n2_; clear n0_ n1_ n2_; clear hg hw hp_))
     go_roundg k1
     case measure => have := HK1.out; omega
     case rel => exact ⟨(y101), (wrap64 (x1_1 + 1)), (wrap64 (x5_1 + 1)), (by first | rfl | (simp; done) | (simp [*]; done)), (by first | rfl | (simp; done) | (simp [*]; done)), H', ⟨by have := HK1.out; omega⟩, ⟨er HO_0.out⟩, ⟨by repeat (first | (with_reducible first | exact HK.out | apply Kept.alloc | apply Kept.drewN | apply Kept.drew) | exact HK.out)⟩, ⟨eb HB.out⟩⟩
    ·rw [if_neg c4] at H
     exact absurd H (by simp)
   ·rw [if_neg c3] at H
    have c3b0 : decide (x5_1 < (x0_1.length : Int)) = false := decide_eq_false c3
    clear c3
    simp only [Option.some.injEq, Prod.mk.injEq] at H
    obtain ⟨rfl, rfl⟩ := H
    obtain ⟨Ao9, co9, eo9⟩ := Kd.R_slice HO_0.out
    subst eo9
    go_wp2
    go_ret
    exact ⟨by first | rfl | (simp [errW_none, errW_some] <;> rfl) | (simp [*, errW_none, errW_some] <;> rfl), er HO_0.out, eb HB.out, by repeat (first | (with_reducible first | exact HK.out | apply Kept.alloc | apply Kept.drewN | apply Kept.drew) | exact HK.out)⟩

end Go.Proofs.Ytpdmimlkgmhepaa.G

/- The plain functions of this seat's Go text and, for each, that the call comes to what its plain function says: written for this claim by a program of the session (drv.py) over the kit's print.py. -/
namespace Go.Proofs.Ytpdmimlkgmhepaa.G
open Go.RowKit Go.Proofs.YtpdmimlkgmhepaaW.PrintWords Go.Proofs.YtpdmimlkgmhepaaW.PrintLast Go.Proofs.YtpdmimlkgmhepaaW.PrintMore
attribute [local go_sem] max2_int min2_int max_two min_two max_three min_three max_four min_four   -- for this text's walks alone
set_option linter.unusedVariables false
set_option linter.unusedSimpArgs false

/-! ### laws_heldIntS: function 33 -/
def laws_heldIntS.l0 : Nat → List Int → Int → Int → Option (Int)
 | 0, _, _, _ => none
 | k + 1, x0, x1, x5 => if x5 < (x0.length : Int) then (if 0 ≤ x5 then (if (rd x0 x5) = x1 then (laws_heldIntS.l0 k x0 (wrap64 (x1 + 1)) (wrap64 (x5 + 1))) else (some (-1))) else (none)) else (some x1)
def laws_heldIntS.f (k : Nat) (l0 : List Int) (a1 : Int) : Option (Int) := laws_heldIntS.l0 k l0 a1 0
theorem laws_heldIntS.mono_l : ∀ k, (∀ y0 y1 y2, LeO (laws_heldIntS.l0 k y0 y1 y2) (laws_heldIntS.l0 (k + 1) y0 y1 y2))
 | 0 => fun _ _ _ r h => by simp [laws_heldIntS.l0] at h
 | k + 1 => by
  have ih0 := laws_heldIntS.mono_l k
  ·intro y0 y1 y2
   unfold laws_heldIntS.l0
   repeat' first
   | (with_reducible exact ih0 _ _ _)
   | (with_reducible exact LeO.refl _)
   | (with_reducible exact LeO.none _)
   | (with_reducible refine LeO.ite ?_ ?_)
   | (with_reducible refine LeO.bind ?_ (fun _ => ?_))
   | exact ih0 _ _ _
   | exact LeO.none _
   | refine LeO.ite ?_ ?_
   | refine LeO.bind ?_ (fun _ => ?_)
theorem laws_heldIntS.mono : ∀ a0 a1 k, LeO (laws_heldIntS.f k a0 a1) (laws_heldIntS.f (k + 1) a0 a1) := by
 intro a0 a1 k
 have ih0 := laws_heldIntS.mono_l k
 unfold laws_heldIntS.f
 repeat' first
   | (with_reducible exact ih0 _ _ _)
   | (with_reducible exact LeO.refl _)
   | (with_reducible exact LeO.none _)
   | (with_reducible refine LeO.ite ?_ ?_)
   | (with_reducible refine LeO.bind ?_ (fun _ => ?_))
   | exact ih0 _ _ _
   | exact LeO.none _
   | refine LeO.ite ?_ ?_
   | refine LeO.bind ?_ (fun _ => ?_)
set_option maxHeartbeats 8000000 in
set_option maxRecDepth 100000 in
theorem laws_heldIntS.calls (k : Nat) (A0 : Option Addr) (c0 : Nat) (l0 : List Int) (a1 : Int) (r : Int) (w : World) (hr0 : Kd.C (Kd.int .i64) w A0 l0.length l0) (hc0 : l0.length ≤ c0) (h : laws_heldIntS.f k l0 a1 = some r) :
  Calls Try.prog 33 #[.slice A0 l0.length c0, .int .i64 a1] w fun e w' => e = .returned (.int .i64 r) ∧ Drawn0 w w' := by
 have HR0 := Aside0.mk hr0
 have HC0 := Aside0.mk hc0
 clear hr0 hc0
 have H : (laws_heldIntS.l0 k l0 a1 0) = some r := h
 clear h
 have H' := Aside0.mk H
 clear H
 go_enter Try.func33, Try.ntmps33
 go_wp2
 go_loopg [1, 5] k (fun kq v1 v5 w' => ∃ (x1_1 : Int) (x5_1 : Int), v1 = .int .i64 x1_1 ∧ v5 = .int .i64 x5_1 ∧ Aside0 (laws_heldIntS.l0 kq l0 x1_1 x5_1 = some r) ∧ Aside0 (kq ≤ k) ∧ Drawn0 w w')
 case atStart => exact ⟨(a1), (0), (by first | rfl | (simp; done) | (simp [*]; done)), (by first | rfl | (simp; done) | (simp [*]; done)), H', ⟨Nat.le_refl _⟩, by repeat (first | exact Drawn0.refl _ | apply Drawn0.step)⟩
 case round =>
  clear H'
  try clear p2
  obtain ⟨x1_1, x5_1, rfl, rfl, HA, HK1, ⟨m1, rfl⟩⟩ := hrel
  cases gk with
  | zero => exact absurd HA.out (by simp [laws_heldIntS.l0])
  | succ k1 =>
   have H := HA.out
   clear HA
   simp only [laws_heldIntS.l0] at H
   by_cases c3 : x5_1 < (l0.length : Int)
   ·rw [if_pos c3] at H
    have c3b0 : decide (x5_1 < (l0.length : Int)) = true := decide_eq_true c3
    clear c3
    by_cases c4 : 0 ≤ x5_1
    ·rw [if_pos c4] at H
     have c4b0 : decide (0 ≤ x5_1) = true := decide_eq_true c4
     clear c4
     by_cases c5 : (rd l0 x5_1) = x1_1
     ·rw [if_pos c5] at H
      have c5b0 : ((rd l0 x5_1) == x1_1) = true := beq_iff_eq.mpr c5
      have c5b1 : ((rd l0 x5_1) != x1_1) = false := bne_eq_false_iff_eq.mpr c5
      clear c5
      have H' := Aside0.mk H
      clear H
      have p101 : 0 ≤ (x5_1 : Int) := of_decide_eq_true (by first | (with_reducible assumption) | assumption)
      have q101 : x5_1 < (l0.length : Int) := of_decide_eq_true (by first | (with_reducible assumption) | assumption)
      obtain ⟨ad101, e101, hx101_0⟩ := Kd.at_int HR0.out x5_1 p101 q101
      cases e101
      replace p101 := eq_true p101
      replace q101 := eq_true q101
      go_wp2
      go_roundg k1
      case measure => have := HK1.out; omega
      case rel => exact ⟨(wrap64 (x1_1 + 1)), (wrap64 (x5_1 + 1)), (by first | rfl | (simp; done) | (simp [*]; done)), (by first | rfl | (simp; done) | (simp [*]; done)), H', ⟨by have := HK1.out; omega⟩, by repeat (first | exact Drawn0.refl _ | apply Drawn0.step)⟩
     ·rw [if_neg c5] at H
      have c5b0 : ((rd l0 x5_1) == x1_1) = false := beq_eq_false_iff_ne.mpr c5
      have c5b1 : ((rd l0 x5_1) != x1_1) = true := bne_iff_ne.mpr c5
      obtain rfl := Option.some.inj H
      have p101 : 0 ≤ (x5_1 : Int) := of_decide_eq_true (by first | (with_reducible assumption) | assumption)
      have q101 : x5_1 < (l0.length : Int) := of_decide_eq_true (by first | (with_reducible assumption) | assumption)
      obtain ⟨ad101, e101, hx101_0⟩ := Kd.at_int HR0.out x5_1 p101 q101
      cases e101
      replace p101 := eq_true p101
      replace q101 := eq_true q101
      go_wp2
      go_ret
      exact ⟨by first | rfl | (simp; done) | (simp [*]; done), by repeat (first | exact Drawn0.refl _ | apply Drawn0.step)⟩
    ·rw [if_neg c4] at H
     exact absurd H (by simp)
   ·rw [if_neg c3] at H
    have c3b0 : decide (x5_1 < (l0.length : Int)) = false := decide_eq_false c3
    clear c3
    obtain rfl := Option.some.inj H
    go_wp2
    go_ret
    exact ⟨by first | rfl | (simp; done) | (simp [*]; done), by repeat (first | exact Drawn0.refl _ | apply Drawn0.step)⟩

end Go.Proofs.Ytpdmimlkgmhepaa.G

/- The plain functions of this seat's Go text and, for each, that the call comes to what its plain function says: written for this claim by a program of the session (drv.py) over the kit's print.py. -/
namespace Go.Proofs.Ytpdmimlkgmhepaa.G
open Go.RowKit Go.Proofs.YtpdmimlkgmhepaaW.PrintWords Go.Proofs.YtpdmimlkgmhepaaW.PrintLast Go.Proofs.YtpdmimlkgmhepaaW.PrintMore
attribute [local go_sem] max2_int min2_int max_two min_two max_three min_three max_four min_four   -- for this text's walks alone
set_option linter.unusedVariables false
set_option linter.unusedSimpArgs false

/-! ### laws_FnExactStripOrder: function 8 -/
mutual
def laws_FnExactStripOrder.j0 : Nat → List (S71) → List Int → List Int → Bool → List (S54) → List Int → List Int → Bool → Bool → Option (Bool)
 | 0, _, _, _, _, _, _, _, _, _ => none
 | k + 1, x0, x1, x6, x7, x8, x9, x10, x11, x51 => if x51 = true then (some false) else ((laws_toStripMoveS.f k x0).bind fun t123 => ((laws_eqStripMoveS.f k x8 t123).bind fun t126 => (if t126 = true then ((laws_toIntS.f k x1).bind fun t127 => ((laws_eqIntS.f k x9 t127).bind fun t130 => (if t130 = true then ((laws_markStripMoveS.f k x8 1).bind fun bt131 => ((laws_markIntS.f k x9 bt131.1).bind fun bt133 => (if bt133.1 < 0 then (laws_FnExactStripOrder.j1 k x0 x1 x6 x7 x10 true) else ((laws_eqIntS.f k x10 x6).bind fun t135 => (if t135 = true then (laws_FnExactStripOrder.j1 k x0 x1 x6 x7 x10 (x11 != x7)) else (laws_FnExactStripOrder.j1 k x0 x1 x6 x7 x10 true)))))) else (some false)))) else (some false))))
def laws_FnExactStripOrder.j1 : Nat → List (S71) → List Int → List Int → Bool → List Int → Bool → Option (Bool)
 | 0, _, _, _, _, _, _ => none
 | k + 1, x0, x1, x6, x7, x10, x80 => if x80 = true then (some false) else ((laws_markIntS.f k x10 1).bind fun bt136 => ((laws_heldIntS.f k bt136.2 1).bind fun t138 => (if t138 < 0 then (some false) else (if t138 = bt136.1 then ((laws_toStripMoveS.f k x0).bind fun t139 => ((laws_toIntS.f k x1).bind fun t142 => ((impl_StripOrder.f k t139 t142).bind fun bt145 => ((laws_eqIntS.f k bt145.1 x6).bind fun t149 => (if t149 = true then (laws_FnExactStripOrder.j2 k bt136.2 bt136.1 (bt145.2 != x7)) else (laws_FnExactStripOrder.j2 k bt136.2 bt136.1 true)))))) else (some false)))))
def laws_FnExactStripOrder.j2 : Nat → List Int → Int → Bool → Option (Bool)
 | 0, _, _, _ => none
 | k + 1, x10, x13, x108 => if x108 = true then (some false) else ((laws_heldIntS.f k x10 1).bind fun t150 => (if t150 < 0 then (some false) else (if t150 = x13 then (some true) else (some false))))
end
def laws_FnExactStripOrder.f (k : Nat) (l0 : List (S71)) (l1 : List Int) : Option (Bool) := if (l1.length : Int) > 1048576 then (some true) else ((laws_szStripMoveS.f k l0 1048576).bind fun t101 => (if t101 < 0 then (some true) else ((laws_toStripMoveS.f k l0).bind fun t102 => ((laws_toIntS.f k l1).bind fun t105 => ((spec_StripOrder.f k t102 t105).bind fun bt108 => ((laws_toStripMoveS.f k l0).bind fun t112 => ((laws_toIntS.f k l1).bind fun t115 => ((impl_StripOrder.f k t112 t115).bind fun bt118 => ((laws_eqIntS.f k bt118.1 bt108.1).bind fun t122 => (if t122 = true then (laws_FnExactStripOrder.j0 k l0 l1 bt108.1 bt108.2 t112 t115 bt118.1 bt118.2 (bt118.2 != bt108.2)) else (laws_FnExactStripOrder.j0 k l0 l1 bt108.1 bt108.2 t112 t115 bt118.1 bt118.2 true)))))))))))
theorem laws_FnExactStripOrder.mono_l : ∀ k, (∀ y0 y1 y2 y3 y4 y5 y6 y7 y8, LeO (laws_FnExactStripOrder.j0 k y0 y1 y2 y3 y4 y5 y6 y7 y8) (laws_FnExactStripOrder.j0 (k + 1) y0 y1 y2 y3 y4 y5 y6 y7 y8)) ∧ (∀ y0 y1 y2 y3 y4 y5, LeO (laws_FnExactStripOrder.j1 k y0 y1 y2 y3 y4 y5) (laws_FnExactStripOrder.j1 (k + 1) y0 y1 y2 y3 y4 y5)) ∧ (∀ y0 y1 y2, LeO (laws_FnExactStripOrder.j2 k y0 y1 y2) (laws_FnExactStripOrder.j2 (k + 1) y0 y1 y2))
 | 0 => ⟨fun _ _ _ _ _ _ _ _ _ r h => by simp [laws_FnExactStripOrder.j0] at h, fun _ _ _ _ _ _ r h => by simp [laws_FnExactStripOrder.j1] at h, fun _ _ _ r h => by simp [laws_FnExactStripOrder.j2] at h⟩
 | k + 1 => by
  obtain ⟨ih0, ih1, ih2⟩ := laws_FnExactStripOrder.mono_l k
  refine ⟨?_, ?_, ?_⟩
  ·intro y0 y1 y2 y3 y4 y5 y6 y7 y8
   unfold laws_FnExactStripOrder.j0
   repeat' first
   | (with_reducible exact ih0 _ _ _ _ _ _ _ _ _)
   | (with_reducible exact ih1 _ _ _ _ _ _)
   | (with_reducible exact ih2 _ _ _)
   | (with_reducible exact impl_StripOrder.mono _ _ _)
   | (with_reducible exact laws_eqIntS.mono _ _ _)
   | (with_reducible exact laws_eqStripMoveS.mono _ _ _)
   | (with_reducible exact laws_heldIntS.mono _ _ _)
   | (with_reducible exact laws_markIntS.mono _ _ _)
   | (with_reducible exact laws_markStripMoveS.mono _ _ _)
   | (with_reducible exact laws_szStripMoveS.mono _ _ _)
   | (with_reducible exact laws_toIntS.mono _ _)
   | (with_reducible exact laws_toStripMoveS.mono _ _)
   | (with_reducible exact spec_StripOrder.mono _ _ _)
   | (with_reducible exact LeO.refl _)
   | (with_reducible exact LeO.none _)
   | (with_reducible refine LeO.ite ?_ ?_)
   | (with_reducible refine LeO.bind ?_ (fun _ => ?_))
   | exact ih0 _ _ _ _ _ _ _ _ _
   | exact ih1 _ _ _ _ _ _
   | exact ih2 _ _ _
   | exact impl_StripOrder.mono _ _ _
   | exact laws_eqIntS.mono _ _ _
   | exact laws_eqStripMoveS.mono _ _ _
   | exact laws_heldIntS.mono _ _ _
   | exact laws_markIntS.mono _ _ _
   | exact laws_markStripMoveS.mono _ _ _
   | exact laws_szStripMoveS.mono _ _ _
   | exact laws_toIntS.mono _ _
   | exact laws_toStripMoveS.mono _ _
   | exact spec_StripOrder.mono _ _ _
   | exact LeO.none _
   | refine LeO.ite ?_ ?_
   | refine LeO.bind ?_ (fun _ => ?_)
  ·intro y0 y1 y2 y3 y4 y5
   unfold laws_FnExactStripOrder.j1
   repeat' first
   | (with_reducible exact ih0 _ _ _ _ _ _ _ _ _)
   | (with_reducible exact ih1 _ _ _ _ _ _)
   | (with_reducible exact ih2 _ _ _)
   | (with_reducible exact impl_StripOrder.mono _ _ _)
   | (with_reducible exact laws_eqIntS.mono _ _ _)
   | (with_reducible exact laws_eqStripMoveS.mono _ _ _)
   | (with_reducible exact laws_heldIntS.mono _ _ _)
   | (with_reducible exact laws_markIntS.mono _ _ _)
   | (with_reducible exact laws_markStripMoveS.mono _ _ _)
   | (with_reducible exact laws_szStripMoveS.mono _ _ _)
   | (with_reducible exact laws_toIntS.mono _ _)
   | (with_reducible exact laws_toStripMoveS.mono _ _)
   | (with_reducible exact spec_StripOrder.mono _ _ _)
   | (with_reducible exact LeO.refl _)
   | (with_reducible exact LeO.none _)
   | (with_reducible refine LeO.ite ?_ ?_)
   | (with_reducible refine LeO.bind ?_ (fun _ => ?_))
   | exact ih0 _ _ _ _ _ _ _ _ _
   | exact ih1 _ _ _ _ _ _
   | exact ih2 _ _ _
   | exact impl_StripOrder.mono _ _ _
   | exact laws_eqIntS.mono _ _ _
   | exact laws_eqStripMoveS.mono _ _ _
   | exact laws_heldIntS.mono _ _ _
   | exact laws_markIntS.mono _ _ _
   | exact laws_markStripMoveS.mono _ _ _
   | exact laws_szStripMoveS.mono _ _ _
   | exact laws_toIntS.mono _ _
   | exact laws_toStripMoveS.mono _ _
   | exact spec_StripOrder.mono _ _ _
   | exact LeO.none _
   | refine LeO.ite ?_ ?_
   | refine LeO.bind ?_ (fun _ => ?_)
  ·intro y0 y1 y2
   unfold laws_FnExactStripOrder.j2
   repeat' first
   | (with_reducible exact ih0 _ _ _ _ _ _ _ _ _)
   | (with_reducible exact ih1 _ _ _ _ _ _)
   | (with_reducible exact ih2 _ _ _)
   | (with_reducible exact impl_StripOrder.mono _ _ _)
   | (with_reducible exact laws_eqIntS.mono _ _ _)
   | (with_reducible exact laws_eqStripMoveS.mono _ _ _)
   | (with_reducible exact laws_heldIntS.mono _ _ _)
   | (with_reducible exact laws_markIntS.mono _ _ _)
   | (with_reducible exact laws_markStripMoveS.mono _ _ _)
   | (with_reducible exact laws_szStripMoveS.mono _ _ _)
   | (with_reducible exact laws_toIntS.mono _ _)
   | (with_reducible exact laws_toStripMoveS.mono _ _)
   | (with_reducible exact spec_StripOrder.mono _ _ _)
   | (with_reducible exact LeO.refl _)
   | (with_reducible exact LeO.none _)
   | (with_reducible refine LeO.ite ?_ ?_)
   | (with_reducible refine LeO.bind ?_ (fun _ => ?_))
   | exact ih0 _ _ _ _ _ _ _ _ _
   | exact ih1 _ _ _ _ _ _
   | exact ih2 _ _ _
   | exact impl_StripOrder.mono _ _ _
   | exact laws_eqIntS.mono _ _ _
   | exact laws_eqStripMoveS.mono _ _ _
   | exact laws_heldIntS.mono _ _ _
   | exact laws_markIntS.mono _ _ _
   | exact laws_markStripMoveS.mono _ _ _
   | exact laws_szStripMoveS.mono _ _ _
   | exact laws_toIntS.mono _ _
   | exact laws_toStripMoveS.mono _ _
   | exact spec_StripOrder.mono _ _ _
   | exact LeO.none _
   | refine LeO.ite ?_ ?_
   | refine LeO.bind ?_ (fun _ => ?_)
theorem laws_FnExactStripOrder.mono : ∀ a0 a1 k, LeO (laws_FnExactStripOrder.f k a0 a1) (laws_FnExactStripOrder.f (k + 1) a0 a1) := by
 intro a0 a1 k
 obtain ⟨ih0, ih1, ih2⟩ := laws_FnExactStripOrder.mono_l k
 unfold laws_FnExactStripOrder.f
 repeat' first
   | (with_reducible exact ih0 _ _ _ _ _ _ _ _ _)
   | (with_reducible exact ih1 _ _ _ _ _ _)
   | (with_reducible exact ih2 _ _ _)
   | (with_reducible exact impl_StripOrder.mono _ _ _)
   | (with_reducible exact laws_eqIntS.mono _ _ _)
   | (with_reducible exact laws_eqStripMoveS.mono _ _ _)
   | (with_reducible exact laws_heldIntS.mono _ _ _)
   | (with_reducible exact laws_markIntS.mono _ _ _)
   | (with_reducible exact laws_markStripMoveS.mono _ _ _)
   | (with_reducible exact laws_szStripMoveS.mono _ _ _)
   | (with_reducible exact laws_toIntS.mono _ _)
   | (with_reducible exact laws_toStripMoveS.mono _ _)
   | (with_reducible exact spec_StripOrder.mono _ _ _)
   | (with_reducible exact LeO.refl _)
   | (with_reducible exact LeO.none _)
   | (with_reducible refine LeO.ite ?_ ?_)
   | (with_reducible refine LeO.bind ?_ (fun _ => ?_))
   | exact ih0 _ _ _ _ _ _ _ _ _
   | exact ih1 _ _ _ _ _ _
   | exact ih2 _ _ _
   | exact impl_StripOrder.mono _ _ _
   | exact laws_eqIntS.mono _ _ _
   | exact laws_eqStripMoveS.mono _ _ _
   | exact laws_heldIntS.mono _ _ _
   | exact laws_markIntS.mono _ _ _
   | exact laws_markStripMoveS.mono _ _ _
   | exact laws_szStripMoveS.mono _ _ _
   | exact laws_toIntS.mono _ _
   | exact laws_toStripMoveS.mono _ _
   | exact spec_StripOrder.mono _ _ _
   | exact LeO.none _
   | refine LeO.ite ?_ ?_
   | refine LeO.bind ?_ (fun _ => ?_)
set_option maxHeartbeats 8000000 in
set_option maxRecDepth 100000 in
theorem laws_FnExactStripOrder.calls (k : Nat) (A0 : Option Addr) (c0 : Nat) (l0 : List (S71)) (A1 : Option Addr) (c1 : Nat) (l1 : List Int) (r : Bool) (w : World) (hr0 : Kd.C k71 w A0 l0.length l0) (hc0 : l0.length ≤ c0) (hr1 : Kd.C (Kd.int .i64) w A1 l1.length l1) (hc1 : l1.length ≤ c1) (h : laws_FnExactStripOrder.f k l0 l1 = some r) :
  Calls Try.prog 8 #[.slice A0 l0.length c0, .slice A1 l1.length c1] w fun e w' => e = .returned (.bool r) ∧ Below w.heap.size w w' := by
 have HR0 := Aside0.mk hr0
 have HC0 := Aside0.mk hc0
 clear hr0 hc0
 have HR1 := Aside0.mk hr1
 have HC1 := Aside0.mk hc1
 clear hr1 hc1
 have HB := Aside0.mk (Below.refl w.heap.size w)
 have H : (if (l1.length : Int) > 1048576 then (some true) else ((laws_szStripMoveS.f k l0 1048576).bind fun t101 => (if t101 < 0 then (some true) else ((laws_toStripMoveS.f k l0).bind fun t102 => ((laws_toIntS.f k l1).bind fun t105 => ((spec_StripOrder.f k t102 t105).bind fun bt108 => ((laws_toStripMoveS.f k l0).bind fun t112 => ((laws_toIntS.f k l1).bind fun t115 => ((impl_StripOrder.f k t112 t115).bind fun bt118 => ((laws_eqIntS.f k bt118.1 bt108.1).bind fun t122 => (if t122 = true then (laws_FnExactStripOrder.j0 k l0 l1 bt108.1 bt108.2 t112 t115 bt118.1 bt118.2 (bt118.2 != bt108.2)) else (laws_FnExactStripOrder.j0 k l0 l1 bt108.1 bt108.2 t112 t115 bt118.1 bt118.2 true)))))))))))) = some r := h
 clear h
 by_cases c3 : (l1.length : Int) > 1048576
 ·rw [if_pos c3] at H
  have c3b0 : decide (1048576 < (l1.length : Int)) = true := decide_eq_true c3
  have c3b1 : decide (1048576 < l1.length) = true := decide_eq_true (by omega)
  clear c3
  obtain rfl := Option.some.inj H
  go_enter Try.func8, Try.ntmps8
  go_wp2
  go_ret
  exact ⟨by first | rfl | (simp [errW_none, errW_some] <;> rfl) | (simp [*, errW_none, errW_some] <;> rfl), eb HB.out⟩
 ·rw [if_neg c3] at H
  have c3b0 : decide (1048576 < (l1.length : Int)) = false := decide_eq_false c3
  have c3b1 : decide (1048576 < l1.length) = false := decide_eq_false (by omega)
  clear c3
  replace H := Option.bind_eq_some_iff.mp H
  obtain ⟨t101, A40, H⟩ := H
  replace H : (if t101 < 0 then (some true) else ((laws_toStripMoveS.f k l0).bind fun t102 => ((laws_toIntS.f k l1).bind fun t105 => ((spec_StripOrder.f k t102 t105).bind fun bt108 => ((laws_toStripMoveS.f k l0).bind fun t112 => ((laws_toIntS.f k l1).bind fun t115 => ((impl_StripOrder.f k t112 t115).bind fun bt118 => ((laws_eqIntS.f k bt118.1 bt108.1).bind fun t122 => (if t122 = true then (laws_FnExactStripOrder.j0 k l0 l1 bt108.1 bt108.2 t112 t115 bt118.1 bt118.2 (bt118.2 != bt108.2)) else (laws_FnExactStripOrder.j0 k l0 l1 bt108.1 bt108.2 t112 t115 bt118.1 bt118.2 true)))))))))) = some r := H
  have A4 := Aside0.mk A40
  clear A40
  by_cases c5 : t101 < 0
  ·rw [if_pos c5] at H
   have c5b0 : decide (t101 < 0) = true := decide_eq_true c5
   clear c5
   obtain rfl := Option.some.inj H
   go_enter Try.func8, Try.ntmps8
   go_wp2_with (first | ((with_reducible refine gate_callee (f := 15) rfl ?_); refine goesL_ (some 22) rfl rfl Try.func15 (by kernel_rfl) rfl #[.slice A0 l0.length c0, .int .i64 1048576] rfl (by (try simp only [List.map_toArray, List.map_cons, List.map_nil]); first | done | rfl | (simp only [List.length_drop, List.length_take]; rfl)) ?_; (with_reducible refine (laws_szStripMoveS.calls k _ _ l0 1048576 t101 _ ?side1 ?side2 A4.out).mono ?_); (case side1 => repeat (first | exact HR0.out | (with_reducible refine Kd.C_alloc ?_ _) | (with_reducible refine Kd.C_drewN ?_ _) | (with_reducible refine Kd.C_drew ?_))); (case side2 => exact HC0.out); rintro e w6 ⟨rfl, hb⟩; refine ⟨_, rfl, ?_⟩; have n0_ := Aside0.mk (below_step (eb HB.out) hb); clear HB; have HB := n0_; clear n0_; (try clear hb); (try clear hb2); (try clear hk); (try clear hi)))
   go_ret
   exact ⟨by first | rfl | (simp [errW_none, errW_some] <;> rfl) | (simp [*, errW_none, errW_some] <;> rfl), eb HB.out⟩
  ·rw [if_neg c5] at H
   have c5b0 : decide (t101 < 0) = false := decide_eq_false c5
   clear c5
   replace H := Option.bind_eq_some_iff.mp H
   obtain ⟨t102, A70, H⟩ := H
   replace H : ((laws_toIntS.f k l1).bind fun t105 => ((spec_StripOrder.f k t102 t105).bind fun bt108 => ((laws_toStripMoveS.f k l0).bind fun t112 => ((laws_toIntS.f k l1).bind fun t115 => ((impl_StripOrder.f k t112 t115).bind fun bt118 => ((laws_eqIntS.f k bt118.1 bt108.1).bind fun t122 => (if t122 = true then (laws_FnExactStripOrder.j0 k l0 l1 bt108.1 bt108.2 t112 t115 bt118.1 bt118.2 (bt118.2 != bt108.2)) else (laws_FnExactStripOrder.j0 k l0 l1 bt108.1 bt108.2 t112 t115 bt118.1 bt118.2 true)))))))) = some r := H
   have A7 := Aside0.mk A70
   clear A70
   replace H := Option.bind_eq_some_iff.mp H
   obtain ⟨t105, A80, H⟩ := H
   replace H : ((spec_StripOrder.f k t102 t105).bind fun bt108 => ((laws_toStripMoveS.f k l0).bind fun t112 => ((laws_toIntS.f k l1).bind fun t115 => ((impl_StripOrder.f k t112 t115).bind fun bt118 => ((laws_eqIntS.f k bt118.1 bt108.1).bind fun t122 => (if t122 = true then (laws_FnExactStripOrder.j0 k l0 l1 bt108.1 bt108.2 t112 t115 bt118.1 bt118.2 (bt118.2 != bt108.2)) else (laws_FnExactStripOrder.j0 k l0 l1 bt108.1 bt108.2 t112 t115 bt118.1 bt118.2 true))))))) = some r := H
   have A8 := Aside0.mk A80
   clear A80
   replace H := Option.bind_eq_some_iff.mp H
   obtain ⟨⟨t108, t109⟩, A90, H⟩ := H
   replace H : ((laws_toStripMoveS.f k l0).bind fun t112 => ((laws_toIntS.f k l1).bind fun t115 => ((impl_StripOrder.f k t112 t115).bind fun bt118 => ((laws_eqIntS.f k bt118.1 t108).bind fun t122 => (if t122 = true then (laws_FnExactStripOrder.j0 k l0 l1 t108 t109 t112 t115 bt118.1 bt118.2 (bt118.2 != t109)) else (laws_FnExactStripOrder.j0 k l0 l1 t108 t109 t112 t115 bt118.1 bt118.2 true)))))) = some r := H
   have A9 := Aside0.mk A90
   clear A90
   replace H := Option.bind_eq_some_iff.mp H
   obtain ⟨t112, A100, H⟩ := H
   replace H : ((laws_toIntS.f k l1).bind fun t115 => ((impl_StripOrder.f k t112 t115).bind fun bt118 => ((laws_eqIntS.f k bt118.1 t108).bind fun t122 => (if t122 = true then (laws_FnExactStripOrder.j0 k l0 l1 t108 t109 t112 t115 bt118.1 bt118.2 (bt118.2 != t109)) else (laws_FnExactStripOrder.j0 k l0 l1 t108 t109 t112 t115 bt118.1 bt118.2 true))))) = some r := H
   have A10 := Aside0.mk A100
   clear A100
   replace H := Option.bind_eq_some_iff.mp H
   obtain ⟨t115, A110, H⟩ := H
   replace H : ((impl_StripOrder.f k t112 t115).bind fun bt118 => ((laws_eqIntS.f k bt118.1 t108).bind fun t122 => (if t122 = true then (laws_FnExactStripOrder.j0 k l0 l1 t108 t109 t112 t115 bt118.1 bt118.2 (bt118.2 != t109)) else (laws_FnExactStripOrder.j0 k l0 l1 t108 t109 t112 t115 bt118.1 bt118.2 true)))) = some r := H
   have A11 := Aside0.mk A110
   clear A110
   replace H := Option.bind_eq_some_iff.mp H
   obtain ⟨⟨t118, t119⟩, A120, H⟩ := H
   replace H : ((laws_eqIntS.f k t118 t108).bind fun t122 => (if t122 = true then (laws_FnExactStripOrder.j0 k l0 l1 t108 t109 t112 t115 t118 t119 (t119 != t109)) else (laws_FnExactStripOrder.j0 k l0 l1 t108 t109 t112 t115 t118 t119 true))) = some r := H
   have A12 := Aside0.mk A120
   clear A120
   have HC13 := Aside0.mk H
   clear H
   go_enter Try.func8, Try.ntmps8
   go_upto_region 11 with (first | ((with_reducible refine gate_callee (f := 15) rfl ?_); refine goesL_ (some 22) rfl rfl Try.func15 (by kernel_rfl) rfl #[.slice A0 l0.length c0, .int .i64 1048576] rfl (by (try simp only [List.map_toArray, List.map_cons, List.map_nil]); first | done | rfl | (simp only [List.length_drop, List.length_take]; rfl)) ?_; (with_reducible refine (laws_szStripMoveS.calls k _ _ l0 1048576 t101 _ ?side1 ?side2 A4.out).mono ?_); (case side1 => repeat (first | exact HR0.out | (with_reducible refine Kd.C_alloc ?_ _) | (with_reducible refine Kd.C_drewN ?_ _) | (with_reducible refine Kd.C_drew ?_))); (case side2 => exact HC0.out); rintro e w14 ⟨rfl, hb⟩; refine ⟨_, rfl, ?_⟩; have n0_ := Aside0.mk (below_step (eb HB.out) hb); clear HB; have HB := n0_; clear n0_; (try clear hb); (try clear hb2); (try clear hk); (try clear hi)) | ((with_reducible refine gate_callee (f := 17) rfl ?_); refine goesL_ (some 27) rfl rfl Try.func17 (by kernel_rfl) rfl #[.slice A0 l0.length c0] rfl (by (try simp only [List.map_toArray, List.map_cons, List.map_nil]); first | done | rfl | (simp only [List.length_drop, List.length_take]; rfl)) ?_; (with_reducible refine (laws_toStripMoveS.calls k _ _ l0 t102 _ ?side1 ?side2 A7.out).mono ?_); (case side1 => repeat (first | exact (Kd.C_below HR0.out HB.out) | (with_reducible refine Kd.C_alloc ?_ _) | (with_reducible refine Kd.C_drewN ?_ _) | (with_reducible refine Kd.C_drew ?_))); (case side2 => exact HC0.out); rintro e w15 ⟨v103, rfl, ho0, hb⟩; refine ⟨_, rfl, ?_⟩; have n0_ := Aside0.mk (Kd.R_lower ho0 (below_size (eb HB.out))); have n1_ := Aside0.mk (below_step (eb HB.out) hb); clear HB; have HO104 := n0_; have HB := n1_; clear n0_ n1_; (try clear hb); (try clear hb2); (try clear hk); (try clear hi); (try clear ho0)) | ((with_reducible refine gate_callee (f := 12) rfl ?_); refine goesL_ (some 29) rfl rfl Try.func12 (by kernel_rfl) rfl #[.slice A1 l1.length c1] rfl (by (try simp only [List.map_toArray, List.map_cons, List.map_nil]); first | done | rfl | (simp only [List.length_drop, List.length_take]; rfl)) ?_; (with_reducible refine (laws_toIntS.calls k _ _ l1 t105 _ ?side1 ?side2 A8.out).mono ?_); (case side1 => repeat (first | exact (Kd.C_below HR1.out HB.out) | (with_reducible refine Kd.C_alloc ?_ _) | (with_reducible refine Kd.C_drewN ?_ _) | (with_reducible refine Kd.C_drew ?_))); (case side2 => exact HC1.out); rintro e w16 ⟨v106, rfl, ho0, hb⟩; refine ⟨_, rfl, ?_⟩; have n0_ := Aside0.mk (Kd.R_below (er HO104.out) hb); have n1_ := Aside0.mk (Kd.R_lower ho0 (below_size (eb HB.out))); have n2_ := Aside0.mk (below_step (eb HB.out) hb); clear HO104; clear HB; have HO104 := n0_; have HO107 := n1_; have HB := n2_; clear n0_ n1_ n2_; (try clear hb); (try clear hb2); (try clear hk); (try clear hi); (try clear ho0); obtain ⟨Ao17, co17, eo17⟩ := Kd.R_slice HO104.out; subst eo17; obtain ⟨Ao18, co18, eo18⟩ := Kd.R_slice HO107.out; subst eo18) | ((with_reducible refine gate_callee (f := 29) rfl ?_); refine goesL_ (some 30) rfl rfl Try.func29 (by kernel_rfl) rfl #[.slice Ao17 t102.length co17, .slice Ao18 t105.length co18] rfl (by (try simp only [List.map_toArray, List.map_cons, List.map_nil]); first | done | rfl | (simp only [List.length_drop, List.length_take]; rfl)) ?_; (with_reducible refine (spec_StripOrder.calls k _ _ t102 _ _ t105 t108 t109 _ ?side1 ?side2 ?side3 ?side4 A9.out).mono ?_); (case side1 => repeat (first | exact (Kd.R_reads' HO104.out).2.2 | (with_reducible refine Kd.C_alloc ?_ _) | (with_reducible refine Kd.C_drewN ?_ _) | (with_reducible refine Kd.C_drew ?_))); (case side2 => exact (Kd.R_reads' HO104.out).2.1); (case side3 => repeat (first | exact (Kd.R_reads' HO107.out).2.2 | (with_reducible refine Kd.C_alloc ?_ _) | (with_reducible refine Kd.C_drewN ?_ _) | (with_reducible refine Kd.C_drew ?_))); (case side4 => exact (Kd.R_reads' HO107.out).2.1); rintro e w19 ⟨v110, rfl, ho0, hb⟩; refine ⟨_, rfl, ?_⟩; have n0_ := Aside0.mk (Kd.R_below (er HO104.out) hb); have n1_ := Aside0.mk (Kd.R_elder' (er HO107.out) (Kd.R_base ho0) hb); have n2_ := Aside0.mk (Kd.R_lower (Kd.R_new' ho0 (Kd.R_lt (er HO107.out))) (below_size (eb HB.out))); have n3_ := Aside0.mk (below_step (eb HB.out) hb); clear HO104; clear HO107; clear HB; have HO104 := n0_; have HO107 := n1_; have HO111 := n2_; have HB := n3_; clear n0_ n1_ n2_ n3_; (try clear hb); (try clear hb2); (try clear hk); (try clear hi); (try clear ho0)) | ((with_reducible refine gate_callee (f := 17) rfl ?_); refine goesL_ (some 34) rfl rfl Try.func17 (by kernel_rfl) rfl #[.slice A0 l0.length c0] rfl (by (try simp only [List.map_toArray, List.map_cons, List.map_nil]); first | done | rfl | (simp only [List.length_drop, List.length_take]; rfl)) ?_; (with_reducible refine (laws_toStripMoveS.calls k _ _ l0 t112 _ ?side1 ?side2 A10.out).mono ?_); (case side1 => repeat (first | exact (Kd.C_below HR0.out HB.out) | (with_reducible refine Kd.C_alloc ?_ _) | (with_reducible refine Kd.C_drewN ?_ _) | (with_reducible refine Kd.C_drew ?_))); (case side2 => exact HC0.out); rintro e w20 ⟨v113, rfl, ho0, hb⟩; refine ⟨_, rfl, ?_⟩; have n0_ := Aside0.mk (Kd.R_elder' (er HO104.out) (Kd.R_base ho0) hb); have n1_ := Aside0.mk (Kd.R_below (er HO107.out) hb); have n2_ := Aside0.mk (Kd.R_below (er HO111.out) hb); have n3_ := Aside0.mk (Kd.R_lower (Kd.R_new' ho0 (Kd.R_lt (er HO104.out))) (below_size (eb HB.out))); have n4_ := Aside0.mk (below_step (eb HB.out) hb); clear HO104; clear HO107; clear HO111; clear HB; have HO104 := n0_; have HO107 := n1_; have HO111 := n2_; have HO114 := n3_; have HB := n4_; clear n0_ n1_ n2_ n3_ n4_; (try clear hb); (try clear hb2); (try clear hk); (try clear hi); (try clear ho0)) | ((with_reducible refine gate_callee (f := 12) rfl ?_); refine goesL_ (some 36) rfl rfl Try.func12 (by kernel_rfl) rfl #[.slice A1 l1.length c1] rfl (by (try simp only [List.map_toArray, List.map_cons, List.map_nil]); first | done | rfl | (simp only [List.length_drop, List.length_take]; rfl)) ?_; (with_reducible refine (laws_toIntS.calls k _ _ l1 t115 _ ?side1 ?side2 A11.out).mono ?_); (case side1 => repeat (first | exact (Kd.C_below HR1.out HB.out) | (with_reducible refine Kd.C_alloc ?_ _) | (with_reducible refine Kd.C_drewN ?_ _) | (with_reducible refine Kd.C_drew ?_))); (case side2 => exact HC1.out); rintro e w21 ⟨v116, rfl, ho0, hb⟩; refine ⟨_, rfl, ?_⟩; have n0_ := Aside0.mk (Kd.R_below (er HO104.out) hb); have n1_ := Aside0.mk (Kd.R_elder' (er HO107.out) (Kd.R_base ho0) hb); have n2_ := Aside0.mk (Kd.R_elder' (er HO111.out) (Kd.R_base ho0) hb); have n3_ := Aside0.mk (Kd.R_below (er HO114.out) hb); have n4_ := Aside0.mk (Kd.R_lower (Kd.R_new' (Kd.R_new' ho0 (Kd.R_lt (er HO107.out))) (Kd.R_lt (er HO111.out))) (below_size (eb HB.out))); have n5_ := Aside0.mk (below_step (eb HB.out) hb); clear HO104; clear HO107; clear HO111; clear HO114; clear HB; have HO104 := n0_; have HO107 := n1_; have HO111 := n2_; have HO114 := n3_; have HO117 := n4_; have HB := n5_; clear n0_ n1_ n2_ n3_ n4_ n5_; (try clear hb); (try clear hb2); (try clear hk); (try clear hi); (try clear ho0); obtain ⟨Ao22, co22, eo22⟩ := Kd.R_slice HO114.out; subst eo22; obtain ⟨Ao23, co23, eo23⟩ := Kd.R_slice HO117.out; subst eo23) | ((with_reducible refine gate_callee (f := 30) rfl ?_); refine goesL_ (some 40) rfl rfl Try.func30 (by kernel_rfl) rfl #[.slice Ao22 t112.length co22, .slice Ao23 t115.length co23] rfl (by (try simp only [List.map_toArray, List.map_cons, List.map_nil]); first | done | rfl | (simp only [List.length_drop, List.length_take]; rfl)) ?_; (with_reducible refine (impl_StripOrder.calls k _ _ t112 _ _ t115 t118 t119 _ ?side1 ?side2 ?side3 ?side4 A12.out).mono ?_); (case side1 => repeat (first | exact (Kd.R_reads' HO114.out).2.2 | (with_reducible refine Kd.C_alloc ?_ _) | (with_reducible refine Kd.C_drewN ?_ _) | (with_reducible refine Kd.C_drew ?_))); (case side2 => exact (Kd.R_reads' HO114.out).2.1); (case side3 => repeat (first | exact (Kd.R_reads' HO117.out).2.2 | (with_reducible refine Kd.C_alloc ?_ _) | (with_reducible refine Kd.C_drewN ?_ _) | (with_reducible refine Kd.C_drew ?_))); (case side4 => exact (Kd.R_reads' HO117.out).2.1); rintro e w24 ⟨v120, rfl, ho0, hb⟩; refine ⟨_, rfl, ?_⟩; have n0_ := Aside0.mk (Kd.R_below (er HO104.out) hb); have n1_ := Aside0.mk (Kd.R_elder' (er HO107.out) (Kd.R_base ho0) hb); have n2_ := Aside0.mk (Kd.R_elder' (er HO111.out) (Kd.R_base ho0) hb); have n3_ := Aside0.mk (Kd.R_below (er HO114.out) hb); have n4_ := Aside0.mk (Kd.R_elder' (er HO117.out) (Kd.R_base ho0) hb); have n5_ := Aside0.mk (Kd.R_lower (Kd.R_new' (Kd.R_new' (Kd.R_new' ho0 (Kd.R_lt (er HO107.out))) (Kd.R_lt (er HO111.out))) (Kd.R_lt (er HO117.out))) (below_size (eb HB.out))); have n6_ := Aside0.mk (below_step (eb HB.out) hb); clear HO104; clear HO107; clear HO111; clear HO114; clear HO117; clear HB; have HO104 := n0_; have HO107 := n1_; have HO111 := n2_; have HO114 := n3_; have HO117 := n4_; have HO121 := n5_; have HB := n6_; clear n0_ n1_ n2_ n3_ n4_ n5_ n6_; (try clear hb); (try clear hb2); (try clear hk); (try clear hi); (try clear ho0)))
   (try simp only [Act.put, List.setIfInBounds_toArray, List.set_cons_zero, List.set_cons_succ])
   go_cut [51] (fun v51 wc => ∃ (kq : Nat) (x51_12 : Bool), v51 = .bool x51_12 ∧ Aside0 (laws_FnExactStripOrder.j0 kq l0 l1 t108 t109 t112 t115 t118 t119 x51_12 = some r) ∧ Aside0 (kq ≤ k) ∧ Aside0 (Kd.R (Kd.int .i64) 3 wc w.heap.size (fun k_ => some k_ ≠ ((.slice Ao23 t115.length co23) : Value).ownBlock ∧ some k_ ≠ (v120 : Value).ownBlock) v110 t108) ∧ Aside0 (Kd.R k54 54 wc w.heap.size (fun _ => True) (.slice Ao22 t112.length co22) t112) ∧ Aside0 (Kd.R (Kd.int .i64) 3 wc w.heap.size (fun k_ => some k_ ≠ (v110 : Value).ownBlock ∧ some k_ ≠ (v120 : Value).ownBlock) (.slice Ao23 t115.length co23) t115) ∧ Aside0 (Kd.R (Kd.int .i64) 3 wc w.heap.size (fun k_ => some k_ ≠ (v110 : Value).ownBlock ∧ some k_ ≠ ((.slice Ao23 t115.length co23) : Value).ownBlock) v120 t118) ∧ Aside0 (Below w.heap.size w wc))
   case first =>
    have H := HC13.out
    clear HC13
    replace H := Option.bind_eq_some_iff.mp H
    obtain ⟨t122, A250, H⟩ := H
    replace H : (if t122 = true then (laws_FnExactStripOrder.j0 k l0 l1 t108 t109 t112 t115 t118 t119 (t119 != t109)) else (laws_FnExactStripOrder.j0 k l0 l1 t108 t109 t112 t115 t118 t119 true)) = some r := H
    have A25 := Aside0.mk A250
    clear A250
    by_cases c26 : t122 = true
    ·subst c26
     have H1 : (laws_FnExactStripOrder.j0 k l0 l1 t108 t109 t112 t115 t118 t119 (t119 != t109)) = some r := by rw [if_pos rfl] at H; exact H
     clear H
     have H := H1
     clear H1
     have H' := Aside0.mk H
     clear H
     obtain ⟨Ao27, co27, eo27⟩ := Kd.R_slice HO121.out
     subst eo27
     obtain ⟨Ao28, co28, eo28⟩ := Kd.R_slice HO111.out
     subst eo28
     go_wp2_with (first | ((with_reducible refine gate_callee (f := 14) rfl ?_); refine goesL_ (some 45) rfl rfl Try.func14 (by kernel_rfl) rfl #[.slice Ao27 t118.length co27, .slice Ao28 t108.length co28] rfl (by (try simp only [List.map_toArray, List.map_cons, List.map_nil]); first | done | rfl | (simp only [List.length_drop, List.length_take]; rfl)) ?_; (with_reducible refine (laws_eqIntS.calls k _ _ t118 _ _ t108 true _ ?side1 ?side2 ?side3 ?side4 A25.out).mono ?_); (case side1 => repeat (first | exact (Kd.R_reads' HO121.out).2.2 | (with_reducible refine Kd.C_alloc ?_ _) | (with_reducible refine Kd.C_drewN ?_ _) | (with_reducible refine Kd.C_drew ?_))); (case side2 => exact (Kd.R_reads' HO121.out).2.1); (case side3 => repeat (first | exact (Kd.R_reads' HO111.out).2.2 | (with_reducible refine Kd.C_alloc ?_ _) | (with_reducible refine Kd.C_drewN ?_ _) | (with_reducible refine Kd.C_drew ?_))); (case side4 => exact (Kd.R_reads' HO111.out).2.1); rintro e w' ⟨rfl, ⟨nd, rfl⟩⟩; refine ⟨_, rfl, ?_⟩))
     go_meet
     case rel => exact ⟨_, ((t119 != t109)), (by first | rfl | (simp; done) | (simp [*]; done)), H', ⟨by first | omega | exact Nat.le_refl _⟩, ⟨by (with_reducible repeat (first | apply Kd.R_alloc | apply Kd.R_drewN | apply Kd.R_drew)); exact Kd.R_mono HO111.out (fun _ hk => ⟨hk.1.2, hk.2⟩)⟩, ⟨by (with_reducible repeat (first | apply Kd.R_alloc | apply Kd.R_drewN | apply Kd.R_drew)); exact Kd.R_mono HO114.out (fun _ hk => trivial)⟩, ⟨by (with_reducible repeat (first | apply Kd.R_alloc | apply Kd.R_drewN | apply Kd.R_drew)); exact Kd.R_mono HO117.out (fun _ hk => ⟨hk.1.2, hk.2⟩)⟩, ⟨by (with_reducible repeat (first | apply Kd.R_alloc | apply Kd.R_drewN | apply Kd.R_drew)); exact Kd.R_mono HO121.out (fun _ hk => ⟨hk.1.2, hk.2⟩)⟩, ⟨eb HB.out⟩⟩
    ·replace c26 := Bool.eq_false_iff.mpr c26
     subst c26
     have H1 : (laws_FnExactStripOrder.j0 k l0 l1 t108 t109 t112 t115 t118 t119 true) = some r := by rw [if_neg (show ¬ (false = true) by decide)] at H; exact H
     clear H
     have H := H1
     clear H1
     have H' := Aside0.mk H
     clear H
     obtain ⟨Ao29, co29, eo29⟩ := Kd.R_slice HO121.out
     subst eo29
     obtain ⟨Ao30, co30, eo30⟩ := Kd.R_slice HO111.out
     subst eo30
     go_wp2_with (first | ((with_reducible refine gate_callee (f := 14) rfl ?_); refine goesL_ (some 45) rfl rfl Try.func14 (by kernel_rfl) rfl #[.slice Ao29 t118.length co29, .slice Ao30 t108.length co30] rfl (by (try simp only [List.map_toArray, List.map_cons, List.map_nil]); first | done | rfl | (simp only [List.length_drop, List.length_take]; rfl)) ?_; (with_reducible refine (laws_eqIntS.calls k _ _ t118 _ _ t108 false _ ?side1 ?side2 ?side3 ?side4 A25.out).mono ?_); (case side1 => repeat (first | exact (Kd.R_reads' HO121.out).2.2 | (with_reducible refine Kd.C_alloc ?_ _) | (with_reducible refine Kd.C_drewN ?_ _) | (with_reducible refine Kd.C_drew ?_))); (case side2 => exact (Kd.R_reads' HO121.out).2.1); (case side3 => repeat (first | exact (Kd.R_reads' HO111.out).2.2 | (with_reducible refine Kd.C_alloc ?_ _) | (with_reducible refine Kd.C_drewN ?_ _) | (with_reducible refine Kd.C_drew ?_))); (case side4 => exact (Kd.R_reads' HO111.out).2.1); rintro e w' ⟨rfl, ⟨nd, rfl⟩⟩; refine ⟨_, rfl, ?_⟩))
     go_meet
     case rel => exact ⟨_, (true), (by first | rfl | (simp; done) | (simp [*]; done)), H', ⟨by first | omega | exact Nat.le_refl _⟩, ⟨by (with_reducible repeat (first | apply Kd.R_alloc | apply Kd.R_drewN | apply Kd.R_drew)); exact Kd.R_mono HO111.out (fun _ hk => ⟨hk.1.2, hk.2⟩)⟩, ⟨by (with_reducible repeat (first | apply Kd.R_alloc | apply Kd.R_drewN | apply Kd.R_drew)); exact Kd.R_mono HO114.out (fun _ hk => trivial)⟩, ⟨by (with_reducible repeat (first | apply Kd.R_alloc | apply Kd.R_drewN | apply Kd.R_drew)); exact Kd.R_mono HO117.out (fun _ hk => ⟨hk.1.2, hk.2⟩)⟩, ⟨by (with_reducible repeat (first | apply Kd.R_alloc | apply Kd.R_drewN | apply Kd.R_drew)); exact Kd.R_mono HO121.out (fun _ hk => ⟨hk.1.2, hk.2⟩)⟩, ⟨eb HB.out⟩⟩
   case rest =>
    clear HC13
    try clear c1
    try clear c2
    try clear p2
    try clear c3
    try clear c3b0
    try clear c3b1
    try clear c5
    try clear c5b0
    try clear c8
    try clear c12
    try clear c14
    try clear c15
    try clear c17
    try clear c26
    try clear c29
    try clear c30
    obtain ⟨kq, x51_12, rfl, HA, HJ12, HO_6, HO_8, HO_9, HO_10, HB⟩ := hcut
    cases kq with
    | zero => exact absurd HA.out (by simp [laws_FnExactStripOrder.j0])
    | succ kj12 =>
     have H := HA.out
     clear HA
     simp only [laws_FnExactStripOrder.j0] at H
     by_cases c31 : x51_12 = true
     ·subst c31
      have H1 : (some false) = some r := by rw [if_pos rfl] at H; exact H
      clear H
      have H := H1
      clear H1
      obtain rfl := Option.some.inj H
      go_wp2
      go_ret
      exact ⟨by first | rfl | (simp [errW_none, errW_some] <;> rfl) | (simp [*, errW_none, errW_some] <;> rfl), eb HB.out⟩
     ·replace c31 := Bool.eq_false_iff.mpr c31
      subst c31
      have H1 : ((laws_toStripMoveS.f kj12 l0).bind fun t123 => ((laws_eqStripMoveS.f kj12 t112 t123).bind fun t126 => (if t126 = true then ((laws_toIntS.f kj12 l1).bind fun t127 => ((laws_eqIntS.f kj12 t115 t127).bind fun t130 => (if t130 = true then ((laws_markStripMoveS.f kj12 t112 1).bind fun bt131 => ((laws_markIntS.f kj12 t115 bt131.1).bind fun bt133 => (if bt133.1 < 0 then (laws_FnExactStripOrder.j1 kj12 l0 l1 t108 t109 t118 true) else ((laws_eqIntS.f kj12 t118 t108).bind fun t135 => (if t135 = true then (laws_FnExactStripOrder.j1 kj12 l0 l1 t108 t109 t118 (t119 != t109)) else (laws_FnExactStripOrder.j1 kj12 l0 l1 t108 t109 t118 true)))))) else (some false)))) else (some false)))) = some r := by rw [if_neg (show ¬ (false = true) by decide)] at H; exact H
      clear H
      have H := H1
      clear H1
      replace H := Option.bind_eq_some_iff.mp H
      obtain ⟨t123, A320, H⟩ := H
      replace H : ((laws_eqStripMoveS.f kj12 t112 t123).bind fun t126 => (if t126 = true then ((laws_toIntS.f kj12 l1).bind fun t127 => ((laws_eqIntS.f kj12 t115 t127).bind fun t130 => (if t130 = true then ((laws_markStripMoveS.f kj12 t112 1).bind fun bt131 => ((laws_markIntS.f kj12 t115 bt131.1).bind fun bt133 => (if bt133.1 < 0 then (laws_FnExactStripOrder.j1 kj12 l0 l1 t108 t109 t118 true) else ((laws_eqIntS.f kj12 t118 t108).bind fun t135 => (if t135 = true then (laws_FnExactStripOrder.j1 kj12 l0 l1 t108 t109 t118 (t119 != t109)) else (laws_FnExactStripOrder.j1 kj12 l0 l1 t108 t109 t118 true)))))) else (some false)))) else (some false))) = some r := H
      have A32 := Aside0.mk A320
      clear A320
      replace H := Option.bind_eq_some_iff.mp H
      obtain ⟨t126, A330, H⟩ := H
      replace H : (if t126 = true then ((laws_toIntS.f kj12 l1).bind fun t127 => ((laws_eqIntS.f kj12 t115 t127).bind fun t130 => (if t130 = true then ((laws_markStripMoveS.f kj12 t112 1).bind fun bt131 => ((laws_markIntS.f kj12 t115 bt131.1).bind fun bt133 => (if bt133.1 < 0 then (laws_FnExactStripOrder.j1 kj12 l0 l1 t108 t109 t118 true) else ((laws_eqIntS.f kj12 t118 t108).bind fun t135 => (if t135 = true then (laws_FnExactStripOrder.j1 kj12 l0 l1 t108 t109 t118 (t119 != t109)) else (laws_FnExactStripOrder.j1 kj12 l0 l1 t108 t109 t118 true)))))) else (some false)))) else (some false)) = some r := H
      have A33 := Aside0.mk A330
      clear A330
      by_cases c34 : t126 = true
      ·subst c34
       have H1 : ((laws_toIntS.f kj12 l1).bind fun t127 => ((laws_eqIntS.f kj12 t115 t127).bind fun t130 => (if t130 = true then ((laws_markStripMoveS.f kj12 t112 1).bind fun bt131 => ((laws_markIntS.f kj12 t115 bt131.1).bind fun bt133 => (if bt133.1 < 0 then (laws_FnExactStripOrder.j1 kj12 l0 l1 t108 t109 t118 true) else ((laws_eqIntS.f kj12 t118 t108).bind fun t135 => (if t135 = true then (laws_FnExactStripOrder.j1 kj12 l0 l1 t108 t109 t118 (t119 != t109)) else (laws_FnExactStripOrder.j1 kj12 l0 l1 t108 t109 t118 true)))))) else (some false)))) = some r := by rw [if_pos rfl] at H; exact H
       clear H
       have H := H1
       clear H1
       replace H := Option.bind_eq_some_iff.mp H
       obtain ⟨t127, A350, H⟩ := H
       replace H : ((laws_eqIntS.f kj12 t115 t127).bind fun t130 => (if t130 = true then ((laws_markStripMoveS.f kj12 t112 1).bind fun bt131 => ((laws_markIntS.f kj12 t115 bt131.1).bind fun bt133 => (if bt133.1 < 0 then (laws_FnExactStripOrder.j1 kj12 l0 l1 t108 t109 t118 true) else ((laws_eqIntS.f kj12 t118 t108).bind fun t135 => (if t135 = true then (laws_FnExactStripOrder.j1 kj12 l0 l1 t108 t109 t118 (t119 != t109)) else (laws_FnExactStripOrder.j1 kj12 l0 l1 t108 t109 t118 true)))))) else (some false))) = some r := H
       have A35 := Aside0.mk A350
       clear A350
       replace H := Option.bind_eq_some_iff.mp H
       obtain ⟨t130, A360, H⟩ := H
       replace H : (if t130 = true then ((laws_markStripMoveS.f kj12 t112 1).bind fun bt131 => ((laws_markIntS.f kj12 t115 bt131.1).bind fun bt133 => (if bt133.1 < 0 then (laws_FnExactStripOrder.j1 kj12 l0 l1 t108 t109 t118 true) else ((laws_eqIntS.f kj12 t118 t108).bind fun t135 => (if t135 = true then (laws_FnExactStripOrder.j1 kj12 l0 l1 t108 t109 t118 (t119 != t109)) else (laws_FnExactStripOrder.j1 kj12 l0 l1 t108 t109 t118 true)))))) else (some false)) = some r := H
       have A36 := Aside0.mk A360
       clear A360
       by_cases c37 : t130 = true
       ·subst c37
        have H1 : ((laws_markStripMoveS.f kj12 t112 1).bind fun bt131 => ((laws_markIntS.f kj12 t115 bt131.1).bind fun bt133 => (if bt133.1 < 0 then (laws_FnExactStripOrder.j1 kj12 l0 l1 t108 t109 t118 true) else ((laws_eqIntS.f kj12 t118 t108).bind fun t135 => (if t135 = true then (laws_FnExactStripOrder.j1 kj12 l0 l1 t108 t109 t118 (t119 != t109)) else (laws_FnExactStripOrder.j1 kj12 l0 l1 t108 t109 t118 true)))))) = some r := by rw [if_pos rfl] at H; exact H
        clear H
        have H := H1
        clear H1
        replace H := Option.bind_eq_some_iff.mp H
        obtain ⟨⟨t131, t132⟩, A380, H⟩ := H
        replace H : ((laws_markIntS.f kj12 t115 t131).bind fun bt133 => (if bt133.1 < 0 then (laws_FnExactStripOrder.j1 kj12 l0 l1 t108 t109 t118 true) else ((laws_eqIntS.f kj12 t118 t108).bind fun t135 => (if t135 = true then (laws_FnExactStripOrder.j1 kj12 l0 l1 t108 t109 t118 (t119 != t109)) else (laws_FnExactStripOrder.j1 kj12 l0 l1 t108 t109 t118 true))))) = some r := H
        have A38 := Aside0.mk A380
        clear A380
        replace H := Option.bind_eq_some_iff.mp H
        obtain ⟨⟨t133, t134⟩, A390, H⟩ := H
        replace H : (if t133 < 0 then (laws_FnExactStripOrder.j1 kj12 l0 l1 t108 t109 t118 true) else ((laws_eqIntS.f kj12 t118 t108).bind fun t135 => (if t135 = true then (laws_FnExactStripOrder.j1 kj12 l0 l1 t108 t109 t118 (t119 != t109)) else (laws_FnExactStripOrder.j1 kj12 l0 l1 t108 t109 t118 true)))) = some r := H
        have A39 := Aside0.mk A390
        clear A390
        have HC40 := Aside0.mk H
        clear H
        go_upto_region 20 with (first | ((with_reducible refine gate_callee (f := 17) rfl ?_); refine goesL_ (some 54) rfl rfl Try.func17 (by kernel_rfl) rfl #[.slice A0 l0.length c0] rfl (by (try simp only [List.map_toArray, List.map_cons, List.map_nil]); first | done | rfl | (simp only [List.length_drop, List.length_take]; rfl)) ?_; (with_reducible refine (laws_toStripMoveS.calls kj12 _ _ l0 t123 _ ?side1 ?side2 A32.out).mono ?_); (case side1 => repeat (first | exact (Kd.C_below HR0.out HB.out) | (with_reducible refine Kd.C_alloc ?_ _) | (with_reducible refine Kd.C_drewN ?_ _) | (with_reducible refine Kd.C_drew ?_))); (case side2 => exact HC0.out); rintro e w41 ⟨v124, rfl, ho0, hb⟩; refine ⟨_, rfl, ?_⟩; have n0_ := Aside0.mk (Kd.R_below (er HO_6.out) hb); have n1_ := Aside0.mk (Kd.R_elder' (er HO_8.out) (Kd.R_base ho0) hb); have n2_ := Aside0.mk (Kd.R_below (er HO_9.out) hb); have n3_ := Aside0.mk (Kd.R_below (er HO_10.out) hb); have n4_ := Aside0.mk (Kd.R_lower (Kd.R_new' ho0 (Kd.R_lt (er HO_8.out))) (below_size (eb HB.out))); have n5_ := Aside0.mk (below_step (eb HB.out) hb); clear HO_6; clear HO_8; clear HO_9; clear HO_10; clear HB; have HO_6 := n0_; have HO_8 := n1_; have HO_9 := n2_; have HO_10 := n3_; have HO125 := n4_; have HB := n5_; clear n0_ n1_ n2_ n3_ n4_ n5_; (try clear hb); (try clear hb2); (try clear hk); (try clear hi); (try clear ho0); obtain ⟨Ao42, co42, eo42⟩ := Kd.R_slice HO125.out; subst eo42) | ((with_reducible refine gate_callee (f := 19) rfl ?_); refine goesL_ (some 55) rfl rfl Try.func19 (by kernel_rfl) rfl #[.slice Ao22 t112.length co22, .slice Ao42 t123.length co42] rfl (by (try simp only [List.map_toArray, List.map_cons, List.map_nil]); first | done | rfl | (simp only [List.length_drop, List.length_take]; rfl)) ?_; (with_reducible refine (laws_eqStripMoveS.calls kj12 _ _ t112 _ _ t123 true _ ?side1 ?side2 ?side3 ?side4 A33.out).mono ?_); (case side1 => repeat (first | exact (Kd.R_reads' HO_8.out).2.2 | (with_reducible refine Kd.C_alloc ?_ _) | (with_reducible refine Kd.C_drewN ?_ _) | (with_reducible refine Kd.C_drew ?_))); (case side2 => exact (Kd.R_reads' HO_8.out).2.1); (case side3 => repeat (first | exact (Kd.R_reads' HO125.out).2.2 | (with_reducible refine Kd.C_alloc ?_ _) | (with_reducible refine Kd.C_drewN ?_ _) | (with_reducible refine Kd.C_drew ?_))); (case side4 => exact (Kd.R_reads' HO125.out).2.1); rintro e w43 ⟨rfl, hb⟩; refine ⟨_, rfl, ?_⟩; have n0_ := Aside0.mk (Kd.R_below (er HO_6.out) hb); have n1_ := Aside0.mk (Kd.R_below (er HO_8.out) hb); have n2_ := Aside0.mk (Kd.R_below (er HO_9.out) hb); have n3_ := Aside0.mk (Kd.R_below (er HO_10.out) hb); have n4_ := Aside0.mk (Kd.R_below (er HO125.out) hb); have n5_ := Aside0.mk (below_step (eb HB.out) hb); clear HO_6; clear HO_8; clear HO_9; clear HO_10; clear HO125; clear HB; have HO_6 := n0_; have HO_8 := n1_; have HO_9 := n2_; have HO_10 := n3_; have HO125 := n4_; have HB := n5_; clear n0_ n1_ n2_ n3_ n4_ n5_; (try clear hb); (try clear hb2); (try clear hk); (try clear hi)) | ((with_reducible refine gate_callee (f := 12) rfl ?_); refine goesL_ (some 59) rfl rfl Try.func12 (by kernel_rfl) rfl #[.slice A1 l1.length c1] rfl (by (try simp only [List.map_toArray, List.map_cons, List.map_nil]); first | done | rfl | (simp only [List.length_drop, List.length_take]; rfl)) ?_; (with_reducible refine (laws_toIntS.calls kj12 _ _ l1 t127 _ ?side1 ?side2 A35.out).mono ?_); (case side1 => repeat (first | exact (Kd.C_below HR1.out HB.out) | (with_reducible refine Kd.C_alloc ?_ _) | (with_reducible refine Kd.C_drewN ?_ _) | (with_reducible refine Kd.C_drew ?_))); (case side2 => exact HC1.out); rintro e w44 ⟨v128, rfl, ho0, hb⟩; refine ⟨_, rfl, ?_⟩; have n0_ := Aside0.mk (Kd.R_elder' (er HO_6.out) (Kd.R_base ho0) hb); have n1_ := Aside0.mk (Kd.R_below (er HO_8.out) hb); have n2_ := Aside0.mk (Kd.R_elder' (er HO_9.out) (Kd.R_base ho0) hb); have n3_ := Aside0.mk (Kd.R_elder' (er HO_10.out) (Kd.R_base ho0) hb); have n4_ := Aside0.mk (Kd.R_below (er HO125.out) hb); have n5_ := Aside0.mk (Kd.R_lower (Kd.R_new' (Kd.R_new' (Kd.R_new' ho0 (Kd.R_lt (er HO_6.out))) (Kd.R_lt (er HO_9.out))) (Kd.R_lt (er HO_10.out))) (below_size (eb HB.out))); have n6_ := Aside0.mk (below_step (eb HB.out) hb); clear HO_6; clear HO_8; clear HO_9; clear HO_10; clear HO125; clear HB; have HO_6 := n0_; have HO_8 := n1_; have HO_9 := n2_; have HO_10 := n3_; have HO125 := n4_; have HO129 := n5_; have HB := n6_; clear n0_ n1_ n2_ n3_ n4_ n5_ n6_; (try clear hb); (try clear hb2); (try clear hk); (try clear hi); (try clear ho0); obtain ⟨Ao45, co45, eo45⟩ := Kd.R_slice HO129.out; subst eo45) | ((with_reducible refine gate_callee (f := 14) rfl ?_); refine goesL_ (some 60) rfl rfl Try.func14 (by kernel_rfl) rfl #[.slice Ao23 t115.length co23, .slice Ao45 t127.length co45] rfl (by (try simp only [List.map_toArray, List.map_cons, List.map_nil]); first | done | rfl | (simp only [List.length_drop, List.length_take]; rfl)) ?_; (with_reducible refine (laws_eqIntS.calls kj12 _ _ t115 _ _ t127 true _ ?side1 ?side2 ?side3 ?side4 A36.out).mono ?_); (case side1 => repeat (first | exact (Kd.R_reads' HO_9.out).2.2 | (with_reducible refine Kd.C_alloc ?_ _) | (with_reducible refine Kd.C_drewN ?_ _) | (with_reducible refine Kd.C_drew ?_))); (case side2 => exact (Kd.R_reads' HO_9.out).2.1); (case side3 => repeat (first | exact (Kd.R_reads' HO129.out).2.2 | (with_reducible refine Kd.C_alloc ?_ _) | (with_reducible refine Kd.C_drewN ?_ _) | (with_reducible refine Kd.C_drew ?_))); (case side4 => exact (Kd.R_reads' HO129.out).2.1); rintro e w' ⟨rfl, ⟨nd, rfl⟩⟩; refine ⟨_, rfl, ?_⟩) | ((with_reducible refine gate_callee (f := 31) rfl ?_); refine goesL_ (some 64) rfl rfl Try.func31 (by kernel_rfl) rfl #[.slice Ao22 t112.length co22, .int .i64 1] rfl (by (try simp only [List.map_toArray, List.map_cons, List.map_nil]); first | done | rfl | (simp only [List.length_drop, List.length_take]; rfl)) ?_; (with_reducible refine (laws_markStripMoveS.calls kj12 (fun k_ => some k_ = (.slice Ao22 t112.length co22 : Value).ownBlock) (.slice Ao22 t112.length co22) t112 1 t131 t132 w _ ?side1 ?side2 A38.out).mono ?_); (case side1 => repeat (first | (with_reducible first | exact HB.out | apply below_alloc | apply pw_below_drewN | apply below_drew1) | exact HB.out)); (case side2 => exact Kd.R_tight rfl HO_8.out); rintro e w46 ⟨rfl, hy0, hb, hkp⟩; refine ⟨_, rfl, ?_⟩; have n0_ := Aside0.mk (Kd.R_mono (ok' := fun k_ => some k_ ≠ (.slice Ao23 t115.length co23 : Value).ownBlock ∧ some k_ ≠ (v120 : Value).ownBlock ∧ some k_ ≠ (.slice Ao45 t127.length co45 : Value).ownBlock) (Kd.R_keptB ((Kd.R_apart' HO_6.out (Kd.R_typed HO_8.out) (by decide))) hkp (fun k_ hk_ hs_ => (hk_.2) hs_)) (fun k_ hk_ => ⟨hk_.1.1.1.1, hk_.1.1.1.2, hk_.1.1.2⟩)); have n1_ := Aside0.mk (Kd.R_reok rfl hy0 (fun k_ e_ => HO_8.out.1 k_ e_)); have n2_ := Aside0.mk (Kd.R_mono (ok' := fun k_ => some k_ ≠ (v110 : Value).ownBlock ∧ some k_ ≠ (v120 : Value).ownBlock ∧ some k_ ≠ (.slice Ao45 t127.length co45 : Value).ownBlock) (Kd.R_keptB ((Kd.R_apart' HO_9.out (Kd.R_typed HO_8.out) (by decide))) hkp (fun k_ hk_ hs_ => (hk_.2) hs_)) (fun k_ hk_ => ⟨hk_.1.1.1.1, hk_.1.1.1.2, hk_.1.1.2⟩)); have n3_ := Aside0.mk (Kd.R_mono (ok' := fun k_ => some k_ ≠ (v110 : Value).ownBlock ∧ some k_ ≠ (.slice Ao23 t115.length co23 : Value).ownBlock ∧ some k_ ≠ (.slice Ao45 t127.length co45 : Value).ownBlock) (Kd.R_keptB ((Kd.R_apart' HO_10.out (Kd.R_typed HO_8.out) (by decide))) hkp (fun k_ hk_ hs_ => (hk_.2) hs_)) (fun k_ hk_ => ⟨hk_.1.1.1.1, hk_.1.1.1.2, hk_.1.1.2⟩)); have n4_ := Aside0.mk (Kd.R_mono (ok' := fun k_ => some k_ ≠ (.slice Ao22 t112.length co22 : Value).ownBlock) (Kd.R_keptB (HO125.out) hkp (fun k_ hk_ hs_ => (hk_.2) hs_)) (fun k_ hk_ => hk_.1.2)); have n5_ := Aside0.mk (Kd.R_mono (ok' := fun k_ => some k_ ≠ (v110 : Value).ownBlock ∧ some k_ ≠ (.slice Ao23 t115.length co23 : Value).ownBlock ∧ some k_ ≠ (v120 : Value).ownBlock) (Kd.R_keptB ((Kd.R_apart' HO129.out (Kd.R_typed HO_8.out) (by decide))) hkp (fun k_ hk_ hs_ => (hk_.2) hs_)) (fun k_ hk_ => ⟨hk_.1.1.1.1.2, hk_.1.1.1.2, hk_.1.1.2⟩)); have n6_ := Aside0.mk (hb); clear HO_6; clear HO_8; clear HO_9; clear HO_10; clear HO125; clear HO129; clear HB; have HO_6 := n0_; have HO_8 := n1_; have HO_9 := n2_; have HO_10 := n3_; have HO125 := n4_; have HO129 := n5_; have HB := n6_; clear n0_ n1_ n2_ n3_ n4_ n5_ n6_; (try clear hb); (try clear hkp); (try clear hy0)) | ((with_reducible refine gate_callee (f := 32) rfl ?_); refine goesL_ (some 67) rfl rfl Try.func32 (by kernel_rfl) rfl #[.slice Ao23 t115.length co23, .int .i64 t131] rfl (by (try simp only [List.map_toArray, List.map_cons, List.map_nil]); first | done | rfl | (simp only [List.length_drop, List.length_take]; rfl)) ?_; (with_reducible refine (laws_markIntS.calls kj12 (fun k_ => some k_ = (.slice Ao23 t115.length co23 : Value).ownBlock) (.slice Ao23 t115.length co23) t115 t131 t133 t134 w _ ?side1 ?side2 A39.out).mono ?_); (case side1 => repeat (first | (with_reducible first | exact HB.out | apply below_alloc | apply pw_below_drewN | apply below_drew1) | exact HB.out)); (case side2 => exact Kd.R_tight rfl HO_9.out); rintro e w47 ⟨rfl, hy0, hb, hkp⟩; refine ⟨_, rfl, ?_⟩; have n0_ := Aside0.mk (Kd.R_mono (ok' := fun k_ => some k_ ≠ (.slice Ao23 t115.length co23 : Value).ownBlock ∧ some k_ ≠ (v120 : Value).ownBlock ∧ some k_ ≠ (.slice Ao45 t127.length co45 : Value).ownBlock) (Kd.R_keptB (HO_6.out) hkp (fun k_ hk_ hs_ => (hk_.1) hs_)) (fun k_ hk_ => ⟨hk_.1.1, hk_.1.2.1, hk_.1.2.2⟩)); have n1_ := Aside0.mk (Kd.R_mono (ok' := fun k_ => some k_ ≠ (.slice Ao42 t123.length co42 : Value).ownBlock) (Kd.R_keptB ((Kd.R_apart' HO_8.out (Kd.R_typed HO_9.out) (by decide))) hkp (fun k_ hk_ hs_ => (hk_.2) hs_)) (fun k_ hk_ => hk_.1.1.2)); have n2_ := Aside0.mk (Kd.R_reok rfl hy0 (fun k_ e_ => HO_9.out.1 k_ e_)); have n3_ := Aside0.mk (Kd.R_mono (ok' := fun k_ => some k_ ≠ (v110 : Value).ownBlock ∧ some k_ ≠ (.slice Ao23 t115.length co23 : Value).ownBlock ∧ some k_ ≠ (.slice Ao45 t127.length co45 : Value).ownBlock) (Kd.R_keptB (HO_10.out) hkp (fun k_ hk_ hs_ => (hk_.2.1) hs_)) (fun k_ hk_ => ⟨hk_.1.1, hk_.1.2.1, hk_.1.2.2⟩)); have n4_ := Aside0.mk (Kd.R_mono (ok' := fun k_ => some k_ ≠ (.slice Ao22 t112.length co22 : Value).ownBlock) (Kd.R_keptB ((Kd.R_apart' HO125.out (Kd.R_typed HO_9.out) (by decide))) hkp (fun k_ hk_ hs_ => (hk_.2) hs_)) (fun k_ hk_ => hk_.1.1)); have n5_ := Aside0.mk (Kd.R_mono (ok' := fun k_ => some k_ ≠ (v110 : Value).ownBlock ∧ some k_ ≠ (.slice Ao23 t115.length co23 : Value).ownBlock ∧ some k_ ≠ (v120 : Value).ownBlock) (Kd.R_keptB (HO129.out) hkp (fun k_ hk_ hs_ => (hk_.2.1) hs_)) (fun k_ hk_ => ⟨hk_.1.1, hk_.1.2.1, hk_.1.2.2⟩)); have n6_ := Aside0.mk (hb); clear HO_6; clear HO_8; clear HO_9; clear HO_10; clear HO125; clear HO129; clear HB; have HO_6 := n0_; have HO_8 := n1_; have HO_9 := n2_; have HO_10 := n3_; have HO125 := n4_; have HO129 := n5_; have HB := n6_; clear n0_ n1_ n2_ n3_ n4_ n5_ n6_; (try clear hb); (try clear hkp); (try clear hy0)))
        (try simp only [Act.put, List.setIfInBounds_toArray, List.set_cons_zero, List.set_cons_succ])
        go_cut [80] (fun v80 wc => ∃ (kq : Nat) (x80_39 : Bool), v80 = .bool x80_39 ∧ Aside0 (laws_FnExactStripOrder.j1 kq l0 l1 t108 t109 t118 x80_39 = some r) ∧ Aside0 (kq ≤ kj12) ∧ Aside0 (Kd.R (Kd.int .i64) 3 wc w.heap.size (fun k_ => some k_ ≠ (v120 : Value).ownBlock) v110 t108) ∧ Aside0 (Kd.R (Kd.int .i64) 3 wc w.heap.size (fun k_ => some k_ ≠ (v110 : Value).ownBlock) v120 t118) ∧ Aside0 (Below w.heap.size w wc))
        case first =>
         have H := HC40.out
         clear HC40
         by_cases c48 : t133 < 0
         ·rw [if_pos c48] at H
          have c48b0 : decide (t133 < 0) = true := decide_eq_true c48
          clear c48
          (first | rw [c48b0] | (simp only [i64_w, i32_w]; rw [c48b0]) | skip)
          have H' := Aside0.mk H
          clear H
          go_wp2
          go_meet
          case rel => exact ⟨_, (true), (by first | rfl | (simp; done) | (simp [*]; done)), H', ⟨by have := HJ12.out; first | omega | exact Nat.le_refl _⟩, ⟨by (with_reducible repeat (first | apply Kd.R_alloc | apply Kd.R_drewN | apply Kd.R_drew)); exact Kd.R_mono HO_6.out (fun _ hk => hk.2.1)⟩, ⟨by (with_reducible repeat (first | apply Kd.R_alloc | apply Kd.R_drewN | apply Kd.R_drew)); exact Kd.R_mono HO_10.out (fun _ hk => hk.1)⟩, ⟨eb HB.out⟩⟩
         ·rw [if_neg c48] at H
          have c48b0 : decide (t133 < 0) = false := decide_eq_false c48
          clear c48
          (first | rw [c48b0] | (simp only [i64_w, i32_w]; rw [c48b0]) | skip)
          replace H := Option.bind_eq_some_iff.mp H
          obtain ⟨t135, A490, H⟩ := H
          replace H : (if t135 = true then (laws_FnExactStripOrder.j1 kj12 l0 l1 t108 t109 t118 (t119 != t109)) else (laws_FnExactStripOrder.j1 kj12 l0 l1 t108 t109 t118 true)) = some r := H
          have A49 := Aside0.mk A490
          clear A490
          by_cases c50 : t135 = true
          ·subst c50
           have H1 : (laws_FnExactStripOrder.j1 kj12 l0 l1 t108 t109 t118 (t119 != t109)) = some r := by rw [if_pos rfl] at H; exact H
           clear H
           have H := H1
           clear H1
           have H' := Aside0.mk H
           clear H
           obtain ⟨Ao51, co51, eo51⟩ := Kd.R_slice HO_10.out
           subst eo51
           obtain ⟨Ao52, co52, eo52⟩ := Kd.R_slice HO_6.out
           subst eo52
           go_wp2_with (first | (go_at_call 14; (with_reducible refine (laws_eqIntS.calls kj12 _ _ t118 _ _ t108 true _ ?side1 ?side2 ?side3 ?side4 A49.out).mono ?_); (case side1 => repeat (first | exact (Kd.R_reads' HO_10.out).2.2 | (with_reducible refine Kd.C_alloc ?_ _) | (with_reducible refine Kd.C_drewN ?_ _) | (with_reducible refine Kd.C_drew ?_))); (case side2 => exact (Kd.R_reads' HO_10.out).2.1); (case side3 => repeat (first | exact (Kd.R_reads' HO_6.out).2.2 | (with_reducible refine Kd.C_alloc ?_ _) | (with_reducible refine Kd.C_drewN ?_ _) | (with_reducible refine Kd.C_drew ?_))); (case side4 => exact (Kd.R_reads' HO_6.out).2.1); rintro e w' ⟨rfl, ⟨nd, rfl⟩⟩))
           go_meet
           case rel => exact ⟨_, ((t119 != t109)), (by first | rfl | (simp; done) | (simp [*]; done)), H', ⟨by have := HJ12.out; first | omega | exact Nat.le_refl _⟩, ⟨by (with_reducible repeat (first | apply Kd.R_alloc | apply Kd.R_drewN | apply Kd.R_drew)); exact Kd.R_mono HO_6.out (fun _ hk => hk.2.1)⟩, ⟨by (with_reducible repeat (first | apply Kd.R_alloc | apply Kd.R_drewN | apply Kd.R_drew)); exact Kd.R_mono HO_10.out (fun _ hk => hk.1)⟩, ⟨eb HB.out⟩⟩
          ·replace c50 := Bool.eq_false_iff.mpr c50
           subst c50
           have H1 : (laws_FnExactStripOrder.j1 kj12 l0 l1 t108 t109 t118 true) = some r := by rw [if_neg (show ¬ (false = true) by decide)] at H; exact H
           clear H
           have H := H1
           clear H1
           have H' := Aside0.mk H
           clear H
           obtain ⟨Ao53, co53, eo53⟩ := Kd.R_slice HO_10.out
           subst eo53
           obtain ⟨Ao54, co54, eo54⟩ := Kd.R_slice HO_6.out
           subst eo54
           go_wp2_with (first | (go_at_call 14; (with_reducible refine (laws_eqIntS.calls kj12 _ _ t118 _ _ t108 false _ ?side1 ?side2 ?side3 ?side4 A49.out).mono ?_); (case side1 => repeat (first | exact (Kd.R_reads' HO_10.out).2.2 | (with_reducible refine Kd.C_alloc ?_ _) | (with_reducible refine Kd.C_drewN ?_ _) | (with_reducible refine Kd.C_drew ?_))); (case side2 => exact (Kd.R_reads' HO_10.out).2.1); (case side3 => repeat (first | exact (Kd.R_reads' HO_6.out).2.2 | (with_reducible refine Kd.C_alloc ?_ _) | (with_reducible refine Kd.C_drewN ?_ _) | (with_reducible refine Kd.C_drew ?_))); (case side4 => exact (Kd.R_reads' HO_6.out).2.1); rintro e w' ⟨rfl, ⟨nd, rfl⟩⟩))
           go_meet
           case rel => exact ⟨_, (true), (by first | rfl | (simp; done) | (simp [*]; done)), H', ⟨by have := HJ12.out; first | omega | exact Nat.le_refl _⟩, ⟨by (with_reducible repeat (first | apply Kd.R_alloc | apply Kd.R_drewN | apply Kd.R_drew)); exact Kd.R_mono HO_6.out (fun _ hk => hk.2.1)⟩, ⟨by (with_reducible repeat (first | apply Kd.R_alloc | apply Kd.R_drewN | apply Kd.R_drew)); exact Kd.R_mono HO_10.out (fun _ hk => hk.1)⟩, ⟨eb HB.out⟩⟩
        case rest =>
         clear HC40
         try clear c1
         try clear c2
         try clear p2
         try clear c3
         try clear c3b0
         try clear c3b1
         try clear c4
         try clear c5
         try clear c5b0
         try clear c8
         try clear c12
         try clear c14
         try clear c15
         try clear c17
         try clear c19
         try clear c26
         try clear c29
         try clear c30
         try clear c31
         try clear c32
         try clear c34
         try clear c37
         try clear c48
         try clear c48b0
         try clear c50
         try clear p2
         obtain ⟨kq, x80_39, rfl, HA, HJ39, HO_6, HO_10, HB⟩ := hcut
         cases kq with
         | zero => exact absurd HA.out (by simp [laws_FnExactStripOrder.j1])
         | succ kj39 =>
          have H := HA.out
          clear HA
          simp only [laws_FnExactStripOrder.j1] at H
          by_cases c55 : x80_39 = true
          ·subst c55
           have H1 : (some false) = some r := by rw [if_pos rfl] at H; exact H
           clear H
           have H := H1
           clear H1
           obtain rfl := Option.some.inj H
           go_wp2
           go_ret
           exact ⟨by first | rfl | (simp [errW_none, errW_some] <;> rfl) | (simp [*, errW_none, errW_some] <;> rfl), eb HB.out⟩
          ·replace c55 := Bool.eq_false_iff.mpr c55
           subst c55
           have H1 : ((laws_markIntS.f kj39 t118 1).bind fun bt136 => ((laws_heldIntS.f kj39 bt136.2 1).bind fun t138 => (if t138 < 0 then (some false) else (if t138 = bt136.1 then ((laws_toStripMoveS.f kj39 l0).bind fun t139 => ((laws_toIntS.f kj39 l1).bind fun t142 => ((impl_StripOrder.f kj39 t139 t142).bind fun bt145 => ((laws_eqIntS.f kj39 bt145.1 t108).bind fun t149 => (if t149 = true then (laws_FnExactStripOrder.j2 kj39 bt136.2 bt136.1 (bt145.2 != t109)) else (laws_FnExactStripOrder.j2 kj39 bt136.2 bt136.1 true)))))) else (some false))))) = some r := by rw [if_neg (show ¬ (false = true) by decide)] at H; exact H
           clear H
           have H := H1
           clear H1
           replace H := Option.bind_eq_some_iff.mp H
           obtain ⟨⟨t136, t137⟩, A560, H⟩ := H
           replace H : ((laws_heldIntS.f kj39 t137 1).bind fun t138 => (if t138 < 0 then (some false) else (if t138 = t136 then ((laws_toStripMoveS.f kj39 l0).bind fun t139 => ((laws_toIntS.f kj39 l1).bind fun t142 => ((impl_StripOrder.f kj39 t139 t142).bind fun bt145 => ((laws_eqIntS.f kj39 bt145.1 t108).bind fun t149 => (if t149 = true then (laws_FnExactStripOrder.j2 kj39 t137 t136 (bt145.2 != t109)) else (laws_FnExactStripOrder.j2 kj39 t137 t136 true)))))) else (some false)))) = some r := H
           have A56 := Aside0.mk A560
           clear A560
           replace H := Option.bind_eq_some_iff.mp H
           obtain ⟨t138, A570, H⟩ := H
           replace H : (if t138 < 0 then (some false) else (if t138 = t136 then ((laws_toStripMoveS.f kj39 l0).bind fun t139 => ((laws_toIntS.f kj39 l1).bind fun t142 => ((impl_StripOrder.f kj39 t139 t142).bind fun bt145 => ((laws_eqIntS.f kj39 bt145.1 t108).bind fun t149 => (if t149 = true then (laws_FnExactStripOrder.j2 kj39 t137 t136 (bt145.2 != t109)) else (laws_FnExactStripOrder.j2 kj39 t137 t136 true)))))) else (some false))) = some r := H
           have A57 := Aside0.mk A570
           clear A570
           by_cases c58 : t138 < 0
           ·rw [if_pos c58] at H
            have c58b0 : decide (t138 < 0) = true := decide_eq_true c58
            clear c58
            obtain rfl := Option.some.inj H
            obtain ⟨Ao59, co59, eo59⟩ := Kd.R_slice HO_10.out
            subst eo59
            go_wp2_with (first | ((with_reducible refine gate_callee (f := 32) rfl ?_); refine goesL_ (some 83) rfl rfl Try.func32 (by kernel_rfl) rfl #[.slice Ao59 t118.length co59, .int .i64 1] rfl (by (try simp only [List.map_toArray, List.map_cons, List.map_nil]); first | done | rfl | (simp only [List.length_drop, List.length_take]; rfl)) ?_; (with_reducible refine (laws_markIntS.calls kj39 (fun k_ => some k_ = (.slice Ao59 t118.length co59 : Value).ownBlock) (.slice Ao59 t118.length co59) t118 1 t136 t137 w _ ?side1 ?side2 A56.out).mono ?_); (case side1 => repeat (first | (with_reducible first | exact HB.out | apply below_alloc | apply pw_below_drewN | apply below_drew1) | exact HB.out)); (case side2 => exact Kd.R_tight rfl HO_10.out); rintro e w60 ⟨rfl, hy0, hb, hkp⟩; refine ⟨_, rfl, ?_⟩; have n0_ := Aside0.mk (Kd.R_mono (ok' := fun k_ => some k_ ≠ (.slice Ao59 t118.length co59 : Value).ownBlock) (Kd.R_keptB (HO_6.out) hkp (fun k_ hk_ hs_ => (hk_) hs_)) (fun k_ hk_ => hk_.1)); have n1_ := Aside0.mk (Kd.R_reok rfl hy0 (fun k_ e_ => HO_10.out.1 k_ e_)); have n2_ := Aside0.mk (hb); clear HO_6; clear HO_10; clear HB; have HO_6 := n0_; have HO_10 := n1_; have HB := n2_; clear n0_ n1_ n2_; (try clear hb); (try clear hkp); (try clear hy0)) | ((with_reducible refine gate_callee (f := 33) rfl ?_); refine goesL_ (some 86) rfl rfl Try.func33 (by kernel_rfl) rfl #[.slice Ao59 t137.length co59, .int .i64 1] rfl (by (try simp only [List.map_toArray, List.map_cons, List.map_nil]); first | done | (rw [show t137.length = t118.length from (Kd.R_reads' HO_10.out).1.symm] <;> rfl) | rfl | (simp only [List.length_drop, List.length_take]; rfl)) ?_; (with_reducible refine (laws_heldIntS.calls kj39 _ _ t137 1 t138 _ ?side1 ?side2 A57.out).mono ?_); (case side1 => repeat (first | exact (Kd.R_reads' HO_10.out).2.2 | (with_reducible refine Kd.C_alloc ?_ _) | (with_reducible refine Kd.C_drewN ?_ _) | (with_reducible refine Kd.C_drew ?_))); (case side2 => rw [show t137.length = t118.length from (Kd.R_reads' HO_10.out).1.symm]; exact (Kd.R_reads' HO_10.out).2.1); rintro e w' ⟨rfl, ⟨nd, rfl⟩⟩; refine ⟨_, rfl, ?_⟩))
            go_ret
            exact ⟨by first | rfl | (simp [errW_none, errW_some] <;> rfl) | (simp [*, errW_none, errW_some] <;> rfl), eb HB.out⟩
           ·rw [if_neg c58] at H
            have c58b0 : decide (t138 < 0) = false := decide_eq_false c58
            clear c58
            by_cases c61 : t138 = t136
            ·rw [if_pos c61] at H
             have c61b0 : (t138 == t136) = true := beq_iff_eq.mpr c61
             have c61b1 : (t138 != t136) = false := bne_eq_false_iff_eq.mpr c61
             clear c61
             replace H := Option.bind_eq_some_iff.mp H
             obtain ⟨t139, A620, H⟩ := H
             replace H : ((laws_toIntS.f kj39 l1).bind fun t142 => ((impl_StripOrder.f kj39 t139 t142).bind fun bt145 => ((laws_eqIntS.f kj39 bt145.1 t108).bind fun t149 => (if t149 = true then (laws_FnExactStripOrder.j2 kj39 t137 t136 (bt145.2 != t109)) else (laws_FnExactStripOrder.j2 kj39 t137 t136 true))))) = some r := H
             have A62 := Aside0.mk A620
             clear A620
             replace H := Option.bind_eq_some_iff.mp H
             obtain ⟨t142, A630, H⟩ := H
             replace H : ((impl_StripOrder.f kj39 t139 t142).bind fun bt145 => ((laws_eqIntS.f kj39 bt145.1 t108).bind fun t149 => (if t149 = true then (laws_FnExactStripOrder.j2 kj39 t137 t136 (bt145.2 != t109)) else (laws_FnExactStripOrder.j2 kj39 t137 t136 true)))) = some r := H
             have A63 := Aside0.mk A630
             clear A630
             replace H := Option.bind_eq_some_iff.mp H
             obtain ⟨⟨t145, t146⟩, A640, H⟩ := H
             replace H : ((laws_eqIntS.f kj39 t145 t108).bind fun t149 => (if t149 = true then (laws_FnExactStripOrder.j2 kj39 t137 t136 (t146 != t109)) else (laws_FnExactStripOrder.j2 kj39 t137 t136 true))) = some r := H
             have A64 := Aside0.mk A640
             clear A640
             have HC65 := Aside0.mk H
             clear H
             obtain ⟨Ao66, co66, eo66⟩ := Kd.R_slice HO_10.out
             subst eo66
             go_upto_region 31 with (first | ((with_reducible refine gate_callee (f := 32) rfl ?_); refine goesL_ (some 83) rfl rfl Try.func32 (by kernel_rfl) rfl #[.slice Ao66 t118.length co66, .int .i64 1] rfl (by (try simp only [List.map_toArray, List.map_cons, List.map_nil]); first | done | rfl | (simp only [List.length_drop, List.length_take]; rfl)) ?_; (with_reducible refine (laws_markIntS.calls kj39 (fun k_ => some k_ = (.slice Ao66 t118.length co66 : Value).ownBlock) (.slice Ao66 t118.length co66) t118 1 t136 t137 w _ ?side1 ?side2 A56.out).mono ?_); (case side1 => repeat (first | (with_reducible first | exact HB.out | apply below_alloc | apply pw_below_drewN | apply below_drew1) | exact HB.out)); (case side2 => exact Kd.R_tight rfl HO_10.out); rintro e w67 ⟨rfl, hy0, hb, hkp⟩; refine ⟨_, rfl, ?_⟩; have n0_ := Aside0.mk (Kd.R_mono (ok' := fun k_ => some k_ ≠ (.slice Ao66 t118.length co66 : Value).ownBlock) (Kd.R_keptB (HO_6.out) hkp (fun k_ hk_ hs_ => (hk_) hs_)) (fun k_ hk_ => hk_.1)); have n1_ := Aside0.mk (Kd.R_reok rfl hy0 (fun k_ e_ => HO_10.out.1 k_ e_)); have n2_ := Aside0.mk (hb); clear HO_6; clear HO_10; clear HB; have HO_6 := n0_; have HO_10 := n1_; have HB := n2_; clear n0_ n1_ n2_; (try clear hb); (try clear hkp); (try clear hy0)) | ((with_reducible refine gate_callee (f := 33) rfl ?_); refine goesL_ (some 86) rfl rfl Try.func33 (by kernel_rfl) rfl #[.slice Ao66 t137.length co66, .int .i64 1] rfl (by (try simp only [List.map_toArray, List.map_cons, List.map_nil]); first | done | (rw [show t137.length = t118.length from (Kd.R_reads' HO_10.out).1.symm] <;> rfl) | rfl | (simp only [List.length_drop, List.length_take]; rfl)) ?_; (with_reducible refine (laws_heldIntS.calls kj39 _ _ t137 1 t138 _ ?side1 ?side2 A57.out).mono ?_); (case side1 => repeat (first | exact (Kd.R_reads' HO_10.out).2.2 | (with_reducible refine Kd.C_alloc ?_ _) | (with_reducible refine Kd.C_drewN ?_ _) | (with_reducible refine Kd.C_drew ?_))); (case side2 => rw [show t137.length = t118.length from (Kd.R_reads' HO_10.out).1.symm]; exact (Kd.R_reads' HO_10.out).2.1); rintro e w' ⟨rfl, ⟨nd, rfl⟩⟩; refine ⟨_, rfl, ?_⟩) | ((with_reducible refine gate_callee (f := 17) rfl ?_); refine goesL_ (some 94) rfl rfl Try.func17 (by kernel_rfl) rfl #[.slice A0 l0.length c0] rfl (by (try simp only [List.map_toArray, List.map_cons, List.map_nil]); first | done | rfl | (simp only [List.length_drop, List.length_take]; rfl)) ?_; (with_reducible refine (laws_toStripMoveS.calls kj39 _ _ l0 t139 _ ?side1 ?side2 A62.out).mono ?_); (case side1 => repeat (first | exact (Kd.C_below HR0.out (eb HB.out)) | (with_reducible refine Kd.C_alloc ?_ _) | (with_reducible refine Kd.C_drewN ?_ _) | (with_reducible refine Kd.C_drew ?_))); (case side2 => exact HC0.out); rintro e w68 ⟨v140, rfl, ho0, hb⟩; refine ⟨_, rfl, ?_⟩; have n0_ := Aside0.mk (Kd.R_below (er HO_6.out) hb); have n1_ := Aside0.mk (Kd.R_below (er HO_10.out) hb); have n2_ := Aside0.mk (Kd.R_lower ho0 (below_size (eb HB.out))); have n3_ := Aside0.mk (below_step (eb HB.out) hb); clear HO_6; clear HO_10; clear HB; have HO_6 := n0_; have HO_10 := n1_; have HO141 := n2_; have HB := n3_; clear n0_ n1_ n2_ n3_; (try clear hb); (try clear hb2); (try clear hk); (try clear hi); (try clear ho0)) | ((with_reducible refine gate_callee (f := 12) rfl ?_); refine goesL_ (some 96) rfl rfl Try.func12 (by kernel_rfl) rfl #[.slice A1 l1.length c1] rfl (by (try simp only [List.map_toArray, List.map_cons, List.map_nil]); first | done | rfl | (simp only [List.length_drop, List.length_take]; rfl)) ?_; (with_reducible refine (laws_toIntS.calls kj39 _ _ l1 t142 _ ?side1 ?side2 A63.out).mono ?_); (case side1 => repeat (first | exact (Kd.C_below HR1.out HB.out) | (with_reducible refine Kd.C_alloc ?_ _) | (with_reducible refine Kd.C_drewN ?_ _) | (with_reducible refine Kd.C_drew ?_))); (case side2 => exact HC1.out); rintro e w69 ⟨v143, rfl, ho0, hb⟩; refine ⟨_, rfl, ?_⟩; have n0_ := Aside0.mk (Kd.R_elder' (er HO_6.out) (Kd.R_base ho0) hb); have n1_ := Aside0.mk (Kd.R_elder' (er HO_10.out) (Kd.R_base ho0) hb); have n2_ := Aside0.mk (Kd.R_below (er HO141.out) hb); have n3_ := Aside0.mk (Kd.R_lower (Kd.R_new' (Kd.R_new' ho0 (Kd.R_lt (er HO_6.out))) (Kd.R_lt (er HO_10.out))) (below_size (eb HB.out))); have n4_ := Aside0.mk (below_step (eb HB.out) hb); clear HO_6; clear HO_10; clear HO141; clear HB; have HO_6 := n0_; have HO_10 := n1_; have HO141 := n2_; have HO144 := n3_; have HB := n4_; clear n0_ n1_ n2_ n3_ n4_; (try clear hb); (try clear hb2); (try clear hk); (try clear hi); (try clear ho0); obtain ⟨Ao70, co70, eo70⟩ := Kd.R_slice HO141.out; subst eo70; obtain ⟨Ao71, co71, eo71⟩ := Kd.R_slice HO144.out; subst eo71) | ((with_reducible refine gate_callee (f := 30) rfl ?_); refine goesL_ (some 97) rfl rfl Try.func30 (by kernel_rfl) rfl #[.slice Ao70 t139.length co70, .slice Ao71 t142.length co71] rfl (by (try simp only [List.map_toArray, List.map_cons, List.map_nil]); first | done | rfl | (simp only [List.length_drop, List.length_take]; rfl)) ?_; (with_reducible refine (impl_StripOrder.calls kj39 _ _ t139 _ _ t142 t145 t146 _ ?side1 ?side2 ?side3 ?side4 A64.out).mono ?_); (case side1 => repeat (first | exact (Kd.R_reads' HO141.out).2.2 | (with_reducible refine Kd.C_alloc ?_ _) | (with_reducible refine Kd.C_drewN ?_ _) | (with_reducible refine Kd.C_drew ?_))); (case side2 => exact (Kd.R_reads' HO141.out).2.1); (case side3 => repeat (first | exact (Kd.R_reads' HO144.out).2.2 | (with_reducible refine Kd.C_alloc ?_ _) | (with_reducible refine Kd.C_drewN ?_ _) | (with_reducible refine Kd.C_drew ?_))); (case side4 => exact (Kd.R_reads' HO144.out).2.1); rintro e w72 ⟨v147, rfl, ho0, hb⟩; refine ⟨_, rfl, ?_⟩; have n0_ := Aside0.mk (Kd.R_elder' (er HO_6.out) (Kd.R_base ho0) hb); have n1_ := Aside0.mk (Kd.R_elder' (er HO_10.out) (Kd.R_base ho0) hb); have n2_ := Aside0.mk (Kd.R_below (er HO141.out) hb); have n3_ := Aside0.mk (Kd.R_elder' (er HO144.out) (Kd.R_base ho0) hb); have n4_ := Aside0.mk (Kd.R_lower (Kd.R_new' (Kd.R_new' (Kd.R_new' ho0 (Kd.R_lt (er HO_6.out))) (Kd.R_lt (er HO_10.out))) (Kd.R_lt (er HO144.out))) (below_size (eb HB.out))); have n5_ := Aside0.mk (below_step (eb HB.out) hb); clear HO_6; clear HO_10; clear HO141; clear HO144; clear HB; have HO_6 := n0_; have HO_10 := n1_; have HO141 := n2_; have HO144 := n3_; have HO148 := n4_; have HB := n5_; clear n0_ n1_ n2_ n3_ n4_ n5_; (try clear hb); (try clear hb2); (try clear hk); (try clear hi); (try clear ho0)))
             (try simp only [Act.put, List.setIfInBounds_toArray, List.set_cons_zero, List.set_cons_succ])
             go_cut [108] (fun v108 wc => ∃ (kq : Nat) (x108_64 : Bool), v108 = .bool x108_64 ∧ Aside0 (laws_FnExactStripOrder.j2 kq t137 t136 x108_64 = some r) ∧ Aside0 (kq ≤ kj39) ∧ Aside0 (Kd.R (Kd.int .i64) 3 wc w.heap.size (fun _ => True) (.slice Ao66 t118.length co66) t137) ∧ Aside0 (Below w.heap.size w wc))
             case first =>
              have H := HC65.out
              clear HC65
              replace H := Option.bind_eq_some_iff.mp H
              obtain ⟨t149, A730, H⟩ := H
              replace H : (if t149 = true then (laws_FnExactStripOrder.j2 kj39 t137 t136 (t146 != t109)) else (laws_FnExactStripOrder.j2 kj39 t137 t136 true)) = some r := H
              have A73 := Aside0.mk A730
              clear A730
              by_cases c74 : t149 = true
              ·subst c74
               have H1 : (laws_FnExactStripOrder.j2 kj39 t137 t136 (t146 != t109)) = some r := by rw [if_pos rfl] at H; exact H
               clear H
               have H := H1
               clear H1
               have H' := Aside0.mk H
               clear H
               obtain ⟨Ao75, co75, eo75⟩ := Kd.R_slice HO148.out
               subst eo75
               obtain ⟨Ao76, co76, eo76⟩ := Kd.R_slice HO_6.out
               subst eo76
               go_wp2_with (first | ((with_reducible refine gate_callee (f := 14) rfl ?_); refine goesL_ (some 102) rfl rfl Try.func14 (by kernel_rfl) rfl #[.slice Ao75 t145.length co75, .slice Ao76 t108.length co76] rfl (by (try simp only [List.map_toArray, List.map_cons, List.map_nil]); first | done | rfl | (simp only [List.length_drop, List.length_take]; rfl)) ?_; (with_reducible refine (laws_eqIntS.calls kj39 _ _ t145 _ _ t108 true _ ?side1 ?side2 ?side3 ?side4 A73.out).mono ?_); (case side1 => repeat (first | exact (Kd.R_reads' HO148.out).2.2 | (with_reducible refine Kd.C_alloc ?_ _) | (with_reducible refine Kd.C_drewN ?_ _) | (with_reducible refine Kd.C_drew ?_))); (case side2 => exact (Kd.R_reads' HO148.out).2.1); (case side3 => repeat (first | exact (Kd.R_reads' HO_6.out).2.2 | (with_reducible refine Kd.C_alloc ?_ _) | (with_reducible refine Kd.C_drewN ?_ _) | (with_reducible refine Kd.C_drew ?_))); (case side4 => exact (Kd.R_reads' HO_6.out).2.1); rintro e w' ⟨rfl, ⟨nd, rfl⟩⟩; refine ⟨_, rfl, ?_⟩))
               go_meet
               case rel => exact ⟨_, ((t146 != t109)), (by first | rfl | (simp; done) | (simp [*]; done)), H', ⟨by have := HJ12.out; have := HJ39.out; first | omega | exact Nat.le_refl _⟩, ⟨by (with_reducible repeat (first | apply Kd.R_alloc | apply Kd.R_drewN | apply Kd.R_drew)); exact Kd.R_mono HO_10.out (fun _ hk => trivial)⟩, ⟨eb HB.out⟩⟩
              ·replace c74 := Bool.eq_false_iff.mpr c74
               subst c74
               have H1 : (laws_FnExactStripOrder.j2 kj39 t137 t136 true) = some r := by rw [if_neg (show ¬ (false = true) by decide)] at H; exact H
               clear H
               have H := H1
               clear H1
               have H' := Aside0.mk H
               clear H
               obtain ⟨Ao77, co77, eo77⟩ := Kd.R_slice HO148.out
               subst eo77
               obtain ⟨Ao78, co78, eo78⟩ := Kd.R_slice HO_6.out
               subst eo78
               go_wp2_with (first | ((with_reducible refine gate_callee (f := 14) rfl ?_); refine goesL_ (some 102) rfl rfl Try.func14 (by kernel_rfl) rfl #[.slice Ao77 t145.length co77, .slice Ao78 t108.length co78] rfl (by (try simp only [List.map_toArray, List.map_cons, List.map_nil]); first | done | rfl | (simp only [List.length_drop, List.length_take]; rfl)) ?_; (with_reducible refine (laws_eqIntS.calls kj39 _ _ t145 _ _ t108 false _ ?side1 ?side2 ?side3 ?side4 A73.out).mono ?_); (case side1 => repeat (first | exact (Kd.R_reads' HO148.out).2.2 | (with_reducible refine Kd.C_alloc ?_ _) | (with_reducible refine Kd.C_drewN ?_ _) | (with_reducible refine Kd.C_drew ?_))); (case side2 => exact (Kd.R_reads' HO148.out).2.1); (case side3 => repeat (first | exact (Kd.R_reads' HO_6.out).2.2 | (with_reducible refine Kd.C_alloc ?_ _) | (with_reducible refine Kd.C_drewN ?_ _) | (with_reducible refine Kd.C_drew ?_))); (case side4 => exact (Kd.R_reads' HO_6.out).2.1); rintro e w' ⟨rfl, ⟨nd, rfl⟩⟩; refine ⟨_, rfl, ?_⟩))
               go_meet
               case rel => exact ⟨_, (true), (by first | rfl | (simp; done) | (simp [*]; done)), H', ⟨by have := HJ12.out; have := HJ39.out; first | omega | exact Nat.le_refl _⟩, ⟨by (with_reducible repeat (first | apply Kd.R_alloc | apply Kd.R_drewN | apply Kd.R_drew)); exact Kd.R_mono HO_10.out (fun _ hk => trivial)⟩, ⟨eb HB.out⟩⟩
             case rest =>
              clear HC65
              try clear c1
              try clear c2
              try clear p2
              try clear c3
              try clear c3b0
              try clear c3b1
              try clear c4
              try clear c5
              try clear c5b0
              try clear c6
              try clear c7
              try clear c8
              try clear c12
              try clear c14
              try clear c15
              try clear c17
              try clear c19
              try clear c26
              try clear c29
              try clear c30
              try clear c31
              try clear c32
              try clear c33
              try clear c34
              try clear c37
              try clear c48
              try clear c48b0
              try clear c50
              try clear c55
              try clear c58
              try clear c58b0
              try clear c61
              try clear c61b0
              try clear c61b1
              try clear c74
              try clear p2
              obtain ⟨kq, x108_64, rfl, HA, HJ64, HO_10, HB⟩ := hcut
              have hl10_64 := (Kd.R_reads' HO_10.out).1
              rw [hl10_64] at HO_10
              (try simp only [hl10_64])
              cases kq with
              | zero => exact absurd HA.out (by simp [laws_FnExactStripOrder.j2])
              | succ kj64 =>
               have H := HA.out
               clear HA
               simp only [laws_FnExactStripOrder.j2] at H
               by_cases c79 : x108_64 = true
               ·subst c79
                have H1 : (some false) = some r := by rw [if_pos rfl] at H; exact H
                clear H
                have H := H1
                clear H1
                obtain rfl := Option.some.inj H
                go_wp2
                go_ret
                exact ⟨by first | rfl | (simp [errW_none, errW_some] <;> rfl) | (simp [*, errW_none, errW_some] <;> rfl), eb HB.out⟩
               ·replace c79 := Bool.eq_false_iff.mpr c79
                subst c79
                have H1 : ((laws_heldIntS.f kj64 t137 1).bind fun t150 => (if t150 < 0 then (some false) else (if t150 = t136 then (some true) else (some false)))) = some r := by rw [if_neg (show ¬ (false = true) by decide)] at H; exact H
                clear H
                have H := H1
                clear H1
                replace H := Option.bind_eq_some_iff.mp H
                obtain ⟨t150, A800, H⟩ := H
                replace H : (if t150 < 0 then (some false) else (if t150 = t136 then (some true) else (some false))) = some r := H
                have A80 := Aside0.mk A800
                clear A800
                by_cases c81 : t150 < 0
                ·rw [if_pos c81] at H
                 have c81b0 : decide (t150 < 0) = true := decide_eq_true c81
                 clear c81
                 obtain rfl := Option.some.inj H
                 go_wp2_with (first | ((with_reducible refine gate_callee (f := 33) rfl ?_); refine goesL_ (some 111) rfl rfl Try.func33 (by kernel_rfl) rfl #[.slice Ao66 t137.length co66, .int .i64 1] rfl (by (try simp only [List.map_toArray, List.map_cons, List.map_nil]); first | done | rfl | (simp only [List.length_drop, List.length_take]; rfl)) ?_; (with_reducible refine (laws_heldIntS.calls kj64 _ _ t137 1 t150 _ ?side1 ?side2 A80.out).mono ?_); (case side1 => repeat (first | exact (Kd.R_reads' HO_10.out).2.2 | (with_reducible refine Kd.C_alloc ?_ _) | (with_reducible refine Kd.C_drewN ?_ _) | (with_reducible refine Kd.C_drew ?_))); (case side2 => exact (Kd.R_reads' HO_10.out).2.1); rintro e w' ⟨rfl, ⟨nd, rfl⟩⟩; refine ⟨_, rfl, ?_⟩))
                 go_ret
                 exact ⟨by first | rfl | (simp [errW_none, errW_some] <;> rfl) | (simp [*, errW_none, errW_some] <;> rfl), eb HB.out⟩
                ·rw [if_neg c81] at H
                 have c81b0 : decide (t150 < 0) = false := decide_eq_false c81
                 clear c81
                 by_cases c82 : t150 = t136
                 ·rw [if_pos c82] at H
                  have c82b0 : (t150 == t136) = true := beq_iff_eq.mpr c82
                  have c82b1 : (t150 != t136) = false := bne_eq_false_iff_eq.mpr c82
                  clear c82
                  obtain rfl := Option.some.inj H
                  go_wp2_with (first | ((with_reducible refine gate_callee (f := 33) rfl ?_); refine goesL_ (some 111) rfl rfl Try.func33 (by kernel_rfl) rfl #[.slice Ao66 t137.length co66, .int .i64 1] rfl (by (try simp only [List.map_toArray, List.map_cons, List.map_nil]); first | done | rfl | (simp only [List.length_drop, List.length_take]; rfl)) ?_; (with_reducible refine (laws_heldIntS.calls kj64 _ _ t137 1 t150 _ ?side1 ?side2 A80.out).mono ?_); (case side1 => repeat (first | exact (Kd.R_reads' HO_10.out).2.2 | (with_reducible refine Kd.C_alloc ?_ _) | (with_reducible refine Kd.C_drewN ?_ _) | (with_reducible refine Kd.C_drew ?_))); (case side2 => exact (Kd.R_reads' HO_10.out).2.1); rintro e w' ⟨rfl, ⟨nd, rfl⟩⟩; refine ⟨_, rfl, ?_⟩))
                  go_ret
                  exact ⟨by first | rfl | (simp [errW_none, errW_some] <;> rfl) | (simp [*, errW_none, errW_some] <;> rfl), eb HB.out⟩
                 ·rw [if_neg c82] at H
                  have c82b0 : (t150 == t136) = false := beq_eq_false_iff_ne.mpr c82
                  have c82b1 : (t150 != t136) = true := bne_iff_ne.mpr c82
                  obtain rfl := Option.some.inj H
                  go_wp2_with (first | ((with_reducible refine gate_callee (f := 33) rfl ?_); refine goesL_ (some 111) rfl rfl Try.func33 (by kernel_rfl) rfl #[.slice Ao66 t137.length co66, .int .i64 1] rfl (by (try simp only [List.map_toArray, List.map_cons, List.map_nil]); first | done | rfl | (simp only [List.length_drop, List.length_take]; rfl)) ?_; (with_reducible refine (laws_heldIntS.calls kj64 _ _ t137 1 t150 _ ?side1 ?side2 A80.out).mono ?_); (case side1 => repeat (first | exact (Kd.R_reads' HO_10.out).2.2 | (with_reducible refine Kd.C_alloc ?_ _) | (with_reducible refine Kd.C_drewN ?_ _) | (with_reducible refine Kd.C_drew ?_))); (case side2 => exact (Kd.R_reads' HO_10.out).2.1); rintro e w' ⟨rfl, ⟨nd, rfl⟩⟩; refine ⟨_, rfl, ?_⟩))
                  go_ret
                  exact ⟨by first | rfl | (simp [errW_none, errW_some] <;> rfl) | (simp [*, errW_none, errW_some] <;> rfl), eb HB.out⟩
            ·rw [if_neg c61] at H
             have c61b0 : (t138 == t136) = false := beq_eq_false_iff_ne.mpr c61
             have c61b1 : (t138 != t136) = true := bne_iff_ne.mpr c61
             obtain rfl := Option.some.inj H
             obtain ⟨Ao83, co83, eo83⟩ := Kd.R_slice HO_10.out
             subst eo83
             go_wp2_with (first | ((with_reducible refine gate_callee (f := 32) rfl ?_); refine goesL_ (some 83) rfl rfl Try.func32 (by kernel_rfl) rfl #[.slice Ao83 t118.length co83, .int .i64 1] rfl (by (try simp only [List.map_toArray, List.map_cons, List.map_nil]); first | done | rfl | (simp only [List.length_drop, List.length_take]; rfl)) ?_; (with_reducible refine (laws_markIntS.calls kj39 (fun k_ => some k_ = (.slice Ao83 t118.length co83 : Value).ownBlock) (.slice Ao83 t118.length co83) t118 1 t136 t137 w _ ?side1 ?side2 A56.out).mono ?_); (case side1 => repeat (first | (with_reducible first | exact HB.out | apply below_alloc | apply pw_below_drewN | apply below_drew1) | exact HB.out)); (case side2 => exact Kd.R_tight rfl HO_10.out); rintro e w84 ⟨rfl, hy0, hb, hkp⟩; refine ⟨_, rfl, ?_⟩; have n0_ := Aside0.mk (Kd.R_mono (ok' := fun k_ => some k_ ≠ (.slice Ao83 t118.length co83 : Value).ownBlock) (Kd.R_keptB (HO_6.out) hkp (fun k_ hk_ hs_ => (hk_) hs_)) (fun k_ hk_ => hk_.1)); have n1_ := Aside0.mk (Kd.R_reok rfl hy0 (fun k_ e_ => HO_10.out.1 k_ e_)); have n2_ := Aside0.mk (hb); clear HO_6; clear HO_10; clear HB; have HO_6 := n0_; have HO_10 := n1_; have HB := n2_; clear n0_ n1_ n2_; (try clear hb); (try clear hkp); (try clear hy0)) | ((with_reducible refine gate_callee (f := 33) rfl ?_); refine goesL_ (some 86) rfl rfl Try.func33 (by kernel_rfl) rfl #[.slice Ao83 t137.length co83, .int .i64 1] rfl (by (try simp only [List.map_toArray, List.map_cons, List.map_nil]); first | done | (rw [show t137.length = t118.length from (Kd.R_reads' HO_10.out).1.symm] <;> rfl) | rfl | (simp only [List.length_drop, List.length_take]; rfl)) ?_; (with_reducible refine (laws_heldIntS.calls kj39 _ _ t137 1 t138 _ ?side1 ?side2 A57.out).mono ?_); (case side1 => repeat (first | exact (Kd.R_reads' HO_10.out).2.2 | (with_reducible refine Kd.C_alloc ?_ _) | (with_reducible refine Kd.C_drewN ?_ _) | (with_reducible refine Kd.C_drew ?_))); (case side2 => rw [show t137.length = t118.length from (Kd.R_reads' HO_10.out).1.symm]; exact (Kd.R_reads' HO_10.out).2.1); rintro e w' ⟨rfl, ⟨nd, rfl⟩⟩; refine ⟨_, rfl, ?_⟩))
             go_ret
             exact ⟨by first | rfl | (simp [errW_none, errW_some] <;> rfl) | (simp [*, errW_none, errW_some] <;> rfl), eb HB.out⟩
       ·replace c37 := Bool.eq_false_iff.mpr c37
        subst c37
        have H1 : (some false) = some r := by rw [if_neg (show ¬ (false = true) by decide)] at H; exact H
        clear H
        have H := H1
        clear H1
        obtain rfl := Option.some.inj H
        go_wp2_with (first | ((with_reducible refine gate_callee (f := 17) rfl ?_); refine goesL_ (some 54) rfl rfl Try.func17 (by kernel_rfl) rfl #[.slice A0 l0.length c0] rfl (by (try simp only [List.map_toArray, List.map_cons, List.map_nil]); first | done | rfl | (simp only [List.length_drop, List.length_take]; rfl)) ?_; (with_reducible refine (laws_toStripMoveS.calls kj12 _ _ l0 t123 _ ?side1 ?side2 A32.out).mono ?_); (case side1 => repeat (first | exact (Kd.C_below HR0.out HB.out) | (with_reducible refine Kd.C_alloc ?_ _) | (with_reducible refine Kd.C_drewN ?_ _) | (with_reducible refine Kd.C_drew ?_))); (case side2 => exact HC0.out); rintro e w85 ⟨v124, rfl, ho0, hb⟩; refine ⟨_, rfl, ?_⟩; have n0_ := Aside0.mk (Kd.R_below (er HO_6.out) hb); have n1_ := Aside0.mk (Kd.R_elder' (er HO_8.out) (Kd.R_base ho0) hb); have n2_ := Aside0.mk (Kd.R_below (er HO_9.out) hb); have n3_ := Aside0.mk (Kd.R_below (er HO_10.out) hb); have n4_ := Aside0.mk (Kd.R_lower (Kd.R_new' ho0 (Kd.R_lt (er HO_8.out))) (below_size (eb HB.out))); have n5_ := Aside0.mk (below_step (eb HB.out) hb); clear HO_6; clear HO_8; clear HO_9; clear HO_10; clear HB; have HO_6 := n0_; have HO_8 := n1_; have HO_9 := n2_; have HO_10 := n3_; have HO125 := n4_; have HB := n5_; clear n0_ n1_ n2_ n3_ n4_ n5_; (try clear hb); (try clear hb2); (try clear hk); (try clear hi); (try clear ho0); obtain ⟨Ao86, co86, eo86⟩ := Kd.R_slice HO125.out; subst eo86) | ((with_reducible refine gate_callee (f := 19) rfl ?_); refine goesL_ (some 55) rfl rfl Try.func19 (by kernel_rfl) rfl #[.slice Ao22 t112.length co22, .slice Ao86 t123.length co86] rfl (by (try simp only [List.map_toArray, List.map_cons, List.map_nil]); first | done | rfl | (simp only [List.length_drop, List.length_take]; rfl)) ?_; (with_reducible refine (laws_eqStripMoveS.calls kj12 _ _ t112 _ _ t123 true _ ?side1 ?side2 ?side3 ?side4 A33.out).mono ?_); (case side1 => repeat (first | exact (Kd.R_reads' HO_8.out).2.2 | (with_reducible refine Kd.C_alloc ?_ _) | (with_reducible refine Kd.C_drewN ?_ _) | (with_reducible refine Kd.C_drew ?_))); (case side2 => exact (Kd.R_reads' HO_8.out).2.1); (case side3 => repeat (first | exact (Kd.R_reads' HO125.out).2.2 | (with_reducible refine Kd.C_alloc ?_ _) | (with_reducible refine Kd.C_drewN ?_ _) | (with_reducible refine Kd.C_drew ?_))); (case side4 => exact (Kd.R_reads' HO125.out).2.1); rintro e w87 ⟨rfl, hb⟩; refine ⟨_, rfl, ?_⟩; have n0_ := Aside0.mk (Kd.R_below (er HO_6.out) hb); have n1_ := Aside0.mk (Kd.R_below (er HO_8.out) hb); have n2_ := Aside0.mk (Kd.R_below (er HO_9.out) hb); have n3_ := Aside0.mk (Kd.R_below (er HO_10.out) hb); have n4_ := Aside0.mk (Kd.R_below (er HO125.out) hb); have n5_ := Aside0.mk (below_step (eb HB.out) hb); clear HO_6; clear HO_8; clear HO_9; clear HO_10; clear HO125; clear HB; have HO_6 := n0_; have HO_8 := n1_; have HO_9 := n2_; have HO_10 := n3_; have HO125 := n4_; have HB := n5_; clear n0_ n1_ n2_ n3_ n4_ n5_; (try clear hb); (try clear hb2); (try clear hk); (try clear hi)) | ((with_reducible refine gate_callee (f := 12) rfl ?_); refine goesL_ (some 59) rfl rfl Try.func12 (by kernel_rfl) rfl #[.slice A1 l1.length c1] rfl (by (try simp only [List.map_toArray, List.map_cons, List.map_nil]); first | done | rfl | (simp only [List.length_drop, List.length_take]; rfl)) ?_; (with_reducible refine (laws_toIntS.calls kj12 _ _ l1 t127 _ ?side1 ?side2 A35.out).mono ?_); (case side1 => repeat (first | exact (Kd.C_below HR1.out HB.out) | (with_reducible refine Kd.C_alloc ?_ _) | (with_reducible refine Kd.C_drewN ?_ _) | (with_reducible refine Kd.C_drew ?_))); (case side2 => exact HC1.out); rintro e w88 ⟨v128, rfl, ho0, hb⟩; refine ⟨_, rfl, ?_⟩; have n0_ := Aside0.mk (Kd.R_elder' (er HO_6.out) (Kd.R_base ho0) hb); have n1_ := Aside0.mk (Kd.R_below (er HO_8.out) hb); have n2_ := Aside0.mk (Kd.R_elder' (er HO_9.out) (Kd.R_base ho0) hb); have n3_ := Aside0.mk (Kd.R_elder' (er HO_10.out) (Kd.R_base ho0) hb); have n4_ := Aside0.mk (Kd.R_below (er HO125.out) hb); have n5_ := Aside0.mk (Kd.R_lower (Kd.R_new' (Kd.R_new' (Kd.R_new' ho0 (Kd.R_lt (er HO_6.out))) (Kd.R_lt (er HO_9.out))) (Kd.R_lt (er HO_10.out))) (below_size (eb HB.out))); have n6_ := Aside0.mk (below_step (eb HB.out) hb); clear HO_6; clear HO_8; clear HO_9; clear HO_10; clear HO125; clear HB; have HO_6 := n0_; have HO_8 := n1_; have HO_9 := n2_; have HO_10 := n3_; have HO125 := n4_; have HO129 := n5_; have HB := n6_; clear n0_ n1_ n2_ n3_ n4_ n5_ n6_; (try clear hb); (try clear hb2); (try clear hk); (try clear hi); (try clear ho0); obtain ⟨Ao89, co89, eo89⟩ := Kd.R_slice HO129.out; subst eo89) | ((with_reducible refine gate_callee (f := 14) rfl ?_); refine goesL_ (some 60) rfl rfl Try.func14 (by kernel_rfl) rfl #[.slice Ao23 t115.length co23, .slice Ao89 t127.length co89] rfl (by (try simp only [List.map_toArray, List.map_cons, List.map_nil]); first | done | rfl | (simp only [List.length_drop, List.length_take]; rfl)) ?_; (with_reducible refine (laws_eqIntS.calls kj12 _ _ t115 _ _ t127 false _ ?side1 ?side2 ?side3 ?side4 A36.out).mono ?_); (case side1 => repeat (first | exact (Kd.R_reads' HO_9.out).2.2 | (with_reducible refine Kd.C_alloc ?_ _) | (with_reducible refine Kd.C_drewN ?_ _) | (with_reducible refine Kd.C_drew ?_))); (case side2 => exact (Kd.R_reads' HO_9.out).2.1); (case side3 => repeat (first | exact (Kd.R_reads' HO129.out).2.2 | (with_reducible refine Kd.C_alloc ?_ _) | (with_reducible refine Kd.C_drewN ?_ _) | (with_reducible refine Kd.C_drew ?_))); (case side4 => exact (Kd.R_reads' HO129.out).2.1); rintro e w' ⟨rfl, ⟨nd, rfl⟩⟩; refine ⟨_, rfl, ?_⟩))
        go_ret
        exact ⟨by first | rfl | (simp [errW_none, errW_some] <;> rfl) | (simp [*, errW_none, errW_some] <;> rfl), eb HB.out⟩
      ·replace c34 := Bool.eq_false_iff.mpr c34
       subst c34
       have H1 : (some false) = some r := by rw [if_neg (show ¬ (false = true) by decide)] at H; exact H
       clear H
       have H := H1
       clear H1
       obtain rfl := Option.some.inj H
       go_wp2_with (first | ((with_reducible refine gate_callee (f := 17) rfl ?_); refine goesL_ (some 54) rfl rfl Try.func17 (by kernel_rfl) rfl #[.slice A0 l0.length c0] rfl (by (try simp only [List.map_toArray, List.map_cons, List.map_nil]); first | done | rfl | (simp only [List.length_drop, List.length_take]; rfl)) ?_; (with_reducible refine (laws_toStripMoveS.calls kj12 _ _ l0 t123 _ ?side1 ?side2 A32.out).mono ?_); (case side1 => repeat (first | exact (Kd.C_below HR0.out HB.out) | (with_reducible refine Kd.C_alloc ?_ _) | (with_reducible refine Kd.C_drewN ?_ _) | (with_reducible refine Kd.C_drew ?_))); (case side2 => exact HC0.out); rintro e w90 ⟨v124, rfl, ho0, hb⟩; refine ⟨_, rfl, ?_⟩; have n0_ := Aside0.mk (Kd.R_below (er HO_6.out) hb); have n1_ := Aside0.mk (Kd.R_elder' (er HO_8.out) (Kd.R_base ho0) hb); have n2_ := Aside0.mk (Kd.R_below (er HO_9.out) hb); have n3_ := Aside0.mk (Kd.R_below (er HO_10.out) hb); have n4_ := Aside0.mk (Kd.R_lower (Kd.R_new' ho0 (Kd.R_lt (er HO_8.out))) (below_size (eb HB.out))); have n5_ := Aside0.mk (below_step (eb HB.out) hb); clear HO_6; clear HO_8; clear HO_9; clear HO_10; clear HB; have HO_6 := n0_; have HO_8 := n1_; have HO_9 := n2_; have HO_10 := n3_; have HO125 := n4_; have HB := n5_; clear n0_ n1_ n2_ n3_ n4_ n5_; (try clear hb); (try clear hb2); (try clear hk); (try clear hi); (try clear ho0); obtain ⟨Ao91, co91, eo91⟩ := Kd.R_slice HO125.out; subst eo91) | ((with_reducible refine gate_callee (f := 19) rfl ?_); refine goesL_ (some 55) rfl rfl Try.func19 (by kernel_rfl) rfl #[.slice Ao22 t112.length co22, .slice Ao91 t123.length co91] rfl (by (try simp only [List.map_toArray, List.map_cons, List.map_nil]); first | done | rfl | (simp only [List.length_drop, List.length_take]; rfl)) ?_; (with_reducible refine (laws_eqStripMoveS.calls kj12 _ _ t112 _ _ t123 false _ ?side1 ?side2 ?side3 ?side4 A33.out).mono ?_); (case side1 => repeat (first | exact (Kd.R_reads' HO_8.out).2.2 | (with_reducible refine Kd.C_alloc ?_ _) | (with_reducible refine Kd.C_drewN ?_ _) | (with_reducible refine Kd.C_drew ?_))); (case side2 => exact (Kd.R_reads' HO_8.out).2.1); (case side3 => repeat (first | exact (Kd.R_reads' HO125.out).2.2 | (with_reducible refine Kd.C_alloc ?_ _) | (with_reducible refine Kd.C_drewN ?_ _) | (with_reducible refine Kd.C_drew ?_))); (case side4 => exact (Kd.R_reads' HO125.out).2.1); rintro e w92 ⟨rfl, hb⟩; refine ⟨_, rfl, ?_⟩; have n0_ := Aside0.mk (Kd.R_below (er HO_6.out) hb); have n1_ := Aside0.mk (Kd.R_below (er HO_8.out) hb); have n2_ := Aside0.mk (Kd.R_below (er HO_9.out) hb); have n3_ := Aside0.mk (Kd.R_below (er HO_10.out) hb); have n4_ := Aside0.mk (Kd.R_below (er HO125.out) hb); have n5_ := Aside0.mk (below_step (eb HB.out) hb); clear HO_6; clear HO_8; clear HO_9; clear HO_10; clear HO125; clear HB; have HO_6 := n0_; have HO_8 := n1_; have HO_9 := n2_; have HO_10 := n3_; have HO125 := n4_; have HB := n5_; clear n0_ n1_ n2_ n3_ n4_ n5_; (try clear hb); (try clear hb2); (try clear hk); (try clear hi)))
       go_ret
       exact ⟨by first | rfl | (simp [errW_none, errW_some] <;> rfl) | (simp [*, errW_none, errW_some] <;> rfl), eb HB.out⟩

end Go.Proofs.Ytpdmimlkgmhepaa.G

/- What comes in as a struct, a slice of structs or a book reads as plain values: shape, cells and bounds; conditions: the argument reads as data of its type. -/
namespace Go.Proofs.Ytpdmimlkgmhepaa.G
open Go.Joins Go.ChangeShapes Go.WideShapes Go.RowKit Go.Deep Go.Proofs.YtpdmimlkgmhepaaW.PrintWords

section
variable {H : Type} {enc : TypeId × Value → H} {P : Program} {w : World} {base : Nat} {spare : Nat → Bool} {held : Bool}

theorem cells_split {cs : List Value} (j : Nat) (h : j < cs.length) : (cs.drop j).take 1 = [cs[j]'h] := by
  rw [List.drop_eq_getElem_cons h]
  rfl

/-- A slice whose elements read as plain values. -/
theorem open_rows {α : Type} (d : Kd α) (Wf : α → Prop) {t e : TypeId} {fuel : Nat} {cs : List Value} {x : DataW H × List MemPlace} (ht : P.underlying t = some (.slice e)) (hC : P.cellsOf e = d.sz)
    (hel : ∀ n cs' y, DataW.trod enc P w base spare held n e cs' = some y → ∃ z : α, d.K w z cs' ∧ Wf z) (h : DataW.trod enc P w base spare held fuel t cs = some x) :
    ∃ A c xs, cs = [.slice A xs.length c] ∧ xs.length ≤ c ∧ c ≤ maxLen ∧ d.C w A xs.length xs ∧ (∀ z ∈ xs, Wf z) := by
  classical
  rcases open_slice ht h with ⟨h0, _⟩ | ⟨a, len, cap, m, n, D, Pl, hcs, hb, hl, hm, hmm, hx, hi⟩
  · refine ⟨none, 0, [], by simpa using h0, by simp, by simp [maxLen], ⟨rfl, by simp, fun h => absurd h (by simp)⟩, fun z hz => by simp at hz⟩
  · have hlm : len ≤ m := by rw [hmm]; split <;> omega
    have key : ∀ i, i < len → ∃ z : α, Wf z ∧ ∃ cs', cs'.length = d.sz ∧ d.K w z cs' ∧ ∀ j u, cs'[j]? = some u → w.cell? (a.add (i * d.sz + j)) = some u := by
      intro i hil
      obtain ⟨cs', hc, ht'⟩ := hi i (by omega)
      obtain ⟨z, hz, hw⟩ := hel _ _ _ ht'
      obtain ⟨_, hcl, hat⟩ := World.cells?_some hc
      rw [hC] at hcl hat
      refine ⟨z, hw, cs', hcl, hz, fun j u hu => ?_⟩
      have hj : j < d.sz := by
        have := (List.getElem?_eq_some_iff.1 hu).1
        omega
      have h1 := hat j hj
      rw [Go.Deep.add_add] at h1
      rw [h1, hu]
    let f : Nat → Option α := fun i => if hil : i < len then some (Classical.choose (key i hil)) else none
    have hsome : ∀ i, (h : i < len) → f i = some (Classical.choose (key i h)) := fun i h => by simp [f, h]
    let xs : List α := (List.range len).pmap (fun i h => Classical.choose (key i h)) (fun i hi => List.mem_range.1 hi)
    have hxl : xs.length = len := by simp [xs]
    have hxi : ∀ i (h : i < len), xs[i]? = some (Classical.choose (key i h)) := by
      intro i h
      have hh : i < xs.length := by omega
      rw [List.getElem?_eq_getElem hh]
      simp [xs]
    refine ⟨some a, cap, xs, by rw [hcs, hxl], by omega, hm, ⟨rfl, by rw [hxl]; simp only [maxLen] at hm; omega, fun _ => ⟨a, rfl, fun j p hj => ?_⟩⟩, fun z hz => ?_⟩
    · have hjl : j < len := by
        have := (List.getElem?_eq_some_iff.1 hj).1
        omega
      have e := hxi j hjl
      rw [hj] at e
      injection e with e
      subst e
      obtain ⟨_, cs', h1, h2, h3⟩ := Classical.choose_spec (key j hjl)
      exact ⟨cs', h1, h2, h3⟩
    · obtain ⟨j, hj, e⟩ := List.getElem_of_mem hz
      have hjl : j < len := by omega
      have e2 := hxi j hjl
      rw [List.getElem?_eq_getElem hj, e] at e2
      injection e2 with e2
      subst e2
      exact (Classical.choose_spec (key j hjl)).1

theorem open_ints_rows {t e : TypeId} {fuel : Nat} {cs : List Value} {x : DataW H × List MemPlace} (ht : P.underlying t = some (.slice e)) (he : P.underlying e = some (.int .i64)) (hC : P.cellsOf e = 1) (h : DataW.trod enc P w base spare held fuel t cs = some x) :
    ∃ A c, ∃ xs : List Int, cs = [.slice A xs.length c] ∧ xs.length ≤ c ∧ c ≤ maxLen ∧ (Kd.int .i64).C w A xs.length xs ∧ (∀ z ∈ xs, (Lit.int .i64 z).wf = true) :=
  open_rows (Kd.int .i64) (fun z => (Lit.int .i64 z).wf = true) ht hC (fun n cs' y hy => by
    obtain ⟨z, h1, _, h2⟩ := DataW.trod_int he hy
    exact ⟨z, h1, h2⟩) h
end

section
variable {H : Type} {enc : TypeId × Value → H} {w : World} {base : Nat} {spare : Nat → Bool} {held : Bool}
theorem open_move {n : Nat} {cs : List Value} {y : DataW H × List MemPlace} (h : DataW.trod enc Try.prog w base spare held n 71 cs = some y) (hl : cs.length = 6) :
    ∃ (a0 : ByteArray) (a1 : Bool) (a2 a3 a4 a5 : Int), cs = [.string a0, .bool a1, .int .i64 a2, .int .i64 a3, .int .i64 a4, .int .i64 a5] ∧ a0.size ≤ maxLen ∧
      (Lit.int .i64 a2).wf = true ∧ (Lit.int .i64 a3).wf = true ∧ (Lit.int .i64 a4).wf = true ∧ (Lit.int .i64 a5).wf = true := by
  obtain ⟨xs, n', _, _, _, hxl, hf⟩ := DataW.trod_struct Try.underlying71 h
  match cs, hl with
  | [c0, c1, c2, c3, c4, c5], _ =>
    have h0 := hf 0 _ rfl
    have h1 := hf 1 _ rfl
    have h2 := hf 2 _ rfl
    have h3 := hf 3 _ rfl
    have h4 := hf 4 _ rfl
    have h5 := hf 5 _ rfl
    have k1 : Try.prog.cellsOf 9 = 1 := by kernel_rfl
    have k2 : Try.prog.cellsOf 4 = 1 := by kernel_rfl
    have k3 : Try.prog.cellsOf 3 = 1 := by kernel_rfl
    have e0 : xs[0]? = some (xs[0]'(by rw [hxl]; decide)) := List.getElem?_eq_getElem _
    have e1 : xs[1]? = some (xs[1]'(by rw [hxl]; decide)) := List.getElem?_eq_getElem _
    have e2 : xs[2]? = some (xs[2]'(by rw [hxl]; decide)) := List.getElem?_eq_getElem _
    have e3 : xs[3]? = some (xs[3]'(by rw [hxl]; decide)) := List.getElem?_eq_getElem _
    have e4 : xs[4]? = some (xs[4]'(by rw [hxl]; decide)) := List.getElem?_eq_getElem _
    have e5 : xs[5]? = some (xs[5]'(by rw [hxl]; decide)) := List.getElem?_eq_getElem _
    obtain ⟨a0, q0, _, w0⟩ := DataW.trod_string Try.underlying9 (h0.trans e0)
    obtain ⟨a1, q1, _⟩ := DataW.trod_bool Try.underlying4 (h1.trans e1)
    obtain ⟨a2, q2, _, w2⟩ := DataW.trod_int Try.underlying3 (h2.trans e2)
    obtain ⟨a3, q3, _, w3⟩ := DataW.trod_int Try.underlying3 (h3.trans e3)
    obtain ⟨a4, q4, _, w4⟩ := DataW.trod_int Try.underlying3 (h4.trans e4)
    obtain ⟨a5, q5, _, w5⟩ := DataW.trod_int Try.underlying3 (h5.trans e5)
    simp [k1, k2, k3] at q0 q1 q2 q3 q4 q5
    subst q0 q1 q2 q3 q4 q5
    exact ⟨a0, a1, a2, a3, a4, a5, rfl, w0, w2, w3, w4, w5⟩
end
end Go.Proofs.Ytpdmimlkgmhepaa.G

/- Small plain lemmas on 'from some number of rounds on' and on numbers; no condition. -/
namespace Go.Proofs.Ytpdmimlkgmhepaa.Pure
set_option linter.unusedVariables false
set_option linter.unusedSimpArgs false
open Go.RowKit Go.Proofs.YtpdmimlkgmhepaaW.PrintWords
theorem Ev.some {α : Type} {r s : α} (h : r = s) : Ev (fun _ => some r) s := h ▸ Ev.now r
theorem Ev.eq {α : Type} {g : Nat → Option α} {r s : α} (h : Ev g r) (e : r = s) : Ev g s := e ▸ h
theorem Ev.ite {α : Type} {c : Prop} [Decidable c] {a b : Nat → Option α} {r : α} (h1 : c → Ev a r) (h2 : ¬ c → Ev b r) : Ev (fun k => if c then a k else b k) r := by
  by_cases h : c
  · simpa only [if_pos h] using h1 h
  · simpa only [if_neg h] using h2 h
theorem Ev.pos {α : Type} {c : Prop} [Decidable c] {a b : Nat → Option α} {r : α} (h : c) (h1 : Ev a r) : Ev (fun k => if c then a k else b k) r := by simpa only [if_pos h] using h1
theorem Ev.neg {α : Type} {c : Prop} [Decidable c] {a b : Nat → Option α} {r : α} (h : ¬ c) (h1 : Ev b r) : Ev (fun k => if c then a k else b k) r := by simpa only [if_neg h] using h1
/-- A call without rounds. -/
theorem Ev.call {α β : Type} {g : Option α} {f : Nat → α → Option β} {a : α} {r : β} (h : g = Option.some a) (k : Ev (fun n => f n a) r) : Ev (fun n => g.bind (f n)) r := by
  subst h
  exact k
theorem wf_range {x : Int} (h : (Lit.int .i64 x).wf = true) : -9223372036854775808 ≤ x ∧ x ≤ 9223372036854775807 := by
  exact bounds_i64 h
theorem wrap_eq {x : Int} (h : -9223372036854775808 ≤ x) (h' : x ≤ 9223372036854775807) : wrap64 x = x := by unfold wrap64; omega
end Go.Proofs.Ytpdmimlkgmhepaa.Pure

/- Plain laws of loops 'from some number of rounds on'; no condition. -/
namespace Go.Proofs.Ytpdmimlkgmhepaa.Pure
set_option linter.unusedVariables false
set_option linter.unusedSimpArgs false
open Go.RowKit Go.Proofs.YtpdmimlkgmhepaaW.PrintWords

/-- A loop that ends at the first place that fails. -/
theorem ev_all {β : Type} {n : Nat} {P : Nat → Prop} {R F : β} (g : Nat → Nat → Option β) (hend : Ev (g n) R)
    (hyes : ∀ i, i < n → P i → ∀ r, Ev (g (i + 1)) r → Ev (g i) r) (hno : ∀ i, i < n → (∀ j, j < i → P j) → ¬ P i → Ev (g i) F) :
    ((∀ j, j < n → P j) → Ev (g 0) R) ∧ ((¬ ∀ j, j < n → P j) → Ev (g 0) F) := by
  have key : ∀ d i, i + d = n → (∀ j, j < i → P j) → ((∀ j, i ≤ j → j < n → P j) → Ev (g i) R) ∧ ((¬ ∀ j, i ≤ j → j < n → P j) → Ev (g i) F) := by
    intro d
    induction d with
    | zero =>
      intro i hi _
      obtain rfl : i = n := by omega
      exact ⟨fun _ => hend, fun h => absurd (fun j h1 h2 => absurd h1 (by omega)) h⟩
    | succ d ih =>
      intro i hi hp
      by_cases hP : P i
      · obtain ⟨h1, h2⟩ := ih (i + 1) (by omega) (fun j hj => by
          by_cases e : j = i
          · exact e ▸ hP
          · exact hp j (by omega))
        refine ⟨fun h => hyes i (by omega) hP _ (h1 fun j hj => h j (by omega)), fun h => hyes i (by omega) hP _ (h2 fun h' => h fun j hj hn => ?_)⟩
        by_cases e : j = i
        · exact e ▸ hP
        · exact h' j (by omega) hn
      · exact ⟨fun h => absurd (h i (Nat.le_refl _) (by omega)) hP, fun _ => hno i (by omega) hp hP⟩
  obtain ⟨h1, h2⟩ := key n 0 (by omega) (fun j hj => absurd hj (by omega))
  exact ⟨fun h => h1 fun j _ hj => h j hj, fun h => h2 fun h' => h fun j hj => h' j (by omega) hj⟩
theorem ev_yes {β : Type} {n : Nat} {P : Nat → Prop} {R : β} (g : Nat → Nat → Option β) (h : ∀ j, j < n → P j) (hend : Ev (g n) R) (hyes : ∀ i, i < n → P i → Ev (g (i + 1)) R → Ev (g i) R) : Ev (g 0) R := by
  have key : ∀ d i, i + d = n → Ev (g i) R := by
    intro d
    induction d with
    | zero =>
      intro i hi
      obtain rfl : i = n := by omega
      exact hend
    | succ d ih => exact fun i hi => hyes i (by omega) (h i (by omega)) (ih (i + 1) (by omega))
  exact key n 0 (by omega)
/-- The same, with what held ahead at hand. -/
theorem ev_no' {β : Type} {n : Nat} {P : Nat → Prop} {F : β} (g : Nat → Nat → Option β) (h : ¬ ∀ j, j < n → P j) (hyes : ∀ i, i < n → (∀ j, j < i → P j) → P i → Ev (g (i + 1)) F → Ev (g i) F) (hno : ∀ i, i < n → (∀ j, j < i → P j) → ¬ P i → Ev (g i) F) : Ev (g 0) F := by
  have key : ∀ d i, i + d = n → (∀ j, j < i → P j) → (¬ ∀ j, i ≤ j → j < n → P j) → Ev (g i) F := by
    intro d
    induction d with
    | zero => exact fun i hi _ h => absurd (fun j h1 h2 => absurd h1 (by omega)) h
    | succ d ih =>
      intro i hi hp h
      by_cases hP : P i
      · refine hyes i (by omega) hp hP (ih (i + 1) (by omega) (fun j hj => ?_) fun h' => h fun j hj hn => ?_)
        · by_cases e : j = i
          · exact e ▸ hP
          · exact hp j (by omega)
        · by_cases e : j = i
          · exact e ▸ hP
          · exact h' j (by omega) hn
      · exact hno i (by omega) hp hP
  exact key n 0 (by omega) (fun j hj => absurd hj (by omega)) fun h' => h fun j hj => h' j (by omega) hj
theorem ev_no {β : Type} {n : Nat} {P : Nat → Prop} {F : β} (g : Nat → Nat → Option β) (h : ¬ ∀ j, j < n → P j) (hyes : ∀ i, i < n → P i → Ev (g (i + 1)) F → Ev (g i) F) (hno : ∀ i, i < n → (∀ j, j < i → P j) → ¬ P i → Ev (g i) F) : Ev (g 0) F := by
  have key : ∀ d i, i + d = n → (∀ j, j < i → P j) → (¬ ∀ j, i ≤ j → j < n → P j) → Ev (g i) F := by
    intro d
    induction d with
    | zero => exact fun i hi _ h => absurd (fun j h1 h2 => absurd h1 (by omega)) h
    | succ d ih =>
      intro i hi hp h
      by_cases hP : P i
      · refine hyes i (by omega) hP (ih (i + 1) (by omega) (fun j hj => ?_) fun h' => h fun j hj hn => ?_)
        · by_cases e : j = i
          · exact e ▸ hP
          · exact hp j (by omega)
        · by_cases e : j = i
          · exact e ▸ hP
          · exact h' j (by omega) hn
      · exact hno i (by omega) hp hP
  exact key n 0 (by omega) (fun j hj => absurd hj (by omega)) fun h' => h fun j hj => h' j (by omega) hj
theorem ev_all_if {β : Type} {n : Nat} {P : Nat → Prop} {R F : β} [Decidable (∀ j, j < n → P j)] (g : Nat → Nat → Option β) (hend : Ev (g n) R)
    (hyes : ∀ i, i < n → P i → ∀ r, Ev (g (i + 1)) r → Ev (g i) r) (hno : ∀ i, i < n → (∀ j, j < i → P j) → ¬ P i → Ev (g i) F) : Ev (g 0) (if ∀ j, j < n → P j then R else F) := by
  obtain ⟨h1, h2⟩ := ev_all g hend hyes hno
  by_cases h : ∀ j, j < n → P j
  · rw [if_pos h]; exact h1 h
  · rw [if_neg h]; exact h2 h

/-- d steps from place i on. -/
def foldFrom {σ : Type} (step : Nat → σ → σ) : Nat → Nat → σ → σ
  | _, 0, s => s
  | i, d + 1, s => foldFrom step (i + 1) d (step i s)
theorem foldFrom_last {σ : Type} (step : Nat → σ → σ) (d : Nat) : ∀ i s, foldFrom step i (d + 1) s = step (i + d) (foldFrom step i d s) := by
  induction d with
  | zero => intro i s; rfl
  | succ d ih =>
    intro i s
    show foldFrom step (i + 1) (d + 1) (step i s) = _
    rw [ih, show i + 1 + d = i + (d + 1) by omega]
    rfl
theorem foldFrom_inv {σ : Type} {step : Nat → σ → σ} (I : Nat → σ → Prop) {n : Nat} (hI : ∀ i s, i < n → I i s → I (i + 1) (step i s)) : ∀ d i s, i + d ≤ n → I i s → I (i + d) (foldFrom step i d s) := by
  intro d
  induction d with
  | zero => intro i s _ h; exact h
  | succ d ih =>
    intro i s hd h
    have := ih (i + 1) (step i s) (by omega) (hI i s (by omega) h)
    rwa [show i + 1 + d = i + (d + 1) by omega] at this
theorem foldFrom_congr {σ : Type} {f g : Nat → σ → σ} : ∀ d i s, (∀ j s, i ≤ j → j < i + d → f j s = g j s) → foldFrom f i d s = foldFrom g i d s := by
  intro d
  induction d with
  | zero => intro i s _; rfl
  | succ d ih =>
    intro i s h
    show foldFrom f (i + 1) d (f i s) = foldFrom g (i + 1) d (g i s)
    rw [h i s (Nat.le_refl _) (by omega)]
    exact ih _ _ fun j s h1 h2 => h j s (by omega) (by omega)
/-- A loop that goes on to its end. -/
theorem ev_fold {σ β : Type} {n : Nat} (I : Nat → σ → Prop) (step : Nat → σ → σ) (g : Nat → σ → Nat → Option β) (hI : ∀ i s, i < n → I i s → I (i + 1) (step i s))
    (hstep : ∀ i s r, i < n → I i s → Ev (g (i + 1) (step i s)) r → Ev (g i s) r) (s : σ) (r : β) (h0 : I 0 s) (hend : I n (foldFrom step 0 n s) → Ev (g n (foldFrom step 0 n s)) r) : Ev (g 0 s) r := by
  have key : ∀ d i s, i + d = n → I i s → Ev (g n (foldFrom step i d s)) r → Ev (g i s) r := by
    intro d
    induction d with
    | zero =>
      intro i s hi _ h
      obtain rfl : i = n := by omega
      exact h
    | succ d ih =>
      intro i s hi hs h
      exact hstep i s r (by omega) hs (ih (i + 1) _ (by omega) (hI i s (by omega) hs) h)
  refine key n 0 s (by omega) h0 (hend ?_)
  have := foldFrom_inv I hI n 0 s (by omega) h0
  simpa using this

theorem rd_nat (xs : List Int) (i : Nat) : rd xs (i : Int) = xs.getD i 0 := by simp [rd]
theorem rdOf_nat {α : Type} (d : α) (xs : List α) (i : Nat) : rdOf d xs (i : Int) = xs.getD i d := by simp [rdOf]
theorem wrap_succ {i n : Nat} (h : i < n) (hn : n ≤ 1000000000000000000) : wrap64 ((i : Int) + 1) = ((i + 1 : Nat) : Int) := by unfold wrap64; omega
end Go.Proofs.Ytpdmimlkgmhepaa.Pure

/- The laws' helpers on whole numbers: a copy is the list, equal lists are equal, what was marked is held; condition: at most 2^20 elements. -/
namespace Go.Proofs.Ytpdmimlkgmhepaa.Pure
set_option linter.unusedVariables false
set_option linter.unusedSimpArgs false
open Go.RowKit Go.Proofs.YtpdmimlkgmhepaaW.PrintWords Go.Proofs.Ytpdmimlkgmhepaa.G

theorem copy_step {α : Type} (f : Nat → α) {n i : Nat} {s : List α} (d : α) (hl : s.length = n) (hs : ∀ j, j < i → s.getD j d = f j) (hi : i < n) : (s.set i (f i)).length = n ∧ ∀ j, j < i + 1 → (s.set i (f i)).getD j d = f j := by
  refine ⟨by rw [List.length_set]; exact hl, fun j hj => ?_⟩
  by_cases e : j = i
  · subst e
    rw [List.getD_eq_getElem?_getD, List.getElem?_set_self (by omega)]
    rfl
  · rw [List.getD_eq_getElem?_getD, List.getElem?_set_ne (fun h => e h.symm), ← List.getD_eq_getElem?_getD]
    exact hs j (by omega)
theorem list_eq_getD {α : Type} {a b : List α} (d : α) (hl : a.length = b.length) (h : ∀ j, j < a.length → a.getD j d = b.getD j d) : a = b := by
  refine List.ext_getElem hl fun j h1 h2 => ?_
  have := h j h1
  rw [List.getD_eq_getElem?_getD, List.getD_eq_getElem?_getD, List.getElem?_eq_getElem h1, List.getElem?_eq_getElem h2] at this
  exact this

theorem toInts (l : List Int) (hl : l.length ≤ 1048576) : Ev (fun k => laws_toIntS.f k l) l := by
  unfold laws_toIntS.f
  refine Ev.pos (by omega) (Ev.pos (by omega) ?_)
  simp only [Int.toNat_natCast]
  have key : ∀ d i (s : List Int), i + d = l.length → s.length = l.length → (∀ j, j < i → s.getD j 0 = l.getD j 0) → Ev (fun k => laws_toIntS.l0 k l s i) l := by
    intro d
    induction d with
    | zero =>
      intro i s hi hs hp
      refine Ev.step (fun _ => laws_toIntS.l0.eq_2 ..) (Ev.neg (by omega) (Ev.some ?_))
      exact list_eq_getD 0 hs fun j hj => hp j (by omega)
    | succ d ih =>
      intro i s hi hs hp
      refine Ev.step (fun _ => laws_toIntS.l0.eq_2 ..) (Ev.pos (by omega) (Ev.pos (by omega) (Ev.pos (by omega) ?_)))
      simp only [rd_nat, Int.toNat_natCast, wrap_succ (show i < l.length by omega) (show l.length ≤ 1000000000000000000 by omega)]
      obtain ⟨h1, h2⟩ := copy_step (fun j => l.getD j 0) 0 hs hp (show i < l.length by omega)
      exact ih (i + 1) _ (by omega) h1 h2
  exact key l.length 0 _ (by omega) (by simp) (fun j hj => absurd hj (by omega))

theorem eqInts (a : List Int) (hl : a.length ≤ 1048576) : Ev (fun k => laws_eqIntS.f k a a) true := by
  unfold laws_eqIntS.f
  refine Ev.pos rfl ?_
  refine ev_yes (n := a.length) (P := fun _ => True) (fun i k => laws_eqIntS.l0 k a a i) (fun _ _ => trivial) ?_ ?_
  · exact Ev.step (fun _ => laws_eqIntS.l0.eq_2 ..) (Ev.neg (by omega) (Ev.some rfl))
  · intro i hi _ hr
    refine Ev.step (fun _ => laws_eqIntS.l0.eq_2 ..) (Ev.pos (by omega) (Ev.pos (by omega) (Ev.pos (by omega) (Ev.pos rfl ?_))))
    simpa only [wrap_succ hi (show a.length ≤ 1000000000000000000 by omega)] using hr
end Go.Proofs.Ytpdmimlkgmhepaa.Pure

/- StripMoveOk, the program's and the reference's, is one plain test; condition: enough rounds. -/
namespace Go.Proofs.Ytpdmimlkgmhepaa.Pure
set_option linter.unusedVariables false
set_option linter.unusedSimpArgs false
open Go.RowKit Go.Proofs.YtpdmimlkgmhepaaW.PrintWords Go.Proofs.Ytpdmimlkgmhepaa.G

theorem spec_in {α : Type} (a b c : Int) (f : Bool → Option α) : (spec_l1In.f a b c).bind f = if b ≤ a ∧ a ≤ c then f true else f false := by
  unfold spec_l1In.f
  by_cases h : b ≤ a
  · by_cases h2 : a ≤ c <;> simp [h, h2]
  · simp [h]
theorem impl_in {α : Type} (a b c : Int) (f : Bool → Option α) : (impl_in.f a b c).bind f = if b ≤ a ∧ a ≤ c then f true else f false := by
  unfold impl_in.f
  by_cases h : b ≤ a
  · by_cases h2 : a ≤ c <;> simp [h, h2]
  · simp [h]
def okB (c : Int) : Bool := decide (97 ≤ c ∧ c ≤ 122 ∨ 48 ≤ c ∧ c ≤ 57 ∨ c = 45)
def allB (s : ByteArray) : Nat → Int → Bool
  | 0, _ => true
  | d + 1, i => okB (bt s i) && allB s d (i + 1)
theorem allB_succ (s : ByteArray) (d : Nat) (i : Int) : allB s (d + 1) i = (okB (bt s i) && allB s d (i + 1)) := rfl
/-- What a move's other parts must be. -/
def MoveP (n : Nat) (w e l p : Int) : Prop := 1 ≤ n ∧ n ≤ 8 ∧ 1 ≤ w ∧ w ≤ 3 ∧ 0 ≤ e ∧ e ≤ l ∧ l ≤ 10000 ∧ (p = -1 ∨ e ≤ p ∧ p ≤ l)
instance (n : Nat) (w e l p : Int) : Decidable (MoveP n w e l p) := by unfold MoveP; infer_instance
def moveOkM (s : ByteArray) (w e l p : Int) : Bool := if MoveP s.size w e l p then allB s s.size 0 else false
theorem moveOkM_pos {s : ByteArray} {w e l p : Int} (h : MoveP s.size w e l p) : moveOkM s w e l p = allB s s.size 0 := if_pos h
theorem moveOkM_neg {s : ByteArray} {w e l p : Int} (h : ¬ MoveP s.size w e l p) : moveOkM s w e l p = false := if_neg h

theorem ite_okB {α : Type} (c : Int) (A B : α) : (if c ≥ 97 then (if c ≤ 122 then A else (if c ≥ 48 then (if c ≤ 57 then A else (if c = 45 then A else B)) else (if c = 45 then A else B))) else (if c ≥ 48 then (if c ≤ 57 then A else (if c = 45 then A else B)) else (if c = 45 then A else B))) = if okB c = true then A else B := by
  by_cases h : okB c = true
  · rw [if_pos h]
    simp only [okB, decide_eq_true_eq] at h
    (repeat' split) <;> first | rfl | (exfalso; omega)
  · rw [if_neg h]
    simp only [okB, decide_eq_true_eq] at h
    (repeat' split) <;> first | rfl | (exfalso; omega)

theorem spec_name_l (s : ByteArray) (hs : s.size ≤ 8) (d : Nat) : ∀ (k : Nat) (i : Int), 0 ≤ i → (s.size : Int) - i = d → d < k → spec_l1NameOk.l0 k s i = some (allB s d i) := by
  induction d with
  | zero =>
    intro k i h0 hd hk
    obtain ⟨k, rfl⟩ : ∃ m, k = m + 1 := ⟨k - 1, by omega⟩
    simp only [spec_l1NameOk.l0]
    rw [if_neg (by omega)]; rfl
  | succ d ih =>
    intro k i h0 hd hk
    obtain ⟨k, rfl⟩ : ∃ m, k = m + 1 := ⟨k - 1, by omega⟩
    have ih' := ih k (i + 1) (by omega) (by omega) (by omega)
    simp only [spec_l1NameOk.l0]
    rw [if_pos (show i < (s.size : Int) by omega), if_pos h0, wrap_eq (x := i + 1) (by omega) (by omega), ih', ite_okB, allB_succ]
    cases okB (bt s i) <;> rfl

theorem spec_moveOk (s : ByteArray) (b : Bool) (w e l p : Int) (k : Nat) (hk : 9 < k) : spec_StripMoveOk.f k s b w e l p = some (moveOkM s w e l p) := by
  simp only [spec_StripMoveOk.f, spec_l1NameOk.f, spec_in, if_true, Bool.false_eq_true, if_false]
  by_cases hs : 1 ≤ s.size ∧ s.size ≤ 8
  · rw [if_pos (show 1 ≤ (s.size : Int) ∧ (s.size : Int) ≤ 8 by omega), spec_name_l s hs.2 s.size k 0 (by omega) (by omega) (by omega)]
    simp only [Option.bind_some]
    by_cases hm : MoveP s.size w e l p
    · rw [moveOkM_pos hm]
      unfold MoveP at hm
      cases allB s s.size 0 <;> simp only [if_true, Bool.false_eq_true, if_false] <;> (repeat' split) <;> first | rfl | (exfalso; omega)
    · rw [moveOkM_neg hm]
      unfold MoveP at hm
      cases allB s s.size 0 <;> simp only [if_true, Bool.false_eq_true, if_false] <;> (repeat' split) <;> first | rfl | (exfalso; omega)
  · rw [if_neg (show ¬ (1 ≤ (s.size : Int) ∧ (s.size : Int) ≤ 8) by omega), moveOkM_neg (fun h => hs ⟨h.1, h.2.1⟩)]
    rfl

def promM (e l p : Int) : Bool := if p = -1 ∨ e ≤ p ∧ p ≤ l then true else false
theorem impl_name_l (s : ByteArray) (b : Bool) (w e l p : Int) (hs : s.size ≤ 8) (d : Nat) : ∀ (k : Nat) (i : Int), 0 ≤ i → (s.size : Int) - i = d → d < k → impl_StripMoveOk.l0 k i s b w e l p = some (allB s d i && promM e l p) := by
  induction d with
  | zero =>
    intro k i h0 hd hk
    obtain ⟨k, rfl⟩ : ∃ m, k = m + 1 := ⟨k - 1, by omega⟩
    simp only [impl_StripMoveOk.l0, impl_in, allB, promM, Bool.true_and]
    rw [if_neg (show ¬ i < (s.size : Int) by omega)]
    (repeat' split) <;> first | rfl | (exfalso; omega)
  | succ d ih =>
    intro k i h0 hd hk
    obtain ⟨k, rfl⟩ : ∃ m, k = m + 1 := ⟨k - 1, by omega⟩
    have ih' := ih k (i + 1) (by omega) (by omega) (by omega)
    simp only [impl_StripMoveOk.l0]
    rw [if_pos (show i < (s.size : Int) by omega), if_pos h0, wrap_eq (x := i + 1) (by omega) (by omega), ih', ite_okB, allB_succ]
    cases okB (bt s i) <;> rfl

theorem impl_moveOk (s : ByteArray) (b : Bool) (w e l p : Int) (k : Nat) (hk : 10 < k) : impl_StripMoveOk.f k s b w e l p = some (moveOkM s w e l p) := by
  obtain ⟨k, rfl⟩ : ∃ m, k = m + 1 := ⟨k - 1, by omega⟩
  simp only [impl_StripMoveOk.f, impl_StripMoveOk.j0, impl_in, if_true, Bool.false_eq_true, if_false, decide_eq_true_eq]
  by_cases hs : 1 ≤ s.size ∧ s.size ≤ 8
  · rw [if_pos (show 1 ≤ (s.size : Int) ∧ (s.size : Int) ≤ 8 by omega), impl_name_l s b w e l p hs.2 s.size k 0 (by omega) (by omega) (by omega)]
    unfold promM
    by_cases hm : MoveP s.size w e l p
    · rw [moveOkM_pos hm]
      unfold MoveP at hm
      cases allB s s.size 0 <;> (repeat' split) <;> first | rfl | (exfalso; omega)
    · rw [moveOkM_neg hm]
      unfold MoveP at hm
      cases allB s s.size 0 <;> (repeat' split) <;> first | rfl | (exfalso; omega)
  · rw [if_neg (show ¬ (1 ≤ (s.size : Int) ∧ (s.size : Int) ≤ 8) by omega), moveOkM_neg (fun h => hs ⟨h.1, h.2.1⟩)]
end Go.Proofs.Ytpdmimlkgmhepaa.Pure

/- StripMovesOk, the program's and the reference's, is one plain test; no condition. -/
namespace Go.Proofs.Ytpdmimlkgmhepaa.Pure
set_option linter.unusedVariables false
set_option linter.unusedSimpArgs false
open Go.RowKit Go.Proofs.YtpdmimlkgmhepaaW.PrintWords Go.Proofs.Ytpdmimlkgmhepaa.G

/-- The program's moves. -/
abbrev Mv := S54
abbrev z0 : Mv := z54
/-- The move at a place. -/
def at' (l : List Mv) (i : Nat) : Mv := l.getD i z0
theorem rdM (l : List Mv) (i : Nat) : rd_T54 l (i : Int) = at' l i := by simp [rd_T54, at']
theorem rdM_pred (l : List Mv) (i : Nat) (h : 0 < i) : rd_T54 l ((i : Int) - 1) = at' l (i - 1) := by rw [show (i : Int) - 1 = ((i - 1 : Nat) : Int) by omega, rdM]
def mvOk (m : Mv) : Bool := moveOkM m.f0 m.f2 m.f3 m.f4 m.f5
def ltN (a b : ByteArray) : Bool := Op.bytesLess a.toList b.toList
/-- Place i is ok, and above the one ahead. -/
def OkAt (l : List Mv) (i : Nat) : Prop := mvOk (at' l i) = true ∧ (0 < i → ltN (at' l (i - 1)).f0 (at' l i).f0 = true)
instance (l : List Mv) (i : Nat) : Decidable (OkAt l i) := by unfold OkAt; infer_instance
def MovesOk (l : List Mv) : Prop := l.length ≤ 6 ∧ ∀ i, i < l.length → OkAt l i
instance (l : List Mv) : Decidable (MovesOk l) := by unfold MovesOk; infer_instance

theorem spec_mvOk (m : Mv) : Ev (fun k => spec_StripMoveOk.f k m.f0 m.f1 m.f2 m.f3 m.f4 m.f5) (mvOk m) := ⟨10, fun k hk => spec_moveOk _ _ _ _ _ _ k (by omega)⟩
theorem impl_mvOk (m : Mv) : Ev (fun k => impl_StripMoveOk.f k m.f0 m.f1 m.f2 m.f3 m.f4 m.f5) (mvOk m) := ⟨11, fun k hk => impl_moveOk _ _ _ _ _ _ k (by omega)⟩

theorem spec_movesOk (l : List Mv) : Ev (fun k => spec_StripMovesOk.f k l) (decide (MovesOk l)) := by
  unfold spec_StripMovesOk.f
  by_cases h6 : l.length ≤ 6
  · refine Ev.neg (by omega) ?_
    have step : ∀ (i : Nat) (r : Bool), i < l.length → OkAt l i → Ev (fun k => spec_StripMovesOk.l0 k l ((i + 1 : Nat) : Int)) r → Ev (fun k => spec_StripMovesOk.l0 k l (i : Int)) r := by
      intro i r hi ⟨h1, h2⟩ hr
      refine Ev.step (fun _ => spec_StripMovesOk.l0.eq_2 ..) (Ev.pos (by omega) (Ev.pos (by omega) ?_))
      simp only [rdM, wrap_succ hi (show l.length ≤ 1000000000000000000 by omega)]
      refine Ev.bind (spec_mvOk _) (Ev.pos h1 ?_)
      by_cases hp : 0 < i
      · refine Ev.pos (by omega) ?_
        simp only [wrap_eq (x := (i : Int) - 1) (by omega) (by omega), rdM_pred l i hp]
        exact Ev.pos (by omega) (Ev.pos (by omega) (Ev.pos (h2 hp) hr))
      · exact Ev.neg (by omega) hr
    by_cases hall : ∀ i, i < l.length → OkAt l i
    · rw [decide_eq_true (show MovesOk l from ⟨h6, hall⟩)]
      refine ev_yes (n := l.length) (fun i k => spec_StripMovesOk.l0 k l i) hall ?_ (fun i hi h hr => step i _ hi h hr)
      exact Ev.step (fun _ => spec_StripMovesOk.l0.eq_2 ..) (Ev.neg (by omega) (Ev.some rfl))
    · rw [decide_eq_false (fun h : MovesOk l => hall h.2)]
      refine ev_no (n := l.length) (fun i k => spec_StripMovesOk.l0 k l i) hall (fun i hi h hr => step i _ hi h hr) ?_
      intro i hi _ hno
      refine Ev.step (fun _ => spec_StripMovesOk.l0.eq_2 ..) (Ev.pos (by omega) (Ev.pos (by omega) ?_))
      simp only [rdM]
      refine Ev.bind (spec_mvOk _) ?_
      refine Ev.ite (fun h1 => ?_) (fun _ => Ev.some rfl)
      have hp : 0 < i := by
        rcases Nat.eq_zero_or_pos i with e | h
        · exact absurd ⟨h1, fun h => absurd h (by omega)⟩ hno
        · exact h
      refine Ev.pos (by omega) ?_
      simp only [wrap_eq (x := (i : Int) - 1) (by omega) (by omega), rdM_pred l i hp]
      exact Ev.pos (by omega) (Ev.pos (by omega) (Ev.neg (fun h => hno ⟨h1, fun _ => h⟩) (Ev.some rfl)))
  · rw [decide_eq_false (fun h : MovesOk l => h6 h.1)]
    exact Ev.pos (by omega) (Ev.some rfl)

theorem impl_movesOk (l : List Mv) : Ev (fun k => impl_StripMovesOk.f k l) (decide (MovesOk l)) := by
  unfold impl_StripMovesOk.f
  by_cases h6 : l.length ≤ 6
  · refine Ev.neg (by omega) ?_
    have step : ∀ (i : Nat) (r : Bool), i < l.length → OkAt l i → Ev (fun k => impl_StripMovesOk.l0 k l l (l.length : Int) ((i + 1 : Nat) : Int)) r → Ev (fun k => impl_StripMovesOk.l0 k l l (l.length : Int) (i : Int)) r := by
      intro i r hi ⟨h1, h2⟩ hr
      refine Ev.step (fun _ => impl_StripMovesOk.l0.eq_2 ..) (Ev.pos (by omega) (Ev.pos (by omega) (Ev.pos (by omega) ?_)))
      simp only [rdM, wrap_succ hi (show l.length ≤ 1000000000000000000 by omega)]
      refine Ev.bind (impl_mvOk _) (Ev.pos h1 ?_)
      by_cases hp : 0 < i
      · refine Ev.pos (by omega) ?_
        simp only [wrap_eq (x := (i : Int) - 1) (by omega) (by omega), rdM_pred l i hp]
        exact Ev.pos (by omega) (Ev.pos (by omega) (Ev.pos (h2 hp) hr))
      · exact Ev.neg (by omega) hr
    by_cases hall : ∀ i, i < l.length → OkAt l i
    · rw [decide_eq_true (show MovesOk l from ⟨h6, hall⟩)]
      refine ev_yes (n := l.length) (fun i k => impl_StripMovesOk.l0 k l l (l.length : Int) i) hall ?_ (fun i hi h hr => step i _ hi h hr)
      exact Ev.step (fun _ => impl_StripMovesOk.l0.eq_2 ..) (Ev.neg (by omega) (Ev.some rfl))
    · rw [decide_eq_false (fun h : MovesOk l => hall h.2)]
      refine ev_no (n := l.length) (fun i k => impl_StripMovesOk.l0 k l l (l.length : Int) i) hall (fun i hi h hr => step i _ hi h hr) ?_
      intro i hi _ hno
      refine Ev.step (fun _ => impl_StripMovesOk.l0.eq_2 ..) (Ev.pos (by omega) (Ev.pos (by omega) (Ev.pos (by omega) ?_)))
      simp only [rdM]
      refine Ev.bind (impl_mvOk _) ?_
      refine Ev.ite (fun h1 => ?_) (fun _ => Ev.some rfl)
      have hp : 0 < i := by
        rcases Nat.eq_zero_or_pos i with e | h
        · exact absurd ⟨h1, fun h => absurd h (by omega)⟩ hno
        · exact h
      refine Ev.pos (by omega) ?_
      simp only [wrap_eq (x := (i : Int) - 1) (by omega) (by omega), rdM_pred l i hp]
      exact Ev.pos (by omega) (Ev.pos (by omega) (Ev.neg (fun h => hno ⟨h1, fun _ => h⟩) (Ev.some rfl)))
  · rw [decide_eq_false (fun h : MovesOk l => h6 h.1)]
    exact Ev.pos (by omega) (Ev.some rfl)
end Go.Proofs.Ytpdmimlkgmhepaa.Pure

/- The laws' helpers on moves: a copy is the list, turned move by move; equal lists are equal; sizes; condition: what the laws' own guard lets by. -/
namespace Go.Proofs.Ytpdmimlkgmhepaa.Pure
set_option linter.unusedVariables false
set_option linter.unusedSimpArgs false
open Go.RowKit Go.Proofs.YtpdmimlkgmhepaaW.PrintWords Go.Proofs.Ytpdmimlkgmhepaa.G
/-- The laws' moves. -/
abbrev Lm := S71
def LmWf (x : Lm) : Prop := x.f0.size ≤ maxLen ∧ (Lit.int .i64 x.f2).wf = true ∧ (Lit.int .i64 x.f3).wf = true ∧ (Lit.int .i64 x.f4).wf = true ∧ (Lit.int .i64 x.f5).wf = true
def toM (x : Lm) : Mv := ⟨x.f0, x.f1, x.f2, x.f3, x.f4, x.f5⟩
def lat (l : List Lm) (i : Nat) : Lm := l.getD i z71
theorem rdL (l : List Lm) (i : Nat) : rd_T71 l (i : Int) = lat l i := by simp [rd_T71, lat]

theorem toMoves (l : List Lm) (hl : l.length ≤ 1048576) : Ev (fun k => laws_toStripMoveS.f k l) (l.map toM) := by
  unfold laws_toStripMoveS.f
  refine Ev.pos (by omega) (Ev.pos (by omega) ?_)
  simp only [Int.toNat_natCast]
  have key : ∀ d i (s : List Mv), i + d = l.length → s.length = l.length → (∀ j, j < i → s.getD j z0 = toM (lat l j)) → Ev (fun k => laws_toStripMoveS.l0 k l s i) (l.map toM) := by
    intro d
    induction d with
    | zero =>
      intro i s hi hs hp
      refine Ev.step (fun _ => laws_toStripMoveS.l0.eq_2 ..) (Ev.neg (by omega) (Ev.some ?_))
      refine list_eq_getD z0 (by rw [hs, List.length_map]) fun j hj => ?_
      rw [hp j (by omega)]
      simp [List.getD_eq_getElem?_getD, lat, List.getElem?_eq_getElem (show j < l.length by omega)]
    | succ d ih =>
      intro i s hi hs hp
      refine Ev.step (fun _ => laws_toStripMoveS.l0.eq_2 ..) (Ev.pos (by omega) (Ev.pos (by omega) ?_))
      simp only [rdL, laws_toStripMove.f, Option.bind_some, Int.toNat_natCast, wrap_succ (show i < l.length by omega) (show l.length ≤ 1000000000000000000 by omega)]
      refine Ev.pos (by omega) ?_
      obtain ⟨h1, h2⟩ := copy_step (fun j => toM (lat l j)) z0 hs hp (show i < l.length by omega)
      exact ih (i + 1) _ (by omega) h1 h2
  exact key l.length 0 _ (by omega) (by simp) (fun j hj => absurd hj (by omega))

theorem eqMove_self (m : Mv) : laws_eqStripMove.f m.f0 m.f1 m.f2 m.f3 m.f4 m.f5 m.f0 m.f1 m.f2 m.f3 m.f4 m.f5 = some true := by
  unfold laws_eqStripMove.f
  simp
theorem eqMoves (a : List Mv) (hl : a.length ≤ 1048576) : Ev (fun k => laws_eqStripMoveS.f k a a) true := by
  unfold laws_eqStripMoveS.f
  refine Ev.pos rfl ?_
  refine ev_yes (n := a.length) (P := fun _ => True) (fun i k => laws_eqStripMoveS.l0 k a a i) (fun _ _ => trivial) ?_ ?_
  · exact Ev.step (fun _ => laws_eqStripMoveS.l0.eq_2 ..) (Ev.neg (by omega) (Ev.some rfl))
  · intro i hi _ hr
    refine Ev.step (fun _ => laws_eqStripMoveS.l0.eq_2 ..) (Ev.pos (by omega) (Ev.pos (by omega) (Ev.pos (by omega) ?_)))
    simp only [eqMove_self, Option.bind_some]
    refine Ev.pos trivial ?_
    simpa only [wrap_succ hi (show a.length ≤ 1000000000000000000 by omega)] using hr

/-- What the laws' guard says of what it lets by. -/
theorem szMoves (l : List Lm) (a : Int) (ha : 0 ≤ a) (ha' : a ≤ 1048576) (hl : l.length ≤ maxLen) (hw : ∀ x ∈ l, LmWf x) :
    ∃ t : Int, Ev (fun k => laws_szStripMoveS.f k l a) t ∧ t ≤ 1048576 ∧ (0 ≤ t → (l.length : Int) ≤ a ∧ ∀ i, i < l.length → (lat l i).f0.size ≤ 1048576) := by
  unfold maxLen at hl
  unfold laws_szStripMoveS.f
  simp only [wrap_eq (x := a - (l.length : Int)) (by omega) (by omega)]
  by_cases h : a - (l.length : Int) < 0
  · exact ⟨-1, Ev.pos h (Ev.some rfl), by omega, fun h => absurd h (by omega)⟩
  · have key : ∀ d (i : Nat) (a : Int), 0 ≤ a → a ≤ 1048576 → i + d = l.length → (∀ j, j < i → (lat l j).f0.size ≤ 1048576) →
        ∃ t : Int, Ev (fun k => laws_szStripMoveS.l0 k l a (i : Int)) t ∧ t ≤ 1048576 ∧ (0 ≤ t → ∀ i, i < l.length → (lat l i).f0.size ≤ 1048576) := by
      intro d
      induction d with
      | zero =>
        intro i a h0 h1 hi hp
        exact ⟨a, Ev.step (fun _ => laws_szStripMoveS.l0.eq_2 ..) (Ev.neg (by omega) (Ev.some rfl)), h1, fun _ j hj => hp j (by omega)⟩
      | succ d ih =>
        intro i a h0 h1 hi hp
        have hx : LmWf (lat l i) := by
          unfold lat
          rw [List.getD_eq_getElem?_getD, List.getElem?_eq_getElem (show i < l.length by omega)]
          exact hw _ (List.getElem_mem _)
        have hn := hx.1
        unfold maxLen at hn
        by_cases hs : a - ((lat l i).f0.size : Int) < 0
        · refine ⟨-1, Ev.step (fun _ => laws_szStripMoveS.l0.eq_2 ..) (Ev.pos (by omega) (Ev.pos (by omega) ?_)), by omega, fun h => absurd h (by omega)⟩
          simp only [rdL, laws_szStripMove.f, wrap_eq (x := a - ((lat l i).f0.size : Int)) (by omega) (by omega)]
          simp only [if_pos hs, Option.bind_some]
          exact Ev.pos (by decide) (Ev.some rfl)
        · obtain ⟨t, h2, h3, h4⟩ := ih (i + 1) (a - (lat l i).f0.size) (by omega) (by omega) (by omega) (fun j hj => by
            by_cases e : j = i
            · subst e; omega
            · exact hp j (by omega))
          refine ⟨t, Ev.step (fun _ => laws_szStripMoveS.l0.eq_2 ..) (Ev.pos (by omega) (Ev.pos (by omega) ?_)), h3, h4⟩
          simp only [rdL, laws_szStripMove.f, wrap_eq (x := a - ((lat l i).f0.size : Int)) (by omega) (by omega), wrap_succ (show i < l.length by omega) (show l.length ≤ 1000000000000000000 by omega)]
          simp only [if_neg hs, Option.bind_some]
          exact h2
    obtain ⟨t, h2, h3, h4⟩ := key l.length 0 (a - (l.length : Int)) (by omega) (by omega) (by omega) (fun j hj => absurd hj (by omega))
    exact ⟨t, Ev.neg h h2, h3, fun ht => ⟨by omega, h4 ht⟩⟩
end Go.Proofs.Ytpdmimlkgmhepaa.Pure

/- Slices of moves and books that come in read as plain lists; condition: the argument reads as data of its type. -/
namespace Go.Proofs.Ytpdmimlkgmhepaa.G
open Go.Joins Go.ChangeShapes Go.WideShapes Go.RowKit Go.Deep Go.Proofs.YtpdmimlkgmhepaaW.PrintWords
section
variable {H : Type} {enc : TypeId × Value → H} {w : World} {base : Nat} {spare : Nat → Bool} {held : Bool}
theorem open_moves {t fuel : Nat} {cs : List Value} {y : DataW H × List MemPlace} (ht : Try.prog.underlying t = some (.slice 71)) (h : DataW.trod enc Try.prog w base spare held fuel t cs = some y) :
    ∃ A c, ∃ xs : List S71, cs = [.slice A xs.length c] ∧ xs.length ≤ c ∧ c ≤ maxLen ∧ k71.C w A xs.length xs ∧ (∀ z ∈ xs, Pure.LmWf z) :=
  open_rows k71 Pure.LmWf ht (by kernel_rfl) (fun n cs' y hy => by
    have hl : cs'.length = 6 := by
      obtain ⟨_, _, _, _, hl, _⟩ := DataW.trod_struct Try.underlying71 hy
      exact hl.trans (by kernel_rfl)
    obtain ⟨a0, a1, a2, a3, a4, a5, rfl, w0, w2, w3, w4, w5⟩ := open_move hy hl
    exact ⟨⟨a0, a1, a2, a3, a4, a5⟩, k71_mk w ⟨a0, a1, a2, a3, a4, a5⟩, w0, w2, w3, w4, w5⟩) h
/-- A book: four cells. -/
theorem open_book {n : Nat} {cs : List Value} {y : DataW H × List MemPlace} (h : DataW.trod enc Try.prog w base spare held n 38 cs = some y) (hl : cs.length = 4) :
    ∃ (a0 a1 : Int) (A2 : Option Addr) (c2 : Nat) (l2 : List S71) (A3 : Option Addr) (c3 : Nat) (l3 : List Int), cs = [.int .i64 a0, .int .i64 a1, .slice A2 l2.length c2, .slice A3 l3.length c3] ∧
      (Lit.int .i64 a0).wf = true ∧ (Lit.int .i64 a1).wf = true ∧ l2.length ≤ c2 ∧ c2 ≤ maxLen ∧ k71.C w A2 l2.length l2 ∧ (∀ z ∈ l2, Pure.LmWf z) ∧
      l3.length ≤ c3 ∧ c3 ≤ maxLen ∧ (Kd.int .i64).C w A3 l3.length l3 ∧ (∀ z ∈ l3, (Lit.int .i64 z).wf = true) := by
  obtain ⟨xs, n', _, _, _, hxl, hf⟩ := DataW.trod_struct Try.underlying38 h
  match cs, hl with
  | [d0, d1, d2, d3], _ =>
    have h0 := hf 0 _ rfl
    have h1 := hf 1 _ rfl
    have h2 := hf 2 _ rfl
    have h3 := hf 3 _ rfl
    have k1 : Try.prog.cellsOf 3 = 1 := by kernel_rfl
    have k2 : Try.prog.cellsOf 26 = 1 := by kernel_rfl
    have k3 : Try.prog.cellsOf 22 = 1 := by kernel_rfl
    have e0 : xs[0]? = some (xs[0]'(by rw [hxl]; decide)) := List.getElem?_eq_getElem _
    have e1 : xs[1]? = some (xs[1]'(by rw [hxl]; decide)) := List.getElem?_eq_getElem _
    have e2 : xs[2]? = some (xs[2]'(by rw [hxl]; decide)) := List.getElem?_eq_getElem _
    have e3 : xs[3]? = some (xs[3]'(by rw [hxl]; decide)) := List.getElem?_eq_getElem _
    obtain ⟨a0, q0, _, w0⟩ := DataW.trod_int Try.underlying3 (h0.trans e0)
    obtain ⟨a1, q1, _, w1⟩ := DataW.trod_int Try.underlying3 (h1.trans e1)
    obtain ⟨A2, c2, l2, q2, hc2, hm2, hr2, w2⟩ := open_moves Try.underlying26 (h2.trans e2)
    obtain ⟨A3, c3, l3, q3, hc3, hm3, hr3, w3⟩ := open_ints_rows Try.underlying22 Try.underlying3 (by kernel_rfl) (h3.trans e3)
    simp [k1, k2, k3] at q0 q1 q2 q3
    subst q0 q1 q2 q3
    exact ⟨a0, a1, A2, c2, l2, A3, c3, l3, rfl, w0, w1, hc2, hm2, hr2, w2, hc3, hm3, hr3, w3⟩
end
end Go.Proofs.Ytpdmimlkgmhepaa.G

/- StripGap, the program's and the reference's, is one plain number; condition: a round. -/
namespace Go.Proofs.Ytpdmimlkgmhepaa.Pure
set_option linter.unusedVariables false
set_option linter.unusedSimpArgs false
open Go.RowKit Go.Proofs.YtpdmimlkgmhepaaW.PrintWords Go.Proofs.Ytpdmimlkgmhepaa.G

/-- The gap, plainly. -/
def gapM (l : Bool) (a b : Int) : Int := (if l = true then 2 else 1) + (if 1 ≤ a ∧ a ≤ 3 ∧ 1 ≤ b ∧ b ≤ 3 ∧ b < a then a - b else 0)

theorem spec_gap (n1 n2 : ByteArray) (b1 b2 : Bool) (w1 e1 l1 p1 w2 e2 l2 p2 : Int) (k : Nat) : spec_StripGap.f (k + 1) n1 b1 w1 e1 l1 p1 n2 b2 w2 e2 l2 p2 = some (gapM b1 w1 w2) := by
  simp only [spec_StripGap.f, spec_StripGap.j0, spec_l1In.f, gapM]
  cases b1 <;> (repeat' split) <;> simp_all [wrap64] <;> (repeat' split) <;> omega

theorem impl_gap (n1 n2 : ByteArray) (b1 b2 : Bool) (w1 e1 l1 p1 w2 e2 l2 p2 : Int) (k : Nat) : impl_StripGap.f (k + 1) n1 b1 w1 e1 l1 p1 n2 b2 w2 e2 l2 p2 = some (gapM b1 w1 w2) := by
  simp only [impl_StripGap.f, impl_StripGap.j0, impl_in.f, gapM]
  cases b1 <;> (repeat' split) <;> simp_all [wrap64] <;> (repeat' split) <;> omega

theorem gapM_range (l : Bool) (a b : Int) : 1 ≤ gapM l a b ∧ gapM l a b ≤ 4 := by
  unfold gapM
  (repeat' split) <;> omega
end Go.Proofs.Ytpdmimlkgmhepaa.Pure
