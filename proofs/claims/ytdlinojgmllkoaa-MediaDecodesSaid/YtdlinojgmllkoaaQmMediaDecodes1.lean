-- Printed by a program of this session (wip/pp), out of Lean's print of the loaded functions, and joined by another. Lean checks it.
import Derived.Test.YtdlinojgmllkoaaQmMediaDecodes0
namespace Go.Proofs.Ytdlinojgmllkoaa.Q
open Go.RowKit Go.Proofs.YtdlinojgmllkoaaW.PrintWords Go.Proofs.YtdlinojgmllkoaaW.PrintLast Go.Proofs.YtdlinojgmllkoaaW.PrintMore
attribute [local go_sem] max2_int min2_int max_two min_two max_three min_three max_four min_four   -- for this text's walks alone
set_option linter.unusedVariables false
set_option linter.unusedSimpArgs false

attribute [local irreducible] Calls skiarearef03_Get.f
mutual
def skiarearef25_read.l0 : Nat → List Int → List Int → Option (Int × Int × Int × Int × Int × Int × Int × Int × Int)
  | 0, _, _ => none
  | k + 1, x0, x3 => if (x3.length : Int) < 8 then ((skiarearef03_Get.f k x0).bind fun bt440 => (if bt440.2.2 = 0 then (if bt440.1 > 20000001 then (some (0, 0, 0, 0, 0, 0, 0, 0, 0)) else (if x3.length < 17592186044416 then (if 0 ≤ bt440.2.1 then (if bt440.2.1 ≤ (x0.length : Int) then (skiarearef25_read.l0 k (x0.drop (bt440.2.1 : Int).toNat) (x3 ++ [bt440.1])) else (none)) else (none)) else (none))) else (some (0, 0, 0, 0, 0, 0, 0, 0, 0)))) else (if 0 < (x3.length : Int) then (if 1 < (x3.length : Int) then (if 2 < (x3.length : Int) then (if 3 < (x3.length : Int) then (if 4 < (x3.length : Int) then (if 5 < (x3.length : Int) then (if 6 < (x3.length : Int) then (if 7 < (x3.length : Int) then (skiarearef25_read.l1 k x0 0 (rd x3 0) (rd x3 1) (rd x3 2) (wrap64 ((rd x3 3) - 1)) (rd x3 4) (wrap64 ((rd x3 5) - 1)) (rd x3 6) (wrap64 ((rd x3 7) - 1)) 0) else (none)) else (none)) else (none)) else (none)) else (none)) else (none)) else (none)) else (none))
def skiarearef25_read.l1 : Nat → List Int → Int → Int → Int → Int → Int → Int → Int → Int → Int → Int → Option (Int × Int × Int × Int × Int × Int × Int × Int × Int)
  | 0, _, _, _, _, _, _, _, _, _, _, _ => none
  | k + 1, x0, x8, x460000, x460001, x460002, x460003, x460004, x460005, x460006, x460007, x460008 => if x8 < (x0.length : Int) then (if x8 < 8 then (if 0 ≤ x8 then (skiarearef25_read.l1 k x0 (wrap64 (x8 + 1)) x460000 x460001 x460002 x460003 x460004 x460005 x460006 x460007 (Go.bits .or .u64 (IntKind.u64.wrap (x460008 * 256)) (IntKind.u64.wrap (rd x0 x8)))) else (none)) else (some (x460000, x460001, x460002, x460003, x460004, x460005, x460006, x460007, x460008))) else (some (x460000, x460001, x460002, x460003, x460004, x460005, x460006, x460007, x460008))
end
def skiarearef25_read.f (k : Nat) (l0 : List Int) : Option (Int × Int × Int × Int × Int × Int × Int × Int × Int) := skiarearef25_read.l0 k l0 ([] : List Int)
theorem skiarearef25_read.mono_l : ∀ k, (∀ y0 y1, LeO (skiarearef25_read.l0 k y0 y1) (skiarearef25_read.l0 (k + 1) y0 y1)) ∧ (∀ y0 y1 y2 y3 y4 y5 y6 y7 y8 y9 y10, LeO (skiarearef25_read.l1 k y0 y1 y2 y3 y4 y5 y6 y7 y8 y9 y10) (skiarearef25_read.l1 (k + 1) y0 y1 y2 y3 y4 y5 y6 y7 y8 y9 y10))
  | 0 => ⟨fun _ _ r h => by simp [skiarearef25_read.l0] at h, fun _ _ _ _ _ _ _ _ _ _ _ r h => by simp [skiarearef25_read.l1] at h⟩
  | k + 1 => by
    obtain ⟨ih0, ih1⟩ := skiarearef25_read.mono_l k
    refine ⟨?_, ?_⟩
    · intro y0 y1
      unfold skiarearef25_read.l0
      repeat' first
      | (with_reducible exact ih0 _ _)
      | (with_reducible exact ih1 _ _ _ _ _ _ _ _ _ _ _)
      | (with_reducible exact skiarearef03_Get.mono _ _)
      | (with_reducible exact LeO.refl _)
      | (with_reducible exact LeO.none _)
      | (with_reducible refine LeO.ite ?_ ?_)
      | (with_reducible refine LeO.bind ?_ (fun _ => ?_))
      | exact ih0 _ _
      | exact ih1 _ _ _ _ _ _ _ _ _ _ _
      | exact skiarearef03_Get.mono _ _
      | exact LeO.none _
      | refine LeO.ite ?_ ?_
      | refine LeO.bind ?_ (fun _ => ?_)
    · intro y0 y1 y2 y3 y4 y5 y6 y7 y8 y9 y10
      unfold skiarearef25_read.l1
      repeat' first
      | (with_reducible exact ih0 _ _)
      | (with_reducible exact ih1 _ _ _ _ _ _ _ _ _ _ _)
      | (with_reducible exact skiarearef03_Get.mono _ _)
      | (with_reducible exact LeO.refl _)
      | (with_reducible exact LeO.none _)
      | (with_reducible refine LeO.ite ?_ ?_)
      | (with_reducible refine LeO.bind ?_ (fun _ => ?_))
      | exact ih0 _ _
      | exact ih1 _ _ _ _ _ _ _ _ _ _ _
      | exact skiarearef03_Get.mono _ _
      | exact LeO.none _
      | refine LeO.ite ?_ ?_
      | refine LeO.bind ?_ (fun _ => ?_)
theorem skiarearef25_read.mono : ∀ a0 k, LeO (skiarearef25_read.f k a0) (skiarearef25_read.f (k + 1) a0) := by
  intro a0 k
  obtain ⟨ih0, ih1⟩ := skiarearef25_read.mono_l k
  unfold skiarearef25_read.f
  repeat' first
      | (with_reducible exact ih0 _ _)
      | (with_reducible exact ih1 _ _ _ _ _ _ _ _ _ _ _)
      | (with_reducible exact skiarearef03_Get.mono _ _)
      | (with_reducible exact LeO.refl _)
      | (with_reducible exact LeO.none _)
      | (with_reducible refine LeO.ite ?_ ?_)
      | (with_reducible refine LeO.bind ?_ (fun _ => ?_))
      | exact ih0 _ _
      | exact ih1 _ _ _ _ _ _ _ _ _ _ _
      | exact skiarearef03_Get.mono _ _
      | exact LeO.none _
      | refine LeO.ite ?_ ?_
      | refine LeO.bind ?_ (fun _ => ?_)
def skiarearef25_read.T8 : Bool × List (List Nat × List Nat) := (true, [([], []), ([0], [0]), ([1], [1]), ([], []), ([3], [3]), ([4], [4]), ([], []), ([6], [6]), ([7], [7]), ([], []), ([9], [9]), ([10], [10]), ([11], [11]), ([], []), ([13], [13]), ([14], [14]), ([], []), ([16], [16]), ([17], [17]), ([18], [18]), ([], []), ([20], [20]), ([21], [21]), ([], []), ([23], [23]), ([24], [24]), ([25], [25]), ([2, 5, 8, 12, 15, 19, 22, 26], [2, 5, 8, 12, 15, 19, 22, 26]), ([], []), ([28, 27, 0, 1, 2, 3, 4, 5, 6, 7, 8, 9, 10, 11, 12, 13, 14, 15, 16, 17, 18, 19, 20, 21, 22, 23, 24, 25, 26, 27, 28], [27, 28])])
def skiarearef25_read.B8 : List Nat := [0, 1, 3, 0, 8, 24, 0, 64, 192, 0, 512, 1536, 3584, 0, 8192, 24576, 0, 65536, 196608, 458752, 0, 1048576, 3145728, 0, 8388608, 25165824, 58720256, 134217727, 0, 536870911]
theorem skiarearef25_read.tab8 : rtab .any (opsOf Try.f39 8) = skiarearef25_read.T8 := by kernel_rfl
theorem skiarearef25_read.bits8 : waitsOk skiarearef25_read.T8.2 skiarearef25_read.B8 = true := by kernel_rfl
def skiarearef25_read.T12 : Bool × List (List Nat × List Nat) := (true, [([], []), ([0], [0]), ([1], [1]), ([], []), ([], []), ([3, 4], [3, 4]), ([5], [5]), ([6], [6]), ([2, 7], [2, 7]), ([0, 1, 2, 3, 4, 5, 6, 7, 8], []), ([9, 8, 0, 1, 2, 3, 4, 5, 6, 7, 8], [8, 9])])
def skiarearef25_read.B12 : List Nat := [0, 1, 3, 0, 0, 24, 56, 120, 255, 511, 1023]
theorem skiarearef25_read.tab12 : rtab .any (opsOf Try.f39 12) = skiarearef25_read.T12 := by kernel_rfl
theorem skiarearef25_read.bits12 : waitsOk skiarearef25_read.T12.2 skiarearef25_read.B12 = true := by kernel_rfl
set_option maxHeartbeats 8000000 in
set_option maxRecDepth 100000 in
theorem skiarearef25_read.calls (k : Nat) (P0_ : Nat → Prop) (A0 : Option Addr) (c0 : Nat) (l0 : List Int) (r1 : Int) (r2 : Int) (r3 : Int) (r4 : Int) (r5 : Int) (r6 : Int) (r7 : Int) (r8 : Int) (r9 : Int) (w : World) (hs0 : Kd.V (Kd.int .u8) 5 w w.heap.size (fun k_ => P0_ k_) (.slice A0 l0.length c0) l0) (h : skiarearef25_read.f k l0 = some (r1, r2, r3, r4, r5, r6, r7, r8, r9)) :
    Calls Try.prog 39 #[.slice A0 l0.length c0] w fun e w' => e = .returned (.agg #[.int .i64 r1, .int .i64 r2, .int .i64 r3, .int .i64 r4, .int .i64 r5, .int .i64 r6, .int .i64 r7, .int .i64 r8, .int .u64 r9]) ∧ Below w.heap.size w w' := by
  have hu24 := Try.underlying24
  have HO0 := Aside0.mk (show Kd.V (Kd.int .u8) 5 w w.heap.size (fun k_ => (P0_ k_ ∨ w.heap.size ≤ k_)) (.slice A0 l0.length c0) l0 from Kd.V_mono hs0 (fun k_ hk => .inl hk))
  have HB := Aside0.mk (Below.refl w.heap.size w)
  have H : (skiarearef25_read.l0 k l0 ([] : List Int)) = some (r1, r2, r3, r4, r5, r6, r7, r8, r9) := h
  clear h
  have H' := Aside0.mk H
  clear H
  go_enter Try.func39, Try.ntmps39
  go_wp2_with (first | ((with_reducible refine gate_dst (N := 2) rfl ?_); refine box_event ?hg (N := 2) ?hd (cs := #[.int .i64 0, .int .i64 0, .int .i64 0, .int .i64 0, .int .i64 0, .int .i64 0, .int .i64 0, .int .i64 0, .int .u64 0]) (t := 24) ?hr ?_; (case hd => rfl); (case hg => rfl); (case hr => first | (go_simp; done) | (go_simp; rfl)); intro gb439 hg w2 hbox hb; have n0_ := Aside0.mk (Kd.V_below (Kd.V_elderB (by (with_reducible repeat (first | apply Kd.V_alloc | apply Kd.V_drewN | apply Kd.V_drew)); exact HO0.out) gb439 (Nat.le_of_eq hg.symm)) hb); have n1_ := Aside0.mk (below_step (by repeat (first | (with_reducible first | exact HB.out | apply below_alloc | apply pw_below_drewN | apply below_drew1) | exact HB.out)) hb); have n2_ := Aside0.mk (hbox); have n3_ := Aside0.mk ((by rw [hg]; exact (below_size (by repeat (first | (with_reducible first | exact HB.out | apply below_alloc | apply pw_below_drewN | apply below_drew1) | exact HB.out))) : w.heap.size ≤ gb439)); have n4_ := Aside0.mk ((by rw [hg]; exact (below_size (by repeat (first | (with_reducible first | exact HB.out | apply below_alloc | apply pw_below_drewN | apply below_drew1) | exact HB.out))) : w.heap.size ≤ gb439)); clear HO0; clear HB; have HO0 := n0_; have HB := n1_; have BK439 := n2_; have GW439 := n3_; have GE439 := n4_; clear n0_ n1_ n2_ n3_ n4_; clear hb hbox hg))
  go_loopg [0, 3] k (fun kq v0 v3 w' => ∃ (x0_1 : List Int) (x3_1 : List Int) (x440000_1 : Int) (x440001_1 : Int) (x440002_1 : Int) (x440003_1 : Int) (x440004_1 : Int) (x440005_1 : Int) (x440006_1 : Int) (x440007_1 : Int) (x440008_1 : Int), Aside0 (skiarearef25_read.l0 kq x0_1 x3_1 = some (r1, r2, r3, r4, r5, r6, r7, r8, r9)) ∧ Aside0 (kq ≤ k) ∧ Aside0 (Kd.V (Kd.int .u8) 5 w' w.heap.size (fun k_ => (P0_ k_ ∨ w.heap.size ≤ k_) ∧ some k_ ≠ (v3 : Value).ownBlock ∧ k_ ≠ gb439) v0 x0_1) ∧ Aside0 (Kd.R (Kd.int .i64) 3 w' w.heap.size (fun k_ => (w.heap.size ≤ k_)) v3 x3_1) ∧ Aside0 (w'.heap[gb439]? = some (.cells #[.int .i64 x440000_1, .int .i64 x440001_1, .int .i64 x440002_1, .int .i64 x440003_1, .int .i64 x440004_1, .int .i64 x440005_1, .int .i64 x440006_1, .int .i64 x440007_1, .int .u64 x440008_1] 24 (0, 0))) ∧ Aside0 (Below w.heap.size w w'))
  case atStart => exact ⟨(l0), (([] : List Int)), (0), (0), (0), (0), (0), (0), (0), (0), (0), H', ⟨Nat.le_refl _⟩, ⟨by (with_reducible repeat (first | apply Kd.V_alloc | apply Kd.V_drewN | apply Kd.V_drew)); exact Kd.V_mono HO0.out (fun _ hk => ⟨hk.1, ⟨(by simp [Value.ownBlock]), hk.2⟩⟩)⟩, ⟨by first | exact Kd.R_nil _ _ _ _ _ | exact Kd.N_nil _ _ _ _ _ | exact Kd.V_nil _ _ _ _ _ | exact Kd.Q_nil _ _ _ _ _ | exact Kd.S_nil _ _ _ _ _⟩, ⟨by (with_reducible repeat (first | refine blk_drewN ?_ _ | refine blk_drew ?_ | refine blk_alloc ?_ _)); exact BK439.out⟩, ⟨by repeat (first | (with_reducible first | exact HB.out | apply below_alloc | apply pw_below_drewN | apply below_drew1 | refine below_set ?_ GE439.out) | exact HB.out)⟩⟩
  case round =>
   (
 clear H'
 try clear p2
 obtain ⟨x0_1, x3_1, x440000_1, x440001_1, x440002_1, x440003_1, x440004_1, x440005_1, x440006_1, x440007_1, x440008_1, HA, HK1, HO_0, HO_3, BK439, HB⟩ := hrel
 cases gk with
 | zero => exact absurd HA.out (by simp [skiarearef25_read.l0])
 | succ k1 =>
   (
 have H := HA.out
 clear HA
 simp only [skiarearef25_read.l0] at H
 by_cases c3 : (x3_1.length : Int) < 8
 {
 rw [if_pos c3] at H
 have c3b0 : decide ((x3_1.length : Int) < 8) = true := decide_eq_true c3
 have c3b1 : decide (x3_1.length < 8) = true := decide_eq_true (by omega)
 clear c3
 replace H := Option.bind_eq_some_iff.mp H
 obtain ⟨⟨t440, t441, t442⟩, A40, H⟩ := H
 try dsimp only at H
 have A4 := Aside0.mk A40
 clear A40
 by_cases c5 : t442 = 0
 {
 rw [if_pos c5] at H
 have c5b0 : (t442 == 0) = true := beq_iff_eq.mpr c5
 have c5b1 : (t442 != 0) = false := bne_eq_false_iff_eq.mpr c5
 clear c5
 by_cases c6 : t440 > 20000001
 {
 rw [if_pos c6] at H
 have c6b0 : decide (20000001 < t440) = true := decide_eq_true c6
 clear c6
 simp only [Option.some.injEq, Prod.mk.injEq] at H
 obtain ⟨rfl, rfl, rfl, rfl, rfl, rfl, rfl, rfl, rfl⟩ := H
 obtain ⟨Ao7, co7, eo7⟩ := Kd.R_slice HO_3.out
 subst eo7
 obtain ⟨Ao8, co8, eo8⟩ := Kd.V_slice HO_0.out
 subst eo8
 go_wp2_with (first | ((with_reducible refine gate_callee (f := 47) rfl ?_); refine goesL_ (some 14) rfl rfl Try.func47 (by kernel_rfl) rfl #[.slice Ao8 x0_1.length co8] rfl (by (try simp only [List.map_toArray, List.map_cons, List.map_nil]); first | done | rfl | (simp only [List.length_drop, List.length_take]; rfl)) ?_; (with_reducible refine (skiarearef03_Get.calls k1 _ _ x0_1 t440 t441 t442 _ ?side1 ?side2 A4.out).mono ?_); (case side1 => repeat (first | exact (Kd.V_reads' HO_0.out).2.2 | (with_reducible refine Kd.C_alloc ?_ _) | (with_reducible refine Kd.C_drewN ?_ _) | (with_reducible refine Kd.C_drew ?_))); (case side2 => exact (Kd.V_reads' HO_0.out).2.1); rintro e w' ⟨rfl, ⟨nd, rfl⟩⟩; refine ⟨_, rfl, ?_⟩; (try (rw [drewN_self wr]; generalize hq_ : World.drewN wr _ = wr; have n0_ : Aside0 (Kd.V (Kd.int .u8) 5 wr w.heap.size (fun k_ => (P0_ k_ ∨ w.heap.size ≤ k_) ∧ some k_ ≠ (.slice Ao7 x3_1.length co7 : Value).ownBlock ∧ k_ ≠ gb439) (.slice Ao8 x0_1.length co8) x0_1) := ⟨by rw [← hq_]; exact (by (with_reducible repeat (first | apply Kd.V_alloc | apply Kd.V_drewN | apply Kd.V_drew)); exact HO_0.out)⟩; have n1_ : Aside0 (Kd.R (Kd.int .i64) 3 wr w.heap.size (fun k_ => (w.heap.size ≤ k_)) (.slice Ao7 x3_1.length co7) x3_1) := ⟨by rw [← hq_]; exact (by (with_reducible repeat (first | apply Kd.R_alloc | apply Kd.R_drewN | apply Kd.R_drew)); exact HO_3.out)⟩; have n2_ : Aside0 (wr.heap[gb439]? = some (.cells #[.int .i64 x440000_1, .int .i64 x440001_1, .int .i64 x440002_1, .int .i64 x440003_1, .int .i64 x440004_1, .int .i64 x440005_1, .int .i64 x440006_1, .int .i64 x440007_1, .int .u64 x440008_1] 24 (0, 0))) := ⟨by rw [← hq_]; exact (by (with_reducible repeat (first | refine blk_drewN ?_ _ | refine blk_drew ?_ | refine blk_alloc ?_ _)); exact BK439.out)⟩; have n3_ : Aside0 (Below w.heap.size w wr) := ⟨by rw [← hq_]; exact (by repeat (first | (with_reducible first | exact HB.out | apply below_alloc | apply pw_below_drewN | apply below_drew1 | refine below_set ?_ GE439.out) | exact HB.out))⟩; clear HO_0 HO_3 BK439 HB hq_; have HO_0 := n0_; have HO_3 := n1_; have BK439 := n2_; have HB := n3_; clear n0_ n1_ n2_ n3_)); have hcz9_0 : wr.cell? ⟨gb439, 0, none⟩ = some (.int .i64 x440000_1) := (blk_cell BK439.out 0).trans rfl; have hcz9_1 : wr.cell? ⟨gb439, 1, none⟩ = some (.int .i64 x440001_1) := (blk_cell BK439.out 1).trans rfl; have hcz9_2 : wr.cell? ⟨gb439, 2, none⟩ = some (.int .i64 x440002_1) := (blk_cell BK439.out 2).trans rfl; have hcz9_3 : wr.cell? ⟨gb439, 3, none⟩ = some (.int .i64 x440003_1) := (blk_cell BK439.out 3).trans rfl; have hcz9_4 : wr.cell? ⟨gb439, 4, none⟩ = some (.int .i64 x440004_1) := (blk_cell BK439.out 4).trans rfl; have hcz9_5 : wr.cell? ⟨gb439, 5, none⟩ = some (.int .i64 x440005_1) := (blk_cell BK439.out 5).trans rfl; have hcz9_6 : wr.cell? ⟨gb439, 6, none⟩ = some (.int .i64 x440006_1) := (blk_cell BK439.out 6).trans rfl; have hcz9_7 : wr.cell? ⟨gb439, 7, none⟩ = some (.int .i64 x440007_1) := (blk_cell BK439.out 7).trans rfl; have hcz9_8 : wr.cell? ⟨gb439, 8, none⟩ = some (.int .u64 x440008_1) := (blk_cell BK439.out 8).trans rfl; have hfz9_0 := blk_frozen BK439.out 0; have hfz9_1 := blk_frozen BK439.out 1; have hfz9_2 := blk_frozen BK439.out 2; have hfz9_3 := blk_frozen BK439.out 3; have hfz9_4 := blk_frozen BK439.out 4; have hfz9_5 := blk_frozen BK439.out 5; have hfz9_6 := blk_frozen BK439.out 6; have hfz9_7 := blk_frozen BK439.out 7; have hfz9_8 := blk_frozen BK439.out 8))
 refine bodyPost_ret (results_cell_row rfl _ _ gb439 24 #[.int .i64 0, .int .i64 0, .int .i64 0, .int .i64 0, .int .i64 0, .int .i64 0, .int .i64 0, .int .i64 0, .int .u64 0] (0, 0) _ rfl (by (with_reducible repeat (first | refine blk_drewN ?_ _ | refine blk_drew ?_ | refine blk_alloc ?_ _)); refine blk_put (cs := #[.int .i64 0, .int .i64 0, .int .i64 0, .int .i64 0, .int .i64 0, .int .i64 0, .int .i64 0, .int .i64 0, .int .u64 x440008_1]) ?_ 8 _ rfl; refine blk_put (cs := #[.int .i64 0, .int .i64 0, .int .i64 0, .int .i64 0, .int .i64 0, .int .i64 0, .int .i64 0, .int .i64 x440007_1, .int .u64 x440008_1]) ?_ 7 _ rfl; refine blk_put (cs := #[.int .i64 0, .int .i64 0, .int .i64 0, .int .i64 0, .int .i64 0, .int .i64 0, .int .i64 x440006_1, .int .i64 x440007_1, .int .u64 x440008_1]) ?_ 6 _ rfl; refine blk_put (cs := #[.int .i64 0, .int .i64 0, .int .i64 0, .int .i64 0, .int .i64 0, .int .i64 x440005_1, .int .i64 x440006_1, .int .i64 x440007_1, .int .u64 x440008_1]) ?_ 5 _ rfl; refine blk_put (cs := #[.int .i64 0, .int .i64 0, .int .i64 0, .int .i64 0, .int .i64 x440004_1, .int .i64 x440005_1, .int .i64 x440006_1, .int .i64 x440007_1, .int .u64 x440008_1]) ?_ 4 _ rfl; refine blk_put (cs := #[.int .i64 0, .int .i64 0, .int .i64 0, .int .i64 x440003_1, .int .i64 x440004_1, .int .i64 x440005_1, .int .i64 x440006_1, .int .i64 x440007_1, .int .u64 x440008_1]) ?_ 3 _ rfl; refine blk_put (cs := #[.int .i64 0, .int .i64 0, .int .i64 x440002_1, .int .i64 x440003_1, .int .i64 x440004_1, .int .i64 x440005_1, .int .i64 x440006_1, .int .i64 x440007_1, .int .u64 x440008_1]) ?_ 2 _ rfl; refine blk_put (cs := #[.int .i64 0, .int .i64 x440001_1, .int .i64 x440002_1, .int .i64 x440003_1, .int .i64 x440004_1, .int .i64 x440005_1, .int .i64 x440006_1, .int .i64 x440007_1, .int .u64 x440008_1]) ?_ 1 _ rfl; refine blk_put (cs := #[.int .i64 x440000_1, .int .i64 x440001_1, .int .i64 x440002_1, .int .i64 x440003_1, .int .i64 x440004_1, .int .i64 x440005_1, .int .i64 x440006_1, .int .i64 x440007_1, .int .u64 x440008_1]) ?_ 0 _ rfl; (with_reducible repeat (first | refine blk_drewN ?_ _ | refine blk_drew ?_ | refine blk_alloc ?_ _)); exact BK439.out) Try.underlying24 rfl (by kernel_rfl)) rfl ?_
 exact ⟨by first | rfl | (simp [errW_none, errW_some] <;> rfl) | (simp [*, errW_none, errW_some] <;> rfl), by repeat (first | (with_reducible first | exact HB.out | apply below_alloc | apply pw_below_drewN | apply below_drew1 | refine below_set ?_ GE439.out) | exact HB.out)⟩ }
 {
 rw [if_neg c6] at H
 have c6b0 : decide (20000001 < t440) = false := decide_eq_false c6
 clear c6
 by_cases c10 : x3_1.length < 17592186044416
 {
 rw [if_pos c10] at H
 have LMc10 := Aside0.mk c10
 clear c10
 obtain ⟨y443, hy443⟩ : ∃ y_ : List Int, y_ = (x3_1 ++ [t440]) := ⟨_, rfl⟩
 replace H : (if 0 ≤ t441 then (if t441 ≤ (x0_1.length : Int) then (skiarearef25_read.l0 k1 (x0_1.drop (t441 : Int).toNat) y443) else (none)) else (none)) = some (r1, r2, r3, r4, r5, r6, r7, r8, r9) := by first | (rw [hy443]; with_reducible exact H) | (have H2_ := (Option.bind_some _ _).symm.trans H; rw [hy443]; with_reducible exact H2_) | (have H2_ := (Option.bind_some _ _).symm.trans H; with_reducible exact H2_) | with_reducible exact H | (rw [hy443]; exact H) | exact H
 have Ny443 := Aside0.mk hy443
 clear hy443
 by_cases c11 : 0 ≤ t441
 {
 rw [if_pos c11] at H
 have c11b0 := eq_true c11
 have c11b1 : decide (0 ≤ t441) = true := decide_eq_true c11
 clear c11
 by_cases c12 : t441 ≤ (x0_1.length : Int)
 {
 rw [if_pos c12] at H
 have c12b0 := eq_true c12
 have c12b1 : decide (t441 ≤ (x0_1.length : Int)) = true := decide_eq_true c12
 clear c12
 obtain ⟨y446, hy446⟩ : ∃ y_ : List Int, y_ = (x0_1.drop (t441 : Int).toNat) := ⟨_, rfl⟩
 replace H : (skiarearef25_read.l0 k1 y446 y443) = some (r1, r2, r3, r4, r5, r6, r7, r8, r9) := by first | (rw [hy446]; with_reducible exact H) | (have H2_ := (Option.bind_some _ _).symm.trans H; rw [hy446]; with_reducible exact H2_) | (have H2_ := (Option.bind_some _ _).symm.trans H; with_reducible exact H2_) | with_reducible exact H | (rw [hy446]; exact H) | exact H
 have Ny446 := Aside0.mk hy446
 clear hy446
 have H' := Aside0.mk H
 clear H
 obtain ⟨Ao13, co13, eo13⟩ := Kd.R_slice HO_3.out
 subst eo13
 obtain ⟨Ao14, co14, eo14⟩ := Kd.V_slice HO_0.out
 subst eo14
 go_wp2_with (first | ((with_reducible refine gate_callee (f := 47) rfl ?_); refine goesL_ (some 14) rfl rfl Try.func47 (by kernel_rfl) rfl #[.slice Ao14 x0_1.length co14] rfl (by (try simp only [List.map_toArray, List.map_cons, List.map_nil]); first | done | rfl | (simp only [List.length_drop, List.length_take]; rfl)) ?_; (with_reducible refine (skiarearef03_Get.calls k1 _ _ x0_1 t440 t441 t442 _ ?side1 ?side2 A4.out).mono ?_); (case side1 => repeat (first | exact (Kd.V_reads' HO_0.out).2.2 | (with_reducible refine Kd.C_alloc ?_ _) | (with_reducible refine Kd.C_drewN ?_ _) | (with_reducible refine Kd.C_drew ?_))); (case side2 => exact (Kd.V_reads' HO_0.out).2.1); rintro e w' ⟨rfl, ⟨nd, rfl⟩⟩; refine ⟨_, rfl, ?_⟩) | ((with_reducible refine gate_builtin (b := .append) (xs := #[.tmp 25, .tmp 27]) rfl ?_); at_builtin; refine Kd.R_append (Kd.int .i64) (w0 := w) w.heap.size rfl (.tmp 25) (.tmp 27) 51 3 (.int .i64 0) 8 rfl Try.underlying51 info3 rfl (by decide) (by omega) (.slice Ao13 x3_1.length co13) x3_1 t440 [.int .i64 t440] (fun k_ => (w.heap.size ≤ k_)) (fun _ => False) rfl rfl ?aP (fun _ hk => hk.elim) ?aF ?aO ?aB ?aS ?aL ?_; (case aP => exact rfl); (case aB => exact (by repeat (first | (with_reducible first | exact HB.out | apply below_alloc | apply pw_below_drewN | apply below_drew1 | refine below_set ?_ GE439.out) | exact HB.out))); (case aF => exact (fun k_ hk => (Nat.le_trans (below_size (by repeat (first | (with_reducible first | exact HB.out | apply below_alloc | apply pw_below_drewN | apply below_drew1 | refine below_set ?_ GE439.out) | exact HB.out))) hk))); (case aO => exact (by (with_reducible repeat (first | apply Kd.R_alloc | apply Kd.R_drewN | apply Kd.R_drew)); exact HO_3.out)); (case aS => exact (below_size (by repeat (first | (with_reducible first | exact HB.out | apply below_alloc | apply pw_below_drewN | apply below_drew1 | refine below_set ?_ GE439.out) | exact HB.out)))); (case aL => have := LMc10.out; omega); intro v444 w15 ho hb hg hat; rw [← Ny443.out] at ho; have n0_ := Aside0.mk (Kd.V_afterv (ok := (fun k_ => (P0_ k_ ∨ w.heap.size ≤ k_) ∧ k_ ≠ gb439)) (by (with_reducible repeat (first | apply Kd.V_alloc | apply Kd.V_drewN | apply Kd.V_drew)); exact Kd.V_mono HO_0.out (fun _ hk => ⟨⟨hk.1, hk.2.2⟩, hk.2.1⟩)) hg hat); have n1_ := Aside0.mk (blk_grown (g := gb439) (o := .cells #[.int .i64 x440000_1, .int .i64 x440001_1, .int .i64 x440002_1, .int .i64 x440003_1, .int .i64 x440004_1, .int .i64 x440005_1, .int .i64 x440006_1, .int .i64 x440007_1, .int .u64 x440008_1] 24 (0, 0)) (by (with_reducible repeat (first | refine blk_drewN ?_ _ | refine blk_drew ?_ | refine blk_alloc ?_ _)); exact BK439.out) hg (Kd.R_ne HO_3.out BK439.out (by decide))); have n2_ := Aside0.mk (hb); have n3_ := Aside0.mk (ho); clear HO_0; clear BK439; clear HB; clear HO_3; have HO_0 := n0_; have BK439 := n1_; have HB := n2_; have HO445 := n3_; clear n0_ n1_ n2_ n3_; clear ho hb hg hat; have q16 : (t441 : Int) ≤ ((x0_1.length : Int) : Int) := of_decide_eq_true (by first | (with_reducible assumption) | assumption); obtain ⟨i016, hi016, _, hsz16, _⟩ := info_parts info5; have hroom16 : x0_1.length ≤ co14 := (Kd.V_reads' HO_0.out).2.1; have hC16 : Kd.F (Kd.int .u8) _ _ Ao14 x0_1.length x0_1 := (Kd.V_at (base := w.heap.size) HO_0.out).2.2; have q016 : (0 : Int) ≤ (t441 : Int) := of_decide_eq_true (by first | (with_reducible assumption) | assumption); have hcut16 := cut_from (P := Try.prog) 35 5 .i64 Try.underlying35 hi016 1 hsz16 Ao14 x0_1.length co14 t441 q016 q16; have hr16 := Kd.F_cut (m := (t441 : Int).toNat) (c := co14) hC16 (by omega) hroom16; obtain ⟨A16, hA16⟩ : ∃ A1, A1 = (if co14 = (t441 : Int).toNat then Ao14 else (Ao14 : Option Addr).map (·.add ((t441 : Int).toNat * 1))) := ⟨_, rfl⟩; obtain ⟨c16, hc16⟩ : ∃ c1, c1 = co14 - (t441 : Int).toNat := ⟨_, rfl⟩; have hy16 : y446.length = x0_1.length - (t441 : Int).toNat := (by rw [Ny446.out, List.length_drop] <;> omega); rw [show (x0_1).drop (t441 : Int).toNat = y446 from Ny446.out.symm] at hr16; replace hr16 : Kd.F (Kd.int .u8) _ _ A16 y446.length y446 := (by rw [hA16]; exact hr16); rw [← hy16, ← hA16, ← hc16] at hcut16; have HO450 := Aside0.mk (show Kd.V (Kd.int .u8) 5 _ w.heap.size _ (.slice A16 y446.length c16) y446 from Kd.V_mk (by rw [hy16, hc16]; exact Nat.sub_le_sub_right hroom16 _) hr16); have HC450 := Aside0.mk (show y446.length ≤ c16 from by rw [hy16, hc16]; exact Nat.sub_le_sub_right hroom16 _); clear hr16 hC16 hroom16 hi016 hsz16 hc16; have KY16 := Aside0.mk hy16; have KA16 := Aside0.mk hA16; clear hy16 hA16; replace q16 := eq_true q16))
 go_roundg k1
 case measure => have := HK1.out; omega
 case rel => exact ⟨(y446), (y443), (x440000_1), (x440001_1), (x440002_1), (x440003_1), (x440004_1), (x440005_1), (x440006_1), (x440007_1), (x440008_1), H', ⟨by have := HK1.out; omega⟩, ⟨by (with_reducible repeat (first | apply Kd.V_alloc | apply Kd.V_drewN | apply Kd.V_drew)); exact Kd.V_mono HO450.out (fun _ hk => ⟨hk.1.1, ⟨hk.2, hk.1.2⟩⟩)⟩, ⟨by (with_reducible repeat (first | apply Kd.R_alloc | apply Kd.R_drewN | apply Kd.R_drew)); exact HO445.out⟩, ⟨by (with_reducible repeat (first | refine blk_drewN ?_ _ | refine blk_drew ?_ | refine blk_alloc ?_ _)); exact BK439.out⟩, ⟨by repeat (first | (with_reducible first | exact HB.out | apply below_alloc | apply pw_below_drewN | apply below_drew1 | refine below_set ?_ GE439.out) | exact HB.out)⟩⟩ }
 {
 rw [if_neg c12] at H
 exact absurd H (by simp) } }
 {
 rw [if_neg c11] at H
 exact absurd H (by simp) } }
 {
 rw [if_neg c10] at H
 exact absurd H (by simp) } } }
 {
 rw [if_neg c5] at H
 have c5b0 : (t442 == 0) = false := beq_eq_false_iff_ne.mpr c5
 have c5b1 : (t442 != 0) = true := bne_iff_ne.mpr c5
 simp only [Option.some.injEq, Prod.mk.injEq] at H
 obtain ⟨rfl, rfl, rfl, rfl, rfl, rfl, rfl, rfl, rfl⟩ := H
 obtain ⟨Ao17, co17, eo17⟩ := Kd.R_slice HO_3.out
 subst eo17
 obtain ⟨Ao18, co18, eo18⟩ := Kd.V_slice HO_0.out
 subst eo18
 go_wp2_with (first | ((with_reducible refine gate_callee (f := 47) rfl ?_); refine goesL_ (some 14) rfl rfl Try.func47 (by kernel_rfl) rfl #[.slice Ao18 x0_1.length co18] rfl (by (try simp only [List.map_toArray, List.map_cons, List.map_nil]); first | done | rfl | (simp only [List.length_drop, List.length_take]; rfl)) ?_; (with_reducible refine (skiarearef03_Get.calls k1 _ _ x0_1 t440 t441 t442 _ ?side1 ?side2 A4.out).mono ?_); (case side1 => repeat (first | exact (Kd.V_reads' HO_0.out).2.2 | (with_reducible refine Kd.C_alloc ?_ _) | (with_reducible refine Kd.C_drewN ?_ _) | (with_reducible refine Kd.C_drew ?_))); (case side2 => exact (Kd.V_reads' HO_0.out).2.1); rintro e w' ⟨rfl, ⟨nd, rfl⟩⟩; refine ⟨_, rfl, ?_⟩; (try (rw [drewN_self wr]; generalize hq_ : World.drewN wr _ = wr; have n0_ : Aside0 (Kd.V (Kd.int .u8) 5 wr w.heap.size (fun k_ => (P0_ k_ ∨ w.heap.size ≤ k_) ∧ some k_ ≠ (.slice Ao17 x3_1.length co17 : Value).ownBlock ∧ k_ ≠ gb439) (.slice Ao18 x0_1.length co18) x0_1) := ⟨by rw [← hq_]; exact (by (with_reducible repeat (first | apply Kd.V_alloc | apply Kd.V_drewN | apply Kd.V_drew)); exact HO_0.out)⟩; have n1_ : Aside0 (Kd.R (Kd.int .i64) 3 wr w.heap.size (fun k_ => (w.heap.size ≤ k_)) (.slice Ao17 x3_1.length co17) x3_1) := ⟨by rw [← hq_]; exact (by (with_reducible repeat (first | apply Kd.R_alloc | apply Kd.R_drewN | apply Kd.R_drew)); exact HO_3.out)⟩; have n2_ : Aside0 (wr.heap[gb439]? = some (.cells #[.int .i64 x440000_1, .int .i64 x440001_1, .int .i64 x440002_1, .int .i64 x440003_1, .int .i64 x440004_1, .int .i64 x440005_1, .int .i64 x440006_1, .int .i64 x440007_1, .int .u64 x440008_1] 24 (0, 0))) := ⟨by rw [← hq_]; exact (by (with_reducible repeat (first | refine blk_drewN ?_ _ | refine blk_drew ?_ | refine blk_alloc ?_ _)); exact BK439.out)⟩; have n3_ : Aside0 (Below w.heap.size w wr) := ⟨by rw [← hq_]; exact (by repeat (first | (with_reducible first | exact HB.out | apply below_alloc | apply pw_below_drewN | apply below_drew1 | refine below_set ?_ GE439.out) | exact HB.out))⟩; clear HO_0 HO_3 BK439 HB hq_; have HO_0 := n0_; have HO_3 := n1_; have BK439 := n2_; have HB := n3_; clear n0_ n1_ n2_ n3_)); have hcz19_0 : wr.cell? ⟨gb439, 0, none⟩ = some (.int .i64 x440000_1) := (blk_cell BK439.out 0).trans rfl; have hcz19_1 : wr.cell? ⟨gb439, 1, none⟩ = some (.int .i64 x440001_1) := (blk_cell BK439.out 1).trans rfl; have hcz19_2 : wr.cell? ⟨gb439, 2, none⟩ = some (.int .i64 x440002_1) := (blk_cell BK439.out 2).trans rfl; have hcz19_3 : wr.cell? ⟨gb439, 3, none⟩ = some (.int .i64 x440003_1) := (blk_cell BK439.out 3).trans rfl; have hcz19_4 : wr.cell? ⟨gb439, 4, none⟩ = some (.int .i64 x440004_1) := (blk_cell BK439.out 4).trans rfl; have hcz19_5 : wr.cell? ⟨gb439, 5, none⟩ = some (.int .i64 x440005_1) := (blk_cell BK439.out 5).trans rfl; have hcz19_6 : wr.cell? ⟨gb439, 6, none⟩ = some (.int .i64 x440006_1) := (blk_cell BK439.out 6).trans rfl; have hcz19_7 : wr.cell? ⟨gb439, 7, none⟩ = some (.int .i64 x440007_1) := (blk_cell BK439.out 7).trans rfl; have hcz19_8 : wr.cell? ⟨gb439, 8, none⟩ = some (.int .u64 x440008_1) := (blk_cell BK439.out 8).trans rfl; have hfz19_0 := blk_frozen BK439.out 0; have hfz19_1 := blk_frozen BK439.out 1; have hfz19_2 := blk_frozen BK439.out 2; have hfz19_3 := blk_frozen BK439.out 3; have hfz19_4 := blk_frozen BK439.out 4; have hfz19_5 := blk_frozen BK439.out 5; have hfz19_6 := blk_frozen BK439.out 6; have hfz19_7 := blk_frozen BK439.out 7; have hfz19_8 := blk_frozen BK439.out 8))
 refine bodyPost_ret (results_cell_row rfl _ _ gb439 24 #[.int .i64 0, .int .i64 0, .int .i64 0, .int .i64 0, .int .i64 0, .int .i64 0, .int .i64 0, .int .i64 0, .int .u64 0] (0, 0) _ rfl (by (with_reducible repeat (first | refine blk_drewN ?_ _ | refine blk_drew ?_ | refine blk_alloc ?_ _)); refine blk_put (cs := #[.int .i64 0, .int .i64 0, .int .i64 0, .int .i64 0, .int .i64 0, .int .i64 0, .int .i64 0, .int .i64 0, .int .u64 x440008_1]) ?_ 8 _ rfl; refine blk_put (cs := #[.int .i64 0, .int .i64 0, .int .i64 0, .int .i64 0, .int .i64 0, .int .i64 0, .int .i64 0, .int .i64 x440007_1, .int .u64 x440008_1]) ?_ 7 _ rfl; refine blk_put (cs := #[.int .i64 0, .int .i64 0, .int .i64 0, .int .i64 0, .int .i64 0, .int .i64 0, .int .i64 x440006_1, .int .i64 x440007_1, .int .u64 x440008_1]) ?_ 6 _ rfl; refine blk_put (cs := #[.int .i64 0, .int .i64 0, .int .i64 0, .int .i64 0, .int .i64 0, .int .i64 x440005_1, .int .i64 x440006_1, .int .i64 x440007_1, .int .u64 x440008_1]) ?_ 5 _ rfl; refine blk_put (cs := #[.int .i64 0, .int .i64 0, .int .i64 0, .int .i64 0, .int .i64 x440004_1, .int .i64 x440005_1, .int .i64 x440006_1, .int .i64 x440007_1, .int .u64 x440008_1]) ?_ 4 _ rfl; refine blk_put (cs := #[.int .i64 0, .int .i64 0, .int .i64 0, .int .i64 x440003_1, .int .i64 x440004_1, .int .i64 x440005_1, .int .i64 x440006_1, .int .i64 x440007_1, .int .u64 x440008_1]) ?_ 3 _ rfl; refine blk_put (cs := #[.int .i64 0, .int .i64 0, .int .i64 x440002_1, .int .i64 x440003_1, .int .i64 x440004_1, .int .i64 x440005_1, .int .i64 x440006_1, .int .i64 x440007_1, .int .u64 x440008_1]) ?_ 2 _ rfl; refine blk_put (cs := #[.int .i64 0, .int .i64 x440001_1, .int .i64 x440002_1, .int .i64 x440003_1, .int .i64 x440004_1, .int .i64 x440005_1, .int .i64 x440006_1, .int .i64 x440007_1, .int .u64 x440008_1]) ?_ 1 _ rfl; refine blk_put (cs := #[.int .i64 x440000_1, .int .i64 x440001_1, .int .i64 x440002_1, .int .i64 x440003_1, .int .i64 x440004_1, .int .i64 x440005_1, .int .i64 x440006_1, .int .i64 x440007_1, .int .u64 x440008_1]) ?_ 0 _ rfl; (with_reducible repeat (first | refine blk_drewN ?_ _ | refine blk_drew ?_ | refine blk_alloc ?_ _)); exact BK439.out) Try.underlying24 rfl (by kernel_rfl)) rfl ?_
 exact ⟨by first | rfl | (simp [errW_none, errW_some] <;> rfl) | (simp [*, errW_none, errW_some] <;> rfl), by repeat (first | (with_reducible first | exact HB.out | apply below_alloc | apply pw_below_drewN | apply below_drew1 | refine below_set ?_ GE439.out) | exact HB.out)⟩ } }
 {
 rw [if_neg c3] at H
 have c3b0 : decide ((x3_1.length : Int) < 8) = false := decide_eq_false c3
 have c3b1 : decide (x3_1.length < 8) = false := decide_eq_false (by omega)
 clear c3
 by_cases c20 : 0 < (x3_1.length : Int)
 {
 rw [if_pos c20] at H
 have c20b0 : decide (0 < (x3_1.length : Int)) = true := decide_eq_true c20
 have c20b1 : decide (0 < x3_1.length) = true := decide_eq_true (by omega)
 clear c20
 by_cases c21 : 1 < (x3_1.length : Int)
 {
 rw [if_pos c21] at H
 have c21b0 : decide (1 < (x3_1.length : Int)) = true := decide_eq_true c21
 have c21b1 : decide (1 < x3_1.length) = true := decide_eq_true (by omega)
 clear c21
 by_cases c22 : 2 < (x3_1.length : Int)
 {
 rw [if_pos c22] at H
 have c22b0 : decide (2 < (x3_1.length : Int)) = true := decide_eq_true c22
 have c22b1 : decide (2 < x3_1.length) = true := decide_eq_true (by omega)
 clear c22
 by_cases c23 : 3 < (x3_1.length : Int)
 {
 rw [if_pos c23] at H
 have c23b0 : decide (3 < (x3_1.length : Int)) = true := decide_eq_true c23
 have c23b1 : decide (3 < x3_1.length) = true := decide_eq_true (by omega)
 clear c23
 by_cases c24 : 4 < (x3_1.length : Int)
 {
 rw [if_pos c24] at H
 have c24b0 : decide (4 < (x3_1.length : Int)) = true := decide_eq_true c24
 have c24b1 : decide (4 < x3_1.length) = true := decide_eq_true (by omega)
 clear c24
 by_cases c25 : 5 < (x3_1.length : Int)
 {
 rw [if_pos c25] at H
 have c25b0 : decide (5 < (x3_1.length : Int)) = true := decide_eq_true c25
 have c25b1 : decide (5 < x3_1.length) = true := decide_eq_true (by omega)
 clear c25
 by_cases c26 : 6 < (x3_1.length : Int)
 {
 rw [if_pos c26] at H
 have c26b0 : decide (6 < (x3_1.length : Int)) = true := decide_eq_true c26
 have c26b1 : decide (6 < x3_1.length) = true := decide_eq_true (by omega)
 clear c26
 by_cases c27 : 7 < (x3_1.length : Int)
 {
 rw [if_pos c27] at H
 have c27b0 : decide (7 < (x3_1.length : Int)) = true := decide_eq_true c27
 have c27b1 : decide (7 < x3_1.length) = true := decide_eq_true (by omega)
 clear c27
 have H' := Aside0.mk H
 clear H
 obtain ⟨Ao28, co28, eo28⟩ := Kd.R_slice HO_3.out
 subst eo28
 try go_wp2
 have n0_ := Aside0.mk (Kd.V_drew HO_0.out)
 have n1_ := Aside0.mk (Kd.R_drew HO_3.out)
 have n2_ := Aside0.mk (blk_drew BK439.out)
 have n3_ := Aside0.mk (below_drew1 HB.out)
 clear HO_0
 clear HO_3
 clear BK439
 clear HB
 have HO_0 := n0_
 have HO_3 := n1_
 have BK439 := n2_
 have HB := n3_
 clear n0_ n1_ n2_ n3_
 have p451 : 0 ≤ (0 : Int) := (by omega)
 have q451 : 0 < (x3_1.length : Int) := of_decide_eq_true (by first | (with_reducible assumption) | assumption)
 obtain ⟨ad451, e451, hx451_0⟩ := Kd.at_int (Kd.R_reads' HO_3.out).2.2 0 p451 q451
 cases e451
 have qi451 : (0 < x3_1.length) = True := eq_true (by omega)
 (try rw [show ((0 : Int)).toNat = 0 from rfl] at hx451_0)
 (try rw [Addr.add_zero'] at hx451_0)
 replace p451 := eq_true p451
 replace q451 := eq_true q451
 have p452 : 0 ≤ (1 : Int) := (by omega)
 have q452 : 1 < (x3_1.length : Int) := of_decide_eq_true (by first | (with_reducible assumption) | assumption)
 obtain ⟨ad452, e452, hx452_0⟩ := Kd.at_int (Kd.R_reads' HO_3.out).2.2 1 p452 q452
 obtain rfl : ad451 = ad452 := (by injection e452)
 (try simp only [show (1 : Int).toNat = 1 from rfl, Nat.reduceMul, Nat.reduceEqDiff, Go.Addr.add, ↓reduceIte] at hx452_0)
 have qi452 : (1 < x3_1.length) = True := eq_true (by omega)
 (try rw [show ((1 : Int)).toNat = 1 from rfl] at hx452_0)
 replace p452 := eq_true p452
 replace q452 := eq_true q452
 have p453 : 0 ≤ (2 : Int) := (by omega)
 have q453 : 2 < (x3_1.length : Int) := of_decide_eq_true (by first | (with_reducible assumption) | assumption)
 obtain ⟨ad453, e453, hx453_0⟩ := Kd.at_int (Kd.R_reads' HO_3.out).2.2 2 p453 q453
 obtain rfl : ad451 = ad453 := (by injection e453)
 (try simp only [show (2 : Int).toNat = 2 from rfl, Nat.reduceMul, Nat.reduceEqDiff, Go.Addr.add, ↓reduceIte] at hx453_0)
 have qi453 : (2 < x3_1.length) = True := eq_true (by omega)
 (try rw [show ((2 : Int)).toNat = 2 from rfl] at hx453_0)
 replace p453 := eq_true p453
 replace q453 := eq_true q453
 have p454 : 0 ≤ (3 : Int) := (by omega)
 have q454 : 3 < (x3_1.length : Int) := of_decide_eq_true (by first | (with_reducible assumption) | assumption)
 obtain ⟨ad454, e454, hx454_0⟩ := Kd.at_int (Kd.R_reads' HO_3.out).2.2 3 p454 q454
 obtain rfl : ad451 = ad454 := (by injection e454)
 (try simp only [show (3 : Int).toNat = 3 from rfl, Nat.reduceMul, Nat.reduceEqDiff, Go.Addr.add, ↓reduceIte] at hx454_0)
 have qi454 : (3 < x3_1.length) = True := eq_true (by omega)
 (try rw [show ((3 : Int)).toNat = 3 from rfl] at hx454_0)
 replace p454 := eq_true p454
 replace q454 := eq_true q454
 have p455 : 0 ≤ (4 : Int) := (by omega)
 have q455 : 4 < (x3_1.length : Int) := of_decide_eq_true (by first | (with_reducible assumption) | assumption)
 obtain ⟨ad455, e455, hx455_0⟩ := Kd.at_int (Kd.R_reads' HO_3.out).2.2 4 p455 q455
 obtain rfl : ad451 = ad455 := (by injection e455)
 (try simp only [show (4 : Int).toNat = 4 from rfl, Nat.reduceMul, Nat.reduceEqDiff, Go.Addr.add, ↓reduceIte] at hx455_0)
 have qi455 : (4 < x3_1.length) = True := eq_true (by omega)
 (try rw [show ((4 : Int)).toNat = 4 from rfl] at hx455_0)
 replace p455 := eq_true p455
 replace q455 := eq_true q455
 have p456 : 0 ≤ (5 : Int) := (by omega)
 have q456 : 5 < (x3_1.length : Int) := of_decide_eq_true (by first | (with_reducible assumption) | assumption)
 obtain ⟨ad456, e456, hx456_0⟩ := Kd.at_int (Kd.R_reads' HO_3.out).2.2 5 p456 q456
 obtain rfl : ad451 = ad456 := (by injection e456)
 (try simp only [show (5 : Int).toNat = 5 from rfl, Nat.reduceMul, Nat.reduceEqDiff, Go.Addr.add, ↓reduceIte] at hx456_0)
 have qi456 : (5 < x3_1.length) = True := eq_true (by omega)
 (try rw [show ((5 : Int)).toNat = 5 from rfl] at hx456_0)
 replace p456 := eq_true p456
 replace q456 := eq_true q456
 have p457 : 0 ≤ (6 : Int) := (by omega)
 have q457 : 6 < (x3_1.length : Int) := of_decide_eq_true (by first | (with_reducible assumption) | assumption)
 obtain ⟨ad457, e457, hx457_0⟩ := Kd.at_int (Kd.R_reads' HO_3.out).2.2 6 p457 q457
 obtain rfl : ad451 = ad457 := (by injection e457)
 (try simp only [show (6 : Int).toNat = 6 from rfl, Nat.reduceMul, Nat.reduceEqDiff, Go.Addr.add, ↓reduceIte] at hx457_0)
 have qi457 : (6 < x3_1.length) = True := eq_true (by omega)
 (try rw [show ((6 : Int)).toNat = 6 from rfl] at hx457_0)
 replace p457 := eq_true p457
 replace q457 := eq_true q457
 have p458 : 0 ≤ (7 : Int) := (by omega)
 have q458 : 7 < (x3_1.length : Int) := of_decide_eq_true (by first | (with_reducible assumption) | assumption)
 obtain ⟨ad458, e458, hx458_0⟩ := Kd.at_int (Kd.R_reads' HO_3.out).2.2 7 p458 q458
 obtain rfl : ad451 = ad458 := (by injection e458)
 (try simp only [show (7 : Int).toNat = 7 from rfl, Nat.reduceMul, Nat.reduceEqDiff, Go.Addr.add, ↓reduceIte] at hx458_0)
 have qi458 : (7 < x3_1.length) = True := eq_true (by omega)
 (try rw [show ((7 : Int)).toNat = 7 from rfl] at hx458_0)
 replace p458 := eq_true p458
 replace q458 := eq_true q458
 refine start_ (n := 30) (S := fun w' => w'.cell? ad451 = some (.int .i64 (rd x3_1 0)) ∧ w'.cell? ⟨ad451.block, ad451.off + 1, none⟩ = some (.int .i64 (rd x3_1 1)) ∧ w'.cell? ⟨ad451.block, ad451.off + 2, none⟩ = some (.int .i64 (rd x3_1 2)) ∧ w'.cell? ⟨ad451.block, ad451.off + 3, none⟩ = some (.int .i64 (rd x3_1 3)) ∧ w'.cell? ⟨ad451.block, ad451.off + 4, none⟩ = some (.int .i64 (rd x3_1 4)) ∧ w'.cell? ⟨ad451.block, ad451.off + 5, none⟩ = some (.int .i64 (rd x3_1 5)) ∧ w'.cell? ⟨ad451.block, ad451.off + 6, none⟩ = some (.int .i64 (rd x3_1 6)) ∧ w'.cell? ⟨ad451.block, ad451.off + 7, none⟩ = some (.int .i64 (rd x3_1 7))) (ds := []) #[false, false, false, false, false, false, false, false, false, false, false, false, false, false, false, false, false, false, false, false, false, false, false, false, false, false, false, false, false, false] (by kernel_rfl) rfl rfl ⟨hx451_0, hx452_0, hx453_0, hx454_0, hx455_0, hx456_0, hx457_0, hx458_0⟩ (fun hHeld => ?_); refine with_tabW skiarearef25_read.tab8 skiarearef25_read.bits8 (fun HT_ HW_ => ?_)
 generalize wr.drew = w29 at HO_0 HO_3 BK439 HB hx451_0 hx452_0 hx453_0 hx454_0 hx455_0 hx456_0 hx457_0 hx458_0 hHeld ⊢
 refine pure_ (i := 0) (N := some 32) (v := ?_) (a' := ?_) #[true, false, false, false, false, false, false, false, false, false, false, false, false, false, false, false, false, false, false, false, false, false, false, false, false, false, false, false, false, false] rfl rfl (any_of HT_.out (by kernel_rfl)) (fun _ _ _ h => h) (Or.inl ⟨by rfl, ?_⟩) ?_ ?_
 rotate_left
 {
 intro w'
 go_simp
 with_reducible rfl }
 rotate_left
 {
 simp only [Act.put, List.setIfInBounds_toArray, List.set_cons_zero, List.set_cons_succ, i64_w, i32_w, IntKind.wrap_u8, IntKind.wrap_u32]
 rfl }
 refine pure_ (i := 1) (N := some 33) (v := ?_) (a' := ?_) #[true, true, false, false, false, false, false, false, false, false, false, false, false, false, false, false, false, false, false, false, false, false, false, false, false, false, false, false, false, false] rfl rfl (any_of HT_.out (by kernel_rfl)) (fun _ _ _ h => h) (Or.inl ⟨by rfl, ?_⟩) ?_ ?_
 rotate_left
 {
 intro w'
 go_simp
 with_reducible rfl }
 rotate_left
 {
 simp only [Act.put, List.setIfInBounds_toArray, List.set_cons_zero, List.set_cons_succ, i64_w, i32_w, IntKind.wrap_u8, IntKind.wrap_u32]
 rfl }
 refine pure_ (i := 3) (N := some 35) (v := ?_) (a' := ?_) #[true, true, false, true, false, false, false, false, false, false, false, false, false, false, false, false, false, false, false, false, false, false, false, false, false, false, false, false, false, false] rfl rfl (any_of HT_.out (by kernel_rfl)) (fun _ _ _ h => h) (Or.inl ⟨by rfl, ?_⟩) ?_ ?_
 rotate_left
 {
 intro w'
 go_simp
 with_reducible rfl }
 rotate_left
 {
 simp only [Act.put, List.setIfInBounds_toArray, List.set_cons_zero, List.set_cons_succ, i64_w, i32_w, IntKind.wrap_u8, IntKind.wrap_u32]
 rfl }
 refine pure_ (i := 4) (N := some 36) (v := ?_) (a' := ?_) #[true, true, false, true, true, false, false, false, false, false, false, false, false, false, false, false, false, false, false, false, false, false, false, false, false, false, false, false, false, false] rfl rfl (any_of HT_.out (by kernel_rfl)) (fun _ _ _ h => h) (Or.inl ⟨by rfl, ?_⟩) ?_ ?_
 rotate_left
 {
 intro w'
 go_simp
 with_reducible rfl }
 rotate_left
 {
 simp only [Act.put, List.setIfInBounds_toArray, List.set_cons_zero, List.set_cons_succ, i64_w, i32_w, IntKind.wrap_u8, IntKind.wrap_u32]
 rfl }
 refine pure_ (i := 6) (N := some 38) (v := ?_) (a' := ?_) #[true, true, false, true, true, false, true, false, false, false, false, false, false, false, false, false, false, false, false, false, false, false, false, false, false, false, false, false, false, false] rfl rfl (any_of HT_.out (by kernel_rfl)) (fun _ _ _ h => h) (Or.inl ⟨by rfl, ?_⟩) ?_ ?_
 rotate_left
 {
 intro w'
 go_simp
 with_reducible rfl }
 rotate_left
 {
 simp only [Act.put, List.setIfInBounds_toArray, List.set_cons_zero, List.set_cons_succ, i64_w, i32_w, IntKind.wrap_u8, IntKind.wrap_u32]
 rfl }
 refine pure_ (i := 7) (N := some 39) (v := ?_) (a' := ?_) #[true, true, false, true, true, false, true, true, false, false, false, false, false, false, false, false, false, false, false, false, false, false, false, false, false, false, false, false, false, false] rfl rfl (any_of HT_.out (by kernel_rfl)) (fun _ _ _ h => h) (Or.inl ⟨by rfl, ?_⟩) ?_ ?_
 rotate_left
 {
 intro w'
 go_simp
 with_reducible rfl }
 rotate_left
 {
 simp only [Act.put, List.setIfInBounds_toArray, List.set_cons_zero, List.set_cons_succ, i64_w, i32_w, IntKind.wrap_u8, IntKind.wrap_u32]
 rfl }
 refine pure_ (i := 9) (N := some 41) (v := ?_) (a' := ?_) #[true, true, false, true, true, false, true, true, false, true, false, false, false, false, false, false, false, false, false, false, false, false, false, false, false, false, false, false, false, false] rfl rfl (any_of HT_.out (by kernel_rfl)) (fun _ _ _ h => h) (Or.inl ⟨by rfl, ?_⟩) ?_ ?_
 rotate_left
 {
 intro w'
 go_simp
 with_reducible rfl }
 rotate_left
 {
 simp only [Act.put, List.setIfInBounds_toArray, List.set_cons_zero, List.set_cons_succ, i64_w, i32_w, IntKind.wrap_u8, IntKind.wrap_u32]
 rfl }
 refine pure_ (i := 10) (N := some 42) (v := ?_) (a' := ?_) #[true, true, false, true, true, false, true, true, false, true, true, false, false, false, false, false, false, false, false, false, false, false, false, false, false, false, false, false, false, false] rfl rfl (any_of HT_.out (by kernel_rfl)) (fun _ _ _ h => h) (Or.inl ⟨by rfl, ?_⟩) ?_ ?_
 rotate_left
 {
 intro w'
 go_simp
 with_reducible rfl }
 rotate_left
 {
 simp only [Act.put, List.setIfInBounds_toArray, List.set_cons_zero, List.set_cons_succ, i64_w, i32_w, IntKind.wrap_u8, IntKind.wrap_u32]
 rfl }
 refine pure_ (i := 13) (N := some 45) (v := ?_) (a' := ?_) #[true, true, false, true, true, false, true, true, false, true, true, false, false, true, false, false, false, false, false, false, false, false, false, false, false, false, false, false, false, false] rfl rfl (any_of HT_.out (by kernel_rfl)) (fun _ _ _ h => h) (Or.inl ⟨by rfl, ?_⟩) ?_ ?_
 rotate_left
 {
 intro w'
 go_simp
 with_reducible rfl }
 rotate_left
 {
 simp only [Act.put, List.setIfInBounds_toArray, List.set_cons_zero, List.set_cons_succ, i64_w, i32_w, IntKind.wrap_u8, IntKind.wrap_u32]
 rfl }
 refine pure_ (i := 14) (N := some 46) (v := ?_) (a' := ?_) #[true, true, false, true, true, false, true, true, false, true, true, false, false, true, true, false, false, false, false, false, false, false, false, false, false, false, false, false, false, false] rfl rfl (any_of HT_.out (by kernel_rfl)) (fun _ _ _ h => h) (Or.inl ⟨by rfl, ?_⟩) ?_ ?_
 rotate_left
 {
 intro w'
 go_simp
 with_reducible rfl }
 rotate_left
 {
 simp only [Act.put, List.setIfInBounds_toArray, List.set_cons_zero, List.set_cons_succ, i64_w, i32_w, IntKind.wrap_u8, IntKind.wrap_u32]
 rfl }
 refine pure_ (i := 16) (N := some 48) (v := ?_) (a' := ?_) #[true, true, false, true, true, false, true, true, false, true, true, false, false, true, true, false, true, false, false, false, false, false, false, false, false, false, false, false, false, false] rfl rfl (any_of HT_.out (by kernel_rfl)) (fun _ _ _ h => h) (Or.inl ⟨by rfl, ?_⟩) ?_ ?_
 rotate_left
 {
 intro w'
 go_simp
 with_reducible rfl }
 rotate_left
 {
 simp only [Act.put, List.setIfInBounds_toArray, List.set_cons_zero, List.set_cons_succ, i64_w, i32_w, IntKind.wrap_u8, IntKind.wrap_u32]
 rfl }
 refine pure_ (i := 17) (N := some 49) (v := ?_) (a' := ?_) #[true, true, false, true, true, false, true, true, false, true, true, false, false, true, true, false, true, true, false, false, false, false, false, false, false, false, false, false, false, false] rfl rfl (any_of HT_.out (by kernel_rfl)) (fun _ _ _ h => h) (Or.inl ⟨by rfl, ?_⟩) ?_ ?_
 rotate_left
 {
 intro w'
 go_simp
 with_reducible rfl }
 rotate_left
 {
 simp only [Act.put, List.setIfInBounds_toArray, List.set_cons_zero, List.set_cons_succ, i64_w, i32_w, IntKind.wrap_u8, IntKind.wrap_u32]
 rfl }
 refine pure_ (i := 20) (N := some 52) (v := ?_) (a' := ?_) #[true, true, false, true, true, false, true, true, false, true, true, false, false, true, true, false, true, true, false, false, true, false, false, false, false, false, false, false, false, false] rfl rfl (any_of HT_.out (by kernel_rfl)) (fun _ _ _ h => h) (Or.inl ⟨by rfl, ?_⟩) ?_ ?_
 rotate_left
 {
 intro w'
 go_simp
 with_reducible rfl }
 rotate_left
 {
 simp only [Act.put, List.setIfInBounds_toArray, List.set_cons_zero, List.set_cons_succ, i64_w, i32_w, IntKind.wrap_u8, IntKind.wrap_u32]
 rfl }
 refine pure_ (i := 21) (N := some 53) (v := ?_) (a' := ?_) #[true, true, false, true, true, false, true, true, false, true, true, false, false, true, true, false, true, true, false, false, true, true, false, false, false, false, false, false, false, false] rfl rfl (any_of HT_.out (by kernel_rfl)) (fun _ _ _ h => h) (Or.inl ⟨by rfl, ?_⟩) ?_ ?_
 rotate_left
 {
 intro w'
 go_simp
 with_reducible rfl }
 rotate_left
 {
 simp only [Act.put, List.setIfInBounds_toArray, List.set_cons_zero, List.set_cons_succ, i64_w, i32_w, IntKind.wrap_u8, IntKind.wrap_u32]
 rfl }
 refine pure_ (i := 23) (N := some 55) (v := ?_) (a' := ?_) #[true, true, false, true, true, false, true, true, false, true, true, false, false, true, true, false, true, true, false, false, true, true, false, true, false, false, false, false, false, false] rfl rfl (any_of HT_.out (by kernel_rfl)) (fun _ _ _ h => h) (Or.inl ⟨by rfl, ?_⟩) ?_ ?_
 rotate_left
 {
 intro w'
 go_simp
 with_reducible rfl }
 rotate_left
 {
 simp only [Act.put, List.setIfInBounds_toArray, List.set_cons_zero, List.set_cons_succ, i64_w, i32_w, IntKind.wrap_u8, IntKind.wrap_u32]
 rfl }
 refine pure_ (i := 24) (N := some 56) (v := ?_) (a' := ?_) #[true, true, false, true, true, false, true, true, false, true, true, false, false, true, true, false, true, true, false, false, true, true, false, true, true, false, false, false, false, false] rfl rfl (any_of HT_.out (by kernel_rfl)) (fun _ _ _ h => h) (Or.inl ⟨by rfl, ?_⟩) ?_ ?_
 rotate_left
 {
 intro w'
 go_simp
 with_reducible rfl }
 rotate_left
 {
 simp only [Act.put, List.setIfInBounds_toArray, List.set_cons_zero, List.set_cons_succ, i64_w, i32_w, IntKind.wrap_u8, IntKind.wrap_u32]
 rfl }
 refine take_ (i := 2) (N := some 34) (v := ?_) (a' := ?_) #[true, true, true, true, true, false, true, true, false, true, true, false, false, true, true, false, true, true, false, false, true, true, false, true, true, false, false, false, false, false] rfl rfl (take_ofW HT_.out HW_.out (by kernel_rfl)) (fun _ _ _ h => h) (Or.inl ⟨by rfl, ?_⟩) hHeld ?_ ?_
 rotate_left
 {
 rintro w' ⟨s0, s1, s2, s3, s4, s5, s6, s7⟩
 go_simp
 with_reducible rfl }
 rotate_left
 {
 simp only [Act.put, List.setIfInBounds_toArray, List.set_cons_zero, List.set_cons_succ, i64_w, i32_w, IntKind.wrap_u8, IntKind.wrap_u32]
 rfl }
 refine take_ (i := 5) (N := some 37) (v := ?_) (a' := ?_) #[true, true, true, true, true, true, true, true, false, true, true, false, false, true, true, false, true, true, false, false, true, true, false, true, true, false, false, false, false, false] rfl rfl (take_ofW HT_.out HW_.out (by kernel_rfl)) (fun _ _ _ h => h) (Or.inl ⟨by rfl, ?_⟩) hHeld ?_ ?_
 rotate_left
 {
 rintro w' ⟨s0, s1, s2, s3, s4, s5, s6, s7⟩
 go_simp
 with_reducible rfl }
 rotate_left
 {
 simp only [Act.put, List.setIfInBounds_toArray, List.set_cons_zero, List.set_cons_succ, i64_w, i32_w, IntKind.wrap_u8, IntKind.wrap_u32]
 rfl }
 refine take_ (i := 8) (N := some 40) (v := ?_) (a' := ?_) #[true, true, true, true, true, true, true, true, true, true, true, false, false, true, true, false, true, true, false, false, true, true, false, true, true, false, false, false, false, false] rfl rfl (take_ofW HT_.out HW_.out (by kernel_rfl)) (fun _ _ _ h => h) (Or.inl ⟨by rfl, ?_⟩) hHeld ?_ ?_
 rotate_left
 {
 rintro w' ⟨s0, s1, s2, s3, s4, s5, s6, s7⟩
 go_simp
 with_reducible rfl }
 rotate_left
 {
 simp only [Act.put, List.setIfInBounds_toArray, List.set_cons_zero, List.set_cons_succ, i64_w, i32_w, IntKind.wrap_u8, IntKind.wrap_u32]
 rfl }
 refine take_ (i := 11) (N := some 43) (v := ?_) (a' := ?_) #[true, true, true, true, true, true, true, true, true, true, true, true, false, true, true, false, true, true, false, false, true, true, false, true, true, false, false, false, false, false] rfl rfl (take_ofW HT_.out HW_.out (by kernel_rfl)) (fun _ _ _ h => h) (Or.inl ⟨by rfl, ?_⟩) hHeld ?_ ?_
 rotate_left
 {
 rintro w' ⟨s0, s1, s2, s3, s4, s5, s6, s7⟩
 go_simp
 with_reducible rfl }
 rotate_left
 {
 simp only [Act.put, List.setIfInBounds_toArray, List.set_cons_zero, List.set_cons_succ, i64_w, i32_w, IntKind.wrap_u8, IntKind.wrap_u32]
 rfl }
 refine pure_ (i := 12) (N := some 44) (v := ?_) (a' := ?_) #[true, true, true, true, true, true, true, true, true, true, true, true, true, true, true, false, true, true, false, false, true, true, false, true, true, false, false, false, false, false] rfl rfl (any_of HT_.out (by kernel_rfl)) (fun _ _ _ h => h) (Or.inl ⟨by rfl, ?_⟩) ?_ ?_
 rotate_left
 {
 intro w'
 go_simp
 with_reducible rfl }
 rotate_left
 {
 simp only [Act.put, List.setIfInBounds_toArray, List.set_cons_zero, List.set_cons_succ, i64_w, i32_w, IntKind.wrap_u8, IntKind.wrap_u32]
 rfl }
 refine take_ (i := 15) (N := some 47) (v := ?_) (a' := ?_) #[true, true, true, true, true, true, true, true, true, true, true, true, true, true, true, true, true, true, false, false, true, true, false, true, true, false, false, false, false, false] rfl rfl (take_ofW HT_.out HW_.out (by kernel_rfl)) (fun _ _ _ h => h) (Or.inl ⟨by rfl, ?_⟩) hHeld ?_ ?_
 rotate_left
 {
 rintro w' ⟨s0, s1, s2, s3, s4, s5, s6, s7⟩
 go_simp
 with_reducible rfl }
 rotate_left
 {
 simp only [Act.put, List.setIfInBounds_toArray, List.set_cons_zero, List.set_cons_succ, i64_w, i32_w, IntKind.wrap_u8, IntKind.wrap_u32]
 rfl }
 refine take_ (i := 18) (N := some 50) (v := ?_) (a' := ?_) #[true, true, true, true, true, true, true, true, true, true, true, true, true, true, true, true, true, true, true, false, true, true, false, true, true, false, false, false, false, false] rfl rfl (take_ofW HT_.out HW_.out (by kernel_rfl)) (fun _ _ _ h => h) (Or.inl ⟨by rfl, ?_⟩) hHeld ?_ ?_
 rotate_left
 {
 rintro w' ⟨s0, s1, s2, s3, s4, s5, s6, s7⟩
 go_simp
 with_reducible rfl }
 rotate_left
 {
 simp only [Act.put, List.setIfInBounds_toArray, List.set_cons_zero, List.set_cons_succ, i64_w, i32_w, IntKind.wrap_u8, IntKind.wrap_u32]
 rfl }
 refine pure_ (i := 19) (N := some 51) (v := ?_) (a' := ?_) #[true, true, true, true, true, true, true, true, true, true, true, true, true, true, true, true, true, true, true, true, true, true, false, true, true, false, false, false, false, false] rfl rfl (any_of HT_.out (by kernel_rfl)) (fun _ _ _ h => h) (Or.inl ⟨by rfl, ?_⟩) ?_ ?_
 rotate_left
 {
 intro w'
 go_simp
 with_reducible rfl }
 rotate_left
 {
 simp only [Act.put, List.setIfInBounds_toArray, List.set_cons_zero, List.set_cons_succ, i64_w, i32_w, IntKind.wrap_u8, IntKind.wrap_u32]
 rfl }
 refine take_ (i := 22) (N := some 54) (v := ?_) (a' := ?_) #[true, true, true, true, true, true, true, true, true, true, true, true, true, true, true, true, true, true, true, true, true, true, true, true, true, false, false, false, false, false] rfl rfl (take_ofW HT_.out HW_.out (by kernel_rfl)) (fun _ _ _ h => h) (Or.inl ⟨by rfl, ?_⟩) hHeld ?_ ?_
 rotate_left
 {
 rintro w' ⟨s0, s1, s2, s3, s4, s5, s6, s7⟩
 go_simp
 with_reducible rfl }
 rotate_left
 {
 simp only [Act.put, List.setIfInBounds_toArray, List.set_cons_zero, List.set_cons_succ, i64_w, i32_w, IntKind.wrap_u8, IntKind.wrap_u32]
 rfl }
 refine take_ (i := 25) (N := some 57) (v := ?_) (a' := ?_) #[true, true, true, true, true, true, true, true, true, true, true, true, true, true, true, true, true, true, true, true, true, true, true, true, true, true, false, false, false, false] rfl rfl (take_ofW HT_.out HW_.out (by kernel_rfl)) (fun _ _ _ h => h) (Or.inl ⟨by rfl, ?_⟩) hHeld ?_ ?_
 rotate_left
 {
 rintro w' ⟨s0, s1, s2, s3, s4, s5, s6, s7⟩
 go_simp
 with_reducible rfl }
 rotate_left
 {
 simp only [Act.put, List.setIfInBounds_toArray, List.set_cons_zero, List.set_cons_succ, i64_w, i32_w, IntKind.wrap_u8, IntKind.wrap_u32]
 rfl }
 refine pure_ (i := 26) (N := some 58) (v := ?_) (a' := ?_) #[true, true, true, true, true, true, true, true, true, true, true, true, true, true, true, true, true, true, true, true, true, true, true, true, true, true, true, false, false, false] rfl rfl (any_of HT_.out (by kernel_rfl)) (fun _ _ _ h => h) (Or.inl ⟨by rfl, ?_⟩) ?_ ?_
 rotate_left
 {
 intro w'
 go_simp
 with_reducible rfl }
 rotate_left
 {
 simp only [Act.put, List.setIfInBounds_toArray, List.set_cons_zero, List.set_cons_succ, i64_w, i32_w, IntKind.wrap_u8, IntKind.wrap_u32]
 rfl }
 refine pure_ (i := 27) (N := some 59) (v := ?_) (a' := ?_) #[true, true, true, true, true, true, true, true, true, true, true, true, true, true, true, true, true, true, true, true, true, true, true, true, true, true, true, true, false, false] rfl rfl (any_of HT_.out (by kernel_rfl)) (fun _ _ _ h => h) (Or.inl ⟨by rfl, ?_⟩) ?_ ?_
 rotate_left
 {
 intro w'
 go_simp
 with_reducible rfl }
 rotate_left
 {
 simp only [Act.put, List.setIfInBounds_toArray, List.set_cons_zero, List.set_cons_succ, i64_w, i32_w, IntKind.wrap_u8, IntKind.wrap_u32]
 rfl }
 refine one_ (i := 28) (N := some 7) #[true, true, true, true, true, true, true, true, true, true, true, true, true, true, true, true, true, true, true, true, true, true, true, true, true, true, true, true, true, false] rfl rfl (one_of HT_.out (by kernel_rfl)) (by decide) (fun K hK => ?_)
 refine box_step ?hg (N := 7) ?hd (cs := #[.int .i64 0, .int .i64 0, .int .i64 0, .int .i64 0, .int .i64 0, .int .i64 0, .int .i64 0, .int .i64 0, .int .u64 0]) (t := 24) ?hr ?_; (case hd => rfl); (case hg => rfl); (case hr => first | (go_simp; done) | (go_simp; rfl))
 intro gb459 hg w30 hbox hb
 have HS0_ := (hb.cell (World.block_lt_of_cell? _ _ (hHeld.1))).trans (hHeld.1)
 have HS1_ := (hb.cell (World.block_lt_of_cell? _ _ (hHeld.2.1))).trans (hHeld.2.1)
 have HS2_ := (hb.cell (World.block_lt_of_cell? _ _ (hHeld.2.2.1))).trans (hHeld.2.2.1)
 have HS3_ := (hb.cell (World.block_lt_of_cell? _ _ (hHeld.2.2.2.1))).trans (hHeld.2.2.2.1)
 have HS4_ := (hb.cell (World.block_lt_of_cell? _ _ (hHeld.2.2.2.2.1))).trans (hHeld.2.2.2.2.1)
 have HS5_ := (hb.cell (World.block_lt_of_cell? _ _ (hHeld.2.2.2.2.2.1))).trans (hHeld.2.2.2.2.2.1)
 have HS6_ := (hb.cell (World.block_lt_of_cell? _ _ (hHeld.2.2.2.2.2.2.1))).trans (hHeld.2.2.2.2.2.2.1)
 have HS7_ := (hb.cell (World.block_lt_of_cell? _ _ (hHeld.2.2.2.2.2.2.2))).trans (hHeld.2.2.2.2.2.2.2)
 have n0_ := Aside0.mk (Kd.V_below (Kd.V_elderB (by (with_reducible repeat (first | apply Kd.V_alloc | apply Kd.V_drewN | apply Kd.V_drew)); exact HO_0.out) gb459 (Nat.le_of_eq hg.symm)) hb)
 have n1_ := Aside0.mk (Kd.R_below (by (with_reducible repeat (first | apply Kd.R_alloc | apply Kd.R_drewN | apply Kd.R_drew)); exact HO_3.out) hb)
 have n2_ := Aside0.mk (blk_below (g := gb439) (o := .cells #[.int .i64 x440000_1, .int .i64 x440001_1, .int .i64 x440002_1, .int .i64 x440003_1, .int .i64 x440004_1, .int .i64 x440005_1, .int .i64 x440006_1, .int .i64 x440007_1, .int .u64 x440008_1] 24 (0, 0)) (by (with_reducible repeat (first | refine blk_drewN ?_ _ | refine blk_drew ?_ | refine blk_alloc ?_ _)); exact BK439.out) hb)
 have n3_ := Aside0.mk (below_step (by repeat (first | (with_reducible first | exact HB.out | apply below_alloc | apply pw_below_drewN | apply below_drew1 | refine below_set ?_ GE439.out) | exact HB.out)) hb)
 have n4_ := Aside0.mk (hbox)
 have n5_ := Aside0.mk ((by rw [hg]; exact (below_size (by repeat (first | (with_reducible first | exact HB.out | apply below_alloc | apply pw_below_drewN | apply below_drew1 | refine below_set ?_ GE439.out) | exact HB.out))) : w.heap.size ≤ gb459))
 have n6_ := Aside0.mk ((by rw [hg]; exact (below_size (by repeat (first | (with_reducible first | exact HB.out | apply below_alloc | apply pw_below_drewN | apply below_drew1 | refine below_set ?_ GE439.out) | exact HB.out))) : w.heap.size ≤ gb459))
 have n7_ := Aside0.mk ((by rw [hg]; exact Nat.ne_of_lt (blk_lt (g := gb439) (o := .cells #[.int .i64 x440000_1, .int .i64 x440001_1, .int .i64 x440002_1, .int .i64 x440003_1, .int .i64 x440004_1, .int .i64 x440005_1, .int .i64 x440006_1, .int .i64 x440007_1, .int .u64 x440008_1] 24 (0, 0)) (by (with_reducible repeat (first | refine blk_drewN ?_ _ | refine blk_drew ?_ | refine blk_alloc ?_ _)); exact BK439.out)) : gb439 ≠ gb459))
 have n8_ := Aside0.mk ((by rw [hg]; exact Nat.ne_of_gt (blk_lt (g := gb439) (o := .cells #[.int .i64 x440000_1, .int .i64 x440001_1, .int .i64 x440002_1, .int .i64 x440003_1, .int .i64 x440004_1, .int .i64 x440005_1, .int .i64 x440006_1, .int .i64 x440007_1, .int .u64 x440008_1] 24 (0, 0)) (by (with_reducible repeat (first | refine blk_drewN ?_ _ | refine blk_drew ?_ | refine blk_alloc ?_ _)); exact BK439.out)) : gb459 ≠ gb439))
 clear HO_0
 clear HO_3
 clear BK439
 clear HB
 have HO_0 := n0_
 have HO_3 := n1_
 have BK439 := n2_
 have HB := n3_
 have BK459 := n4_
 have GW459 := n5_
 have GE459 := n6_
 have NB439_459 := n7_
 have NB459_439 := n8_
 clear n0_ n1_ n2_ n3_ n4_ n5_ n6_ n7_ n8_
 clear hb hbox hg
 refine hK.out _ _ ⟨HS0_, HS1_, HS2_, HS3_, HS4_, HS5_, HS6_, HS7_⟩ (fun hHeld => ?_)
 clear hK K
 refine norm_ (a' := ?_) ?_ ?_
 rotate_left
 {
 show Act.put _ (some 7) _ = _
 simp only [Act.put, List.setIfInBounds_toArray, List.set_cons_zero, List.set_cons_succ, i64_w, i32_w, IntKind.wrap_u8, IntKind.wrap_u32]
 rfl }
 refine one_ (i := 29) (N := none) #[true, true, true, true, true, true, true, true, true, true, true, true, true, true, true, true, true, true, true, true, true, true, true, true, true, true, true, true, true, true] rfl rfl (one_of HT_.out (by kernel_rfl)) (by decide) (fun K hK => ?_)
 have hs31 : w30.cell? ⟨gb459, 0, none⟩ = some (.int .i64 0) := (blk_cell BK459.out 0).trans rfl
 have hfs31 := blk_frozen BK459.out 0
 have hns31_0 := NB439_459.out
 have hms31_0 := NB459_439.out
 have hs32 : w30.cell? ⟨gb459, 1, none⟩ = some (.int .i64 0) := (blk_cell BK459.out 1).trans rfl
 have hfs32 := blk_frozen BK459.out 1
 have hns32_0 := NB439_459.out
 have hms32_0 := NB459_439.out
 have hs33 : w30.cell? ⟨gb459, 2, none⟩ = some (.int .i64 0) := (blk_cell BK459.out 2).trans rfl
 have hfs33 := blk_frozen BK459.out 2
 have hns33_0 := NB439_459.out
 have hms33_0 := NB459_439.out
 have hs34 : w30.cell? ⟨gb459, 3, none⟩ = some (.int .i64 0) := (blk_cell BK459.out 3).trans rfl
 have hfs34 := blk_frozen BK459.out 3
 have hns34_0 := NB439_459.out
 have hms34_0 := NB459_439.out
 have hs35 : w30.cell? ⟨gb459, 4, none⟩ = some (.int .i64 0) := (blk_cell BK459.out 4).trans rfl
 have hfs35 := blk_frozen BK459.out 4
 have hns35_0 := NB439_459.out
 have hms35_0 := NB459_439.out
 have hs36 : w30.cell? ⟨gb459, 5, none⟩ = some (.int .i64 0) := (blk_cell BK459.out 5).trans rfl
 have hfs36 := blk_frozen BK459.out 5
 have hns36_0 := NB439_459.out
 have hms36_0 := NB459_439.out
 have hs37 : w30.cell? ⟨gb459, 6, none⟩ = some (.int .i64 0) := (blk_cell BK459.out 6).trans rfl
 have hfs37 := blk_frozen BK459.out 6
 have hns37_0 := NB439_459.out
 have hms37_0 := NB459_439.out
 have hs38 : w30.cell? ⟨gb459, 7, none⟩ = some (.int .i64 0) := (blk_cell BK459.out 7).trans rfl
 have hfs38 := blk_frozen BK459.out 7
 have hns38_0 := NB439_459.out
 have hms38_0 := NB459_439.out
 have hs39 : w30.cell? ⟨gb459, 8, none⟩ = some (.int .u64 0) := (blk_cell BK459.out 8).trans rfl
 have hfs39 := blk_frozen BK459.out 8
 have hns39_0 := NB439_459.out
 have hms39_0 := NB459_439.out
 refine skip_ (w1 := ?_) (by rfl) rfl ?_ ?_
 rotate_left
 {
 go_simp
 rfl }
 refine hK.out _ _ ⟨((cell_far (p := ⟨gb459, _, none⟩) (by first | exact Kd.own_blk (Kd.R_ne HO_3.out BK459.out (by decide)) | (rw [add_block]; exact Kd.own_blk (Kd.R_ne HO_3.out BK459.out (by decide))) | (show (Addr.add _ _).block ≠ _; rw [add_block]; exact Kd.own_blk (Kd.R_ne HO_3.out BK459.out (by decide))) | (dsimp only; exact Kd.own_blk (Kd.R_ne HO_3.out BK459.out (by decide)))) _).trans (((cell_far (p := ⟨gb459, _, none⟩) (by first | exact Kd.own_blk (Kd.R_ne HO_3.out BK459.out (by decide)) | (rw [add_block]; exact Kd.own_blk (Kd.R_ne HO_3.out BK459.out (by decide))) | (show (Addr.add _ _).block ≠ _; rw [add_block]; exact Kd.own_blk (Kd.R_ne HO_3.out BK459.out (by decide))) | (dsimp only; exact Kd.own_blk (Kd.R_ne HO_3.out BK459.out (by decide)))) _).trans (((cell_far (p := ⟨gb459, _, none⟩) (by first | exact Kd.own_blk (Kd.R_ne HO_3.out BK459.out (by decide)) | (rw [add_block]; exact Kd.own_blk (Kd.R_ne HO_3.out BK459.out (by decide))) | (show (Addr.add _ _).block ≠ _; rw [add_block]; exact Kd.own_blk (Kd.R_ne HO_3.out BK459.out (by decide))) | (dsimp only; exact Kd.own_blk (Kd.R_ne HO_3.out BK459.out (by decide)))) _).trans (((cell_far (p := ⟨gb459, _, none⟩) (by first | exact Kd.own_blk (Kd.R_ne HO_3.out BK459.out (by decide)) | (rw [add_block]; exact Kd.own_blk (Kd.R_ne HO_3.out BK459.out (by decide))) | (show (Addr.add _ _).block ≠ _; rw [add_block]; exact Kd.own_blk (Kd.R_ne HO_3.out BK459.out (by decide))) | (dsimp only; exact Kd.own_blk (Kd.R_ne HO_3.out BK459.out (by decide)))) _).trans (((cell_far (p := ⟨gb459, _, none⟩) (by first | exact Kd.own_blk (Kd.R_ne HO_3.out BK459.out (by decide)) | (rw [add_block]; exact Kd.own_blk (Kd.R_ne HO_3.out BK459.out (by decide))) | (show (Addr.add _ _).block ≠ _; rw [add_block]; exact Kd.own_blk (Kd.R_ne HO_3.out BK459.out (by decide))) | (dsimp only; exact Kd.own_blk (Kd.R_ne HO_3.out BK459.out (by decide)))) _).trans (((cell_far (p := ⟨gb459, _, none⟩) (by first | exact Kd.own_blk (Kd.R_ne HO_3.out BK459.out (by decide)) | (rw [add_block]; exact Kd.own_blk (Kd.R_ne HO_3.out BK459.out (by decide))) | (show (Addr.add _ _).block ≠ _; rw [add_block]; exact Kd.own_blk (Kd.R_ne HO_3.out BK459.out (by decide))) | (dsimp only; exact Kd.own_blk (Kd.R_ne HO_3.out BK459.out (by decide)))) _).trans (((cell_far (p := ⟨gb459, _, none⟩) (by first | exact Kd.own_blk (Kd.R_ne HO_3.out BK459.out (by decide)) | (rw [add_block]; exact Kd.own_blk (Kd.R_ne HO_3.out BK459.out (by decide))) | (show (Addr.add _ _).block ≠ _; rw [add_block]; exact Kd.own_blk (Kd.R_ne HO_3.out BK459.out (by decide))) | (dsimp only; exact Kd.own_blk (Kd.R_ne HO_3.out BK459.out (by decide)))) _).trans (((cell_far (p := ⟨gb459, _, none⟩) (by first | exact Kd.own_blk (Kd.R_ne HO_3.out BK459.out (by decide)) | (rw [add_block]; exact Kd.own_blk (Kd.R_ne HO_3.out BK459.out (by decide))) | (show (Addr.add _ _).block ≠ _; rw [add_block]; exact Kd.own_blk (Kd.R_ne HO_3.out BK459.out (by decide))) | (dsimp only; exact Kd.own_blk (Kd.R_ne HO_3.out BK459.out (by decide)))) _).trans (((cell_far (p := ⟨gb459, _, none⟩) (by first | exact Kd.own_blk (Kd.R_ne HO_3.out BK459.out (by decide)) | (rw [add_block]; exact Kd.own_blk (Kd.R_ne HO_3.out BK459.out (by decide))) | (show (Addr.add _ _).block ≠ _; rw [add_block]; exact Kd.own_blk (Kd.R_ne HO_3.out BK459.out (by decide))) | (dsimp only; exact Kd.own_blk (Kd.R_ne HO_3.out BK459.out (by decide)))) _).trans (hHeld.1)))))))))))))))))), ((cell_far (p := ⟨gb459, _, none⟩) (by first | exact Kd.own_blk (Kd.R_ne HO_3.out BK459.out (by decide)) | (rw [add_block]; exact Kd.own_blk (Kd.R_ne HO_3.out BK459.out (by decide))) | (show (Addr.add _ _).block ≠ _; rw [add_block]; exact Kd.own_blk (Kd.R_ne HO_3.out BK459.out (by decide))) | (dsimp only; exact Kd.own_blk (Kd.R_ne HO_3.out BK459.out (by decide)))) _).trans (((cell_far (p := ⟨gb459, _, none⟩) (by first | exact Kd.own_blk (Kd.R_ne HO_3.out BK459.out (by decide)) | (rw [add_block]; exact Kd.own_blk (Kd.R_ne HO_3.out BK459.out (by decide))) | (show (Addr.add _ _).block ≠ _; rw [add_block]; exact Kd.own_blk (Kd.R_ne HO_3.out BK459.out (by decide))) | (dsimp only; exact Kd.own_blk (Kd.R_ne HO_3.out BK459.out (by decide)))) _).trans (((cell_far (p := ⟨gb459, _, none⟩) (by first | exact Kd.own_blk (Kd.R_ne HO_3.out BK459.out (by decide)) | (rw [add_block]; exact Kd.own_blk (Kd.R_ne HO_3.out BK459.out (by decide))) | (show (Addr.add _ _).block ≠ _; rw [add_block]; exact Kd.own_blk (Kd.R_ne HO_3.out BK459.out (by decide))) | (dsimp only; exact Kd.own_blk (Kd.R_ne HO_3.out BK459.out (by decide)))) _).trans (((cell_far (p := ⟨gb459, _, none⟩) (by first | exact Kd.own_blk (Kd.R_ne HO_3.out BK459.out (by decide)) | (rw [add_block]; exact Kd.own_blk (Kd.R_ne HO_3.out BK459.out (by decide))) | (show (Addr.add _ _).block ≠ _; rw [add_block]; exact Kd.own_blk (Kd.R_ne HO_3.out BK459.out (by decide))) | (dsimp only; exact Kd.own_blk (Kd.R_ne HO_3.out BK459.out (by decide)))) _).trans (((cell_far (p := ⟨gb459, _, none⟩) (by first | exact Kd.own_blk (Kd.R_ne HO_3.out BK459.out (by decide)) | (rw [add_block]; exact Kd.own_blk (Kd.R_ne HO_3.out BK459.out (by decide))) | (show (Addr.add _ _).block ≠ _; rw [add_block]; exact Kd.own_blk (Kd.R_ne HO_3.out BK459.out (by decide))) | (dsimp only; exact Kd.own_blk (Kd.R_ne HO_3.out BK459.out (by decide)))) _).trans (((cell_far (p := ⟨gb459, _, none⟩) (by first | exact Kd.own_blk (Kd.R_ne HO_3.out BK459.out (by decide)) | (rw [add_block]; exact Kd.own_blk (Kd.R_ne HO_3.out BK459.out (by decide))) | (show (Addr.add _ _).block ≠ _; rw [add_block]; exact Kd.own_blk (Kd.R_ne HO_3.out BK459.out (by decide))) | (dsimp only; exact Kd.own_blk (Kd.R_ne HO_3.out BK459.out (by decide)))) _).trans (((cell_far (p := ⟨gb459, _, none⟩) (by first | exact Kd.own_blk (Kd.R_ne HO_3.out BK459.out (by decide)) | (rw [add_block]; exact Kd.own_blk (Kd.R_ne HO_3.out BK459.out (by decide))) | (show (Addr.add _ _).block ≠ _; rw [add_block]; exact Kd.own_blk (Kd.R_ne HO_3.out BK459.out (by decide))) | (dsimp only; exact Kd.own_blk (Kd.R_ne HO_3.out BK459.out (by decide)))) _).trans (((cell_far (p := ⟨gb459, _, none⟩) (by first | exact Kd.own_blk (Kd.R_ne HO_3.out BK459.out (by decide)) | (rw [add_block]; exact Kd.own_blk (Kd.R_ne HO_3.out BK459.out (by decide))) | (show (Addr.add _ _).block ≠ _; rw [add_block]; exact Kd.own_blk (Kd.R_ne HO_3.out BK459.out (by decide))) | (dsimp only; exact Kd.own_blk (Kd.R_ne HO_3.out BK459.out (by decide)))) _).trans (((cell_far (p := ⟨gb459, _, none⟩) (by first | exact Kd.own_blk (Kd.R_ne HO_3.out BK459.out (by decide)) | (rw [add_block]; exact Kd.own_blk (Kd.R_ne HO_3.out BK459.out (by decide))) | (show (Addr.add _ _).block ≠ _; rw [add_block]; exact Kd.own_blk (Kd.R_ne HO_3.out BK459.out (by decide))) | (dsimp only; exact Kd.own_blk (Kd.R_ne HO_3.out BK459.out (by decide)))) _).trans (hHeld.2.1)))))))))))))))))), ((cell_far (p := ⟨gb459, _, none⟩) (by first | exact Kd.own_blk (Kd.R_ne HO_3.out BK459.out (by decide)) | (rw [add_block]; exact Kd.own_blk (Kd.R_ne HO_3.out BK459.out (by decide))) | (show (Addr.add _ _).block ≠ _; rw [add_block]; exact Kd.own_blk (Kd.R_ne HO_3.out BK459.out (by decide))) | (dsimp only; exact Kd.own_blk (Kd.R_ne HO_3.out BK459.out (by decide)))) _).trans (((cell_far (p := ⟨gb459, _, none⟩) (by first | exact Kd.own_blk (Kd.R_ne HO_3.out BK459.out (by decide)) | (rw [add_block]; exact Kd.own_blk (Kd.R_ne HO_3.out BK459.out (by decide))) | (show (Addr.add _ _).block ≠ _; rw [add_block]; exact Kd.own_blk (Kd.R_ne HO_3.out BK459.out (by decide))) | (dsimp only; exact Kd.own_blk (Kd.R_ne HO_3.out BK459.out (by decide)))) _).trans (((cell_far (p := ⟨gb459, _, none⟩) (by first | exact Kd.own_blk (Kd.R_ne HO_3.out BK459.out (by decide)) | (rw [add_block]; exact Kd.own_blk (Kd.R_ne HO_3.out BK459.out (by decide))) | (show (Addr.add _ _).block ≠ _; rw [add_block]; exact Kd.own_blk (Kd.R_ne HO_3.out BK459.out (by decide))) | (dsimp only; exact Kd.own_blk (Kd.R_ne HO_3.out BK459.out (by decide)))) _).trans (((cell_far (p := ⟨gb459, _, none⟩) (by first | exact Kd.own_blk (Kd.R_ne HO_3.out BK459.out (by decide)) | (rw [add_block]; exact Kd.own_blk (Kd.R_ne HO_3.out BK459.out (by decide))) | (show (Addr.add _ _).block ≠ _; rw [add_block]; exact Kd.own_blk (Kd.R_ne HO_3.out BK459.out (by decide))) | (dsimp only; exact Kd.own_blk (Kd.R_ne HO_3.out BK459.out (by decide)))) _).trans (((cell_far (p := ⟨gb459, _, none⟩) (by first | exact Kd.own_blk (Kd.R_ne HO_3.out BK459.out (by decide)) | (rw [add_block]; exact Kd.own_blk (Kd.R_ne HO_3.out BK459.out (by decide))) | (show (Addr.add _ _).block ≠ _; rw [add_block]; exact Kd.own_blk (Kd.R_ne HO_3.out BK459.out (by decide))) | (dsimp only; exact Kd.own_blk (Kd.R_ne HO_3.out BK459.out (by decide)))) _).trans (((cell_far (p := ⟨gb459, _, none⟩) (by first | exact Kd.own_blk (Kd.R_ne HO_3.out BK459.out (by decide)) | (rw [add_block]; exact Kd.own_blk (Kd.R_ne HO_3.out BK459.out (by decide))) | (show (Addr.add _ _).block ≠ _; rw [add_block]; exact Kd.own_blk (Kd.R_ne HO_3.out BK459.out (by decide))) | (dsimp only; exact Kd.own_blk (Kd.R_ne HO_3.out BK459.out (by decide)))) _).trans (((cell_far (p := ⟨gb459, _, none⟩) (by first | exact Kd.own_blk (Kd.R_ne HO_3.out BK459.out (by decide)) | (rw [add_block]; exact Kd.own_blk (Kd.R_ne HO_3.out BK459.out (by decide))) | (show (Addr.add _ _).block ≠ _; rw [add_block]; exact Kd.own_blk (Kd.R_ne HO_3.out BK459.out (by decide))) | (dsimp only; exact Kd.own_blk (Kd.R_ne HO_3.out BK459.out (by decide)))) _).trans (((cell_far (p := ⟨gb459, _, none⟩) (by first | exact Kd.own_blk (Kd.R_ne HO_3.out BK459.out (by decide)) | (rw [add_block]; exact Kd.own_blk (Kd.R_ne HO_3.out BK459.out (by decide))) | (show (Addr.add _ _).block ≠ _; rw [add_block]; exact Kd.own_blk (Kd.R_ne HO_3.out BK459.out (by decide))) | (dsimp only; exact Kd.own_blk (Kd.R_ne HO_3.out BK459.out (by decide)))) _).trans (((cell_far (p := ⟨gb459, _, none⟩) (by first | exact Kd.own_blk (Kd.R_ne HO_3.out BK459.out (by decide)) | (rw [add_block]; exact Kd.own_blk (Kd.R_ne HO_3.out BK459.out (by decide))) | (show (Addr.add _ _).block ≠ _; rw [add_block]; exact Kd.own_blk (Kd.R_ne HO_3.out BK459.out (by decide))) | (dsimp only; exact Kd.own_blk (Kd.R_ne HO_3.out BK459.out (by decide)))) _).trans (hHeld.2.2.1)))))))))))))))))), ((cell_far (p := ⟨gb459, _, none⟩) (by first | exact Kd.own_blk (Kd.R_ne HO_3.out BK459.out (by decide)) | (rw [add_block]; exact Kd.own_blk (Kd.R_ne HO_3.out BK459.out (by decide))) | (show (Addr.add _ _).block ≠ _; rw [add_block]; exact Kd.own_blk (Kd.R_ne HO_3.out BK459.out (by decide))) | (dsimp only; exact Kd.own_blk (Kd.R_ne HO_3.out BK459.out (by decide)))) _).trans (((cell_far (p := ⟨gb459, _, none⟩) (by first | exact Kd.own_blk (Kd.R_ne HO_3.out BK459.out (by decide)) | (rw [add_block]; exact Kd.own_blk (Kd.R_ne HO_3.out BK459.out (by decide))) | (show (Addr.add _ _).block ≠ _; rw [add_block]; exact Kd.own_blk (Kd.R_ne HO_3.out BK459.out (by decide))) | (dsimp only; exact Kd.own_blk (Kd.R_ne HO_3.out BK459.out (by decide)))) _).trans (((cell_far (p := ⟨gb459, _, none⟩) (by first | exact Kd.own_blk (Kd.R_ne HO_3.out BK459.out (by decide)) | (rw [add_block]; exact Kd.own_blk (Kd.R_ne HO_3.out BK459.out (by decide))) | (show (Addr.add _ _).block ≠ _; rw [add_block]; exact Kd.own_blk (Kd.R_ne HO_3.out BK459.out (by decide))) | (dsimp only; exact Kd.own_blk (Kd.R_ne HO_3.out BK459.out (by decide)))) _).trans (((cell_far (p := ⟨gb459, _, none⟩) (by first | exact Kd.own_blk (Kd.R_ne HO_3.out BK459.out (by decide)) | (rw [add_block]; exact Kd.own_blk (Kd.R_ne HO_3.out BK459.out (by decide))) | (show (Addr.add _ _).block ≠ _; rw [add_block]; exact Kd.own_blk (Kd.R_ne HO_3.out BK459.out (by decide))) | (dsimp only; exact Kd.own_blk (Kd.R_ne HO_3.out BK459.out (by decide)))) _).trans (((cell_far (p := ⟨gb459, _, none⟩) (by first | exact Kd.own_blk (Kd.R_ne HO_3.out BK459.out (by decide)) | (rw [add_block]; exact Kd.own_blk (Kd.R_ne HO_3.out BK459.out (by decide))) | (show (Addr.add _ _).block ≠ _; rw [add_block]; exact Kd.own_blk (Kd.R_ne HO_3.out BK459.out (by decide))) | (dsimp only; exact Kd.own_blk (Kd.R_ne HO_3.out BK459.out (by decide)))) _).trans (((cell_far (p := ⟨gb459, _, none⟩) (by first | exact Kd.own_blk (Kd.R_ne HO_3.out BK459.out (by decide)) | (rw [add_block]; exact Kd.own_blk (Kd.R_ne HO_3.out BK459.out (by decide))) | (show (Addr.add _ _).block ≠ _; rw [add_block]; exact Kd.own_blk (Kd.R_ne HO_3.out BK459.out (by decide))) | (dsimp only; exact Kd.own_blk (Kd.R_ne HO_3.out BK459.out (by decide)))) _).trans (((cell_far (p := ⟨gb459, _, none⟩) (by first | exact Kd.own_blk (Kd.R_ne HO_3.out BK459.out (by decide)) | (rw [add_block]; exact Kd.own_blk (Kd.R_ne HO_3.out BK459.out (by decide))) | (show (Addr.add _ _).block ≠ _; rw [add_block]; exact Kd.own_blk (Kd.R_ne HO_3.out BK459.out (by decide))) | (dsimp only; exact Kd.own_blk (Kd.R_ne HO_3.out BK459.out (by decide)))) _).trans (((cell_far (p := ⟨gb459, _, none⟩) (by first | exact Kd.own_blk (Kd.R_ne HO_3.out BK459.out (by decide)) | (rw [add_block]; exact Kd.own_blk (Kd.R_ne HO_3.out BK459.out (by decide))) | (show (Addr.add _ _).block ≠ _; rw [add_block]; exact Kd.own_blk (Kd.R_ne HO_3.out BK459.out (by decide))) | (dsimp only; exact Kd.own_blk (Kd.R_ne HO_3.out BK459.out (by decide)))) _).trans (((cell_far (p := ⟨gb459, _, none⟩) (by first | exact Kd.own_blk (Kd.R_ne HO_3.out BK459.out (by decide)) | (rw [add_block]; exact Kd.own_blk (Kd.R_ne HO_3.out BK459.out (by decide))) | (show (Addr.add _ _).block ≠ _; rw [add_block]; exact Kd.own_blk (Kd.R_ne HO_3.out BK459.out (by decide))) | (dsimp only; exact Kd.own_blk (Kd.R_ne HO_3.out BK459.out (by decide)))) _).trans (hHeld.2.2.2.1)))))))))))))))))), ((cell_far (p := ⟨gb459, _, none⟩) (by first | exact Kd.own_blk (Kd.R_ne HO_3.out BK459.out (by decide)) | (rw [add_block]; exact Kd.own_blk (Kd.R_ne HO_3.out BK459.out (by decide))) | (show (Addr.add _ _).block ≠ _; rw [add_block]; exact Kd.own_blk (Kd.R_ne HO_3.out BK459.out (by decide))) | (dsimp only; exact Kd.own_blk (Kd.R_ne HO_3.out BK459.out (by decide)))) _).trans (((cell_far (p := ⟨gb459, _, none⟩) (by first | exact Kd.own_blk (Kd.R_ne HO_3.out BK459.out (by decide)) | (rw [add_block]; exact Kd.own_blk (Kd.R_ne HO_3.out BK459.out (by decide))) | (show (Addr.add _ _).block ≠ _; rw [add_block]; exact Kd.own_blk (Kd.R_ne HO_3.out BK459.out (by decide))) | (dsimp only; exact Kd.own_blk (Kd.R_ne HO_3.out BK459.out (by decide)))) _).trans (((cell_far (p := ⟨gb459, _, none⟩) (by first | exact Kd.own_blk (Kd.R_ne HO_3.out BK459.out (by decide)) | (rw [add_block]; exact Kd.own_blk (Kd.R_ne HO_3.out BK459.out (by decide))) | (show (Addr.add _ _).block ≠ _; rw [add_block]; exact Kd.own_blk (Kd.R_ne HO_3.out BK459.out (by decide))) | (dsimp only; exact Kd.own_blk (Kd.R_ne HO_3.out BK459.out (by decide)))) _).trans (((cell_far (p := ⟨gb459, _, none⟩) (by first | exact Kd.own_blk (Kd.R_ne HO_3.out BK459.out (by decide)) | (rw [add_block]; exact Kd.own_blk (Kd.R_ne HO_3.out BK459.out (by decide))) | (show (Addr.add _ _).block ≠ _; rw [add_block]; exact Kd.own_blk (Kd.R_ne HO_3.out BK459.out (by decide))) | (dsimp only; exact Kd.own_blk (Kd.R_ne HO_3.out BK459.out (by decide)))) _).trans (((cell_far (p := ⟨gb459, _, none⟩) (by first | exact Kd.own_blk (Kd.R_ne HO_3.out BK459.out (by decide)) | (rw [add_block]; exact Kd.own_blk (Kd.R_ne HO_3.out BK459.out (by decide))) | (show (Addr.add _ _).block ≠ _; rw [add_block]; exact Kd.own_blk (Kd.R_ne HO_3.out BK459.out (by decide))) | (dsimp only; exact Kd.own_blk (Kd.R_ne HO_3.out BK459.out (by decide)))) _).trans (((cell_far (p := ⟨gb459, _, none⟩) (by first | exact Kd.own_blk (Kd.R_ne HO_3.out BK459.out (by decide)) | (rw [add_block]; exact Kd.own_blk (Kd.R_ne HO_3.out BK459.out (by decide))) | (show (Addr.add _ _).block ≠ _; rw [add_block]; exact Kd.own_blk (Kd.R_ne HO_3.out BK459.out (by decide))) | (dsimp only; exact Kd.own_blk (Kd.R_ne HO_3.out BK459.out (by decide)))) _).trans (((cell_far (p := ⟨gb459, _, none⟩) (by first | exact Kd.own_blk (Kd.R_ne HO_3.out BK459.out (by decide)) | (rw [add_block]; exact Kd.own_blk (Kd.R_ne HO_3.out BK459.out (by decide))) | (show (Addr.add _ _).block ≠ _; rw [add_block]; exact Kd.own_blk (Kd.R_ne HO_3.out BK459.out (by decide))) | (dsimp only; exact Kd.own_blk (Kd.R_ne HO_3.out BK459.out (by decide)))) _).trans (((cell_far (p := ⟨gb459, _, none⟩) (by first | exact Kd.own_blk (Kd.R_ne HO_3.out BK459.out (by decide)) | (rw [add_block]; exact Kd.own_blk (Kd.R_ne HO_3.out BK459.out (by decide))) | (show (Addr.add _ _).block ≠ _; rw [add_block]; exact Kd.own_blk (Kd.R_ne HO_3.out BK459.out (by decide))) | (dsimp only; exact Kd.own_blk (Kd.R_ne HO_3.out BK459.out (by decide)))) _).trans (((cell_far (p := ⟨gb459, _, none⟩) (by first | exact Kd.own_blk (Kd.R_ne HO_3.out BK459.out (by decide)) | (rw [add_block]; exact Kd.own_blk (Kd.R_ne HO_3.out BK459.out (by decide))) | (show (Addr.add _ _).block ≠ _; rw [add_block]; exact Kd.own_blk (Kd.R_ne HO_3.out BK459.out (by decide))) | (dsimp only; exact Kd.own_blk (Kd.R_ne HO_3.out BK459.out (by decide)))) _).trans (hHeld.2.2.2.2.1)))))))))))))))))), ((cell_far (p := ⟨gb459, _, none⟩) (by first | exact Kd.own_blk (Kd.R_ne HO_3.out BK459.out (by decide)) | (rw [add_block]; exact Kd.own_blk (Kd.R_ne HO_3.out BK459.out (by decide))) | (show (Addr.add _ _).block ≠ _; rw [add_block]; exact Kd.own_blk (Kd.R_ne HO_3.out BK459.out (by decide))) | (dsimp only; exact Kd.own_blk (Kd.R_ne HO_3.out BK459.out (by decide)))) _).trans (((cell_far (p := ⟨gb459, _, none⟩) (by first | exact Kd.own_blk (Kd.R_ne HO_3.out BK459.out (by decide)) | (rw [add_block]; exact Kd.own_blk (Kd.R_ne HO_3.out BK459.out (by decide))) | (show (Addr.add _ _).block ≠ _; rw [add_block]; exact Kd.own_blk (Kd.R_ne HO_3.out BK459.out (by decide))) | (dsimp only; exact Kd.own_blk (Kd.R_ne HO_3.out BK459.out (by decide)))) _).trans (((cell_far (p := ⟨gb459, _, none⟩) (by first | exact Kd.own_blk (Kd.R_ne HO_3.out BK459.out (by decide)) | (rw [add_block]; exact Kd.own_blk (Kd.R_ne HO_3.out BK459.out (by decide))) | (show (Addr.add _ _).block ≠ _; rw [add_block]; exact Kd.own_blk (Kd.R_ne HO_3.out BK459.out (by decide))) | (dsimp only; exact Kd.own_blk (Kd.R_ne HO_3.out BK459.out (by decide)))) _).trans (((cell_far (p := ⟨gb459, _, none⟩) (by first | exact Kd.own_blk (Kd.R_ne HO_3.out BK459.out (by decide)) | (rw [add_block]; exact Kd.own_blk (Kd.R_ne HO_3.out BK459.out (by decide))) | (show (Addr.add _ _).block ≠ _; rw [add_block]; exact Kd.own_blk (Kd.R_ne HO_3.out BK459.out (by decide))) | (dsimp only; exact Kd.own_blk (Kd.R_ne HO_3.out BK459.out (by decide)))) _).trans (((cell_far (p := ⟨gb459, _, none⟩) (by first | exact Kd.own_blk (Kd.R_ne HO_3.out BK459.out (by decide)) | (rw [add_block]; exact Kd.own_blk (Kd.R_ne HO_3.out BK459.out (by decide))) | (show (Addr.add _ _).block ≠ _; rw [add_block]; exact Kd.own_blk (Kd.R_ne HO_3.out BK459.out (by decide))) | (dsimp only; exact Kd.own_blk (Kd.R_ne HO_3.out BK459.out (by decide)))) _).trans (((cell_far (p := ⟨gb459, _, none⟩) (by first | exact Kd.own_blk (Kd.R_ne HO_3.out BK459.out (by decide)) | (rw [add_block]; exact Kd.own_blk (Kd.R_ne HO_3.out BK459.out (by decide))) | (show (Addr.add _ _).block ≠ _; rw [add_block]; exact Kd.own_blk (Kd.R_ne HO_3.out BK459.out (by decide))) | (dsimp only; exact Kd.own_blk (Kd.R_ne HO_3.out BK459.out (by decide)))) _).trans (((cell_far (p := ⟨gb459, _, none⟩) (by first | exact Kd.own_blk (Kd.R_ne HO_3.out BK459.out (by decide)) | (rw [add_block]; exact Kd.own_blk (Kd.R_ne HO_3.out BK459.out (by decide))) | (show (Addr.add _ _).block ≠ _; rw [add_block]; exact Kd.own_blk (Kd.R_ne HO_3.out BK459.out (by decide))) | (dsimp only; exact Kd.own_blk (Kd.R_ne HO_3.out BK459.out (by decide)))) _).trans (((cell_far (p := ⟨gb459, _, none⟩) (by first | exact Kd.own_blk (Kd.R_ne HO_3.out BK459.out (by decide)) | (rw [add_block]; exact Kd.own_blk (Kd.R_ne HO_3.out BK459.out (by decide))) | (show (Addr.add _ _).block ≠ _; rw [add_block]; exact Kd.own_blk (Kd.R_ne HO_3.out BK459.out (by decide))) | (dsimp only; exact Kd.own_blk (Kd.R_ne HO_3.out BK459.out (by decide)))) _).trans (((cell_far (p := ⟨gb459, _, none⟩) (by first | exact Kd.own_blk (Kd.R_ne HO_3.out BK459.out (by decide)) | (rw [add_block]; exact Kd.own_blk (Kd.R_ne HO_3.out BK459.out (by decide))) | (show (Addr.add _ _).block ≠ _; rw [add_block]; exact Kd.own_blk (Kd.R_ne HO_3.out BK459.out (by decide))) | (dsimp only; exact Kd.own_blk (Kd.R_ne HO_3.out BK459.out (by decide)))) _).trans (hHeld.2.2.2.2.2.1)))))))))))))))))), ((cell_far (p := ⟨gb459, _, none⟩) (by first | exact Kd.own_blk (Kd.R_ne HO_3.out BK459.out (by decide)) | (rw [add_block]; exact Kd.own_blk (Kd.R_ne HO_3.out BK459.out (by decide))) | (show (Addr.add _ _).block ≠ _; rw [add_block]; exact Kd.own_blk (Kd.R_ne HO_3.out BK459.out (by decide))) | (dsimp only; exact Kd.own_blk (Kd.R_ne HO_3.out BK459.out (by decide)))) _).trans (((cell_far (p := ⟨gb459, _, none⟩) (by first | exact Kd.own_blk (Kd.R_ne HO_3.out BK459.out (by decide)) | (rw [add_block]; exact Kd.own_blk (Kd.R_ne HO_3.out BK459.out (by decide))) | (show (Addr.add _ _).block ≠ _; rw [add_block]; exact Kd.own_blk (Kd.R_ne HO_3.out BK459.out (by decide))) | (dsimp only; exact Kd.own_blk (Kd.R_ne HO_3.out BK459.out (by decide)))) _).trans (((cell_far (p := ⟨gb459, _, none⟩) (by first | exact Kd.own_blk (Kd.R_ne HO_3.out BK459.out (by decide)) | (rw [add_block]; exact Kd.own_blk (Kd.R_ne HO_3.out BK459.out (by decide))) | (show (Addr.add _ _).block ≠ _; rw [add_block]; exact Kd.own_blk (Kd.R_ne HO_3.out BK459.out (by decide))) | (dsimp only; exact Kd.own_blk (Kd.R_ne HO_3.out BK459.out (by decide)))) _).trans (((cell_far (p := ⟨gb459, _, none⟩) (by first | exact Kd.own_blk (Kd.R_ne HO_3.out BK459.out (by decide)) | (rw [add_block]; exact Kd.own_blk (Kd.R_ne HO_3.out BK459.out (by decide))) | (show (Addr.add _ _).block ≠ _; rw [add_block]; exact Kd.own_blk (Kd.R_ne HO_3.out BK459.out (by decide))) | (dsimp only; exact Kd.own_blk (Kd.R_ne HO_3.out BK459.out (by decide)))) _).trans (((cell_far (p := ⟨gb459, _, none⟩) (by first | exact Kd.own_blk (Kd.R_ne HO_3.out BK459.out (by decide)) | (rw [add_block]; exact Kd.own_blk (Kd.R_ne HO_3.out BK459.out (by decide))) | (show (Addr.add _ _).block ≠ _; rw [add_block]; exact Kd.own_blk (Kd.R_ne HO_3.out BK459.out (by decide))) | (dsimp only; exact Kd.own_blk (Kd.R_ne HO_3.out BK459.out (by decide)))) _).trans (((cell_far (p := ⟨gb459, _, none⟩) (by first | exact Kd.own_blk (Kd.R_ne HO_3.out BK459.out (by decide)) | (rw [add_block]; exact Kd.own_blk (Kd.R_ne HO_3.out BK459.out (by decide))) | (show (Addr.add _ _).block ≠ _; rw [add_block]; exact Kd.own_blk (Kd.R_ne HO_3.out BK459.out (by decide))) | (dsimp only; exact Kd.own_blk (Kd.R_ne HO_3.out BK459.out (by decide)))) _).trans (((cell_far (p := ⟨gb459, _, none⟩) (by first | exact Kd.own_blk (Kd.R_ne HO_3.out BK459.out (by decide)) | (rw [add_block]; exact Kd.own_blk (Kd.R_ne HO_3.out BK459.out (by decide))) | (show (Addr.add _ _).block ≠ _; rw [add_block]; exact Kd.own_blk (Kd.R_ne HO_3.out BK459.out (by decide))) | (dsimp only; exact Kd.own_blk (Kd.R_ne HO_3.out BK459.out (by decide)))) _).trans (((cell_far (p := ⟨gb459, _, none⟩) (by first | exact Kd.own_blk (Kd.R_ne HO_3.out BK459.out (by decide)) | (rw [add_block]; exact Kd.own_blk (Kd.R_ne HO_3.out BK459.out (by decide))) | (show (Addr.add _ _).block ≠ _; rw [add_block]; exact Kd.own_blk (Kd.R_ne HO_3.out BK459.out (by decide))) | (dsimp only; exact Kd.own_blk (Kd.R_ne HO_3.out BK459.out (by decide)))) _).trans (((cell_far (p := ⟨gb459, _, none⟩) (by first | exact Kd.own_blk (Kd.R_ne HO_3.out BK459.out (by decide)) | (rw [add_block]; exact Kd.own_blk (Kd.R_ne HO_3.out BK459.out (by decide))) | (show (Addr.add _ _).block ≠ _; rw [add_block]; exact Kd.own_blk (Kd.R_ne HO_3.out BK459.out (by decide))) | (dsimp only; exact Kd.own_blk (Kd.R_ne HO_3.out BK459.out (by decide)))) _).trans (hHeld.2.2.2.2.2.2.1)))))))))))))))))), ((cell_far (p := ⟨gb459, _, none⟩) (by first | exact Kd.own_blk (Kd.R_ne HO_3.out BK459.out (by decide)) | (rw [add_block]; exact Kd.own_blk (Kd.R_ne HO_3.out BK459.out (by decide))) | (show (Addr.add _ _).block ≠ _; rw [add_block]; exact Kd.own_blk (Kd.R_ne HO_3.out BK459.out (by decide))) | (dsimp only; exact Kd.own_blk (Kd.R_ne HO_3.out BK459.out (by decide)))) _).trans (((cell_far (p := ⟨gb459, _, none⟩) (by first | exact Kd.own_blk (Kd.R_ne HO_3.out BK459.out (by decide)) | (rw [add_block]; exact Kd.own_blk (Kd.R_ne HO_3.out BK459.out (by decide))) | (show (Addr.add _ _).block ≠ _; rw [add_block]; exact Kd.own_blk (Kd.R_ne HO_3.out BK459.out (by decide))) | (dsimp only; exact Kd.own_blk (Kd.R_ne HO_3.out BK459.out (by decide)))) _).trans (((cell_far (p := ⟨gb459, _, none⟩) (by first | exact Kd.own_blk (Kd.R_ne HO_3.out BK459.out (by decide)) | (rw [add_block]; exact Kd.own_blk (Kd.R_ne HO_3.out BK459.out (by decide))) | (show (Addr.add _ _).block ≠ _; rw [add_block]; exact Kd.own_blk (Kd.R_ne HO_3.out BK459.out (by decide))) | (dsimp only; exact Kd.own_blk (Kd.R_ne HO_3.out BK459.out (by decide)))) _).trans (((cell_far (p := ⟨gb459, _, none⟩) (by first | exact Kd.own_blk (Kd.R_ne HO_3.out BK459.out (by decide)) | (rw [add_block]; exact Kd.own_blk (Kd.R_ne HO_3.out BK459.out (by decide))) | (show (Addr.add _ _).block ≠ _; rw [add_block]; exact Kd.own_blk (Kd.R_ne HO_3.out BK459.out (by decide))) | (dsimp only; exact Kd.own_blk (Kd.R_ne HO_3.out BK459.out (by decide)))) _).trans (((cell_far (p := ⟨gb459, _, none⟩) (by first | exact Kd.own_blk (Kd.R_ne HO_3.out BK459.out (by decide)) | (rw [add_block]; exact Kd.own_blk (Kd.R_ne HO_3.out BK459.out (by decide))) | (show (Addr.add _ _).block ≠ _; rw [add_block]; exact Kd.own_blk (Kd.R_ne HO_3.out BK459.out (by decide))) | (dsimp only; exact Kd.own_blk (Kd.R_ne HO_3.out BK459.out (by decide)))) _).trans (((cell_far (p := ⟨gb459, _, none⟩) (by first | exact Kd.own_blk (Kd.R_ne HO_3.out BK459.out (by decide)) | (rw [add_block]; exact Kd.own_blk (Kd.R_ne HO_3.out BK459.out (by decide))) | (show (Addr.add _ _).block ≠ _; rw [add_block]; exact Kd.own_blk (Kd.R_ne HO_3.out BK459.out (by decide))) | (dsimp only; exact Kd.own_blk (Kd.R_ne HO_3.out BK459.out (by decide)))) _).trans (((cell_far (p := ⟨gb459, _, none⟩) (by first | exact Kd.own_blk (Kd.R_ne HO_3.out BK459.out (by decide)) | (rw [add_block]; exact Kd.own_blk (Kd.R_ne HO_3.out BK459.out (by decide))) | (show (Addr.add _ _).block ≠ _; rw [add_block]; exact Kd.own_blk (Kd.R_ne HO_3.out BK459.out (by decide))) | (dsimp only; exact Kd.own_blk (Kd.R_ne HO_3.out BK459.out (by decide)))) _).trans (((cell_far (p := ⟨gb459, _, none⟩) (by first | exact Kd.own_blk (Kd.R_ne HO_3.out BK459.out (by decide)) | (rw [add_block]; exact Kd.own_blk (Kd.R_ne HO_3.out BK459.out (by decide))) | (show (Addr.add _ _).block ≠ _; rw [add_block]; exact Kd.own_blk (Kd.R_ne HO_3.out BK459.out (by decide))) | (dsimp only; exact Kd.own_blk (Kd.R_ne HO_3.out BK459.out (by decide)))) _).trans (((cell_far (p := ⟨gb459, _, none⟩) (by first | exact Kd.own_blk (Kd.R_ne HO_3.out BK459.out (by decide)) | (rw [add_block]; exact Kd.own_blk (Kd.R_ne HO_3.out BK459.out (by decide))) | (show (Addr.add _ _).block ≠ _; rw [add_block]; exact Kd.own_blk (Kd.R_ne HO_3.out BK459.out (by decide))) | (dsimp only; exact Kd.own_blk (Kd.R_ne HO_3.out BK459.out (by decide)))) _).trans (hHeld.2.2.2.2.2.2.2))))))))))))))))))⟩ (fun hHeld => ?_)
 clear hK K
 refine done_ (done_of HT_.out (by kernel_rfl)) ?_
 try go_wp2
 go_loopg [8] k1 (fun kq v8 w' => ∃ (x8_2 : Int) (x460008_2 : Int), v8 = .int .i64 x8_2 ∧ Aside0 (skiarearef25_read.l1 kq x0_1 x8_2 (rd x3_1 0) (rd x3_1 1) (rd x3_1 2) (wrap64 ((rd x3_1 3) - 1)) (rd x3_1 4) (wrap64 ((rd x3_1 5) - 1)) (rd x3_1 6) (wrap64 ((rd x3_1 7) - 1)) x460008_2 = some (r1, r2, r3, r4, r5, r6, r7, r8, r9)) ∧ Aside0 (kq ≤ k1) ∧ Aside0 (Kd.V (Kd.int .u8) 5 w' w.heap.size (fun k_ => (P0_ k_ ∨ w.heap.size ≤ k_) ∧ k_ ≠ gb439 ∧ k_ ≠ gb459) u0 x0_1) ∧ Aside0 (w'.heap[gb439]? = some (.cells #[.int .i64 x440000_1, .int .i64 x440001_1, .int .i64 x440002_1, .int .i64 x440003_1, .int .i64 x440004_1, .int .i64 x440005_1, .int .i64 x440006_1, .int .i64 x440007_1, .int .u64 x440008_1] 24 (0, 0))) ∧ Aside0 (w'.heap[gb459]? = some (.cells #[.int .i64 (rd x3_1 0), .int .i64 (rd x3_1 1), .int .i64 (rd x3_1 2), .int .i64 (wrap64 ((rd x3_1 3) - 1)), .int .i64 (rd x3_1 4), .int .i64 (wrap64 ((rd x3_1 5) - 1)), .int .i64 (rd x3_1 6), .int .i64 (wrap64 ((rd x3_1 7) - 1)), .int .u64 x460008_2] 24 (0, 0))) ∧ Aside0 (Below w.heap.size w w'))
 case atStart => exact ⟨(0), (0), (by first | rfl | (simp; done) | (simp [*]; done)), H', ⟨Nat.le_refl _⟩, ⟨by (with_reducible repeat (first | apply Kd.V_alloc | apply Kd.V_drewN | apply Kd.V_drew)); exact Kd.V_mono (Kd.V_far (p := ⟨gb459, 8, none⟩) (Kd.V_far (p := ⟨gb459, 7, none⟩) (Kd.V_far (p := ⟨gb459, 6, none⟩) (Kd.V_far (p := ⟨gb459, 5, none⟩) (Kd.V_far (p := ⟨gb459, 4, none⟩) (Kd.V_far (p := ⟨gb459, 3, none⟩) (Kd.V_far (p := ⟨gb459, 2, none⟩) (Kd.V_far (p := ⟨gb459, 1, none⟩) (Kd.V_far (p := ⟨gb459, 0, none⟩) (Kd.V_mono HO_0.out (fun k_ hk => (⟨hk, hk.2⟩ : _ ∧ k_ ≠ gb459))) (fun _ hk => hk.2) (.int .i64 (rd x3_1 0))) (fun _ hk => hk.2) (.int .i64 (rd x3_1 1))) (fun _ hk => hk.2) (.int .i64 (rd x3_1 2))) (fun _ hk => hk.2) (.int .i64 (wrap64 ((rd x3_1 3) - 1)))) (fun _ hk => hk.2) (.int .i64 (rd x3_1 4))) (fun _ hk => hk.2) (.int .i64 (wrap64 ((rd x3_1 5) - 1)))) (fun _ hk => hk.2) (.int .i64 (rd x3_1 6))) (fun _ hk => hk.2) (.int .i64 (wrap64 ((rd x3_1 7) - 1)))) (fun _ hk => hk.2) (.int .u64 0)) (fun _ hk => ⟨hk.1.1.1, ⟨hk.1.1.2.2, hk.1.2⟩⟩)⟩, ⟨by (with_reducible repeat (first | refine blk_drewN ?_ _ | refine blk_drew ?_ | refine blk_alloc ?_ _)); refine blk_far ?_ NB439_459.out _; refine blk_far ?_ NB439_459.out _; refine blk_far ?_ NB439_459.out _; refine blk_far ?_ NB439_459.out _; refine blk_far ?_ NB439_459.out _; refine blk_far ?_ NB439_459.out _; refine blk_far ?_ NB439_459.out _; refine blk_far ?_ NB439_459.out _; refine blk_far ?_ NB439_459.out _; (with_reducible repeat (first | refine blk_drewN ?_ _ | refine blk_drew ?_ | refine blk_alloc ?_ _)); exact BK439.out⟩, ⟨by (with_reducible repeat (first | refine blk_drewN ?_ _ | refine blk_drew ?_ | refine blk_alloc ?_ _)); refine blk_put (cs := #[.int .i64 (rd x3_1 0), .int .i64 (rd x3_1 1), .int .i64 (rd x3_1 2), .int .i64 (wrap64 ((rd x3_1 3) - 1)), .int .i64 (rd x3_1 4), .int .i64 (wrap64 ((rd x3_1 5) - 1)), .int .i64 (rd x3_1 6), .int .i64 (wrap64 ((rd x3_1 7) - 1)), .int .u64 0]) ?_ 8 _ rfl; refine blk_put (cs := #[.int .i64 (rd x3_1 0), .int .i64 (rd x3_1 1), .int .i64 (rd x3_1 2), .int .i64 (wrap64 ((rd x3_1 3) - 1)), .int .i64 (rd x3_1 4), .int .i64 (wrap64 ((rd x3_1 5) - 1)), .int .i64 (rd x3_1 6), .int .i64 0, .int .u64 0]) ?_ 7 _ rfl; refine blk_put (cs := #[.int .i64 (rd x3_1 0), .int .i64 (rd x3_1 1), .int .i64 (rd x3_1 2), .int .i64 (wrap64 ((rd x3_1 3) - 1)), .int .i64 (rd x3_1 4), .int .i64 (wrap64 ((rd x3_1 5) - 1)), .int .i64 0, .int .i64 0, .int .u64 0]) ?_ 6 _ rfl; refine blk_put (cs := #[.int .i64 (rd x3_1 0), .int .i64 (rd x3_1 1), .int .i64 (rd x3_1 2), .int .i64 (wrap64 ((rd x3_1 3) - 1)), .int .i64 (rd x3_1 4), .int .i64 0, .int .i64 0, .int .i64 0, .int .u64 0]) ?_ 5 _ rfl; refine blk_put (cs := #[.int .i64 (rd x3_1 0), .int .i64 (rd x3_1 1), .int .i64 (rd x3_1 2), .int .i64 (wrap64 ((rd x3_1 3) - 1)), .int .i64 0, .int .i64 0, .int .i64 0, .int .i64 0, .int .u64 0]) ?_ 4 _ rfl; refine blk_put (cs := #[.int .i64 (rd x3_1 0), .int .i64 (rd x3_1 1), .int .i64 (rd x3_1 2), .int .i64 0, .int .i64 0, .int .i64 0, .int .i64 0, .int .i64 0, .int .u64 0]) ?_ 3 _ rfl; refine blk_put (cs := #[.int .i64 (rd x3_1 0), .int .i64 (rd x3_1 1), .int .i64 0, .int .i64 0, .int .i64 0, .int .i64 0, .int .i64 0, .int .i64 0, .int .u64 0]) ?_ 2 _ rfl; refine blk_put (cs := #[.int .i64 (rd x3_1 0), .int .i64 0, .int .i64 0, .int .i64 0, .int .i64 0, .int .i64 0, .int .i64 0, .int .i64 0, .int .u64 0]) ?_ 1 _ rfl; refine blk_put (cs := #[.int .i64 0, .int .i64 0, .int .i64 0, .int .i64 0, .int .i64 0, .int .i64 0, .int .i64 0, .int .i64 0, .int .u64 0]) ?_ 0 _ rfl; (with_reducible repeat (first | refine blk_drewN ?_ _ | refine blk_drew ?_ | refine blk_alloc ?_ _)); exact BK459.out⟩, ⟨by repeat (first | (with_reducible first | exact HB.out | apply below_alloc | apply pw_below_drewN | apply below_drew1 | refine below_set ?_ GE439.out | refine below_set ?_ GE459.out) | exact HB.out)⟩⟩
 case round =>
   (
 clear H'
 try clear c1
 try clear q1
 try clear c2
 try clear p2
 try clear c3
 try clear c3b0
 try clear c3b1
 try clear c4
 try clear p4
 try clear q4
 try clear hx4
 try clear qi4
 try clear c5
 try clear c5b0
 try clear c5b1
 try clear c6
 try clear c6b0
 try clear p6
 try clear c10
 try clear c11
 try clear c11b0
 try clear c11b1
 try clear c12
 try clear c12b0
 try clear c12b1
 try clear c16
 try clear q16
 try clear c20
 try clear c20b0
 try clear c20b1
 try clear c21
 try clear c21b0
 try clear c21b1
 try clear c22
 try clear c22b0
 try clear c22b1
 try clear c23
 try clear c23b0
 try clear c23b1
 try clear c24
 try clear c24b0
 try clear c24b1
 try clear c25
 try clear c25b0
 try clear c25b1
 try clear c26
 try clear c26b0
 try clear c26b1
 try clear c27
 try clear c27b0
 try clear c27b1
 try clear c39
 try clear hcz19_0
 try clear hcz19_1
 try clear hcz19_2
 try clear hcz19_3
 try clear hcz19_4
 try clear hcz19_5
 try clear hcz19_6
 try clear hcz19_7
 try clear hcz19_8
 try clear hcz9_0
 try clear hcz9_1
 try clear hcz9_2
 try clear hcz9_3
 try clear hcz9_4
 try clear hcz9_5
 try clear hcz9_6
 try clear hcz9_7
 try clear hcz9_8
 try clear hfz19_0
 try clear hfz19_1
 try clear hfz19_2
 try clear hfz19_3
 try clear hfz19_4
 try clear hfz19_5
 try clear hfz19_6
 try clear hfz19_7
 try clear hfz19_8
 try clear hfz9_0
 try clear hfz9_1
 try clear hfz9_2
 try clear hfz9_3
 try clear hfz9_4
 try clear hfz9_5
 try clear hfz9_6
 try clear hfz9_7
 try clear hfz9_8
 try clear hx451_0
 try clear hx452_0
 try clear hx453_0
 try clear hx454_0
 try clear hx455_0
 try clear hx456_0
 try clear hx457_0
 try clear hx458_0
 try clear p2
 try clear p451
 try clear p452
 try clear p453
 try clear p454
 try clear p455
 try clear p456
 try clear p457
 try clear p458
 try clear q016
 try clear q16
 try clear q451
 try clear q452
 try clear q453
 try clear q454
 try clear q455
 try clear q456
 try clear q457
 try clear q458
 obtain ⟨x8_2, x460008_2, rfl, HA, HK2, HO_0, BK439, BK459, HB⟩ := hrel
 cases gk with
 | zero => exact absurd HA.out (by simp [skiarearef25_read.l1])
 | succ k2 =>
   (
 have H := HA.out
 clear HA
 simp only [skiarearef25_read.l1] at H
 by_cases c40 : x8_2 < (x0_1.length : Int)
 {
 rw [if_pos c40] at H
 have c40b0 : decide (x8_2 < (x0_1.length : Int)) = true := decide_eq_true c40
 clear c40
 by_cases c41 : x8_2 < 8
 {
 rw [if_pos c41] at H
 have c41b0 : decide (x8_2 < 8) = true := decide_eq_true c41
 clear c41
 by_cases c42 : 0 ≤ x8_2
 {
 rw [if_pos c42] at H
 have c42b0 : decide (0 ≤ x8_2) = true := decide_eq_true c42
 clear c42
 have H' := Aside0.mk H
 clear H
 obtain ⟨Ao43, co43, eo43⟩ := Kd.V_slice HO_0.out
 subst eo43
 try go_wp2
 have n0_ := Aside0.mk (Kd.V_drew HO_0.out)
 have n1_ := Aside0.mk (blk_drew BK439.out)
 have n2_ := Aside0.mk (blk_drew BK459.out)
 have n3_ := Aside0.mk (below_drew1 HB.out)
 clear HO_0
 clear BK439
 clear BK459
 clear HB
 have HO_0 := n0_
 have BK439 := n1_
 have BK459 := n2_
 have HB := n3_
 clear n0_ n1_ n2_ n3_
 have p460 : 0 ≤ (x8_2 : Int) := of_decide_eq_true (by first | (with_reducible assumption) | assumption)
 have q460 : x8_2 < (x0_1.length : Int) := of_decide_eq_true (by first | (with_reducible assumption) | assumption)
 obtain ⟨ad460, e460, hx460_0⟩ := Kd.at_int (Kd.V_reads' HO_0.out).2.2 x8_2 p460 q460
 cases e460
 replace p460 := eq_true p460
 replace q460 := eq_true q460
 refine start_ (n := 11) (S := fun w' => w'.cell? ⟨gb459, 0, none⟩ = some (.int .i64 (rd x3_1 0)) ∧ w'.cell? ⟨gb459, 1, none⟩ = some (.int .i64 (rd x3_1 1)) ∧ w'.cell? ⟨gb459, 2, none⟩ = some (.int .i64 (rd x3_1 2)) ∧ w'.cell? ⟨gb459, 3, none⟩ = some (.int .i64 (wrap64 ((rd x3_1 3) - 1))) ∧ w'.cell? ⟨gb459, 4, none⟩ = some (.int .i64 (rd x3_1 4)) ∧ w'.cell? ⟨gb459, 5, none⟩ = some (.int .i64 (wrap64 ((rd x3_1 5) - 1))) ∧ w'.cell? ⟨gb459, 6, none⟩ = some (.int .i64 (rd x3_1 6)) ∧ w'.cell? ⟨gb459, 7, none⟩ = some (.int .i64 (wrap64 ((rd x3_1 7) - 1))) ∧ w'.cell? ⟨gb459, 8, none⟩ = some (.int .u64 x460008_2) ∧ w'.cell? (ad460.add (x8_2).toNat) = some (.int .u8 (rd x0_1 x8_2))) (ds := [10]) #[false, false, false, false, false, false, false, false, false, false, false] (by kernel_rfl) rfl rfl ⟨(blk_cell BK459.out 0).trans rfl, (blk_cell BK459.out 1).trans rfl, (blk_cell BK459.out 2).trans rfl, (blk_cell BK459.out 3).trans rfl, (blk_cell BK459.out 4).trans rfl, (blk_cell BK459.out 5).trans rfl, (blk_cell BK459.out 6).trans rfl, (blk_cell BK459.out 7).trans rfl, (blk_cell BK459.out 8).trans rfl, hx460_0⟩ (fun hHeld => ?_); refine with_tabW skiarearef25_read.tab12 skiarearef25_read.bits12 (fun HT_ HW_ => ?_)
 generalize wr.drew = w44 at HO_0 BK439 BK459 HB hx460_0 hHeld ⊢
 refine pure_ (i := 0) (N := some 70) (v := ?_) (a' := ?_) #[true, false, false, false, false, false, false, false, false, false, false] rfl rfl (any_of HT_.out (by kernel_rfl)) (fun _ _ _ h => h) (Or.inl ⟨by rfl, ?_⟩) ?_ ?_
 rotate_left
 {
 intro w'
 go_simp
 with_reducible rfl }
 rotate_left
 {
 simp only [Act.put, List.setIfInBounds_toArray, List.set_cons_zero, List.set_cons_succ, i64_w, i32_w, IntKind.wrap_u8, IntKind.wrap_u32]
 rfl }
 refine pure_ (i := 3) (N := some 73) (v := ?_) (a' := ?_) #[true, false, false, true, false, false, false, false, false, false, false] rfl rfl (any_of HT_.out (by kernel_rfl)) (fun _ _ _ h => h) (Or.inl ⟨by rfl, ?_⟩) ?_ ?_
 rotate_left
 {
 intro w'
 go_simp
 with_reducible rfl }
 rotate_left
 {
 simp only [Act.put, List.setIfInBounds_toArray, List.set_cons_zero, List.set_cons_succ, i64_w, i32_w, IntKind.wrap_u8, IntKind.wrap_u32]
 rfl }
 refine pure_ (i := 4) (N := some 74) (v := ?_) (a' := ?_) #[true, false, false, true, true, false, false, false, false, false, false] rfl rfl (any_of HT_.out (by kernel_rfl)) (fun _ _ _ h => h) (Or.inl ⟨by rfl, ?_⟩) ?_ ?_
 rotate_left
 {
 intro w'
 go_simp
 with_reducible rfl }
 rotate_left
 {
 simp only [Act.put, List.setIfInBounds_toArray, List.set_cons_zero, List.set_cons_succ, i64_w, i32_w, IntKind.wrap_u8, IntKind.wrap_u32]
 rfl }
 refine pure_ (i := 5) (N := some 75) (v := ?_) (a' := ?_) #[true, false, false, true, true, true, false, false, false, false, false] rfl rfl (any_of HT_.out (by kernel_rfl)) (fun _ _ _ h => h) (Or.inl ⟨by rfl, ?_⟩) ?_ ?_
 rotate_left
 {
 intro w'
 go_simp
 with_reducible rfl }
 rotate_left
 {
 simp only [Act.put, List.setIfInBounds_toArray, List.set_cons_zero, List.set_cons_succ, i64_w, i32_w, IntKind.wrap_u8, IntKind.wrap_u32]
 rfl }
 refine take_ (i := 1) (N := some 71) (v := ?_) (a' := ?_) #[true, true, false, true, true, true, false, false, false, false, false] rfl rfl (take_ofW HT_.out HW_.out (by kernel_rfl)) (fun _ _ _ h => h) (Or.inl ⟨by rfl, ?_⟩) hHeld ?_ ?_
 rotate_left
 {
 rintro w' ⟨s0, s1, s2, s3, s4, s5, s6, s7, s8, s9⟩
 go_simp
 with_reducible rfl }
 rotate_left
 {
 simp only [Act.put, List.setIfInBounds_toArray, List.set_cons_zero, List.set_cons_succ, i64_w, i32_w, IntKind.wrap_u8, IntKind.wrap_u32]
 rfl }
 refine pure_ (i := 2) (N := some 72) (v := ?_) (a' := ?_) #[true, true, true, true, true, true, false, false, false, false, false] rfl rfl (any_of HT_.out (by kernel_rfl)) (fun _ _ _ h => h) (Or.inl ⟨by rfl, ?_⟩) ?_ ?_
 rotate_left
 {
 intro w'
 go_simp
 with_reducible rfl }
 rotate_left
 {
 simp only [Act.put, List.setIfInBounds_toArray, List.set_cons_zero, List.set_cons_succ, i64_w, i32_w, IntKind.wrap_u8, IntKind.wrap_u32]
 rfl }
 refine take_ (i := 6) (N := some 76) (v := ?_) (a' := ?_) #[true, true, true, true, true, true, true, false, false, false, false] rfl rfl (take_ofW HT_.out HW_.out (by kernel_rfl)) (fun _ _ _ h => h) (Or.inl ⟨by rfl, ?_⟩) hHeld ?_ ?_
 rotate_left
 {
 rintro w' ⟨s0, s1, s2, s3, s4, s5, s6, s7, s8, s9⟩
 go_simp
 with_reducible rfl }
 rotate_left
 {
 simp only [Act.put, List.setIfInBounds_toArray, List.set_cons_zero, List.set_cons_succ, i64_w, i32_w, IntKind.wrap_u8, IntKind.wrap_u32]
 rfl }
 refine pure_ (i := 7) (N := some 77) (v := ?_) (a' := ?_) #[true, true, true, true, true, true, true, true, false, false, false] rfl rfl (any_of HT_.out (by kernel_rfl)) (fun _ _ _ h => h) (Or.inl ⟨by rfl, ?_⟩) ?_ ?_
 rotate_left
 {
 intro w'
 go_simp
 with_reducible rfl }
 rotate_left
 {
 simp only [Act.put, List.setIfInBounds_toArray, List.set_cons_zero, List.set_cons_succ, i64_w, i32_w, IntKind.wrap_u8, IntKind.wrap_u32]
 rfl }
 refine pure_ (i := 8) (N := some 78) (v := ?_) (a' := ?_) #[true, true, true, true, true, true, true, true, true, false, false] rfl rfl (any_of HT_.out (by kernel_rfl)) (fun _ _ _ h => h) (Or.inl ⟨by rfl, ?_⟩) ?_ ?_
 rotate_left
 {
 intro w'
 go_simp
 with_reducible rfl }
 rotate_left
 {
 simp only [Act.put, List.setIfInBounds_toArray, List.set_cons_zero, List.set_cons_succ, i64_w, i32_w, IntKind.wrap_u8, IntKind.wrap_u32]
 rfl }
 refine pure_ (i := 9) (N := some 79) (v := ?_) (a' := ?_) #[true, true, true, true, true, true, true, true, true, true, false] rfl rfl (any_of HT_.out (by kernel_rfl)) (fun _ _ _ h => h) (Or.inl ⟨by rfl, ?_⟩) ?_ ?_
 rotate_left
 {
 intro w'
 go_simp
 with_reducible rfl }
 rotate_left
 {
 simp only [Act.put, List.setIfInBounds_toArray, List.set_cons_zero, List.set_cons_succ, i64_w, i32_w, IntKind.wrap_u8, IntKind.wrap_u32]
 rfl }
 refine last_ (i := 10) (N := none) #[true, true, true, true, true, true, true, true, true, true, true] rfl rfl (one_of HT_.out (by kernel_rfl)) (by decide) (fun K hK => ?_)
 have hs45 : w44.cell? ⟨gb459, 8, none⟩ = some (.int .u64 x460008_2) := (blk_cell BK459.out 8).trans rfl
 have hfs45 := blk_frozen BK459.out 8
 have hns45_0 := NB439_459.out
 have hms45_0 := NB459_439.out
 refine skip_ (w1 := ?_) (by rfl) rfl ?_ ?_
 rotate_left
 {
 go_simp
 rfl }
 refine hK.out _ _ ?_
 clear hK K
 refine done_ (done_of HT_.out (by kernel_rfl)) ?_
 try go_wp2
 go_roundg k2
 case measure => have := HK1.out; have := HK2.out; omega
 case rel => exact ⟨(wrap64 (x8_2 + 1)), (Go.bits .or .u64 (IntKind.u64.wrap (x460008_2 * 256)) (IntKind.u64.wrap (rd x0_1 x8_2))), (by first | rfl | (simp; done) | (simp [*]; done)), H', ⟨by have := HK1.out; have := HK2.out; omega⟩, ⟨by (with_reducible repeat (first | apply Kd.V_alloc | apply Kd.V_drewN | apply Kd.V_drew)); exact Kd.V_mono (Kd.V_far (p := ⟨gb459, 8, none⟩) (Kd.V_mono HO_0.out (fun k_ hk => (⟨hk, hk.2.2⟩ : _ ∧ k_ ≠ gb459))) (fun _ hk => hk.2) (.int .u64 (Go.bits .or .u64 (IntKind.u64.wrap (x460008_2 * 256)) (IntKind.u64.wrap (rd x0_1 x8_2))))) (fun _ hk => ⟨hk.1.1, ⟨hk.1.2.1, hk.1.2.2⟩⟩)⟩, ⟨by (with_reducible repeat (first | refine blk_drewN ?_ _ | refine blk_drew ?_ | refine blk_alloc ?_ _)); refine blk_far ?_ NB439_459.out _; (with_reducible repeat (first | refine blk_drewN ?_ _ | refine blk_drew ?_ | refine blk_alloc ?_ _)); exact BK439.out⟩, ⟨by (with_reducible repeat (first | refine blk_drewN ?_ _ | refine blk_drew ?_ | refine blk_alloc ?_ _)); refine blk_put (cs := #[.int .i64 (rd x3_1 0), .int .i64 (rd x3_1 1), .int .i64 (rd x3_1 2), .int .i64 (wrap64 ((rd x3_1 3) - 1)), .int .i64 (rd x3_1 4), .int .i64 (wrap64 ((rd x3_1 5) - 1)), .int .i64 (rd x3_1 6), .int .i64 (wrap64 ((rd x3_1 7) - 1)), .int .u64 x460008_2]) ?_ 8 _ rfl; (with_reducible repeat (first | refine blk_drewN ?_ _ | refine blk_drew ?_ | refine blk_alloc ?_ _)); exact BK459.out⟩, ⟨by repeat (first | (with_reducible first | exact HB.out | apply below_alloc | apply pw_below_drewN | apply below_drew1 | refine below_set ?_ GE439.out | refine below_set ?_ GE459.out) | exact HB.out)⟩⟩ }
 {
 rw [if_neg c42] at H
 exact absurd H (by simp) } }
 {
 rw [if_neg c41] at H
 have c41b0 : decide (x8_2 < 8) = false := decide_eq_false c41
 clear c41
 simp only [Option.some.injEq, Prod.mk.injEq] at H
 obtain ⟨rfl, rfl, rfl, rfl, rfl, rfl, rfl, rfl, rfl⟩ := H
 obtain ⟨Ao46, co46, eo46⟩ := Kd.V_slice HO_0.out
 subst eo46
 have hnb47 := NB459_439.out
 have hnc47 := NB439_459.out
 have hcz48_0 : wr.cell? ⟨gb459, 0, none⟩ = some (.int .i64 (rd x3_1 0)) := (blk_cell BK459.out 0).trans rfl
 have hcz48_1 : wr.cell? ⟨gb459, 1, none⟩ = some (.int .i64 (rd x3_1 1)) := (blk_cell BK459.out 1).trans rfl
 have hcz48_2 : wr.cell? ⟨gb459, 2, none⟩ = some (.int .i64 (rd x3_1 2)) := (blk_cell BK459.out 2).trans rfl
 have hcz48_3 : wr.cell? ⟨gb459, 3, none⟩ = some (.int .i64 (wrap64 ((rd x3_1 3) - 1))) := (blk_cell BK459.out 3).trans rfl
 have hcz48_4 : wr.cell? ⟨gb459, 4, none⟩ = some (.int .i64 (rd x3_1 4)) := (blk_cell BK459.out 4).trans rfl
 have hcz48_5 : wr.cell? ⟨gb459, 5, none⟩ = some (.int .i64 (wrap64 ((rd x3_1 5) - 1))) := (blk_cell BK459.out 5).trans rfl
 have hcz48_6 : wr.cell? ⟨gb459, 6, none⟩ = some (.int .i64 (rd x3_1 6)) := (blk_cell BK459.out 6).trans rfl
 have hcz48_7 : wr.cell? ⟨gb459, 7, none⟩ = some (.int .i64 (wrap64 ((rd x3_1 7) - 1))) := (blk_cell BK459.out 7).trans rfl
 have hcz48_8 : wr.cell? ⟨gb459, 8, none⟩ = some (.int .u64 x460008_2) := (blk_cell BK459.out 8).trans rfl
 have hfz48_0 := blk_frozen BK459.out 0
 have hfz48_1 := blk_frozen BK459.out 1
 have hfz48_2 := blk_frozen BK459.out 2
 have hfz48_3 := blk_frozen BK459.out 3
 have hfz48_4 := blk_frozen BK459.out 4
 have hfz48_5 := blk_frozen BK459.out 5
 have hfz48_6 := blk_frozen BK459.out 6
 have hfz48_7 := blk_frozen BK459.out 7
 have hfz48_8 := blk_frozen BK459.out 8
 have hcz49_0 : wr.cell? ⟨gb439, 0, none⟩ = some (.int .i64 x440000_1) := (blk_cell BK439.out 0).trans rfl
 have hcz49_1 : wr.cell? ⟨gb439, 1, none⟩ = some (.int .i64 x440001_1) := (blk_cell BK439.out 1).trans rfl
 have hcz49_2 : wr.cell? ⟨gb439, 2, none⟩ = some (.int .i64 x440002_1) := (blk_cell BK439.out 2).trans rfl
 have hcz49_3 : wr.cell? ⟨gb439, 3, none⟩ = some (.int .i64 x440003_1) := (blk_cell BK439.out 3).trans rfl
 have hcz49_4 : wr.cell? ⟨gb439, 4, none⟩ = some (.int .i64 x440004_1) := (blk_cell BK439.out 4).trans rfl
 have hcz49_5 : wr.cell? ⟨gb439, 5, none⟩ = some (.int .i64 x440005_1) := (blk_cell BK439.out 5).trans rfl
 have hcz49_6 : wr.cell? ⟨gb439, 6, none⟩ = some (.int .i64 x440006_1) := (blk_cell BK439.out 6).trans rfl
 have hcz49_7 : wr.cell? ⟨gb439, 7, none⟩ = some (.int .i64 x440007_1) := (blk_cell BK439.out 7).trans rfl
 have hcz49_8 : wr.cell? ⟨gb439, 8, none⟩ = some (.int .u64 x440008_1) := (blk_cell BK439.out 8).trans rfl
 have hfz49_0 := blk_frozen BK439.out 0
 have hfz49_1 := blk_frozen BK439.out 1
 have hfz49_2 := blk_frozen BK439.out 2
 have hfz49_3 := blk_frozen BK439.out 3
 have hfz49_4 := blk_frozen BK439.out 4
 have hfz49_5 := blk_frozen BK439.out 5
 have hfz49_6 := blk_frozen BK439.out 6
 have hfz49_7 := blk_frozen BK439.out 7
 have hfz49_8 := blk_frozen BK439.out 8
 go_wp2
 refine bodyPost_ret (results_cell_row rfl _ _ gb439 24 #[.int .i64 (rd x3_1 0), .int .i64 (rd x3_1 1), .int .i64 (rd x3_1 2), .int .i64 (wrap64 ((rd x3_1 3) - 1)), .int .i64 (rd x3_1 4), .int .i64 (wrap64 ((rd x3_1 5) - 1)), .int .i64 (rd x3_1 6), .int .i64 (wrap64 ((rd x3_1 7) - 1)), .int .u64 x460008_2] (0, 0) _ rfl (by (with_reducible repeat (first | refine blk_drewN ?_ _ | refine blk_drew ?_ | refine blk_alloc ?_ _)); refine blk_put (cs := #[.int .i64 (rd x3_1 0), .int .i64 (rd x3_1 1), .int .i64 (rd x3_1 2), .int .i64 (wrap64 ((rd x3_1 3) - 1)), .int .i64 (rd x3_1 4), .int .i64 (wrap64 ((rd x3_1 5) - 1)), .int .i64 (rd x3_1 6), .int .i64 (wrap64 ((rd x3_1 7) - 1)), .int .u64 x440008_1]) ?_ 8 _ rfl; refine blk_put (cs := #[.int .i64 (rd x3_1 0), .int .i64 (rd x3_1 1), .int .i64 (rd x3_1 2), .int .i64 (wrap64 ((rd x3_1 3) - 1)), .int .i64 (rd x3_1 4), .int .i64 (wrap64 ((rd x3_1 5) - 1)), .int .i64 (rd x3_1 6), .int .i64 x440007_1, .int .u64 x440008_1]) ?_ 7 _ rfl; refine blk_put (cs := #[.int .i64 (rd x3_1 0), .int .i64 (rd x3_1 1), .int .i64 (rd x3_1 2), .int .i64 (wrap64 ((rd x3_1 3) - 1)), .int .i64 (rd x3_1 4), .int .i64 (wrap64 ((rd x3_1 5) - 1)), .int .i64 x440006_1, .int .i64 x440007_1, .int .u64 x440008_1]) ?_ 6 _ rfl; refine blk_put (cs := #[.int .i64 (rd x3_1 0), .int .i64 (rd x3_1 1), .int .i64 (rd x3_1 2), .int .i64 (wrap64 ((rd x3_1 3) - 1)), .int .i64 (rd x3_1 4), .int .i64 x440005_1, .int .i64 x440006_1, .int .i64 x440007_1, .int .u64 x440008_1]) ?_ 5 _ rfl; refine blk_put (cs := #[.int .i64 (rd x3_1 0), .int .i64 (rd x3_1 1), .int .i64 (rd x3_1 2), .int .i64 (wrap64 ((rd x3_1 3) - 1)), .int .i64 x440004_1, .int .i64 x440005_1, .int .i64 x440006_1, .int .i64 x440007_1, .int .u64 x440008_1]) ?_ 4 _ rfl; refine blk_put (cs := #[.int .i64 (rd x3_1 0), .int .i64 (rd x3_1 1), .int .i64 (rd x3_1 2), .int .i64 x440003_1, .int .i64 x440004_1, .int .i64 x440005_1, .int .i64 x440006_1, .int .i64 x440007_1, .int .u64 x440008_1]) ?_ 3 _ rfl; refine blk_put (cs := #[.int .i64 (rd x3_1 0), .int .i64 (rd x3_1 1), .int .i64 x440002_1, .int .i64 x440003_1, .int .i64 x440004_1, .int .i64 x440005_1, .int .i64 x440006_1, .int .i64 x440007_1, .int .u64 x440008_1]) ?_ 2 _ rfl; refine blk_put (cs := #[.int .i64 (rd x3_1 0), .int .i64 x440001_1, .int .i64 x440002_1, .int .i64 x440003_1, .int .i64 x440004_1, .int .i64 x440005_1, .int .i64 x440006_1, .int .i64 x440007_1, .int .u64 x440008_1]) ?_ 1 _ rfl; refine blk_put (cs := #[.int .i64 x440000_1, .int .i64 x440001_1, .int .i64 x440002_1, .int .i64 x440003_1, .int .i64 x440004_1, .int .i64 x440005_1, .int .i64 x440006_1, .int .i64 x440007_1, .int .u64 x440008_1]) ?_ 0 _ rfl; (with_reducible repeat (first | refine blk_drewN ?_ _ | refine blk_drew ?_ | refine blk_alloc ?_ _)); exact BK439.out) Try.underlying24 rfl (by kernel_rfl)) rfl ?_
 exact ⟨by first | rfl | (simp [errW_none, errW_some] <;> rfl) | (simp [*, errW_none, errW_some] <;> rfl), by repeat (first | (with_reducible first | exact HB.out | apply below_alloc | apply pw_below_drewN | apply below_drew1 | refine below_set ?_ GE439.out | refine below_set ?_ GE459.out) | exact HB.out)⟩ } }
 {
 rw [if_neg c40] at H
 have c40b0 : decide (x8_2 < (x0_1.length : Int)) = false := decide_eq_false c40
 clear c40
 simp only [Option.some.injEq, Prod.mk.injEq] at H
 obtain ⟨rfl, rfl, rfl, rfl, rfl, rfl, rfl, rfl, rfl⟩ := H
 obtain ⟨Ao50, co50, eo50⟩ := Kd.V_slice HO_0.out
 subst eo50
 have hnb51 := NB459_439.out
 have hnc51 := NB439_459.out
 have hcz52_0 : wr.cell? ⟨gb459, 0, none⟩ = some (.int .i64 (rd x3_1 0)) := (blk_cell BK459.out 0).trans rfl
 have hcz52_1 : wr.cell? ⟨gb459, 1, none⟩ = some (.int .i64 (rd x3_1 1)) := (blk_cell BK459.out 1).trans rfl
 have hcz52_2 : wr.cell? ⟨gb459, 2, none⟩ = some (.int .i64 (rd x3_1 2)) := (blk_cell BK459.out 2).trans rfl
 have hcz52_3 : wr.cell? ⟨gb459, 3, none⟩ = some (.int .i64 (wrap64 ((rd x3_1 3) - 1))) := (blk_cell BK459.out 3).trans rfl
 have hcz52_4 : wr.cell? ⟨gb459, 4, none⟩ = some (.int .i64 (rd x3_1 4)) := (blk_cell BK459.out 4).trans rfl
 have hcz52_5 : wr.cell? ⟨gb459, 5, none⟩ = some (.int .i64 (wrap64 ((rd x3_1 5) - 1))) := (blk_cell BK459.out 5).trans rfl
 have hcz52_6 : wr.cell? ⟨gb459, 6, none⟩ = some (.int .i64 (rd x3_1 6)) := (blk_cell BK459.out 6).trans rfl
 have hcz52_7 : wr.cell? ⟨gb459, 7, none⟩ = some (.int .i64 (wrap64 ((rd x3_1 7) - 1))) := (blk_cell BK459.out 7).trans rfl
 have hcz52_8 : wr.cell? ⟨gb459, 8, none⟩ = some (.int .u64 x460008_2) := (blk_cell BK459.out 8).trans rfl
 have hfz52_0 := blk_frozen BK459.out 0
 have hfz52_1 := blk_frozen BK459.out 1
 have hfz52_2 := blk_frozen BK459.out 2
 have hfz52_3 := blk_frozen BK459.out 3
 have hfz52_4 := blk_frozen BK459.out 4
 have hfz52_5 := blk_frozen BK459.out 5
 have hfz52_6 := blk_frozen BK459.out 6
 have hfz52_7 := blk_frozen BK459.out 7
 have hfz52_8 := blk_frozen BK459.out 8
 have hcz53_0 : wr.cell? ⟨gb439, 0, none⟩ = some (.int .i64 x440000_1) := (blk_cell BK439.out 0).trans rfl
 have hcz53_1 : wr.cell? ⟨gb439, 1, none⟩ = some (.int .i64 x440001_1) := (blk_cell BK439.out 1).trans rfl
 have hcz53_2 : wr.cell? ⟨gb439, 2, none⟩ = some (.int .i64 x440002_1) := (blk_cell BK439.out 2).trans rfl
 have hcz53_3 : wr.cell? ⟨gb439, 3, none⟩ = some (.int .i64 x440003_1) := (blk_cell BK439.out 3).trans rfl
 have hcz53_4 : wr.cell? ⟨gb439, 4, none⟩ = some (.int .i64 x440004_1) := (blk_cell BK439.out 4).trans rfl
 have hcz53_5 : wr.cell? ⟨gb439, 5, none⟩ = some (.int .i64 x440005_1) := (blk_cell BK439.out 5).trans rfl
 have hcz53_6 : wr.cell? ⟨gb439, 6, none⟩ = some (.int .i64 x440006_1) := (blk_cell BK439.out 6).trans rfl
 have hcz53_7 : wr.cell? ⟨gb439, 7, none⟩ = some (.int .i64 x440007_1) := (blk_cell BK439.out 7).trans rfl
 have hcz53_8 : wr.cell? ⟨gb439, 8, none⟩ = some (.int .u64 x440008_1) := (blk_cell BK439.out 8).trans rfl
 have hfz53_0 := blk_frozen BK439.out 0
 have hfz53_1 := blk_frozen BK439.out 1
 have hfz53_2 := blk_frozen BK439.out 2
 have hfz53_3 := blk_frozen BK439.out 3
 have hfz53_4 := blk_frozen BK439.out 4
 have hfz53_5 := blk_frozen BK439.out 5
 have hfz53_6 := blk_frozen BK439.out 6
 have hfz53_7 := blk_frozen BK439.out 7
 have hfz53_8 := blk_frozen BK439.out 8
 go_wp2
 refine bodyPost_ret (results_cell_row rfl _ _ gb439 24 #[.int .i64 (rd x3_1 0), .int .i64 (rd x3_1 1), .int .i64 (rd x3_1 2), .int .i64 (wrap64 ((rd x3_1 3) - 1)), .int .i64 (rd x3_1 4), .int .i64 (wrap64 ((rd x3_1 5) - 1)), .int .i64 (rd x3_1 6), .int .i64 (wrap64 ((rd x3_1 7) - 1)), .int .u64 x460008_2] (0, 0) _ rfl (by (with_reducible repeat (first | refine blk_drewN ?_ _ | refine blk_drew ?_ | refine blk_alloc ?_ _)); refine blk_put (cs := #[.int .i64 (rd x3_1 0), .int .i64 (rd x3_1 1), .int .i64 (rd x3_1 2), .int .i64 (wrap64 ((rd x3_1 3) - 1)), .int .i64 (rd x3_1 4), .int .i64 (wrap64 ((rd x3_1 5) - 1)), .int .i64 (rd x3_1 6), .int .i64 (wrap64 ((rd x3_1 7) - 1)), .int .u64 x440008_1]) ?_ 8 _ rfl; refine blk_put (cs := #[.int .i64 (rd x3_1 0), .int .i64 (rd x3_1 1), .int .i64 (rd x3_1 2), .int .i64 (wrap64 ((rd x3_1 3) - 1)), .int .i64 (rd x3_1 4), .int .i64 (wrap64 ((rd x3_1 5) - 1)), .int .i64 (rd x3_1 6), .int .i64 x440007_1, .int .u64 x440008_1]) ?_ 7 _ rfl; refine blk_put (cs := #[.int .i64 (rd x3_1 0), .int .i64 (rd x3_1 1), .int .i64 (rd x3_1 2), .int .i64 (wrap64 ((rd x3_1 3) - 1)), .int .i64 (rd x3_1 4), .int .i64 (wrap64 ((rd x3_1 5) - 1)), .int .i64 x440006_1, .int .i64 x440007_1, .int .u64 x440008_1]) ?_ 6 _ rfl; refine blk_put (cs := #[.int .i64 (rd x3_1 0), .int .i64 (rd x3_1 1), .int .i64 (rd x3_1 2), .int .i64 (wrap64 ((rd x3_1 3) - 1)), .int .i64 (rd x3_1 4), .int .i64 x440005_1, .int .i64 x440006_1, .int .i64 x440007_1, .int .u64 x440008_1]) ?_ 5 _ rfl; refine blk_put (cs := #[.int .i64 (rd x3_1 0), .int .i64 (rd x3_1 1), .int .i64 (rd x3_1 2), .int .i64 (wrap64 ((rd x3_1 3) - 1)), .int .i64 x440004_1, .int .i64 x440005_1, .int .i64 x440006_1, .int .i64 x440007_1, .int .u64 x440008_1]) ?_ 4 _ rfl; refine blk_put (cs := #[.int .i64 (rd x3_1 0), .int .i64 (rd x3_1 1), .int .i64 (rd x3_1 2), .int .i64 x440003_1, .int .i64 x440004_1, .int .i64 x440005_1, .int .i64 x440006_1, .int .i64 x440007_1, .int .u64 x440008_1]) ?_ 3 _ rfl; refine blk_put (cs := #[.int .i64 (rd x3_1 0), .int .i64 (rd x3_1 1), .int .i64 x440002_1, .int .i64 x440003_1, .int .i64 x440004_1, .int .i64 x440005_1, .int .i64 x440006_1, .int .i64 x440007_1, .int .u64 x440008_1]) ?_ 2 _ rfl; refine blk_put (cs := #[.int .i64 (rd x3_1 0), .int .i64 x440001_1, .int .i64 x440002_1, .int .i64 x440003_1, .int .i64 x440004_1, .int .i64 x440005_1, .int .i64 x440006_1, .int .i64 x440007_1, .int .u64 x440008_1]) ?_ 1 _ rfl; refine blk_put (cs := #[.int .i64 x440000_1, .int .i64 x440001_1, .int .i64 x440002_1, .int .i64 x440003_1, .int .i64 x440004_1, .int .i64 x440005_1, .int .i64 x440006_1, .int .i64 x440007_1, .int .u64 x440008_1]) ?_ 0 _ rfl; (with_reducible repeat (first | refine blk_drewN ?_ _ | refine blk_drew ?_ | refine blk_alloc ?_ _)); exact BK439.out) Try.underlying24 rfl (by kernel_rfl)) rfl ?_
 exact ⟨by first | rfl | (simp [errW_none, errW_some] <;> rfl) | (simp [*, errW_none, errW_some] <;> rfl), by repeat (first | (with_reducible first | exact HB.out | apply below_alloc | apply pw_below_drewN | apply below_drew1 | refine below_set ?_ GE439.out | refine below_set ?_ GE459.out) | exact HB.out)⟩ } ) ) }
 {
 rw [if_neg c27] at H
 exact absurd H (by simp) } }
 {
 rw [if_neg c26] at H
 exact absurd H (by simp) } }
 {
 rw [if_neg c25] at H
 exact absurd H (by simp) } }
 {
 rw [if_neg c24] at H
 exact absurd H (by simp) } }
 {
 rw [if_neg c23] at H
 exact absurd H (by simp) } }
 {
 rw [if_neg c22] at H
 exact absurd H (by simp) } }
 {
 rw [if_neg c21] at H
 exact absurd H (by simp) } }
 {
 rw [if_neg c20] at H
 exact absurd H (by simp) } } ) )
end Go.Proofs.Ytdlinojgmllkoaa.Q

namespace Go.Proofs.Ytdlinojgmllkoaa.Q
open Go.RowKit Go.Proofs.YtdlinojgmllkoaaW.PrintWords Go.Proofs.YtdlinojgmllkoaaW.PrintLast Go.Proofs.YtdlinojgmllkoaaW.PrintMore
attribute [local go_sem] max2_int min2_int max_two min_two max_three min_three max_four min_four   -- for this text's walks alone
set_option linter.unusedVariables false
set_option linter.unusedSimpArgs false

attribute [local irreducible] Calls skiarearef03_Same.f skiarearef03_Unframe.f skiarearef25_Encode.f skiarearef25_Right.f skiarearef25_read.f
def skiarearef25_Decode.f (k : Nat) (l0 : List Int) : Option (Int × Int × Int × Int × Int × Int × Int × Int × Int × Int) := (skiarearef03_Unframe.f k l0).bind fun bt462 => (if bt462.2.2 = 0 then (if bt462.2.1 < (l0.length : Int) then (some (0, 0, 0, 0, 0, 0, 0, 0, 0, 4)) else ((skiarearef25_read.f k bt462.1).bind fun bt467 => ((skiarearef25_Right.f k bt467.1 bt467.2.1 bt467.2.2.1 bt467.2.2.2.1 bt467.2.2.2.2.1 bt467.2.2.2.2.2.1 bt467.2.2.2.2.2.2.1 bt467.2.2.2.2.2.2.2.1 bt467.2.2.2.2.2.2.2.2).bind fun t477 => (if t477 = 0 then ((skiarearef25_Encode.f k bt467.1 bt467.2.1 bt467.2.2.1 bt467.2.2.2.1 bt467.2.2.2.2.1 bt467.2.2.2.2.2.1 bt467.2.2.2.2.2.2.1 bt467.2.2.2.2.2.2.2.1 bt467.2.2.2.2.2.2.2.2).bind fun t478 => ((skiarearef03_Same.f t478 l0).bind fun t481 => (if t481 = true then (some (bt467.1, bt467.2.1, bt467.2.2.1, bt467.2.2.2.1, bt467.2.2.2.2.1, bt467.2.2.2.2.2.1, bt467.2.2.2.2.2.2.1, bt467.2.2.2.2.2.2.2.1, bt467.2.2.2.2.2.2.2.2, 0)) else (some (0, 0, 0, 0, 0, 0, 0, 0, 0, 3))))) else (some (0, 0, 0, 0, 0, 0, 0, 0, 0, 3)))))) else (some (0, 0, 0, 0, 0, 0, 0, 0, 0, bt462.2.2)))
theorem skiarearef25_Decode.mono : ∀ a0 k, LeO (skiarearef25_Decode.f k a0) (skiarearef25_Decode.f (k + 1) a0) := by
  intro a0 k
  unfold skiarearef25_Decode.f
  repeat' first
      | (with_reducible exact skiarearef03_Unframe.mono _ _)
      | (with_reducible exact skiarearef25_Encode.mono _ _ _ _ _ _ _ _ _ _)
      | (with_reducible exact skiarearef25_Right.mono _ _ _ _ _ _ _ _ _ _)
      | (with_reducible exact skiarearef25_read.mono _ _)
      | (with_reducible exact LeO.refl _)
      | (with_reducible exact LeO.none _)
      | (with_reducible refine LeO.ite ?_ ?_)
      | (with_reducible refine LeO.bind ?_ (fun _ => ?_))
      | exact skiarearef03_Unframe.mono _ _
      | exact skiarearef25_Encode.mono _ _ _ _ _ _ _ _ _ _
      | exact skiarearef25_Right.mono _ _ _ _ _ _ _ _ _ _
      | exact skiarearef25_read.mono _ _
      | exact LeO.none _
      | refine LeO.ite ?_ ?_
      | refine LeO.bind ?_ (fun _ => ?_)
set_option maxHeartbeats 8000000 in
set_option maxRecDepth 100000 in
theorem skiarearef25_Decode.calls (k : Nat) (A0 : Option Addr) (c0 : Nat) (l0 : List Int) (r1 : Int) (r2 : Int) (r3 : Int) (r4 : Int) (r5 : Int) (r6 : Int) (r7 : Int) (r8 : Int) (r9 : Int) (r10 : Int) (w : World) (hr0 : Kd.C (Kd.int .u8) w A0 l0.length l0) (hc0 : l0.length ≤ c0) (h : skiarearef25_Decode.f k l0 = some (r1, r2, r3, r4, r5, r6, r7, r8, r9, r10)) :
    Calls Try.prog 25 #[.slice A0 l0.length c0] w fun e w' => e = .returned (.tuple #[.agg #[.int .i64 r1, .int .i64 r2, .int .i64 r3, .int .i64 r4, .int .i64 r5, .int .i64 r6, .int .i64 r7, .int .i64 r8, .int .u64 r9], .int .i64 r10]) ∧ Below w.heap.size w w' := by
  have hu24 := Try.underlying24
  have HR0 := Aside0.mk hr0
  have HC0 := Aside0.mk hc0
  clear hr0 hc0
  have HB := Aside0.mk (Below.refl w.heap.size w)
  have H : ((skiarearef03_Unframe.f k l0).bind fun bt462 => (if bt462.2.2 = 0 then (if bt462.2.1 < (l0.length : Int) then (some (0, 0, 0, 0, 0, 0, 0, 0, 0, 4)) else ((skiarearef25_read.f k bt462.1).bind fun bt467 => ((skiarearef25_Right.f k bt467.1 bt467.2.1 bt467.2.2.1 bt467.2.2.2.1 bt467.2.2.2.2.1 bt467.2.2.2.2.2.1 bt467.2.2.2.2.2.2.1 bt467.2.2.2.2.2.2.2.1 bt467.2.2.2.2.2.2.2.2).bind fun t477 => (if t477 = 0 then ((skiarearef25_Encode.f k bt467.1 bt467.2.1 bt467.2.2.1 bt467.2.2.2.1 bt467.2.2.2.2.1 bt467.2.2.2.2.2.1 bt467.2.2.2.2.2.2.1 bt467.2.2.2.2.2.2.2.1 bt467.2.2.2.2.2.2.2.2).bind fun t478 => ((skiarearef03_Same.f t478 l0).bind fun t481 => (if t481 = true then (some (bt467.1, bt467.2.1, bt467.2.2.1, bt467.2.2.2.1, bt467.2.2.2.2.1, bt467.2.2.2.2.2.1, bt467.2.2.2.2.2.2.1, bt467.2.2.2.2.2.2.2.1, bt467.2.2.2.2.2.2.2.2, 0)) else (some (0, 0, 0, 0, 0, 0, 0, 0, 0, 3))))) else (some (0, 0, 0, 0, 0, 0, 0, 0, 0, 3)))))) else (some (0, 0, 0, 0, 0, 0, 0, 0, 0, bt462.2.2)))) = some (r1, r2, r3, r4, r5, r6, r7, r8, r9, r10) := h
  clear h
  replace H := Option.bind_eq_some_iff.mp H
  obtain ⟨⟨t462, t463, t464⟩, A20, H⟩ := H
  try dsimp only at H
  have A2 := Aside0.mk A20
  clear A20
  by_cases c3 : t464 = 0
  {
 rw [if_pos c3] at H
 have c3b0 : (t464 == 0) = true := beq_iff_eq.mpr c3
 have c3b1 : (t464 != 0) = false := bne_eq_false_iff_eq.mpr c3
 clear c3
 by_cases c4 : t463 < (l0.length : Int)
 {
 rw [if_pos c4] at H
 have c4b0 : decide (t463 < (l0.length : Int)) = true := decide_eq_true c4
 clear c4
 simp only [Option.some.injEq, Prod.mk.injEq] at H
 obtain ⟨rfl, rfl, rfl, rfl, rfl, rfl, rfl, rfl, rfl, rfl⟩ := H
 go_enter Try.func25, Try.ntmps25
 go_wp2_with (first | ((with_reducible refine gate_dst (N := 2) rfl ?_); refine box_event ?hg (N := 2) ?hd (cs := #[.int .i64 0, .int .i64 0, .int .i64 0, .int .i64 0, .int .i64 0, .int .i64 0, .int .i64 0, .int .i64 0, .int .u64 0]) (t := 24) ?hr ?_; (case hd => rfl); (case hg => rfl); (case hr => first | (go_simp; done) | (go_simp; rfl)); intro gb461 hg w5 hbox hb; have n0_ := Aside0.mk (below_step (by repeat (first | (with_reducible first | exact HB.out | apply below_alloc | apply pw_below_drewN | apply below_drew1) | exact HB.out)) hb); have n1_ := Aside0.mk (hbox); have n2_ := Aside0.mk ((by rw [hg]; exact (below_size (by repeat (first | (with_reducible first | exact HB.out | apply below_alloc | apply pw_below_drewN | apply below_drew1) | exact HB.out))) : w.heap.size ≤ gb461)); have n3_ := Aside0.mk ((by rw [hg]; exact (below_size (by repeat (first | (with_reducible first | exact HB.out | apply below_alloc | apply pw_below_drewN | apply below_drew1) | exact HB.out))) : w.heap.size ≤ gb461)); clear HB; have HB := n0_; have BK461 := n1_; have GW461 := n2_; have GE461 := n3_; clear n0_ n1_ n2_ n3_; clear hb hbox hg) | ((with_reducible refine gate_callee (f := 38) rfl ?_); refine goesL_ (some 10) rfl rfl Try.func38 (by kernel_rfl) rfl #[.slice A0 l0.length c0] rfl (by (try simp only [List.map_toArray, List.map_cons, List.map_nil]); first | done | rfl | (simp only [List.length_drop, List.length_take]; rfl)) ?_; (with_reducible refine (skiarearef03_Unframe.calls k _ _ l0 t462 t463 t464 _ ?side1 ?side2 A2.out).mono ?_); (case side1 => repeat (first | exact (Kd.C_below HR0.out HB.out) | (with_reducible refine Kd.C_alloc ?_ _) | (with_reducible refine Kd.C_drewN ?_ _) | (with_reducible refine Kd.C_drew ?_))); (case side2 => exact HC0.out); rintro e w6 ⟨v465, rfl, ho0, hb⟩; refine ⟨_, rfl, ?_⟩; have n0_ := Aside0.mk (Kd.R_lower ho0 (below_size (by repeat (first | (with_reducible first | exact HB.out | apply below_alloc | apply pw_below_drewN | apply below_drew1 | refine below_set ?_ GE461.out) | exact HB.out)))); have n1_ := Aside0.mk (blk_below (g := gb461) (o := .cells #[.int .i64 0, .int .i64 0, .int .i64 0, .int .i64 0, .int .i64 0, .int .i64 0, .int .i64 0, .int .i64 0, .int .u64 0] 24 (0, 0)) (by (with_reducible repeat (first | refine blk_drewN ?_ _ | refine blk_drew ?_ | refine blk_alloc ?_ _)); exact BK461.out) hb); have n2_ := Aside0.mk (below_step (by repeat (first | (with_reducible first | exact HB.out | apply below_alloc | apply pw_below_drewN | apply below_drew1 | refine below_set ?_ GE461.out) | exact HB.out)) hb); clear BK461; clear HB; have HO466 := n0_; have BK461 := n1_; have HB := n2_; clear n0_ n1_ n2_; (try clear hb); (try clear hb2); (try clear hk); (try clear hi); (try clear ho0); have hcz7_0 : w6.cell? ⟨gb461, 0, none⟩ = some (.int .i64 0) := (blk_cell BK461.out 0).trans rfl; have hcz7_1 : w6.cell? ⟨gb461, 1, none⟩ = some (.int .i64 0) := (blk_cell BK461.out 1).trans rfl; have hcz7_2 : w6.cell? ⟨gb461, 2, none⟩ = some (.int .i64 0) := (blk_cell BK461.out 2).trans rfl; have hcz7_3 : w6.cell? ⟨gb461, 3, none⟩ = some (.int .i64 0) := (blk_cell BK461.out 3).trans rfl; have hcz7_4 : w6.cell? ⟨gb461, 4, none⟩ = some (.int .i64 0) := (blk_cell BK461.out 4).trans rfl; have hcz7_5 : w6.cell? ⟨gb461, 5, none⟩ = some (.int .i64 0) := (blk_cell BK461.out 5).trans rfl; have hcz7_6 : w6.cell? ⟨gb461, 6, none⟩ = some (.int .i64 0) := (blk_cell BK461.out 6).trans rfl; have hcz7_7 : w6.cell? ⟨gb461, 7, none⟩ = some (.int .i64 0) := (blk_cell BK461.out 7).trans rfl; have hcz7_8 : w6.cell? ⟨gb461, 8, none⟩ = some (.int .u64 0) := (blk_cell BK461.out 8).trans rfl; have hfz7_0 := blk_frozen BK461.out 0; have hfz7_1 := blk_frozen BK461.out 1; have hfz7_2 := blk_frozen BK461.out 2; have hfz7_3 := blk_frozen BK461.out 3; have hfz7_4 := blk_frozen BK461.out 4; have hfz7_5 := blk_frozen BK461.out 5; have hfz7_6 := blk_frozen BK461.out 6; have hfz7_7 := blk_frozen BK461.out 7; have hfz7_8 := blk_frozen BK461.out 8))
 refine bodyPost_ret (results_ct rfl _ _ gb461 24 #[.int .i64 0, .int .i64 0, .int .i64 0, .int .i64 0, .int .i64 0, .int .i64 0, .int .i64 0, .int .i64 0, .int .u64 0] (0, 0) _ rfl (by (with_reducible repeat (first | refine blk_drewN ?_ _ | refine blk_drew ?_ | refine blk_alloc ?_ _)); refine blk_put (cs := #[.int .i64 0, .int .i64 0, .int .i64 0, .int .i64 0, .int .i64 0, .int .i64 0, .int .i64 0, .int .i64 0, .int .u64 0]) ?_ 8 _ rfl; refine blk_put (cs := #[.int .i64 0, .int .i64 0, .int .i64 0, .int .i64 0, .int .i64 0, .int .i64 0, .int .i64 0, .int .i64 0, .int .u64 0]) ?_ 7 _ rfl; refine blk_put (cs := #[.int .i64 0, .int .i64 0, .int .i64 0, .int .i64 0, .int .i64 0, .int .i64 0, .int .i64 0, .int .i64 0, .int .u64 0]) ?_ 6 _ rfl; refine blk_put (cs := #[.int .i64 0, .int .i64 0, .int .i64 0, .int .i64 0, .int .i64 0, .int .i64 0, .int .i64 0, .int .i64 0, .int .u64 0]) ?_ 5 _ rfl; refine blk_put (cs := #[.int .i64 0, .int .i64 0, .int .i64 0, .int .i64 0, .int .i64 0, .int .i64 0, .int .i64 0, .int .i64 0, .int .u64 0]) ?_ 4 _ rfl; refine blk_put (cs := #[.int .i64 0, .int .i64 0, .int .i64 0, .int .i64 0, .int .i64 0, .int .i64 0, .int .i64 0, .int .i64 0, .int .u64 0]) ?_ 3 _ rfl; refine blk_put (cs := #[.int .i64 0, .int .i64 0, .int .i64 0, .int .i64 0, .int .i64 0, .int .i64 0, .int .i64 0, .int .i64 0, .int .u64 0]) ?_ 2 _ rfl; refine blk_put (cs := #[.int .i64 0, .int .i64 0, .int .i64 0, .int .i64 0, .int .i64 0, .int .i64 0, .int .i64 0, .int .i64 0, .int .u64 0]) ?_ 1 _ rfl; refine blk_put (cs := #[.int .i64 0, .int .i64 0, .int .i64 0, .int .i64 0, .int .i64 0, .int .i64 0, .int .i64 0, .int .i64 0, .int .u64 0]) ?_ 0 _ rfl; (with_reducible repeat (first | refine blk_drewN ?_ _ | refine blk_drew ?_ | refine blk_alloc ?_ _)); exact BK461.out) Try.underlying24 rfl (by kernel_rfl)) rfl ?_
 exact ⟨by first | rfl | (simp [errW_none, errW_some] <;> rfl) | (simp [*, errW_none, errW_some] <;> rfl), by repeat (first | (with_reducible first | exact HB.out | apply below_alloc | apply pw_below_drewN | apply below_drew1 | refine below_set ?_ GE461.out) | exact HB.out)⟩ }
 {
 rw [if_neg c4] at H
 have c4b0 : decide (t463 < (l0.length : Int)) = false := decide_eq_false c4
 clear c4
 replace H := Option.bind_eq_some_iff.mp H
 obtain ⟨⟨t467, t468, t469, t470, t471, t472, t473, t474, t475⟩, A80, H⟩ := H
 try dsimp only at H
 have A8 := Aside0.mk A80
 clear A80
 replace H := Option.bind_eq_some_iff.mp H
 obtain ⟨t477, A90, H⟩ := H
 try dsimp only at H
 have A9 := Aside0.mk A90
 clear A90
 by_cases c10 : t477 = 0
 {
 rw [if_pos c10] at H
 have c10b0 : (t477 == 0) = true := beq_iff_eq.mpr c10
 have c10b1 : (t477 != 0) = false := bne_eq_false_iff_eq.mpr c10
 clear c10
 replace H := Option.bind_eq_some_iff.mp H
 obtain ⟨t478, A110, H⟩ := H
 try dsimp only at H
 have A11 := Aside0.mk A110
 clear A110
 replace H := Option.bind_eq_some_iff.mp H
 obtain ⟨t481, A120, H⟩ := H
 try dsimp only at H
 have A12 := Aside0.mk A120
 clear A120
 by_cases c13 : t481 = true
 {
 subst c13
 have H1 : (some (t467, t468, t469, t470, t471, t472, t473, t474, t475, 0)) = some (r1, r2, r3, r4, r5, r6, r7, r8, r9, r10) := by rw [if_pos rfl] at H; exact H
 clear H
 have H := H1
 clear H1
 simp only [Option.some.injEq, Prod.mk.injEq] at H
 obtain ⟨rfl, rfl, rfl, rfl, rfl, rfl, rfl, rfl, rfl, rfl⟩ := H
 go_enter Try.func25, Try.ntmps25
 go_wp2_with (first | ((with_reducible refine gate_dst (N := 2) rfl ?_); refine box_event ?hg (N := 2) ?hd (cs := #[.int .i64 0, .int .i64 0, .int .i64 0, .int .i64 0, .int .i64 0, .int .i64 0, .int .i64 0, .int .i64 0, .int .u64 0]) (t := 24) ?hr ?_; (case hd => rfl); (case hg => rfl); (case hr => first | (go_simp; done) | (go_simp; rfl)); intro gb461 hg w14 hbox hb; have n0_ := Aside0.mk (below_step (by repeat (first | (with_reducible first | exact HB.out | apply below_alloc | apply pw_below_drewN | apply below_drew1) | exact HB.out)) hb); have n1_ := Aside0.mk (hbox); have n2_ := Aside0.mk ((by rw [hg]; exact (below_size (by repeat (first | (with_reducible first | exact HB.out | apply below_alloc | apply pw_below_drewN | apply below_drew1) | exact HB.out))) : w.heap.size ≤ gb461)); have n3_ := Aside0.mk ((by rw [hg]; exact (below_size (by repeat (first | (with_reducible first | exact HB.out | apply below_alloc | apply pw_below_drewN | apply below_drew1) | exact HB.out))) : w.heap.size ≤ gb461)); clear HB; have HB := n0_; have BK461 := n1_; have GW461 := n2_; have GE461 := n3_; clear n0_ n1_ n2_ n3_; clear hb hbox hg) | ((with_reducible refine gate_callee (f := 38) rfl ?_); refine goesL_ (some 10) rfl rfl Try.func38 (by kernel_rfl) rfl #[.slice A0 l0.length c0] rfl (by (try simp only [List.map_toArray, List.map_cons, List.map_nil]); first | done | rfl | (simp only [List.length_drop, List.length_take]; rfl)) ?_; (with_reducible refine (skiarearef03_Unframe.calls k _ _ l0 t462 t463 t464 _ ?side1 ?side2 A2.out).mono ?_); (case side1 => repeat (first | exact (Kd.C_below HR0.out HB.out) | (with_reducible refine Kd.C_alloc ?_ _) | (with_reducible refine Kd.C_drewN ?_ _) | (with_reducible refine Kd.C_drew ?_))); (case side2 => exact HC0.out); rintro e w15 ⟨v465, rfl, ho0, hb⟩; refine ⟨_, rfl, ?_⟩; have n0_ := Aside0.mk (Kd.R_lower ho0 (below_size (by repeat (first | (with_reducible first | exact HB.out | apply below_alloc | apply pw_below_drewN | apply below_drew1 | refine below_set ?_ GE461.out) | exact HB.out)))); have n1_ := Aside0.mk (blk_below (g := gb461) (o := .cells #[.int .i64 0, .int .i64 0, .int .i64 0, .int .i64 0, .int .i64 0, .int .i64 0, .int .i64 0, .int .i64 0, .int .u64 0] 24 (0, 0)) (by (with_reducible repeat (first | refine blk_drewN ?_ _ | refine blk_drew ?_ | refine blk_alloc ?_ _)); exact BK461.out) hb); have n2_ := Aside0.mk (below_step (by repeat (first | (with_reducible first | exact HB.out | apply below_alloc | apply pw_below_drewN | apply below_drew1 | refine below_set ?_ GE461.out) | exact HB.out)) hb); clear BK461; clear HB; have HO466 := n0_; have BK461 := n1_; have HB := n2_; clear n0_ n1_ n2_; (try clear hb); (try clear hb2); (try clear hk); (try clear hi); (try clear ho0); obtain ⟨Ao16, co16, eo16⟩ := Kd.R_slice HO466.out; subst eo16) | ((with_reducible refine gate_callee (f := 39) rfl ?_); refine goesL_ (some 24) rfl rfl Try.func39 (by kernel_rfl) rfl #[.slice Ao16 t462.length co16] rfl (by (try simp only [List.map_toArray, List.map_cons, List.map_nil]); first | done | rfl | (simp only [List.length_drop, List.length_take]; rfl)) ?_; (with_reducible refine (skiarearef25_read.calls k (fun k_ => some k_ = (.slice Ao16 t462.length co16 : Value).ownBlock) _ _ t462 t467 t468 t469 t470 t471 t472 t473 t474 t475 _ ?side1 A8.out).mono ?_); (case side1 => exact Kd.R_V (Kd.R_tight rfl (Kd.R_types (HO466.out) BK461.out (by decide)))); rintro e w17 ⟨rfl, hb⟩; refine ⟨_, rfl, ?_⟩; have n0_ := Aside0.mk (Kd.R_below (by (with_reducible repeat (first | apply Kd.R_alloc | apply Kd.R_drewN | apply Kd.R_drew)); exact HO466.out) hb); have n1_ := Aside0.mk (blk_below (g := gb461) (o := .cells #[.int .i64 0, .int .i64 0, .int .i64 0, .int .i64 0, .int .i64 0, .int .i64 0, .int .i64 0, .int .i64 0, .int .u64 0] 24 (0, 0)) (by (with_reducible repeat (first | refine blk_drewN ?_ _ | refine blk_drew ?_ | refine blk_alloc ?_ _)); exact BK461.out) hb); have n2_ := Aside0.mk (below_step (by repeat (first | (with_reducible first | exact HB.out | apply below_alloc | apply pw_below_drewN | apply below_drew1 | refine below_set ?_ GE461.out) | exact HB.out)) hb); clear HO466; clear BK461; clear HB; have HO466 := n0_; have BK461 := n1_; have HB := n2_; clear n0_ n1_ n2_; (try clear hb); (try clear hb2); (try clear hk); (try clear hi)) | ((with_reducible refine gate_dst (N := 7) rfl ?_); refine box_event ?hg (N := 7) ?hd (cs := #[.int .i64 0, .int .i64 0, .int .i64 0, .int .i64 0, .int .i64 0, .int .i64 0, .int .i64 0, .int .i64 0, .int .u64 0]) (t := 24) ?hr ?_; (case hd => rfl); (case hg => rfl); (case hr => first | (go_simp; done) | (go_simp; rfl)); intro gb476 hg w18 hbox hb; have n0_ := Aside0.mk (Kd.R_below (by (with_reducible repeat (first | apply Kd.R_alloc | apply Kd.R_drewN | apply Kd.R_drew)); exact HO466.out) hb); have n1_ := Aside0.mk (blk_below (g := gb461) (o := .cells #[.int .i64 0, .int .i64 0, .int .i64 0, .int .i64 0, .int .i64 0, .int .i64 0, .int .i64 0, .int .i64 0, .int .u64 0] 24 (0, 0)) (by (with_reducible repeat (first | refine blk_drewN ?_ _ | refine blk_drew ?_ | refine blk_alloc ?_ _)); exact BK461.out) hb); have n2_ := Aside0.mk (below_step (by repeat (first | (with_reducible first | exact HB.out | apply below_alloc | apply pw_below_drewN | apply below_drew1 | refine below_set ?_ GE461.out) | exact HB.out)) hb); have n3_ := Aside0.mk (hbox); have n4_ := Aside0.mk ((by rw [hg]; exact (below_size (by repeat (first | (with_reducible first | exact HB.out | apply below_alloc | apply pw_below_drewN | apply below_drew1 | refine below_set ?_ GE461.out) | exact HB.out))) : w.heap.size ≤ gb476)); have n5_ := Aside0.mk ((by rw [hg]; exact (below_size (by repeat (first | (with_reducible first | exact HB.out | apply below_alloc | apply pw_below_drewN | apply below_drew1 | refine below_set ?_ GE461.out) | exact HB.out))) : w.heap.size ≤ gb476)); have n6_ := Aside0.mk ((by rw [hg]; exact Nat.ne_of_lt (blk_lt (g := gb461) (o := .cells #[.int .i64 0, .int .i64 0, .int .i64 0, .int .i64 0, .int .i64 0, .int .i64 0, .int .i64 0, .int .i64 0, .int .u64 0] 24 (0, 0)) (by (with_reducible repeat (first | refine blk_drewN ?_ _ | refine blk_drew ?_ | refine blk_alloc ?_ _)); exact BK461.out)) : gb461 ≠ gb476)); have n7_ := Aside0.mk ((by rw [hg]; exact Nat.ne_of_gt (blk_lt (g := gb461) (o := .cells #[.int .i64 0, .int .i64 0, .int .i64 0, .int .i64 0, .int .i64 0, .int .i64 0, .int .i64 0, .int .i64 0, .int .u64 0] 24 (0, 0)) (by (with_reducible repeat (first | refine blk_drewN ?_ _ | refine blk_drew ?_ | refine blk_alloc ?_ _)); exact BK461.out)) : gb476 ≠ gb461)); clear HO466; clear BK461; clear HB; have HO466 := n0_; have BK461 := n1_; have HB := n2_; have BK476 := n3_; have GW476 := n4_; have GE476 := n5_; have NB461_476 := n6_; have NB476_461 := n7_; clear n0_ n1_ n2_ n3_ n4_ n5_ n6_ n7_; clear hb hbox hg; have hnb19 := NB476_461.out; have hnc19 := NB461_476.out; have hcz20_0 : w18.cell? ⟨gb476, 0, none⟩ = some (.int .i64 0) := (blk_cell BK476.out 0).trans rfl; have hcz20_1 : w18.cell? ⟨gb476, 1, none⟩ = some (.int .i64 0) := (blk_cell BK476.out 1).trans rfl; have hcz20_2 : w18.cell? ⟨gb476, 2, none⟩ = some (.int .i64 0) := (blk_cell BK476.out 2).trans rfl; have hcz20_3 : w18.cell? ⟨gb476, 3, none⟩ = some (.int .i64 0) := (blk_cell BK476.out 3).trans rfl; have hcz20_4 : w18.cell? ⟨gb476, 4, none⟩ = some (.int .i64 0) := (blk_cell BK476.out 4).trans rfl; have hcz20_5 : w18.cell? ⟨gb476, 5, none⟩ = some (.int .i64 0) := (blk_cell BK476.out 5).trans rfl; have hcz20_6 : w18.cell? ⟨gb476, 6, none⟩ = some (.int .i64 0) := (blk_cell BK476.out 6).trans rfl; have hcz20_7 : w18.cell? ⟨gb476, 7, none⟩ = some (.int .i64 0) := (blk_cell BK476.out 7).trans rfl; have hcz20_8 : w18.cell? ⟨gb476, 8, none⟩ = some (.int .u64 0) := (blk_cell BK476.out 8).trans rfl; have hfz20_0 := blk_frozen BK476.out 0; have hfz20_1 := blk_frozen BK476.out 1; have hfz20_2 := blk_frozen BK476.out 2; have hfz20_3 := blk_frozen BK476.out 3; have hfz20_4 := blk_frozen BK476.out 4; have hfz20_5 := blk_frozen BK476.out 5; have hfz20_6 := blk_frozen BK476.out 6; have hfz20_7 := blk_frozen BK476.out 7; have hfz20_8 := blk_frozen BK476.out 8) | ((with_reducible refine gate_callee (f := 12) rfl ?_); refine goesL_ (some 26) rfl rfl Try.func12 (by kernel_rfl) rfl #[.agg #[.int .i64 t467, .int .i64 t468, .int .i64 t469, .int .i64 t470, .int .i64 t471, .int .i64 t472, .int .i64 t473, .int .i64 t474, .int .u64 t475]] rfl (by (try simp only [List.map_toArray, List.map_cons, List.map_nil]); first | done | rfl | (simp only [List.length_drop, List.length_take]; rfl)) ?_; (with_reducible refine (skiarearef25_Right.calls k t467 t468 t469 t470 t471 t472 t473 t474 t475 t477 _ A9.out).mono ?_); rintro e w21 ⟨rfl, hb⟩; refine ⟨_, rfl, ?_⟩; have n0_ := Aside0.mk (Kd.R_below (by (with_reducible repeat (first | apply Kd.R_alloc | apply Kd.R_drewN | apply Kd.R_drew)); exact (Kd.R_mono (Kd.R_far (p := ⟨gb476, 8, none⟩) (Kd.R_far (p := ⟨gb476, 7, none⟩) (Kd.R_far (p := ⟨gb476, 6, none⟩) (Kd.R_far (p := ⟨gb476, 5, none⟩) (Kd.R_far (p := ⟨gb476, 4, none⟩) (Kd.R_far (p := ⟨gb476, 3, none⟩) (Kd.R_far (p := ⟨gb476, 2, none⟩) (Kd.R_far (p := ⟨gb476, 1, none⟩) (Kd.R_far (p := ⟨gb476, 0, none⟩) (Kd.R_types HO466.out BK476.out (by decide)) (fun _ hk => hk.2) (.int .i64 t467)) (fun _ hk => hk.2) (.int .i64 t468)) (fun _ hk => hk.2) (.int .i64 t469)) (fun _ hk => hk.2) (.int .i64 t470)) (fun _ hk => hk.2) (.int .i64 t471)) (fun _ hk => hk.2) (.int .i64 t472)) (fun _ hk => hk.2) (.int .i64 t473)) (fun _ hk => hk.2) (.int .i64 t474)) (fun _ hk => hk.2) (.int .u64 t475)) (fun _ h_ => h_.1))) hb); have n1_ := Aside0.mk (blk_below (g := gb461) (o := .cells #[.int .i64 0, .int .i64 0, .int .i64 0, .int .i64 0, .int .i64 0, .int .i64 0, .int .i64 0, .int .i64 0, .int .u64 0] 24 (0, 0)) (by (with_reducible repeat (first | refine blk_drewN ?_ _ | refine blk_drew ?_ | refine blk_alloc ?_ _)); refine blk_far ?_ NB461_476.out _; refine blk_far ?_ NB461_476.out _; refine blk_far ?_ NB461_476.out _; refine blk_far ?_ NB461_476.out _; refine blk_far ?_ NB461_476.out _; refine blk_far ?_ NB461_476.out _; refine blk_far ?_ NB461_476.out _; refine blk_far ?_ NB461_476.out _; refine blk_far ?_ NB461_476.out _; (with_reducible repeat (first | refine blk_drewN ?_ _ | refine blk_drew ?_ | refine blk_alloc ?_ _)); exact BK461.out) hb); have n2_ := Aside0.mk (blk_below (g := gb476) (o := .cells #[.int .i64 t467, .int .i64 t468, .int .i64 t469, .int .i64 t470, .int .i64 t471, .int .i64 t472, .int .i64 t473, .int .i64 t474, .int .u64 t475] 24 (0, 0)) (by (with_reducible repeat (first | refine blk_drewN ?_ _ | refine blk_drew ?_ | refine blk_alloc ?_ _)); refine blk_put (cs := #[.int .i64 t467, .int .i64 t468, .int .i64 t469, .int .i64 t470, .int .i64 t471, .int .i64 t472, .int .i64 t473, .int .i64 t474, .int .u64 0]) ?_ 8 _ rfl; refine blk_put (cs := #[.int .i64 t467, .int .i64 t468, .int .i64 t469, .int .i64 t470, .int .i64 t471, .int .i64 t472, .int .i64 t473, .int .i64 0, .int .u64 0]) ?_ 7 _ rfl; refine blk_put (cs := #[.int .i64 t467, .int .i64 t468, .int .i64 t469, .int .i64 t470, .int .i64 t471, .int .i64 t472, .int .i64 0, .int .i64 0, .int .u64 0]) ?_ 6 _ rfl; refine blk_put (cs := #[.int .i64 t467, .int .i64 t468, .int .i64 t469, .int .i64 t470, .int .i64 t471, .int .i64 0, .int .i64 0, .int .i64 0, .int .u64 0]) ?_ 5 _ rfl; refine blk_put (cs := #[.int .i64 t467, .int .i64 t468, .int .i64 t469, .int .i64 t470, .int .i64 0, .int .i64 0, .int .i64 0, .int .i64 0, .int .u64 0]) ?_ 4 _ rfl; refine blk_put (cs := #[.int .i64 t467, .int .i64 t468, .int .i64 t469, .int .i64 0, .int .i64 0, .int .i64 0, .int .i64 0, .int .i64 0, .int .u64 0]) ?_ 3 _ rfl; refine blk_put (cs := #[.int .i64 t467, .int .i64 t468, .int .i64 0, .int .i64 0, .int .i64 0, .int .i64 0, .int .i64 0, .int .i64 0, .int .u64 0]) ?_ 2 _ rfl; refine blk_put (cs := #[.int .i64 t467, .int .i64 0, .int .i64 0, .int .i64 0, .int .i64 0, .int .i64 0, .int .i64 0, .int .i64 0, .int .u64 0]) ?_ 1 _ rfl; refine blk_put (cs := #[.int .i64 0, .int .i64 0, .int .i64 0, .int .i64 0, .int .i64 0, .int .i64 0, .int .i64 0, .int .i64 0, .int .u64 0]) ?_ 0 _ rfl; (with_reducible repeat (first | refine blk_drewN ?_ _ | refine blk_drew ?_ | refine blk_alloc ?_ _)); exact BK476.out) hb); have n3_ := Aside0.mk (below_step (by repeat (first | (with_reducible first | exact HB.out | apply below_alloc | apply pw_below_drewN | apply below_drew1 | refine below_set ?_ GE461.out | refine below_set ?_ GE476.out) | exact HB.out)) hb); clear HO466; clear BK461; clear BK476; clear HB; have HO466 := n0_; have BK461 := n1_; have BK476 := n2_; have HB := n3_; clear n0_ n1_ n2_ n3_; (try clear hb); (try clear hb2); (try clear hk); (try clear hi); have hcz22_0 : w21.cell? ⟨gb476, 0, none⟩ = some (.int .i64 t467) := (blk_cell BK476.out 0).trans rfl; have hcz22_1 : w21.cell? ⟨gb476, 1, none⟩ = some (.int .i64 t468) := (blk_cell BK476.out 1).trans rfl; have hcz22_2 : w21.cell? ⟨gb476, 2, none⟩ = some (.int .i64 t469) := (blk_cell BK476.out 2).trans rfl; have hcz22_3 : w21.cell? ⟨gb476, 3, none⟩ = some (.int .i64 t470) := (blk_cell BK476.out 3).trans rfl; have hcz22_4 : w21.cell? ⟨gb476, 4, none⟩ = some (.int .i64 t471) := (blk_cell BK476.out 4).trans rfl; have hcz22_5 : w21.cell? ⟨gb476, 5, none⟩ = some (.int .i64 t472) := (blk_cell BK476.out 5).trans rfl; have hcz22_6 : w21.cell? ⟨gb476, 6, none⟩ = some (.int .i64 t473) := (blk_cell BK476.out 6).trans rfl; have hcz22_7 : w21.cell? ⟨gb476, 7, none⟩ = some (.int .i64 t474) := (blk_cell BK476.out 7).trans rfl; have hcz22_8 : w21.cell? ⟨gb476, 8, none⟩ = some (.int .u64 t475) := (blk_cell BK476.out 8).trans rfl; have hfz22_0 := blk_frozen BK476.out 0; have hfz22_1 := blk_frozen BK476.out 1; have hfz22_2 := blk_frozen BK476.out 2; have hfz22_3 := blk_frozen BK476.out 3; have hfz22_4 := blk_frozen BK476.out 4; have hfz22_5 := blk_frozen BK476.out 5; have hfz22_6 := blk_frozen BK476.out 6; have hfz22_7 := blk_frozen BK476.out 7; have hfz22_8 := blk_frozen BK476.out 8) | (go_at_call 23; (with_reducible refine (skiarearef25_Encode.calls k t467 t468 t469 t470 t471 t472 t473 t474 t475 t478 _ A11.out).mono ?_); rintro e w23 ⟨v479, rfl, ho0, hb⟩; have n0_ := Aside0.mk (Kd.R_elder' (by (with_reducible repeat (first | apply Kd.R_alloc | apply Kd.R_drewN | apply Kd.R_drew)); exact HO466.out) (Kd.R_base ho0) hb); have n1_ := Aside0.mk (Kd.R_lower (Kd.R_new' ho0 (Kd.R_lt (by (with_reducible repeat (first | apply Kd.R_alloc | apply Kd.R_drewN | apply Kd.R_drew)); exact HO466.out))) (below_size (by repeat (first | (with_reducible first | exact HB.out | apply below_alloc | apply pw_below_drewN | apply below_drew1 | refine below_set ?_ GE461.out | refine below_set ?_ GE476.out) | exact HB.out)))); have n2_ := Aside0.mk (blk_below (g := gb461) (o := .cells #[.int .i64 0, .int .i64 0, .int .i64 0, .int .i64 0, .int .i64 0, .int .i64 0, .int .i64 0, .int .i64 0, .int .u64 0] 24 (0, 0)) (by (with_reducible repeat (first | refine blk_drewN ?_ _ | refine blk_drew ?_ | refine blk_alloc ?_ _)); exact BK461.out) hb); have n3_ := Aside0.mk (blk_below (g := gb476) (o := .cells #[.int .i64 t467, .int .i64 t468, .int .i64 t469, .int .i64 t470, .int .i64 t471, .int .i64 t472, .int .i64 t473, .int .i64 t474, .int .u64 t475] 24 (0, 0)) (by (with_reducible repeat (first | refine blk_drewN ?_ _ | refine blk_drew ?_ | refine blk_alloc ?_ _)); exact BK476.out) hb); have n4_ := Aside0.mk (below_step (by repeat (first | (with_reducible first | exact HB.out | apply below_alloc | apply pw_below_drewN | apply below_drew1 | refine below_set ?_ GE461.out | refine below_set ?_ GE476.out) | exact HB.out)) hb); clear HO466; clear BK461; clear BK476; clear HB; have HO466 := n0_; have HO480 := n1_; have BK461 := n2_; have BK476 := n3_; have HB := n4_; clear n0_ n1_ n2_ n3_ n4_; (try clear hb); (try clear hb2); (try clear hk); (try clear hi); (try clear ho0); obtain ⟨Ao24, co24, eo24⟩ := Kd.R_slice HO480.out; subst eo24) | (go_at_call 18; (with_reducible refine (skiarearef03_Same.calls _ _ t478 _ _ l0 true _ ?side1 ?side2 ?side3 ?side4 A12.out).mono ?_); (case side1 => repeat (first | exact (Kd.R_reads' HO480.out).2.2 | (with_reducible refine Kd.C_alloc ?_ _) | (with_reducible refine Kd.C_drewN ?_ _) | (with_reducible refine Kd.C_drew ?_))); (case side2 => exact (Kd.R_reads' HO480.out).2.1); (case side3 => repeat (first | exact (Kd.C_below HR0.out HB.out) | (with_reducible refine Kd.C_alloc ?_ _) | (with_reducible refine Kd.C_drewN ?_ _) | (with_reducible refine Kd.C_drew ?_))); (case side4 => exact HC0.out); rintro e w' ⟨rfl, ⟨nd, rfl⟩⟩; (try (rw [drewN_self w23]; generalize hq_ : World.drewN w23 _ = w23; have n0_ : Aside0 (Kd.R (Kd.int .u8) 5 w23 w.heap.size (fun k_ => some k_ ≠ (.slice Ao24 t478.length co24 : Value).ownBlock) (.slice Ao16 t462.length co16) t462) := ⟨by rw [← hq_]; exact (by (with_reducible repeat (first | apply Kd.R_alloc | apply Kd.R_drewN | apply Kd.R_drew)); exact Kd.R_mono HO466.out (fun _ hk => hk.2))⟩; have n1_ : Aside0 (Kd.R (Kd.int .u8) 5 w23 w.heap.size (fun k_ => some k_ ≠ (.slice Ao16 t462.length co16 : Value).ownBlock) (.slice Ao24 t478.length co24) t478) := ⟨by rw [← hq_]; exact (by (with_reducible repeat (first | apply Kd.R_alloc | apply Kd.R_drewN | apply Kd.R_drew)); exact Kd.R_mono HO480.out (fun _ hk => hk.2))⟩; have n2_ : Aside0 (w23.heap[gb461]? = some (.cells #[.int .i64 0, .int .i64 0, .int .i64 0, .int .i64 0, .int .i64 0, .int .i64 0, .int .i64 0, .int .i64 0, .int .u64 0] 24 (0, 0))) := ⟨by rw [← hq_]; exact (by (with_reducible repeat (first | refine blk_drewN ?_ _ | refine blk_drew ?_ | refine blk_alloc ?_ _)); exact BK461.out)⟩; have n3_ : Aside0 (w23.heap[gb476]? = some (.cells #[.int .i64 t467, .int .i64 t468, .int .i64 t469, .int .i64 t470, .int .i64 t471, .int .i64 t472, .int .i64 t473, .int .i64 t474, .int .u64 t475] 24 (0, 0))) := ⟨by rw [← hq_]; exact (by (with_reducible repeat (first | refine blk_drewN ?_ _ | refine blk_drew ?_ | refine blk_alloc ?_ _)); exact BK476.out)⟩; have n4_ : Aside0 (Below w.heap.size w w23) := ⟨by rw [← hq_]; exact (by repeat (first | (with_reducible first | exact HB.out | apply below_alloc | apply pw_below_drewN | apply below_drew1 | refine below_set ?_ GE461.out | refine below_set ?_ GE476.out) | exact HB.out))⟩; clear HO466 HO480 BK461 BK476 HB hq_; have HO466 := n0_; have HO480 := n1_; have BK461 := n2_; have BK476 := n3_; have HB := n4_; clear n0_ n1_ n2_ n3_ n4_)); have hcz25_0 : w23.cell? ⟨gb476, 0, none⟩ = some (.int .i64 t467) := (blk_cell BK476.out 0).trans rfl; have hcz25_1 : w23.cell? ⟨gb476, 1, none⟩ = some (.int .i64 t468) := (blk_cell BK476.out 1).trans rfl; have hcz25_2 : w23.cell? ⟨gb476, 2, none⟩ = some (.int .i64 t469) := (blk_cell BK476.out 2).trans rfl; have hcz25_3 : w23.cell? ⟨gb476, 3, none⟩ = some (.int .i64 t470) := (blk_cell BK476.out 3).trans rfl; have hcz25_4 : w23.cell? ⟨gb476, 4, none⟩ = some (.int .i64 t471) := (blk_cell BK476.out 4).trans rfl; have hcz25_5 : w23.cell? ⟨gb476, 5, none⟩ = some (.int .i64 t472) := (blk_cell BK476.out 5).trans rfl; have hcz25_6 : w23.cell? ⟨gb476, 6, none⟩ = some (.int .i64 t473) := (blk_cell BK476.out 6).trans rfl; have hcz25_7 : w23.cell? ⟨gb476, 7, none⟩ = some (.int .i64 t474) := (blk_cell BK476.out 7).trans rfl; have hcz25_8 : w23.cell? ⟨gb476, 8, none⟩ = some (.int .u64 t475) := (blk_cell BK476.out 8).trans rfl; have hfz25_0 := blk_frozen BK476.out 0; have hfz25_1 := blk_frozen BK476.out 1; have hfz25_2 := blk_frozen BK476.out 2; have hfz25_3 := blk_frozen BK476.out 3; have hfz25_4 := blk_frozen BK476.out 4; have hfz25_5 := blk_frozen BK476.out 5; have hfz25_6 := blk_frozen BK476.out 6; have hfz25_7 := blk_frozen BK476.out 7; have hfz25_8 := blk_frozen BK476.out 8; have hcz26_0 : w23.cell? ⟨gb461, 0, none⟩ = some (.int .i64 0) := (blk_cell BK461.out 0).trans rfl; have hcz26_1 : w23.cell? ⟨gb461, 1, none⟩ = some (.int .i64 0) := (blk_cell BK461.out 1).trans rfl; have hcz26_2 : w23.cell? ⟨gb461, 2, none⟩ = some (.int .i64 0) := (blk_cell BK461.out 2).trans rfl; have hcz26_3 : w23.cell? ⟨gb461, 3, none⟩ = some (.int .i64 0) := (blk_cell BK461.out 3).trans rfl; have hcz26_4 : w23.cell? ⟨gb461, 4, none⟩ = some (.int .i64 0) := (blk_cell BK461.out 4).trans rfl; have hcz26_5 : w23.cell? ⟨gb461, 5, none⟩ = some (.int .i64 0) := (blk_cell BK461.out 5).trans rfl; have hcz26_6 : w23.cell? ⟨gb461, 6, none⟩ = some (.int .i64 0) := (blk_cell BK461.out 6).trans rfl; have hcz26_7 : w23.cell? ⟨gb461, 7, none⟩ = some (.int .i64 0) := (blk_cell BK461.out 7).trans rfl; have hcz26_8 : w23.cell? ⟨gb461, 8, none⟩ = some (.int .u64 0) := (blk_cell BK461.out 8).trans rfl; have hfz26_0 := blk_frozen BK461.out 0; have hfz26_1 := blk_frozen BK461.out 1; have hfz26_2 := blk_frozen BK461.out 2; have hfz26_3 := blk_frozen BK461.out 3; have hfz26_4 := blk_frozen BK461.out 4; have hfz26_5 := blk_frozen BK461.out 5; have hfz26_6 := blk_frozen BK461.out 6; have hfz26_7 := blk_frozen BK461.out 7; have hfz26_8 := blk_frozen BK461.out 8))
 refine bodyPost_ret (results_ct rfl _ _ gb461 24 #[.int .i64 t467, .int .i64 t468, .int .i64 t469, .int .i64 t470, .int .i64 t471, .int .i64 t472, .int .i64 t473, .int .i64 t474, .int .u64 t475] (0, 0) _ rfl (by (with_reducible repeat (first | refine blk_drewN ?_ _ | refine blk_drew ?_ | refine blk_alloc ?_ _)); refine blk_put (cs := #[.int .i64 t467, .int .i64 t468, .int .i64 t469, .int .i64 t470, .int .i64 t471, .int .i64 t472, .int .i64 t473, .int .i64 t474, .int .u64 0]) ?_ 8 _ rfl; refine blk_put (cs := #[.int .i64 t467, .int .i64 t468, .int .i64 t469, .int .i64 t470, .int .i64 t471, .int .i64 t472, .int .i64 t473, .int .i64 0, .int .u64 0]) ?_ 7 _ rfl; refine blk_put (cs := #[.int .i64 t467, .int .i64 t468, .int .i64 t469, .int .i64 t470, .int .i64 t471, .int .i64 t472, .int .i64 0, .int .i64 0, .int .u64 0]) ?_ 6 _ rfl; refine blk_put (cs := #[.int .i64 t467, .int .i64 t468, .int .i64 t469, .int .i64 t470, .int .i64 t471, .int .i64 0, .int .i64 0, .int .i64 0, .int .u64 0]) ?_ 5 _ rfl; refine blk_put (cs := #[.int .i64 t467, .int .i64 t468, .int .i64 t469, .int .i64 t470, .int .i64 0, .int .i64 0, .int .i64 0, .int .i64 0, .int .u64 0]) ?_ 4 _ rfl; refine blk_put (cs := #[.int .i64 t467, .int .i64 t468, .int .i64 t469, .int .i64 0, .int .i64 0, .int .i64 0, .int .i64 0, .int .i64 0, .int .u64 0]) ?_ 3 _ rfl; refine blk_put (cs := #[.int .i64 t467, .int .i64 t468, .int .i64 0, .int .i64 0, .int .i64 0, .int .i64 0, .int .i64 0, .int .i64 0, .int .u64 0]) ?_ 2 _ rfl; refine blk_put (cs := #[.int .i64 t467, .int .i64 0, .int .i64 0, .int .i64 0, .int .i64 0, .int .i64 0, .int .i64 0, .int .i64 0, .int .u64 0]) ?_ 1 _ rfl; refine blk_put (cs := #[.int .i64 0, .int .i64 0, .int .i64 0, .int .i64 0, .int .i64 0, .int .i64 0, .int .i64 0, .int .i64 0, .int .u64 0]) ?_ 0 _ rfl; (with_reducible repeat (first | refine blk_drewN ?_ _ | refine blk_drew ?_ | refine blk_alloc ?_ _)); exact BK461.out) Try.underlying24 rfl (by kernel_rfl)) rfl ?_
 exact ⟨by first | rfl | (simp [errW_none, errW_some] <;> rfl) | (simp [*, errW_none, errW_some] <;> rfl), by repeat (first | (with_reducible first | exact HB.out | apply below_alloc | apply pw_below_drewN | apply below_drew1 | refine below_set ?_ GE461.out | refine below_set ?_ GE476.out) | exact HB.out)⟩ }
 {
 replace c13 := Bool.eq_false_iff.mpr c13
 subst c13
 have H1 : (some (0, 0, 0, 0, 0, 0, 0, 0, 0, 3)) = some (r1, r2, r3, r4, r5, r6, r7, r8, r9, r10) := by rw [if_neg (show ¬ (false = true) by decide)] at H; exact H
 clear H
 have H := H1
 clear H1
 simp only [Option.some.injEq, Prod.mk.injEq] at H
 obtain ⟨rfl, rfl, rfl, rfl, rfl, rfl, rfl, rfl, rfl, rfl⟩ := H
 go_enter Try.func25, Try.ntmps25
 go_wp2_with (first | ((with_reducible refine gate_dst (N := 2) rfl ?_); refine box_event ?hg (N := 2) ?hd (cs := #[.int .i64 0, .int .i64 0, .int .i64 0, .int .i64 0, .int .i64 0, .int .i64 0, .int .i64 0, .int .i64 0, .int .u64 0]) (t := 24) ?hr ?_; (case hd => rfl); (case hg => rfl); (case hr => first | (go_simp; done) | (go_simp; rfl)); intro gb461 hg w27 hbox hb; have n0_ := Aside0.mk (below_step (by repeat (first | (with_reducible first | exact HB.out | apply below_alloc | apply pw_below_drewN | apply below_drew1) | exact HB.out)) hb); have n1_ := Aside0.mk (hbox); have n2_ := Aside0.mk ((by rw [hg]; exact (below_size (by repeat (first | (with_reducible first | exact HB.out | apply below_alloc | apply pw_below_drewN | apply below_drew1) | exact HB.out))) : w.heap.size ≤ gb461)); have n3_ := Aside0.mk ((by rw [hg]; exact (below_size (by repeat (first | (with_reducible first | exact HB.out | apply below_alloc | apply pw_below_drewN | apply below_drew1) | exact HB.out))) : w.heap.size ≤ gb461)); clear HB; have HB := n0_; have BK461 := n1_; have GW461 := n2_; have GE461 := n3_; clear n0_ n1_ n2_ n3_; clear hb hbox hg) | ((with_reducible refine gate_callee (f := 38) rfl ?_); refine goesL_ (some 10) rfl rfl Try.func38 (by kernel_rfl) rfl #[.slice A0 l0.length c0] rfl (by (try simp only [List.map_toArray, List.map_cons, List.map_nil]); first | done | rfl | (simp only [List.length_drop, List.length_take]; rfl)) ?_; (with_reducible refine (skiarearef03_Unframe.calls k _ _ l0 t462 t463 t464 _ ?side1 ?side2 A2.out).mono ?_); (case side1 => repeat (first | exact (Kd.C_below HR0.out HB.out) | (with_reducible refine Kd.C_alloc ?_ _) | (with_reducible refine Kd.C_drewN ?_ _) | (with_reducible refine Kd.C_drew ?_))); (case side2 => exact HC0.out); rintro e w28 ⟨v465, rfl, ho0, hb⟩; refine ⟨_, rfl, ?_⟩; have n0_ := Aside0.mk (Kd.R_lower ho0 (below_size (by repeat (first | (with_reducible first | exact HB.out | apply below_alloc | apply pw_below_drewN | apply below_drew1 | refine below_set ?_ GE461.out) | exact HB.out)))); have n1_ := Aside0.mk (blk_below (g := gb461) (o := .cells #[.int .i64 0, .int .i64 0, .int .i64 0, .int .i64 0, .int .i64 0, .int .i64 0, .int .i64 0, .int .i64 0, .int .u64 0] 24 (0, 0)) (by (with_reducible repeat (first | refine blk_drewN ?_ _ | refine blk_drew ?_ | refine blk_alloc ?_ _)); exact BK461.out) hb); have n2_ := Aside0.mk (below_step (by repeat (first | (with_reducible first | exact HB.out | apply below_alloc | apply pw_below_drewN | apply below_drew1 | refine below_set ?_ GE461.out) | exact HB.out)) hb); clear BK461; clear HB; have HO466 := n0_; have BK461 := n1_; have HB := n2_; clear n0_ n1_ n2_; (try clear hb); (try clear hb2); (try clear hk); (try clear hi); (try clear ho0); obtain ⟨Ao29, co29, eo29⟩ := Kd.R_slice HO466.out; subst eo29) | ((with_reducible refine gate_callee (f := 39) rfl ?_); refine goesL_ (some 24) rfl rfl Try.func39 (by kernel_rfl) rfl #[.slice Ao29 t462.length co29] rfl (by (try simp only [List.map_toArray, List.map_cons, List.map_nil]); first | done | rfl | (simp only [List.length_drop, List.length_take]; rfl)) ?_; (with_reducible refine (skiarearef25_read.calls k (fun k_ => some k_ = (.slice Ao29 t462.length co29 : Value).ownBlock) _ _ t462 t467 t468 t469 t470 t471 t472 t473 t474 t475 _ ?side1 A8.out).mono ?_); (case side1 => exact Kd.R_V (Kd.R_tight rfl (Kd.R_types (HO466.out) BK461.out (by decide)))); rintro e w30 ⟨rfl, hb⟩; refine ⟨_, rfl, ?_⟩; have n0_ := Aside0.mk (Kd.R_below (by (with_reducible repeat (first | apply Kd.R_alloc | apply Kd.R_drewN | apply Kd.R_drew)); exact HO466.out) hb); have n1_ := Aside0.mk (blk_below (g := gb461) (o := .cells #[.int .i64 0, .int .i64 0, .int .i64 0, .int .i64 0, .int .i64 0, .int .i64 0, .int .i64 0, .int .i64 0, .int .u64 0] 24 (0, 0)) (by (with_reducible repeat (first | refine blk_drewN ?_ _ | refine blk_drew ?_ | refine blk_alloc ?_ _)); exact BK461.out) hb); have n2_ := Aside0.mk (below_step (by repeat (first | (with_reducible first | exact HB.out | apply below_alloc | apply pw_below_drewN | apply below_drew1 | refine below_set ?_ GE461.out) | exact HB.out)) hb); clear HO466; clear BK461; clear HB; have HO466 := n0_; have BK461 := n1_; have HB := n2_; clear n0_ n1_ n2_; (try clear hb); (try clear hb2); (try clear hk); (try clear hi)) | ((with_reducible refine gate_dst (N := 7) rfl ?_); refine box_event ?hg (N := 7) ?hd (cs := #[.int .i64 0, .int .i64 0, .int .i64 0, .int .i64 0, .int .i64 0, .int .i64 0, .int .i64 0, .int .i64 0, .int .u64 0]) (t := 24) ?hr ?_; (case hd => rfl); (case hg => rfl); (case hr => first | (go_simp; done) | (go_simp; rfl)); intro gb476 hg w31 hbox hb; have n0_ := Aside0.mk (Kd.R_below (by (with_reducible repeat (first | apply Kd.R_alloc | apply Kd.R_drewN | apply Kd.R_drew)); exact HO466.out) hb); have n1_ := Aside0.mk (blk_below (g := gb461) (o := .cells #[.int .i64 0, .int .i64 0, .int .i64 0, .int .i64 0, .int .i64 0, .int .i64 0, .int .i64 0, .int .i64 0, .int .u64 0] 24 (0, 0)) (by (with_reducible repeat (first | refine blk_drewN ?_ _ | refine blk_drew ?_ | refine blk_alloc ?_ _)); exact BK461.out) hb); have n2_ := Aside0.mk (below_step (by repeat (first | (with_reducible first | exact HB.out | apply below_alloc | apply pw_below_drewN | apply below_drew1 | refine below_set ?_ GE461.out) | exact HB.out)) hb); have n3_ := Aside0.mk (hbox); have n4_ := Aside0.mk ((by rw [hg]; exact (below_size (by repeat (first | (with_reducible first | exact HB.out | apply below_alloc | apply pw_below_drewN | apply below_drew1 | refine below_set ?_ GE461.out) | exact HB.out))) : w.heap.size ≤ gb476)); have n5_ := Aside0.mk ((by rw [hg]; exact (below_size (by repeat (first | (with_reducible first | exact HB.out | apply below_alloc | apply pw_below_drewN | apply below_drew1 | refine below_set ?_ GE461.out) | exact HB.out))) : w.heap.size ≤ gb476)); have n6_ := Aside0.mk ((by rw [hg]; exact Nat.ne_of_lt (blk_lt (g := gb461) (o := .cells #[.int .i64 0, .int .i64 0, .int .i64 0, .int .i64 0, .int .i64 0, .int .i64 0, .int .i64 0, .int .i64 0, .int .u64 0] 24 (0, 0)) (by (with_reducible repeat (first | refine blk_drewN ?_ _ | refine blk_drew ?_ | refine blk_alloc ?_ _)); exact BK461.out)) : gb461 ≠ gb476)); have n7_ := Aside0.mk ((by rw [hg]; exact Nat.ne_of_gt (blk_lt (g := gb461) (o := .cells #[.int .i64 0, .int .i64 0, .int .i64 0, .int .i64 0, .int .i64 0, .int .i64 0, .int .i64 0, .int .i64 0, .int .u64 0] 24 (0, 0)) (by (with_reducible repeat (first | refine blk_drewN ?_ _ | refine blk_drew ?_ | refine blk_alloc ?_ _)); exact BK461.out)) : gb476 ≠ gb461)); clear HO466; clear BK461; clear HB; have HO466 := n0_; have BK461 := n1_; have HB := n2_; have BK476 := n3_; have GW476 := n4_; have GE476 := n5_; have NB461_476 := n6_; have NB476_461 := n7_; clear n0_ n1_ n2_ n3_ n4_ n5_ n6_ n7_; clear hb hbox hg; have hnb32 := NB476_461.out; have hnc32 := NB461_476.out; have hcz33_0 : w31.cell? ⟨gb476, 0, none⟩ = some (.int .i64 0) := (blk_cell BK476.out 0).trans rfl; have hcz33_1 : w31.cell? ⟨gb476, 1, none⟩ = some (.int .i64 0) := (blk_cell BK476.out 1).trans rfl; have hcz33_2 : w31.cell? ⟨gb476, 2, none⟩ = some (.int .i64 0) := (blk_cell BK476.out 2).trans rfl; have hcz33_3 : w31.cell? ⟨gb476, 3, none⟩ = some (.int .i64 0) := (blk_cell BK476.out 3).trans rfl; have hcz33_4 : w31.cell? ⟨gb476, 4, none⟩ = some (.int .i64 0) := (blk_cell BK476.out 4).trans rfl; have hcz33_5 : w31.cell? ⟨gb476, 5, none⟩ = some (.int .i64 0) := (blk_cell BK476.out 5).trans rfl; have hcz33_6 : w31.cell? ⟨gb476, 6, none⟩ = some (.int .i64 0) := (blk_cell BK476.out 6).trans rfl; have hcz33_7 : w31.cell? ⟨gb476, 7, none⟩ = some (.int .i64 0) := (blk_cell BK476.out 7).trans rfl; have hcz33_8 : w31.cell? ⟨gb476, 8, none⟩ = some (.int .u64 0) := (blk_cell BK476.out 8).trans rfl; have hfz33_0 := blk_frozen BK476.out 0; have hfz33_1 := blk_frozen BK476.out 1; have hfz33_2 := blk_frozen BK476.out 2; have hfz33_3 := blk_frozen BK476.out 3; have hfz33_4 := blk_frozen BK476.out 4; have hfz33_5 := blk_frozen BK476.out 5; have hfz33_6 := blk_frozen BK476.out 6; have hfz33_7 := blk_frozen BK476.out 7; have hfz33_8 := blk_frozen BK476.out 8) | ((with_reducible refine gate_callee (f := 12) rfl ?_); refine goesL_ (some 26) rfl rfl Try.func12 (by kernel_rfl) rfl #[.agg #[.int .i64 t467, .int .i64 t468, .int .i64 t469, .int .i64 t470, .int .i64 t471, .int .i64 t472, .int .i64 t473, .int .i64 t474, .int .u64 t475]] rfl (by (try simp only [List.map_toArray, List.map_cons, List.map_nil]); first | done | rfl | (simp only [List.length_drop, List.length_take]; rfl)) ?_; (with_reducible refine (skiarearef25_Right.calls k t467 t468 t469 t470 t471 t472 t473 t474 t475 t477 _ A9.out).mono ?_); rintro e w34 ⟨rfl, hb⟩; refine ⟨_, rfl, ?_⟩; have n0_ := Aside0.mk (Kd.R_below (by (with_reducible repeat (first | apply Kd.R_alloc | apply Kd.R_drewN | apply Kd.R_drew)); exact (Kd.R_mono (Kd.R_far (p := ⟨gb476, 8, none⟩) (Kd.R_far (p := ⟨gb476, 7, none⟩) (Kd.R_far (p := ⟨gb476, 6, none⟩) (Kd.R_far (p := ⟨gb476, 5, none⟩) (Kd.R_far (p := ⟨gb476, 4, none⟩) (Kd.R_far (p := ⟨gb476, 3, none⟩) (Kd.R_far (p := ⟨gb476, 2, none⟩) (Kd.R_far (p := ⟨gb476, 1, none⟩) (Kd.R_far (p := ⟨gb476, 0, none⟩) (Kd.R_types HO466.out BK476.out (by decide)) (fun _ hk => hk.2) (.int .i64 t467)) (fun _ hk => hk.2) (.int .i64 t468)) (fun _ hk => hk.2) (.int .i64 t469)) (fun _ hk => hk.2) (.int .i64 t470)) (fun _ hk => hk.2) (.int .i64 t471)) (fun _ hk => hk.2) (.int .i64 t472)) (fun _ hk => hk.2) (.int .i64 t473)) (fun _ hk => hk.2) (.int .i64 t474)) (fun _ hk => hk.2) (.int .u64 t475)) (fun _ h_ => h_.1))) hb); have n1_ := Aside0.mk (blk_below (g := gb461) (o := .cells #[.int .i64 0, .int .i64 0, .int .i64 0, .int .i64 0, .int .i64 0, .int .i64 0, .int .i64 0, .int .i64 0, .int .u64 0] 24 (0, 0)) (by (with_reducible repeat (first | refine blk_drewN ?_ _ | refine blk_drew ?_ | refine blk_alloc ?_ _)); refine blk_far ?_ NB461_476.out _; refine blk_far ?_ NB461_476.out _; refine blk_far ?_ NB461_476.out _; refine blk_far ?_ NB461_476.out _; refine blk_far ?_ NB461_476.out _; refine blk_far ?_ NB461_476.out _; refine blk_far ?_ NB461_476.out _; refine blk_far ?_ NB461_476.out _; refine blk_far ?_ NB461_476.out _; (with_reducible repeat (first | refine blk_drewN ?_ _ | refine blk_drew ?_ | refine blk_alloc ?_ _)); exact BK461.out) hb); have n2_ := Aside0.mk (blk_below (g := gb476) (o := .cells #[.int .i64 t467, .int .i64 t468, .int .i64 t469, .int .i64 t470, .int .i64 t471, .int .i64 t472, .int .i64 t473, .int .i64 t474, .int .u64 t475] 24 (0, 0)) (by (with_reducible repeat (first | refine blk_drewN ?_ _ | refine blk_drew ?_ | refine blk_alloc ?_ _)); refine blk_put (cs := #[.int .i64 t467, .int .i64 t468, .int .i64 t469, .int .i64 t470, .int .i64 t471, .int .i64 t472, .int .i64 t473, .int .i64 t474, .int .u64 0]) ?_ 8 _ rfl; refine blk_put (cs := #[.int .i64 t467, .int .i64 t468, .int .i64 t469, .int .i64 t470, .int .i64 t471, .int .i64 t472, .int .i64 t473, .int .i64 0, .int .u64 0]) ?_ 7 _ rfl; refine blk_put (cs := #[.int .i64 t467, .int .i64 t468, .int .i64 t469, .int .i64 t470, .int .i64 t471, .int .i64 t472, .int .i64 0, .int .i64 0, .int .u64 0]) ?_ 6 _ rfl; refine blk_put (cs := #[.int .i64 t467, .int .i64 t468, .int .i64 t469, .int .i64 t470, .int .i64 t471, .int .i64 0, .int .i64 0, .int .i64 0, .int .u64 0]) ?_ 5 _ rfl; refine blk_put (cs := #[.int .i64 t467, .int .i64 t468, .int .i64 t469, .int .i64 t470, .int .i64 0, .int .i64 0, .int .i64 0, .int .i64 0, .int .u64 0]) ?_ 4 _ rfl; refine blk_put (cs := #[.int .i64 t467, .int .i64 t468, .int .i64 t469, .int .i64 0, .int .i64 0, .int .i64 0, .int .i64 0, .int .i64 0, .int .u64 0]) ?_ 3 _ rfl; refine blk_put (cs := #[.int .i64 t467, .int .i64 t468, .int .i64 0, .int .i64 0, .int .i64 0, .int .i64 0, .int .i64 0, .int .i64 0, .int .u64 0]) ?_ 2 _ rfl; refine blk_put (cs := #[.int .i64 t467, .int .i64 0, .int .i64 0, .int .i64 0, .int .i64 0, .int .i64 0, .int .i64 0, .int .i64 0, .int .u64 0]) ?_ 1 _ rfl; refine blk_put (cs := #[.int .i64 0, .int .i64 0, .int .i64 0, .int .i64 0, .int .i64 0, .int .i64 0, .int .i64 0, .int .i64 0, .int .u64 0]) ?_ 0 _ rfl; (with_reducible repeat (first | refine blk_drewN ?_ _ | refine blk_drew ?_ | refine blk_alloc ?_ _)); exact BK476.out) hb); have n3_ := Aside0.mk (below_step (by repeat (first | (with_reducible first | exact HB.out | apply below_alloc | apply pw_below_drewN | apply below_drew1 | refine below_set ?_ GE461.out | refine below_set ?_ GE476.out) | exact HB.out)) hb); clear HO466; clear BK461; clear BK476; clear HB; have HO466 := n0_; have BK461 := n1_; have BK476 := n2_; have HB := n3_; clear n0_ n1_ n2_ n3_; (try clear hb); (try clear hb2); (try clear hk); (try clear hi); have hcz35_0 : w34.cell? ⟨gb476, 0, none⟩ = some (.int .i64 t467) := (blk_cell BK476.out 0).trans rfl; have hcz35_1 : w34.cell? ⟨gb476, 1, none⟩ = some (.int .i64 t468) := (blk_cell BK476.out 1).trans rfl; have hcz35_2 : w34.cell? ⟨gb476, 2, none⟩ = some (.int .i64 t469) := (blk_cell BK476.out 2).trans rfl; have hcz35_3 : w34.cell? ⟨gb476, 3, none⟩ = some (.int .i64 t470) := (blk_cell BK476.out 3).trans rfl; have hcz35_4 : w34.cell? ⟨gb476, 4, none⟩ = some (.int .i64 t471) := (blk_cell BK476.out 4).trans rfl; have hcz35_5 : w34.cell? ⟨gb476, 5, none⟩ = some (.int .i64 t472) := (blk_cell BK476.out 5).trans rfl; have hcz35_6 : w34.cell? ⟨gb476, 6, none⟩ = some (.int .i64 t473) := (blk_cell BK476.out 6).trans rfl; have hcz35_7 : w34.cell? ⟨gb476, 7, none⟩ = some (.int .i64 t474) := (blk_cell BK476.out 7).trans rfl; have hcz35_8 : w34.cell? ⟨gb476, 8, none⟩ = some (.int .u64 t475) := (blk_cell BK476.out 8).trans rfl; have hfz35_0 := blk_frozen BK476.out 0; have hfz35_1 := blk_frozen BK476.out 1; have hfz35_2 := blk_frozen BK476.out 2; have hfz35_3 := blk_frozen BK476.out 3; have hfz35_4 := blk_frozen BK476.out 4; have hfz35_5 := blk_frozen BK476.out 5; have hfz35_6 := blk_frozen BK476.out 6; have hfz35_7 := blk_frozen BK476.out 7; have hfz35_8 := blk_frozen BK476.out 8) | (go_at_call 23; (with_reducible refine (skiarearef25_Encode.calls k t467 t468 t469 t470 t471 t472 t473 t474 t475 t478 _ A11.out).mono ?_); rintro e w36 ⟨v479, rfl, ho0, hb⟩; have n0_ := Aside0.mk (Kd.R_elder' (by (with_reducible repeat (first | apply Kd.R_alloc | apply Kd.R_drewN | apply Kd.R_drew)); exact HO466.out) (Kd.R_base ho0) hb); have n1_ := Aside0.mk (Kd.R_lower (Kd.R_new' ho0 (Kd.R_lt (by (with_reducible repeat (first | apply Kd.R_alloc | apply Kd.R_drewN | apply Kd.R_drew)); exact HO466.out))) (below_size (by repeat (first | (with_reducible first | exact HB.out | apply below_alloc | apply pw_below_drewN | apply below_drew1 | refine below_set ?_ GE461.out | refine below_set ?_ GE476.out) | exact HB.out)))); have n2_ := Aside0.mk (blk_below (g := gb461) (o := .cells #[.int .i64 0, .int .i64 0, .int .i64 0, .int .i64 0, .int .i64 0, .int .i64 0, .int .i64 0, .int .i64 0, .int .u64 0] 24 (0, 0)) (by (with_reducible repeat (first | refine blk_drewN ?_ _ | refine blk_drew ?_ | refine blk_alloc ?_ _)); exact BK461.out) hb); have n3_ := Aside0.mk (blk_below (g := gb476) (o := .cells #[.int .i64 t467, .int .i64 t468, .int .i64 t469, .int .i64 t470, .int .i64 t471, .int .i64 t472, .int .i64 t473, .int .i64 t474, .int .u64 t475] 24 (0, 0)) (by (with_reducible repeat (first | refine blk_drewN ?_ _ | refine blk_drew ?_ | refine blk_alloc ?_ _)); exact BK476.out) hb); have n4_ := Aside0.mk (below_step (by repeat (first | (with_reducible first | exact HB.out | apply below_alloc | apply pw_below_drewN | apply below_drew1 | refine below_set ?_ GE461.out | refine below_set ?_ GE476.out) | exact HB.out)) hb); clear HO466; clear BK461; clear BK476; clear HB; have HO466 := n0_; have HO480 := n1_; have BK461 := n2_; have BK476 := n3_; have HB := n4_; clear n0_ n1_ n2_ n3_ n4_; (try clear hb); (try clear hb2); (try clear hk); (try clear hi); (try clear ho0); obtain ⟨Ao37, co37, eo37⟩ := Kd.R_slice HO480.out; subst eo37) | (go_at_call 18; (with_reducible refine (skiarearef03_Same.calls _ _ t478 _ _ l0 false _ ?side1 ?side2 ?side3 ?side4 A12.out).mono ?_); (case side1 => repeat (first | exact (Kd.R_reads' HO480.out).2.2 | (with_reducible refine Kd.C_alloc ?_ _) | (with_reducible refine Kd.C_drewN ?_ _) | (with_reducible refine Kd.C_drew ?_))); (case side2 => exact (Kd.R_reads' HO480.out).2.1); (case side3 => repeat (first | exact (Kd.C_below HR0.out HB.out) | (with_reducible refine Kd.C_alloc ?_ _) | (with_reducible refine Kd.C_drewN ?_ _) | (with_reducible refine Kd.C_drew ?_))); (case side4 => exact HC0.out); rintro e w' ⟨rfl, ⟨nd, rfl⟩⟩; (try (rw [drewN_self w36]; generalize hq_ : World.drewN w36 _ = w36; have n0_ : Aside0 (Kd.R (Kd.int .u8) 5 w36 w.heap.size (fun k_ => some k_ ≠ (.slice Ao37 t478.length co37 : Value).ownBlock) (.slice Ao29 t462.length co29) t462) := ⟨by rw [← hq_]; exact (by (with_reducible repeat (first | apply Kd.R_alloc | apply Kd.R_drewN | apply Kd.R_drew)); exact Kd.R_mono HO466.out (fun _ hk => hk.2))⟩; have n1_ : Aside0 (Kd.R (Kd.int .u8) 5 w36 w.heap.size (fun k_ => some k_ ≠ (.slice Ao29 t462.length co29 : Value).ownBlock) (.slice Ao37 t478.length co37) t478) := ⟨by rw [← hq_]; exact (by (with_reducible repeat (first | apply Kd.R_alloc | apply Kd.R_drewN | apply Kd.R_drew)); exact Kd.R_mono HO480.out (fun _ hk => hk.2))⟩; have n2_ : Aside0 (w36.heap[gb461]? = some (.cells #[.int .i64 0, .int .i64 0, .int .i64 0, .int .i64 0, .int .i64 0, .int .i64 0, .int .i64 0, .int .i64 0, .int .u64 0] 24 (0, 0))) := ⟨by rw [← hq_]; exact (by (with_reducible repeat (first | refine blk_drewN ?_ _ | refine blk_drew ?_ | refine blk_alloc ?_ _)); exact BK461.out)⟩; have n3_ : Aside0 (w36.heap[gb476]? = some (.cells #[.int .i64 t467, .int .i64 t468, .int .i64 t469, .int .i64 t470, .int .i64 t471, .int .i64 t472, .int .i64 t473, .int .i64 t474, .int .u64 t475] 24 (0, 0))) := ⟨by rw [← hq_]; exact (by (with_reducible repeat (first | refine blk_drewN ?_ _ | refine blk_drew ?_ | refine blk_alloc ?_ _)); exact BK476.out)⟩; have n4_ : Aside0 (Below w.heap.size w w36) := ⟨by rw [← hq_]; exact (by repeat (first | (with_reducible first | exact HB.out | apply below_alloc | apply pw_below_drewN | apply below_drew1 | refine below_set ?_ GE461.out | refine below_set ?_ GE476.out) | exact HB.out))⟩; clear HO466 HO480 BK461 BK476 HB hq_; have HO466 := n0_; have HO480 := n1_; have BK461 := n2_; have BK476 := n3_; have HB := n4_; clear n0_ n1_ n2_ n3_ n4_)); have hcz38_0 : w36.cell? ⟨gb461, 0, none⟩ = some (.int .i64 0) := (blk_cell BK461.out 0).trans rfl; have hcz38_1 : w36.cell? ⟨gb461, 1, none⟩ = some (.int .i64 0) := (blk_cell BK461.out 1).trans rfl; have hcz38_2 : w36.cell? ⟨gb461, 2, none⟩ = some (.int .i64 0) := (blk_cell BK461.out 2).trans rfl; have hcz38_3 : w36.cell? ⟨gb461, 3, none⟩ = some (.int .i64 0) := (blk_cell BK461.out 3).trans rfl; have hcz38_4 : w36.cell? ⟨gb461, 4, none⟩ = some (.int .i64 0) := (blk_cell BK461.out 4).trans rfl; have hcz38_5 : w36.cell? ⟨gb461, 5, none⟩ = some (.int .i64 0) := (blk_cell BK461.out 5).trans rfl; have hcz38_6 : w36.cell? ⟨gb461, 6, none⟩ = some (.int .i64 0) := (blk_cell BK461.out 6).trans rfl; have hcz38_7 : w36.cell? ⟨gb461, 7, none⟩ = some (.int .i64 0) := (blk_cell BK461.out 7).trans rfl; have hcz38_8 : w36.cell? ⟨gb461, 8, none⟩ = some (.int .u64 0) := (blk_cell BK461.out 8).trans rfl; have hfz38_0 := blk_frozen BK461.out 0; have hfz38_1 := blk_frozen BK461.out 1; have hfz38_2 := blk_frozen BK461.out 2; have hfz38_3 := blk_frozen BK461.out 3; have hfz38_4 := blk_frozen BK461.out 4; have hfz38_5 := blk_frozen BK461.out 5; have hfz38_6 := blk_frozen BK461.out 6; have hfz38_7 := blk_frozen BK461.out 7; have hfz38_8 := blk_frozen BK461.out 8))
 refine bodyPost_ret (results_ct rfl _ _ gb461 24 #[.int .i64 0, .int .i64 0, .int .i64 0, .int .i64 0, .int .i64 0, .int .i64 0, .int .i64 0, .int .i64 0, .int .u64 0] (0, 0) _ rfl (by (with_reducible repeat (first | refine blk_drewN ?_ _ | refine blk_drew ?_ | refine blk_alloc ?_ _)); refine blk_put (cs := #[.int .i64 0, .int .i64 0, .int .i64 0, .int .i64 0, .int .i64 0, .int .i64 0, .int .i64 0, .int .i64 0, .int .u64 0]) ?_ 8 _ rfl; refine blk_put (cs := #[.int .i64 0, .int .i64 0, .int .i64 0, .int .i64 0, .int .i64 0, .int .i64 0, .int .i64 0, .int .i64 0, .int .u64 0]) ?_ 7 _ rfl; refine blk_put (cs := #[.int .i64 0, .int .i64 0, .int .i64 0, .int .i64 0, .int .i64 0, .int .i64 0, .int .i64 0, .int .i64 0, .int .u64 0]) ?_ 6 _ rfl; refine blk_put (cs := #[.int .i64 0, .int .i64 0, .int .i64 0, .int .i64 0, .int .i64 0, .int .i64 0, .int .i64 0, .int .i64 0, .int .u64 0]) ?_ 5 _ rfl; refine blk_put (cs := #[.int .i64 0, .int .i64 0, .int .i64 0, .int .i64 0, .int .i64 0, .int .i64 0, .int .i64 0, .int .i64 0, .int .u64 0]) ?_ 4 _ rfl; refine blk_put (cs := #[.int .i64 0, .int .i64 0, .int .i64 0, .int .i64 0, .int .i64 0, .int .i64 0, .int .i64 0, .int .i64 0, .int .u64 0]) ?_ 3 _ rfl; refine blk_put (cs := #[.int .i64 0, .int .i64 0, .int .i64 0, .int .i64 0, .int .i64 0, .int .i64 0, .int .i64 0, .int .i64 0, .int .u64 0]) ?_ 2 _ rfl; refine blk_put (cs := #[.int .i64 0, .int .i64 0, .int .i64 0, .int .i64 0, .int .i64 0, .int .i64 0, .int .i64 0, .int .i64 0, .int .u64 0]) ?_ 1 _ rfl; refine blk_put (cs := #[.int .i64 0, .int .i64 0, .int .i64 0, .int .i64 0, .int .i64 0, .int .i64 0, .int .i64 0, .int .i64 0, .int .u64 0]) ?_ 0 _ rfl; (with_reducible repeat (first | refine blk_drewN ?_ _ | refine blk_drew ?_ | refine blk_alloc ?_ _)); exact BK461.out) Try.underlying24 rfl (by kernel_rfl)) rfl ?_
 exact ⟨by first | rfl | (simp [errW_none, errW_some] <;> rfl) | (simp [*, errW_none, errW_some] <;> rfl), by repeat (first | (with_reducible first | exact HB.out | apply below_alloc | apply pw_below_drewN | apply below_drew1 | refine below_set ?_ GE461.out | refine below_set ?_ GE476.out) | exact HB.out)⟩ } }
 {
 rw [if_neg c10] at H
 have c10b0 : (t477 == 0) = false := beq_eq_false_iff_ne.mpr c10
 have c10b1 : (t477 != 0) = true := bne_iff_ne.mpr c10
 simp only [Option.some.injEq, Prod.mk.injEq] at H
 obtain ⟨rfl, rfl, rfl, rfl, rfl, rfl, rfl, rfl, rfl, rfl⟩ := H
 go_enter Try.func25, Try.ntmps25
 go_wp2_with (first | ((with_reducible refine gate_dst (N := 2) rfl ?_); refine box_event ?hg (N := 2) ?hd (cs := #[.int .i64 0, .int .i64 0, .int .i64 0, .int .i64 0, .int .i64 0, .int .i64 0, .int .i64 0, .int .i64 0, .int .u64 0]) (t := 24) ?hr ?_; (case hd => rfl); (case hg => rfl); (case hr => first | (go_simp; done) | (go_simp; rfl)); intro gb461 hg w39 hbox hb; have n0_ := Aside0.mk (below_step (by repeat (first | (with_reducible first | exact HB.out | apply below_alloc | apply pw_below_drewN | apply below_drew1) | exact HB.out)) hb); have n1_ := Aside0.mk (hbox); have n2_ := Aside0.mk ((by rw [hg]; exact (below_size (by repeat (first | (with_reducible first | exact HB.out | apply below_alloc | apply pw_below_drewN | apply below_drew1) | exact HB.out))) : w.heap.size ≤ gb461)); have n3_ := Aside0.mk ((by rw [hg]; exact (below_size (by repeat (first | (with_reducible first | exact HB.out | apply below_alloc | apply pw_below_drewN | apply below_drew1) | exact HB.out))) : w.heap.size ≤ gb461)); clear HB; have HB := n0_; have BK461 := n1_; have GW461 := n2_; have GE461 := n3_; clear n0_ n1_ n2_ n3_; clear hb hbox hg) | ((with_reducible refine gate_callee (f := 38) rfl ?_); refine goesL_ (some 10) rfl rfl Try.func38 (by kernel_rfl) rfl #[.slice A0 l0.length c0] rfl (by (try simp only [List.map_toArray, List.map_cons, List.map_nil]); first | done | rfl | (simp only [List.length_drop, List.length_take]; rfl)) ?_; (with_reducible refine (skiarearef03_Unframe.calls k _ _ l0 t462 t463 t464 _ ?side1 ?side2 A2.out).mono ?_); (case side1 => repeat (first | exact (Kd.C_below HR0.out HB.out) | (with_reducible refine Kd.C_alloc ?_ _) | (with_reducible refine Kd.C_drewN ?_ _) | (with_reducible refine Kd.C_drew ?_))); (case side2 => exact HC0.out); rintro e w40 ⟨v465, rfl, ho0, hb⟩; refine ⟨_, rfl, ?_⟩; have n0_ := Aside0.mk (Kd.R_lower ho0 (below_size (by repeat (first | (with_reducible first | exact HB.out | apply below_alloc | apply pw_below_drewN | apply below_drew1 | refine below_set ?_ GE461.out) | exact HB.out)))); have n1_ := Aside0.mk (blk_below (g := gb461) (o := .cells #[.int .i64 0, .int .i64 0, .int .i64 0, .int .i64 0, .int .i64 0, .int .i64 0, .int .i64 0, .int .i64 0, .int .u64 0] 24 (0, 0)) (by (with_reducible repeat (first | refine blk_drewN ?_ _ | refine blk_drew ?_ | refine blk_alloc ?_ _)); exact BK461.out) hb); have n2_ := Aside0.mk (below_step (by repeat (first | (with_reducible first | exact HB.out | apply below_alloc | apply pw_below_drewN | apply below_drew1 | refine below_set ?_ GE461.out) | exact HB.out)) hb); clear BK461; clear HB; have HO466 := n0_; have BK461 := n1_; have HB := n2_; clear n0_ n1_ n2_; (try clear hb); (try clear hb2); (try clear hk); (try clear hi); (try clear ho0); obtain ⟨Ao41, co41, eo41⟩ := Kd.R_slice HO466.out; subst eo41) | ((with_reducible refine gate_callee (f := 39) rfl ?_); refine goesL_ (some 24) rfl rfl Try.func39 (by kernel_rfl) rfl #[.slice Ao41 t462.length co41] rfl (by (try simp only [List.map_toArray, List.map_cons, List.map_nil]); first | done | rfl | (simp only [List.length_drop, List.length_take]; rfl)) ?_; (with_reducible refine (skiarearef25_read.calls k (fun k_ => some k_ = (.slice Ao41 t462.length co41 : Value).ownBlock) _ _ t462 t467 t468 t469 t470 t471 t472 t473 t474 t475 _ ?side1 A8.out).mono ?_); (case side1 => exact Kd.R_V (Kd.R_tight rfl (Kd.R_types (HO466.out) BK461.out (by decide)))); rintro e w42 ⟨rfl, hb⟩; refine ⟨_, rfl, ?_⟩; have n0_ := Aside0.mk (Kd.R_below (by (with_reducible repeat (first | apply Kd.R_alloc | apply Kd.R_drewN | apply Kd.R_drew)); exact HO466.out) hb); have n1_ := Aside0.mk (blk_below (g := gb461) (o := .cells #[.int .i64 0, .int .i64 0, .int .i64 0, .int .i64 0, .int .i64 0, .int .i64 0, .int .i64 0, .int .i64 0, .int .u64 0] 24 (0, 0)) (by (with_reducible repeat (first | refine blk_drewN ?_ _ | refine blk_drew ?_ | refine blk_alloc ?_ _)); exact BK461.out) hb); have n2_ := Aside0.mk (below_step (by repeat (first | (with_reducible first | exact HB.out | apply below_alloc | apply pw_below_drewN | apply below_drew1 | refine below_set ?_ GE461.out) | exact HB.out)) hb); clear HO466; clear BK461; clear HB; have HO466 := n0_; have BK461 := n1_; have HB := n2_; clear n0_ n1_ n2_; (try clear hb); (try clear hb2); (try clear hk); (try clear hi)) | ((with_reducible refine gate_dst (N := 7) rfl ?_); refine box_event ?hg (N := 7) ?hd (cs := #[.int .i64 0, .int .i64 0, .int .i64 0, .int .i64 0, .int .i64 0, .int .i64 0, .int .i64 0, .int .i64 0, .int .u64 0]) (t := 24) ?hr ?_; (case hd => rfl); (case hg => rfl); (case hr => first | (go_simp; done) | (go_simp; rfl)); intro gb476 hg w43 hbox hb; have n0_ := Aside0.mk (Kd.R_below (by (with_reducible repeat (first | apply Kd.R_alloc | apply Kd.R_drewN | apply Kd.R_drew)); exact HO466.out) hb); have n1_ := Aside0.mk (blk_below (g := gb461) (o := .cells #[.int .i64 0, .int .i64 0, .int .i64 0, .int .i64 0, .int .i64 0, .int .i64 0, .int .i64 0, .int .i64 0, .int .u64 0] 24 (0, 0)) (by (with_reducible repeat (first | refine blk_drewN ?_ _ | refine blk_drew ?_ | refine blk_alloc ?_ _)); exact BK461.out) hb); have n2_ := Aside0.mk (below_step (by repeat (first | (with_reducible first | exact HB.out | apply below_alloc | apply pw_below_drewN | apply below_drew1 | refine below_set ?_ GE461.out) | exact HB.out)) hb); have n3_ := Aside0.mk (hbox); have n4_ := Aside0.mk ((by rw [hg]; exact (below_size (by repeat (first | (with_reducible first | exact HB.out | apply below_alloc | apply pw_below_drewN | apply below_drew1 | refine below_set ?_ GE461.out) | exact HB.out))) : w.heap.size ≤ gb476)); have n5_ := Aside0.mk ((by rw [hg]; exact (below_size (by repeat (first | (with_reducible first | exact HB.out | apply below_alloc | apply pw_below_drewN | apply below_drew1 | refine below_set ?_ GE461.out) | exact HB.out))) : w.heap.size ≤ gb476)); have n6_ := Aside0.mk ((by rw [hg]; exact Nat.ne_of_lt (blk_lt (g := gb461) (o := .cells #[.int .i64 0, .int .i64 0, .int .i64 0, .int .i64 0, .int .i64 0, .int .i64 0, .int .i64 0, .int .i64 0, .int .u64 0] 24 (0, 0)) (by (with_reducible repeat (first | refine blk_drewN ?_ _ | refine blk_drew ?_ | refine blk_alloc ?_ _)); exact BK461.out)) : gb461 ≠ gb476)); have n7_ := Aside0.mk ((by rw [hg]; exact Nat.ne_of_gt (blk_lt (g := gb461) (o := .cells #[.int .i64 0, .int .i64 0, .int .i64 0, .int .i64 0, .int .i64 0, .int .i64 0, .int .i64 0, .int .i64 0, .int .u64 0] 24 (0, 0)) (by (with_reducible repeat (first | refine blk_drewN ?_ _ | refine blk_drew ?_ | refine blk_alloc ?_ _)); exact BK461.out)) : gb476 ≠ gb461)); clear HO466; clear BK461; clear HB; have HO466 := n0_; have BK461 := n1_; have HB := n2_; have BK476 := n3_; have GW476 := n4_; have GE476 := n5_; have NB461_476 := n6_; have NB476_461 := n7_; clear n0_ n1_ n2_ n3_ n4_ n5_ n6_ n7_; clear hb hbox hg; have hnb44 := NB476_461.out; have hnc44 := NB461_476.out; have hcz45_0 : w43.cell? ⟨gb476, 0, none⟩ = some (.int .i64 0) := (blk_cell BK476.out 0).trans rfl; have hcz45_1 : w43.cell? ⟨gb476, 1, none⟩ = some (.int .i64 0) := (blk_cell BK476.out 1).trans rfl; have hcz45_2 : w43.cell? ⟨gb476, 2, none⟩ = some (.int .i64 0) := (blk_cell BK476.out 2).trans rfl; have hcz45_3 : w43.cell? ⟨gb476, 3, none⟩ = some (.int .i64 0) := (blk_cell BK476.out 3).trans rfl; have hcz45_4 : w43.cell? ⟨gb476, 4, none⟩ = some (.int .i64 0) := (blk_cell BK476.out 4).trans rfl; have hcz45_5 : w43.cell? ⟨gb476, 5, none⟩ = some (.int .i64 0) := (blk_cell BK476.out 5).trans rfl; have hcz45_6 : w43.cell? ⟨gb476, 6, none⟩ = some (.int .i64 0) := (blk_cell BK476.out 6).trans rfl; have hcz45_7 : w43.cell? ⟨gb476, 7, none⟩ = some (.int .i64 0) := (blk_cell BK476.out 7).trans rfl; have hcz45_8 : w43.cell? ⟨gb476, 8, none⟩ = some (.int .u64 0) := (blk_cell BK476.out 8).trans rfl; have hfz45_0 := blk_frozen BK476.out 0; have hfz45_1 := blk_frozen BK476.out 1; have hfz45_2 := blk_frozen BK476.out 2; have hfz45_3 := blk_frozen BK476.out 3; have hfz45_4 := blk_frozen BK476.out 4; have hfz45_5 := blk_frozen BK476.out 5; have hfz45_6 := blk_frozen BK476.out 6; have hfz45_7 := blk_frozen BK476.out 7; have hfz45_8 := blk_frozen BK476.out 8) | ((with_reducible refine gate_callee (f := 12) rfl ?_); refine goesL_ (some 26) rfl rfl Try.func12 (by kernel_rfl) rfl #[.agg #[.int .i64 t467, .int .i64 t468, .int .i64 t469, .int .i64 t470, .int .i64 t471, .int .i64 t472, .int .i64 t473, .int .i64 t474, .int .u64 t475]] rfl (by (try simp only [List.map_toArray, List.map_cons, List.map_nil]); first | done | rfl | (simp only [List.length_drop, List.length_take]; rfl)) ?_; (with_reducible refine (skiarearef25_Right.calls k t467 t468 t469 t470 t471 t472 t473 t474 t475 t477 _ A9.out).mono ?_); rintro e w46 ⟨rfl, hb⟩; refine ⟨_, rfl, ?_⟩; have n0_ := Aside0.mk (Kd.R_below (by (with_reducible repeat (first | apply Kd.R_alloc | apply Kd.R_drewN | apply Kd.R_drew)); exact (Kd.R_mono (Kd.R_far (p := ⟨gb476, 8, none⟩) (Kd.R_far (p := ⟨gb476, 7, none⟩) (Kd.R_far (p := ⟨gb476, 6, none⟩) (Kd.R_far (p := ⟨gb476, 5, none⟩) (Kd.R_far (p := ⟨gb476, 4, none⟩) (Kd.R_far (p := ⟨gb476, 3, none⟩) (Kd.R_far (p := ⟨gb476, 2, none⟩) (Kd.R_far (p := ⟨gb476, 1, none⟩) (Kd.R_far (p := ⟨gb476, 0, none⟩) (Kd.R_types HO466.out BK476.out (by decide)) (fun _ hk => hk.2) (.int .i64 t467)) (fun _ hk => hk.2) (.int .i64 t468)) (fun _ hk => hk.2) (.int .i64 t469)) (fun _ hk => hk.2) (.int .i64 t470)) (fun _ hk => hk.2) (.int .i64 t471)) (fun _ hk => hk.2) (.int .i64 t472)) (fun _ hk => hk.2) (.int .i64 t473)) (fun _ hk => hk.2) (.int .i64 t474)) (fun _ hk => hk.2) (.int .u64 t475)) (fun _ h_ => h_.1))) hb); have n1_ := Aside0.mk (blk_below (g := gb461) (o := .cells #[.int .i64 0, .int .i64 0, .int .i64 0, .int .i64 0, .int .i64 0, .int .i64 0, .int .i64 0, .int .i64 0, .int .u64 0] 24 (0, 0)) (by (with_reducible repeat (first | refine blk_drewN ?_ _ | refine blk_drew ?_ | refine blk_alloc ?_ _)); refine blk_far ?_ NB461_476.out _; refine blk_far ?_ NB461_476.out _; refine blk_far ?_ NB461_476.out _; refine blk_far ?_ NB461_476.out _; refine blk_far ?_ NB461_476.out _; refine blk_far ?_ NB461_476.out _; refine blk_far ?_ NB461_476.out _; refine blk_far ?_ NB461_476.out _; refine blk_far ?_ NB461_476.out _; (with_reducible repeat (first | refine blk_drewN ?_ _ | refine blk_drew ?_ | refine blk_alloc ?_ _)); exact BK461.out) hb); have n2_ := Aside0.mk (blk_below (g := gb476) (o := .cells #[.int .i64 t467, .int .i64 t468, .int .i64 t469, .int .i64 t470, .int .i64 t471, .int .i64 t472, .int .i64 t473, .int .i64 t474, .int .u64 t475] 24 (0, 0)) (by (with_reducible repeat (first | refine blk_drewN ?_ _ | refine blk_drew ?_ | refine blk_alloc ?_ _)); refine blk_put (cs := #[.int .i64 t467, .int .i64 t468, .int .i64 t469, .int .i64 t470, .int .i64 t471, .int .i64 t472, .int .i64 t473, .int .i64 t474, .int .u64 0]) ?_ 8 _ rfl; refine blk_put (cs := #[.int .i64 t467, .int .i64 t468, .int .i64 t469, .int .i64 t470, .int .i64 t471, .int .i64 t472, .int .i64 t473, .int .i64 0, .int .u64 0]) ?_ 7 _ rfl; refine blk_put (cs := #[.int .i64 t467, .int .i64 t468, .int .i64 t469, .int .i64 t470, .int .i64 t471, .int .i64 t472, .int .i64 0, .int .i64 0, .int .u64 0]) ?_ 6 _ rfl; refine blk_put (cs := #[.int .i64 t467, .int .i64 t468, .int .i64 t469, .int .i64 t470, .int .i64 t471, .int .i64 0, .int .i64 0, .int .i64 0, .int .u64 0]) ?_ 5 _ rfl; refine blk_put (cs := #[.int .i64 t467, .int .i64 t468, .int .i64 t469, .int .i64 t470, .int .i64 0, .int .i64 0, .int .i64 0, .int .i64 0, .int .u64 0]) ?_ 4 _ rfl; refine blk_put (cs := #[.int .i64 t467, .int .i64 t468, .int .i64 t469, .int .i64 0, .int .i64 0, .int .i64 0, .int .i64 0, .int .i64 0, .int .u64 0]) ?_ 3 _ rfl; refine blk_put (cs := #[.int .i64 t467, .int .i64 t468, .int .i64 0, .int .i64 0, .int .i64 0, .int .i64 0, .int .i64 0, .int .i64 0, .int .u64 0]) ?_ 2 _ rfl; refine blk_put (cs := #[.int .i64 t467, .int .i64 0, .int .i64 0, .int .i64 0, .int .i64 0, .int .i64 0, .int .i64 0, .int .i64 0, .int .u64 0]) ?_ 1 _ rfl; refine blk_put (cs := #[.int .i64 0, .int .i64 0, .int .i64 0, .int .i64 0, .int .i64 0, .int .i64 0, .int .i64 0, .int .i64 0, .int .u64 0]) ?_ 0 _ rfl; (with_reducible repeat (first | refine blk_drewN ?_ _ | refine blk_drew ?_ | refine blk_alloc ?_ _)); exact BK476.out) hb); have n3_ := Aside0.mk (below_step (by repeat (first | (with_reducible first | exact HB.out | apply below_alloc | apply pw_below_drewN | apply below_drew1 | refine below_set ?_ GE461.out | refine below_set ?_ GE476.out) | exact HB.out)) hb); clear HO466; clear BK461; clear BK476; clear HB; have HO466 := n0_; have BK461 := n1_; have BK476 := n2_; have HB := n3_; clear n0_ n1_ n2_ n3_; (try clear hb); (try clear hb2); (try clear hk); (try clear hi); have hcz47_0 : w46.cell? ⟨gb461, 0, none⟩ = some (.int .i64 0) := (blk_cell BK461.out 0).trans rfl; have hcz47_1 : w46.cell? ⟨gb461, 1, none⟩ = some (.int .i64 0) := (blk_cell BK461.out 1).trans rfl; have hcz47_2 : w46.cell? ⟨gb461, 2, none⟩ = some (.int .i64 0) := (blk_cell BK461.out 2).trans rfl; have hcz47_3 : w46.cell? ⟨gb461, 3, none⟩ = some (.int .i64 0) := (blk_cell BK461.out 3).trans rfl; have hcz47_4 : w46.cell? ⟨gb461, 4, none⟩ = some (.int .i64 0) := (blk_cell BK461.out 4).trans rfl; have hcz47_5 : w46.cell? ⟨gb461, 5, none⟩ = some (.int .i64 0) := (blk_cell BK461.out 5).trans rfl; have hcz47_6 : w46.cell? ⟨gb461, 6, none⟩ = some (.int .i64 0) := (blk_cell BK461.out 6).trans rfl; have hcz47_7 : w46.cell? ⟨gb461, 7, none⟩ = some (.int .i64 0) := (blk_cell BK461.out 7).trans rfl; have hcz47_8 : w46.cell? ⟨gb461, 8, none⟩ = some (.int .u64 0) := (blk_cell BK461.out 8).trans rfl; have hfz47_0 := blk_frozen BK461.out 0; have hfz47_1 := blk_frozen BK461.out 1; have hfz47_2 := blk_frozen BK461.out 2; have hfz47_3 := blk_frozen BK461.out 3; have hfz47_4 := blk_frozen BK461.out 4; have hfz47_5 := blk_frozen BK461.out 5; have hfz47_6 := blk_frozen BK461.out 6; have hfz47_7 := blk_frozen BK461.out 7; have hfz47_8 := blk_frozen BK461.out 8))
 refine bodyPost_ret (results_ct rfl _ _ gb461 24 #[.int .i64 0, .int .i64 0, .int .i64 0, .int .i64 0, .int .i64 0, .int .i64 0, .int .i64 0, .int .i64 0, .int .u64 0] (0, 0) _ rfl (by (with_reducible repeat (first | refine blk_drewN ?_ _ | refine blk_drew ?_ | refine blk_alloc ?_ _)); refine blk_put (cs := #[.int .i64 0, .int .i64 0, .int .i64 0, .int .i64 0, .int .i64 0, .int .i64 0, .int .i64 0, .int .i64 0, .int .u64 0]) ?_ 8 _ rfl; refine blk_put (cs := #[.int .i64 0, .int .i64 0, .int .i64 0, .int .i64 0, .int .i64 0, .int .i64 0, .int .i64 0, .int .i64 0, .int .u64 0]) ?_ 7 _ rfl; refine blk_put (cs := #[.int .i64 0, .int .i64 0, .int .i64 0, .int .i64 0, .int .i64 0, .int .i64 0, .int .i64 0, .int .i64 0, .int .u64 0]) ?_ 6 _ rfl; refine blk_put (cs := #[.int .i64 0, .int .i64 0, .int .i64 0, .int .i64 0, .int .i64 0, .int .i64 0, .int .i64 0, .int .i64 0, .int .u64 0]) ?_ 5 _ rfl; refine blk_put (cs := #[.int .i64 0, .int .i64 0, .int .i64 0, .int .i64 0, .int .i64 0, .int .i64 0, .int .i64 0, .int .i64 0, .int .u64 0]) ?_ 4 _ rfl; refine blk_put (cs := #[.int .i64 0, .int .i64 0, .int .i64 0, .int .i64 0, .int .i64 0, .int .i64 0, .int .i64 0, .int .i64 0, .int .u64 0]) ?_ 3 _ rfl; refine blk_put (cs := #[.int .i64 0, .int .i64 0, .int .i64 0, .int .i64 0, .int .i64 0, .int .i64 0, .int .i64 0, .int .i64 0, .int .u64 0]) ?_ 2 _ rfl; refine blk_put (cs := #[.int .i64 0, .int .i64 0, .int .i64 0, .int .i64 0, .int .i64 0, .int .i64 0, .int .i64 0, .int .i64 0, .int .u64 0]) ?_ 1 _ rfl; refine blk_put (cs := #[.int .i64 0, .int .i64 0, .int .i64 0, .int .i64 0, .int .i64 0, .int .i64 0, .int .i64 0, .int .i64 0, .int .u64 0]) ?_ 0 _ rfl; (with_reducible repeat (first | refine blk_drewN ?_ _ | refine blk_drew ?_ | refine blk_alloc ?_ _)); exact BK461.out) Try.underlying24 rfl (by kernel_rfl)) rfl ?_
 exact ⟨by first | rfl | (simp [errW_none, errW_some] <;> rfl) | (simp [*, errW_none, errW_some] <;> rfl), by repeat (first | (with_reducible first | exact HB.out | apply below_alloc | apply pw_below_drewN | apply below_drew1 | refine below_set ?_ GE461.out | refine below_set ?_ GE476.out) | exact HB.out)⟩ } } }
  {
 rw [if_neg c3] at H
 have c3b0 : (t464 == 0) = false := beq_eq_false_iff_ne.mpr c3
 have c3b1 : (t464 != 0) = true := bne_iff_ne.mpr c3
 simp only [Option.some.injEq, Prod.mk.injEq] at H
 obtain ⟨rfl, rfl, rfl, rfl, rfl, rfl, rfl, rfl, rfl, rfl⟩ := H
 go_enter Try.func25, Try.ntmps25
 go_wp2_with (first | ((with_reducible refine gate_dst (N := 2) rfl ?_); refine box_event ?hg (N := 2) ?hd (cs := #[.int .i64 0, .int .i64 0, .int .i64 0, .int .i64 0, .int .i64 0, .int .i64 0, .int .i64 0, .int .i64 0, .int .u64 0]) (t := 24) ?hr ?_; (case hd => rfl); (case hg => rfl); (case hr => first | (go_simp; done) | (go_simp; rfl)); intro gb461 hg w48 hbox hb; have n0_ := Aside0.mk (below_step (by repeat (first | (with_reducible first | exact HB.out | apply below_alloc | apply pw_below_drewN | apply below_drew1) | exact HB.out)) hb); have n1_ := Aside0.mk (hbox); have n2_ := Aside0.mk ((by rw [hg]; exact (below_size (by repeat (first | (with_reducible first | exact HB.out | apply below_alloc | apply pw_below_drewN | apply below_drew1) | exact HB.out))) : w.heap.size ≤ gb461)); have n3_ := Aside0.mk ((by rw [hg]; exact (below_size (by repeat (first | (with_reducible first | exact HB.out | apply below_alloc | apply pw_below_drewN | apply below_drew1) | exact HB.out))) : w.heap.size ≤ gb461)); clear HB; have HB := n0_; have BK461 := n1_; have GW461 := n2_; have GE461 := n3_; clear n0_ n1_ n2_ n3_; clear hb hbox hg) | ((with_reducible refine gate_callee (f := 38) rfl ?_); refine goesL_ (some 10) rfl rfl Try.func38 (by kernel_rfl) rfl #[.slice A0 l0.length c0] rfl (by (try simp only [List.map_toArray, List.map_cons, List.map_nil]); first | done | rfl | (simp only [List.length_drop, List.length_take]; rfl)) ?_; (with_reducible refine (skiarearef03_Unframe.calls k _ _ l0 t462 t463 t464 _ ?side1 ?side2 A2.out).mono ?_); (case side1 => repeat (first | exact (Kd.C_below HR0.out HB.out) | (with_reducible refine Kd.C_alloc ?_ _) | (with_reducible refine Kd.C_drewN ?_ _) | (with_reducible refine Kd.C_drew ?_))); (case side2 => exact HC0.out); rintro e w49 ⟨v465, rfl, ho0, hb⟩; refine ⟨_, rfl, ?_⟩; have n0_ := Aside0.mk (Kd.R_lower ho0 (below_size (by repeat (first | (with_reducible first | exact HB.out | apply below_alloc | apply pw_below_drewN | apply below_drew1 | refine below_set ?_ GE461.out) | exact HB.out)))); have n1_ := Aside0.mk (blk_below (g := gb461) (o := .cells #[.int .i64 0, .int .i64 0, .int .i64 0, .int .i64 0, .int .i64 0, .int .i64 0, .int .i64 0, .int .i64 0, .int .u64 0] 24 (0, 0)) (by (with_reducible repeat (first | refine blk_drewN ?_ _ | refine blk_drew ?_ | refine blk_alloc ?_ _)); exact BK461.out) hb); have n2_ := Aside0.mk (below_step (by repeat (first | (with_reducible first | exact HB.out | apply below_alloc | apply pw_below_drewN | apply below_drew1 | refine below_set ?_ GE461.out) | exact HB.out)) hb); clear BK461; clear HB; have HO466 := n0_; have BK461 := n1_; have HB := n2_; clear n0_ n1_ n2_; (try clear hb); (try clear hb2); (try clear hk); (try clear hi); (try clear ho0); have hcz50_0 : w49.cell? ⟨gb461, 0, none⟩ = some (.int .i64 0) := (blk_cell BK461.out 0).trans rfl; have hcz50_1 : w49.cell? ⟨gb461, 1, none⟩ = some (.int .i64 0) := (blk_cell BK461.out 1).trans rfl; have hcz50_2 : w49.cell? ⟨gb461, 2, none⟩ = some (.int .i64 0) := (blk_cell BK461.out 2).trans rfl; have hcz50_3 : w49.cell? ⟨gb461, 3, none⟩ = some (.int .i64 0) := (blk_cell BK461.out 3).trans rfl; have hcz50_4 : w49.cell? ⟨gb461, 4, none⟩ = some (.int .i64 0) := (blk_cell BK461.out 4).trans rfl; have hcz50_5 : w49.cell? ⟨gb461, 5, none⟩ = some (.int .i64 0) := (blk_cell BK461.out 5).trans rfl; have hcz50_6 : w49.cell? ⟨gb461, 6, none⟩ = some (.int .i64 0) := (blk_cell BK461.out 6).trans rfl; have hcz50_7 : w49.cell? ⟨gb461, 7, none⟩ = some (.int .i64 0) := (blk_cell BK461.out 7).trans rfl; have hcz50_8 : w49.cell? ⟨gb461, 8, none⟩ = some (.int .u64 0) := (blk_cell BK461.out 8).trans rfl; have hfz50_0 := blk_frozen BK461.out 0; have hfz50_1 := blk_frozen BK461.out 1; have hfz50_2 := blk_frozen BK461.out 2; have hfz50_3 := blk_frozen BK461.out 3; have hfz50_4 := blk_frozen BK461.out 4; have hfz50_5 := blk_frozen BK461.out 5; have hfz50_6 := blk_frozen BK461.out 6; have hfz50_7 := blk_frozen BK461.out 7; have hfz50_8 := blk_frozen BK461.out 8))
 refine bodyPost_ret (results_ct rfl _ _ gb461 24 #[.int .i64 0, .int .i64 0, .int .i64 0, .int .i64 0, .int .i64 0, .int .i64 0, .int .i64 0, .int .i64 0, .int .u64 0] (0, 0) _ rfl (by (with_reducible repeat (first | refine blk_drewN ?_ _ | refine blk_drew ?_ | refine blk_alloc ?_ _)); refine blk_put (cs := #[.int .i64 0, .int .i64 0, .int .i64 0, .int .i64 0, .int .i64 0, .int .i64 0, .int .i64 0, .int .i64 0, .int .u64 0]) ?_ 8 _ rfl; refine blk_put (cs := #[.int .i64 0, .int .i64 0, .int .i64 0, .int .i64 0, .int .i64 0, .int .i64 0, .int .i64 0, .int .i64 0, .int .u64 0]) ?_ 7 _ rfl; refine blk_put (cs := #[.int .i64 0, .int .i64 0, .int .i64 0, .int .i64 0, .int .i64 0, .int .i64 0, .int .i64 0, .int .i64 0, .int .u64 0]) ?_ 6 _ rfl; refine blk_put (cs := #[.int .i64 0, .int .i64 0, .int .i64 0, .int .i64 0, .int .i64 0, .int .i64 0, .int .i64 0, .int .i64 0, .int .u64 0]) ?_ 5 _ rfl; refine blk_put (cs := #[.int .i64 0, .int .i64 0, .int .i64 0, .int .i64 0, .int .i64 0, .int .i64 0, .int .i64 0, .int .i64 0, .int .u64 0]) ?_ 4 _ rfl; refine blk_put (cs := #[.int .i64 0, .int .i64 0, .int .i64 0, .int .i64 0, .int .i64 0, .int .i64 0, .int .i64 0, .int .i64 0, .int .u64 0]) ?_ 3 _ rfl; refine blk_put (cs := #[.int .i64 0, .int .i64 0, .int .i64 0, .int .i64 0, .int .i64 0, .int .i64 0, .int .i64 0, .int .i64 0, .int .u64 0]) ?_ 2 _ rfl; refine blk_put (cs := #[.int .i64 0, .int .i64 0, .int .i64 0, .int .i64 0, .int .i64 0, .int .i64 0, .int .i64 0, .int .i64 0, .int .u64 0]) ?_ 1 _ rfl; refine blk_put (cs := #[.int .i64 0, .int .i64 0, .int .i64 0, .int .i64 0, .int .i64 0, .int .i64 0, .int .i64 0, .int .i64 0, .int .u64 0]) ?_ 0 _ rfl; (with_reducible repeat (first | refine blk_drewN ?_ _ | refine blk_drew ?_ | refine blk_alloc ?_ _)); exact BK461.out) Try.underlying24 rfl (by kernel_rfl)) rfl ?_
 exact ⟨by first | rfl | (simp [errW_none, errW_some] <;> rfl) | (simp [*, errW_none, errW_some] <;> rfl), by repeat (first | (with_reducible first | exact HB.out | apply below_alloc | apply pw_below_drewN | apply below_drew1 | refine below_set ?_ GE461.out) | exact HB.out)⟩ }
end Go.Proofs.Ytdlinojgmllkoaa.Q

namespace Go.Proofs.Ytdlinojgmllkoaa.Q
open Go.RowKit Go.Proofs.YtdlinojgmllkoaaW.PrintWords Go.Proofs.YtdlinojgmllkoaaW.PrintLast Go.Proofs.YtdlinojgmllkoaaW.PrintMore
attribute [local go_sem] max2_int min2_int max_two min_two max_three min_three max_four min_four   -- for this text's walks alone
set_option linter.unusedVariables false
set_option linter.unusedSimpArgs false

attribute [local irreducible] Calls media_Decode.f skiarealaw25_alive.f skiarearef25_Decode.f
attribute [local go_sem high] eqA24
def skiarealaw25_MediaDecodes.f (k : Nat) (l0 : List Int) : Option (Bool) := (skiarealaw25_alive.f k).bind fun t482 => (if t482 = true then (if (l0.length : Int) > 1000 then (some true) else ((media_Decode.f k l0).bind fun bt483 => ((skiarearef25_Decode.f k l0).bind fun bt494 => (if (bt483.1 == bt494.1 && (bt483.2.1 == bt494.2.1 && (bt483.2.2.1 == bt494.2.2.1 && (bt483.2.2.2.1 == bt494.2.2.2.1 && (bt483.2.2.2.2.1 == bt494.2.2.2.2.1 && (bt483.2.2.2.2.2.1 == bt494.2.2.2.2.2.1 && (bt483.2.2.2.2.2.2.1 == bt494.2.2.2.2.2.2.1 && (bt483.2.2.2.2.2.2.2.1 == bt494.2.2.2.2.2.2.2.1 && (bt483.2.2.2.2.2.2.2.2.1 == bt494.2.2.2.2.2.2.2.2.1))))))))) = true then (some (bt483.2.2.2.2.2.2.2.2.2 == bt494.2.2.2.2.2.2.2.2.2)) else (some false))))) else (some false))
theorem skiarealaw25_MediaDecodes.mono : ∀ a0 k, LeO (skiarealaw25_MediaDecodes.f k a0) (skiarealaw25_MediaDecodes.f (k + 1) a0) := by
  intro a0 k
  unfold skiarealaw25_MediaDecodes.f
  repeat' first
      | (with_reducible exact media_Decode.mono _ _)
      | (with_reducible exact skiarealaw25_alive.mono _)
      | (with_reducible exact skiarearef25_Decode.mono _ _)
      | (with_reducible exact LeO.refl _)
      | (with_reducible exact LeO.none _)
      | (with_reducible refine LeO.ite ?_ ?_)
      | (with_reducible refine LeO.bind ?_ (fun _ => ?_))
      | exact media_Decode.mono _ _
      | exact skiarealaw25_alive.mono _
      | exact skiarearef25_Decode.mono _ _
      | exact LeO.none _
      | refine LeO.ite ?_ ?_
      | refine LeO.bind ?_ (fun _ => ?_)
set_option maxHeartbeats 8000000 in
set_option maxRecDepth 100000 in
theorem skiarealaw25_MediaDecodes.calls (k : Nat) (A0 : Option Addr) (c0 : Nat) (l0 : List Int) (r : Bool) (w : World) (hr0 : Kd.C (Kd.int .u8) w A0 l0.length l0) (hc0 : l0.length ≤ c0) (h : skiarealaw25_MediaDecodes.f k l0 = some r) :
    Calls Try.prog 7 #[.slice A0 l0.length c0] w fun e w' => e = .returned (.bool r) ∧ Below w.heap.size w w' := by
  have hu24 := Try.underlying24
  have HR0 := Aside0.mk hr0
  have HC0 := Aside0.mk hc0
  clear hr0 hc0
  have HB := Aside0.mk (Below.refl w.heap.size w)
  have H : ((skiarealaw25_alive.f k).bind fun t482 => (if t482 = true then (if (l0.length : Int) > 1000 then (some true) else ((media_Decode.f k l0).bind fun bt483 => ((skiarearef25_Decode.f k l0).bind fun bt494 => (if (bt483.1 == bt494.1 && (bt483.2.1 == bt494.2.1 && (bt483.2.2.1 == bt494.2.2.1 && (bt483.2.2.2.1 == bt494.2.2.2.1 && (bt483.2.2.2.2.1 == bt494.2.2.2.2.1 && (bt483.2.2.2.2.2.1 == bt494.2.2.2.2.2.1 && (bt483.2.2.2.2.2.2.1 == bt494.2.2.2.2.2.2.1 && (bt483.2.2.2.2.2.2.2.1 == bt494.2.2.2.2.2.2.2.1 && (bt483.2.2.2.2.2.2.2.2.1 == bt494.2.2.2.2.2.2.2.2.1))))))))) = true then (some (bt483.2.2.2.2.2.2.2.2.2 == bt494.2.2.2.2.2.2.2.2.2)) else (some false))))) else (some false))) = some r := h
  clear h
  replace H := Option.bind_eq_some_iff.mp H
  obtain ⟨t482, A20, H⟩ := H
  try dsimp only at H
  have A2 := Aside0.mk A20
  clear A20
  by_cases c3 : t482 = true
  {
 subst c3
 have H1 : (if (l0.length : Int) > 1000 then (some true) else ((media_Decode.f k l0).bind fun bt483 => ((skiarearef25_Decode.f k l0).bind fun bt494 => (if (bt483.1 == bt494.1 && (bt483.2.1 == bt494.2.1 && (bt483.2.2.1 == bt494.2.2.1 && (bt483.2.2.2.1 == bt494.2.2.2.1 && (bt483.2.2.2.2.1 == bt494.2.2.2.2.1 && (bt483.2.2.2.2.2.1 == bt494.2.2.2.2.2.1 && (bt483.2.2.2.2.2.2.1 == bt494.2.2.2.2.2.2.1 && (bt483.2.2.2.2.2.2.2.1 == bt494.2.2.2.2.2.2.2.1 && (bt483.2.2.2.2.2.2.2.2.1 == bt494.2.2.2.2.2.2.2.2.1))))))))) = true then (some (bt483.2.2.2.2.2.2.2.2.2 == bt494.2.2.2.2.2.2.2.2.2)) else (some false))))) = some r := by rw [if_pos rfl] at H; exact H
 clear H
 have H := H1
 clear H1
 by_cases c4 : (l0.length : Int) > 1000
 {
 rw [if_pos c4] at H
 have c4b0 : decide (1000 < (l0.length : Int)) = true := decide_eq_true c4
 have c4b1 : decide (1000 < l0.length) = true := decide_eq_true (by omega)
 clear c4
 obtain rfl := Option.some.inj H
 go_enter Try.func7, Try.ntmps7
 go_wp2_with (first | ((with_reducible refine gate_callee (f := 10) rfl ?_); refine goesL_ (some 7) rfl rfl Try.func10 (by kernel_rfl) rfl #[] rfl (by (try simp only [List.map_toArray, List.map_cons, List.map_nil]); first | done | rfl | (simp only [List.length_drop, List.length_take]; rfl)) ?_; (with_reducible refine (skiarealaw25_alive.calls k  true _ A2.out).mono ?_); rintro e w5 ⟨rfl, hb⟩; refine ⟨_, rfl, ?_⟩; have n0_ := Aside0.mk (below_step (by repeat (first | (with_reducible first | exact HB.out | apply below_alloc | apply pw_below_drewN | apply below_drew1) | exact HB.out)) hb); clear HB; have HB := n0_; clear n0_; (try clear hb); (try clear hb2); (try clear hk); (try clear hi)))
 go_ret
 exact ⟨by first | rfl | (simp [errW_none, errW_some] <;> rfl) | (simp [*, errW_none, errW_some] <;> rfl), by repeat (first | (with_reducible first | exact HB.out | apply below_alloc | apply pw_below_drewN | apply below_drew1) | exact HB.out)⟩ }
 {
 rw [if_neg c4] at H
 have c4b0 : decide (1000 < (l0.length : Int)) = false := decide_eq_false c4
 have c4b1 : decide (1000 < l0.length) = false := decide_eq_false (by omega)
 clear c4
 replace H := Option.bind_eq_some_iff.mp H
 obtain ⟨⟨t483, t484, t485, t486, t487, t488, t489, t490, t491, t492⟩, A60, H⟩ := H
 try dsimp only at H
 have A6 := Aside0.mk A60
 clear A60
 replace H := Option.bind_eq_some_iff.mp H
 obtain ⟨⟨t494, t495, t496, t497, t498, t499, t500, t501, t502, t503⟩, A70, H⟩ := H
 try dsimp only at H
 have A7 := Aside0.mk A70
 clear A70
 by_cases c8 : (t483 == t494 && (t484 == t495 && (t485 == t496 && (t486 == t497 && (t487 == t498 && (t488 == t499 && (t489 == t500 && (t490 == t501 && (t491 == t502))))))))) = true
 {
 rw [if_pos c8] at H
 have c8b0 : (t483 == t494 && (t484 == t495 && (t485 == t496 && (t486 == t497 && (t487 == t498 && (t488 == t499 && (t489 == t500 && (t490 == t501 && (t491 == t502))))))))) = true := c8
 (try (have c8b1 : decide (t483 = t494 && (t484 == t495 && (t485 == t496 && (t486 == t497 && (t487 == t498 && (t488 == t499 && (t489 == t500 && (t490 == t501 && (t491 == t502))))))))) = true := by simpa using c8))
 (try (have c8b2 : (t483 == t494 && (t484 == t495 && (t485 == t496 && (t486 == t497 && (t487 == t498 && (t488 == t499 && (t489 == t500 && (t490 == t501 && (t491 == t502))))))))) = true := by simpa using c8))
 clear c8
 obtain rfl := Option.some.inj H
 go_enter Try.func7, Try.ntmps7
 go_wp2_with (first | ((with_reducible refine gate_callee (f := 10) rfl ?_); refine goesL_ (some 7) rfl rfl Try.func10 (by kernel_rfl) rfl #[] rfl (by (try simp only [List.map_toArray, List.map_cons, List.map_nil]); first | done | rfl | (simp only [List.length_drop, List.length_take]; rfl)) ?_; (with_reducible refine (skiarealaw25_alive.calls k  true _ A2.out).mono ?_); rintro e w9 ⟨rfl, hb⟩; refine ⟨_, rfl, ?_⟩; have n0_ := Aside0.mk (below_step (by repeat (first | (with_reducible first | exact HB.out | apply below_alloc | apply pw_below_drewN | apply below_drew1) | exact HB.out)) hb); clear HB; have HB := n0_; clear n0_; (try clear hb); (try clear hb2); (try clear hk); (try clear hi)) | ((with_reducible refine gate_callee (f := 24) rfl ?_); refine goesL_ (some 14) rfl rfl Try.func24 (by kernel_rfl) rfl #[.slice A0 l0.length c0] rfl (by (try simp only [List.map_toArray, List.map_cons, List.map_nil]); first | done | rfl | (simp only [List.length_drop, List.length_take]; rfl)) ?_; (with_reducible refine (media_Decode.calls k _ _ l0 t483 t484 t485 t486 t487 t488 t489 t490 t491 t492 _ ?side1 ?side2 A6.out).mono ?_); (case side1 => repeat (first | exact (Kd.C_below HR0.out HB.out) | (with_reducible refine Kd.C_alloc ?_ _) | (with_reducible refine Kd.C_drewN ?_ _) | (with_reducible refine Kd.C_drew ?_))); (case side2 => exact HC0.out); rintro e w10 ⟨rfl, hb⟩; refine ⟨_, rfl, ?_⟩; have n0_ := Aside0.mk (below_step (by repeat (first | (with_reducible first | exact HB.out | apply below_alloc | apply pw_below_drewN | apply below_drew1) | exact HB.out)) hb); clear HB; have HB := n0_; clear n0_; (try clear hb); (try clear hb2); (try clear hk); (try clear hi)) | ((with_reducible refine gate_dst (N := 3) rfl ?_); refine box_event ?hg (N := 3) ?hd (cs := #[.int .i64 0, .int .i64 0, .int .i64 0, .int .i64 0, .int .i64 0, .int .i64 0, .int .i64 0, .int .i64 0, .int .u64 0]) (t := 24) ?hr ?_; (case hd => rfl); (case hg => rfl); (case hr => first | (go_simp; done) | (go_simp; rfl)); intro gb493 hg w11 hbox hb; have n0_ := Aside0.mk (below_step (by repeat (first | (with_reducible first | exact HB.out | apply below_alloc | apply pw_below_drewN | apply below_drew1) | exact HB.out)) hb); have n1_ := Aside0.mk (hbox); have n2_ := Aside0.mk ((by rw [hg]; exact (below_size (by repeat (first | (with_reducible first | exact HB.out | apply below_alloc | apply pw_below_drewN | apply below_drew1) | exact HB.out))) : w.heap.size ≤ gb493)); have n3_ := Aside0.mk ((by rw [hg]; exact (below_size (by repeat (first | (with_reducible first | exact HB.out | apply below_alloc | apply pw_below_drewN | apply below_drew1) | exact HB.out))) : w.heap.size ≤ gb493)); clear HB; have HB := n0_; have BK493 := n1_; have GW493 := n2_; have GE493 := n3_; clear n0_ n1_ n2_ n3_; clear hb hbox hg; have hcz12_0 : w11.cell? ⟨gb493, 0, none⟩ = some (.int .i64 0) := (blk_cell BK493.out 0).trans rfl; have hcz12_1 : w11.cell? ⟨gb493, 1, none⟩ = some (.int .i64 0) := (blk_cell BK493.out 1).trans rfl; have hcz12_2 : w11.cell? ⟨gb493, 2, none⟩ = some (.int .i64 0) := (blk_cell BK493.out 2).trans rfl; have hcz12_3 : w11.cell? ⟨gb493, 3, none⟩ = some (.int .i64 0) := (blk_cell BK493.out 3).trans rfl; have hcz12_4 : w11.cell? ⟨gb493, 4, none⟩ = some (.int .i64 0) := (blk_cell BK493.out 4).trans rfl; have hcz12_5 : w11.cell? ⟨gb493, 5, none⟩ = some (.int .i64 0) := (blk_cell BK493.out 5).trans rfl; have hcz12_6 : w11.cell? ⟨gb493, 6, none⟩ = some (.int .i64 0) := (blk_cell BK493.out 6).trans rfl; have hcz12_7 : w11.cell? ⟨gb493, 7, none⟩ = some (.int .i64 0) := (blk_cell BK493.out 7).trans rfl; have hcz12_8 : w11.cell? ⟨gb493, 8, none⟩ = some (.int .u64 0) := (blk_cell BK493.out 8).trans rfl; have hfz12_0 := blk_frozen BK493.out 0; have hfz12_1 := blk_frozen BK493.out 1; have hfz12_2 := blk_frozen BK493.out 2; have hfz12_3 := blk_frozen BK493.out 3; have hfz12_4 := blk_frozen BK493.out 4; have hfz12_5 := blk_frozen BK493.out 5; have hfz12_6 := blk_frozen BK493.out 6; have hfz12_7 := blk_frozen BK493.out 7; have hfz12_8 := blk_frozen BK493.out 8) | ((with_reducible refine gate_callee (f := 25) rfl ?_); refine goesL_ (some 19) rfl rfl Try.func25 (by kernel_rfl) rfl #[.slice A0 l0.length c0] rfl (by (try simp only [List.map_toArray, List.map_cons, List.map_nil]); first | done | rfl | (simp only [List.length_drop, List.length_take]; rfl)) ?_; (with_reducible refine (skiarearef25_Decode.calls k _ _ l0 t494 t495 t496 t497 t498 t499 t500 t501 t502 t503 _ ?side1 ?side2 A7.out).mono ?_); (case side1 => exact Kd.C_below HR0.out (by repeat (first | (with_reducible first | exact HB.out | apply below_alloc | apply pw_below_drewN | apply below_drew1 | refine below_set ?_ GE493.out) | exact HB.out))); (case side2 => exact HC0.out); rintro e w13 ⟨rfl, hb⟩; refine ⟨_, rfl, ?_⟩; have n0_ := Aside0.mk (blk_below (g := gb493) (o := .cells #[.int .i64 t483, .int .i64 t484, .int .i64 t485, .int .i64 t486, .int .i64 t487, .int .i64 t488, .int .i64 t489, .int .i64 t490, .int .u64 t491] 24 (0, 0)) (by (with_reducible repeat (first | refine blk_drewN ?_ _ | refine blk_drew ?_ | refine blk_alloc ?_ _)); refine blk_put (cs := #[.int .i64 t483, .int .i64 t484, .int .i64 t485, .int .i64 t486, .int .i64 t487, .int .i64 t488, .int .i64 t489, .int .i64 t490, .int .u64 0]) ?_ 8 _ rfl; refine blk_put (cs := #[.int .i64 t483, .int .i64 t484, .int .i64 t485, .int .i64 t486, .int .i64 t487, .int .i64 t488, .int .i64 t489, .int .i64 0, .int .u64 0]) ?_ 7 _ rfl; refine blk_put (cs := #[.int .i64 t483, .int .i64 t484, .int .i64 t485, .int .i64 t486, .int .i64 t487, .int .i64 t488, .int .i64 0, .int .i64 0, .int .u64 0]) ?_ 6 _ rfl; refine blk_put (cs := #[.int .i64 t483, .int .i64 t484, .int .i64 t485, .int .i64 t486, .int .i64 t487, .int .i64 0, .int .i64 0, .int .i64 0, .int .u64 0]) ?_ 5 _ rfl; refine blk_put (cs := #[.int .i64 t483, .int .i64 t484, .int .i64 t485, .int .i64 t486, .int .i64 0, .int .i64 0, .int .i64 0, .int .i64 0, .int .u64 0]) ?_ 4 _ rfl; refine blk_put (cs := #[.int .i64 t483, .int .i64 t484, .int .i64 t485, .int .i64 0, .int .i64 0, .int .i64 0, .int .i64 0, .int .i64 0, .int .u64 0]) ?_ 3 _ rfl; refine blk_put (cs := #[.int .i64 t483, .int .i64 t484, .int .i64 0, .int .i64 0, .int .i64 0, .int .i64 0, .int .i64 0, .int .i64 0, .int .u64 0]) ?_ 2 _ rfl; refine blk_put (cs := #[.int .i64 t483, .int .i64 0, .int .i64 0, .int .i64 0, .int .i64 0, .int .i64 0, .int .i64 0, .int .i64 0, .int .u64 0]) ?_ 1 _ rfl; refine blk_put (cs := #[.int .i64 0, .int .i64 0, .int .i64 0, .int .i64 0, .int .i64 0, .int .i64 0, .int .i64 0, .int .i64 0, .int .u64 0]) ?_ 0 _ rfl; (with_reducible repeat (first | refine blk_drewN ?_ _ | refine blk_drew ?_ | refine blk_alloc ?_ _)); exact BK493.out) hb); have n1_ := Aside0.mk (below_step (by repeat (first | (with_reducible first | exact HB.out | apply below_alloc | apply pw_below_drewN | apply below_drew1 | refine below_set ?_ GE493.out) | exact HB.out)) hb); clear BK493; clear HB; have BK493 := n0_; have HB := n1_; clear n0_ n1_; (try clear hb); (try clear hb2); (try clear hk); (try clear hi)) | ((with_reducible refine gate_dst (N := 5) rfl ?_); refine box_event ?hg (N := 5) ?hd (cs := #[.int .i64 0, .int .i64 0, .int .i64 0, .int .i64 0, .int .i64 0, .int .i64 0, .int .i64 0, .int .i64 0, .int .u64 0]) (t := 24) ?hr ?_; (case hd => rfl); (case hg => rfl); (case hr => first | (go_simp; done) | (go_simp; rfl)); intro gb504 hg w14 hbox hb; have n0_ := Aside0.mk (blk_below (g := gb493) (o := .cells #[.int .i64 t483, .int .i64 t484, .int .i64 t485, .int .i64 t486, .int .i64 t487, .int .i64 t488, .int .i64 t489, .int .i64 t490, .int .u64 t491] 24 (0, 0)) (by (with_reducible repeat (first | refine blk_drewN ?_ _ | refine blk_drew ?_ | refine blk_alloc ?_ _)); exact BK493.out) hb); have n1_ := Aside0.mk (below_step (by repeat (first | (with_reducible first | exact HB.out | apply below_alloc | apply pw_below_drewN | apply below_drew1 | refine below_set ?_ GE493.out) | exact HB.out)) hb); have n2_ := Aside0.mk (hbox); have n3_ := Aside0.mk ((by rw [hg]; exact (below_size (by repeat (first | (with_reducible first | exact HB.out | apply below_alloc | apply pw_below_drewN | apply below_drew1 | refine below_set ?_ GE493.out) | exact HB.out))) : w.heap.size ≤ gb504)); have n4_ := Aside0.mk ((by rw [hg]; exact (below_size (by repeat (first | (with_reducible first | exact HB.out | apply below_alloc | apply pw_below_drewN | apply below_drew1 | refine below_set ?_ GE493.out) | exact HB.out))) : w.heap.size ≤ gb504)); have n5_ := Aside0.mk ((by rw [hg]; exact Nat.ne_of_lt (blk_lt (g := gb493) (o := .cells #[.int .i64 t483, .int .i64 t484, .int .i64 t485, .int .i64 t486, .int .i64 t487, .int .i64 t488, .int .i64 t489, .int .i64 t490, .int .u64 t491] 24 (0, 0)) (by (with_reducible repeat (first | refine blk_drewN ?_ _ | refine blk_drew ?_ | refine blk_alloc ?_ _)); exact BK493.out)) : gb493 ≠ gb504)); have n6_ := Aside0.mk ((by rw [hg]; exact Nat.ne_of_gt (blk_lt (g := gb493) (o := .cells #[.int .i64 t483, .int .i64 t484, .int .i64 t485, .int .i64 t486, .int .i64 t487, .int .i64 t488, .int .i64 t489, .int .i64 t490, .int .u64 t491] 24 (0, 0)) (by (with_reducible repeat (first | refine blk_drewN ?_ _ | refine blk_drew ?_ | refine blk_alloc ?_ _)); exact BK493.out)) : gb504 ≠ gb493)); clear BK493; clear HB; have BK493 := n0_; have HB := n1_; have BK504 := n2_; have GW504 := n3_; have GE504 := n4_; have NB493_504 := n5_; have NB504_493 := n6_; clear n0_ n1_ n2_ n3_ n4_ n5_ n6_; clear hb hbox hg; have hnb15 := NB504_493.out; have hnc15 := NB493_504.out; have hcz16_0 : w14.cell? ⟨gb504, 0, none⟩ = some (.int .i64 0) := (blk_cell BK504.out 0).trans rfl; have hcz16_1 : w14.cell? ⟨gb504, 1, none⟩ = some (.int .i64 0) := (blk_cell BK504.out 1).trans rfl; have hcz16_2 : w14.cell? ⟨gb504, 2, none⟩ = some (.int .i64 0) := (blk_cell BK504.out 2).trans rfl; have hcz16_3 : w14.cell? ⟨gb504, 3, none⟩ = some (.int .i64 0) := (blk_cell BK504.out 3).trans rfl; have hcz16_4 : w14.cell? ⟨gb504, 4, none⟩ = some (.int .i64 0) := (blk_cell BK504.out 4).trans rfl; have hcz16_5 : w14.cell? ⟨gb504, 5, none⟩ = some (.int .i64 0) := (blk_cell BK504.out 5).trans rfl; have hcz16_6 : w14.cell? ⟨gb504, 6, none⟩ = some (.int .i64 0) := (blk_cell BK504.out 6).trans rfl; have hcz16_7 : w14.cell? ⟨gb504, 7, none⟩ = some (.int .i64 0) := (blk_cell BK504.out 7).trans rfl; have hcz16_8 : w14.cell? ⟨gb504, 8, none⟩ = some (.int .u64 0) := (blk_cell BK504.out 8).trans rfl; have hfz16_0 := blk_frozen BK504.out 0; have hfz16_1 := blk_frozen BK504.out 1; have hfz16_2 := blk_frozen BK504.out 2; have hfz16_3 := blk_frozen BK504.out 3; have hfz16_4 := blk_frozen BK504.out 4; have hfz16_5 := blk_frozen BK504.out 5; have hfz16_6 := blk_frozen BK504.out 6; have hfz16_7 := blk_frozen BK504.out 7; have hfz16_8 := blk_frozen BK504.out 8; have hcz17_0 : w14.cell? ⟨gb493, 0, none⟩ = some (.int .i64 t483) := (blk_cell BK493.out 0).trans rfl; have hcz17_1 : w14.cell? ⟨gb493, 1, none⟩ = some (.int .i64 t484) := (blk_cell BK493.out 1).trans rfl; have hcz17_2 : w14.cell? ⟨gb493, 2, none⟩ = some (.int .i64 t485) := (blk_cell BK493.out 2).trans rfl; have hcz17_3 : w14.cell? ⟨gb493, 3, none⟩ = some (.int .i64 t486) := (blk_cell BK493.out 3).trans rfl; have hcz17_4 : w14.cell? ⟨gb493, 4, none⟩ = some (.int .i64 t487) := (blk_cell BK493.out 4).trans rfl; have hcz17_5 : w14.cell? ⟨gb493, 5, none⟩ = some (.int .i64 t488) := (blk_cell BK493.out 5).trans rfl; have hcz17_6 : w14.cell? ⟨gb493, 6, none⟩ = some (.int .i64 t489) := (blk_cell BK493.out 6).trans rfl; have hcz17_7 : w14.cell? ⟨gb493, 7, none⟩ = some (.int .i64 t490) := (blk_cell BK493.out 7).trans rfl; have hcz17_8 : w14.cell? ⟨gb493, 8, none⟩ = some (.int .u64 t491) := (blk_cell BK493.out 8).trans rfl; have hfz17_0 := blk_frozen BK493.out 0; have hfz17_1 := blk_frozen BK493.out 1; have hfz17_2 := blk_frozen BK493.out 2; have hfz17_3 := blk_frozen BK493.out 3; have hfz17_4 := blk_frozen BK493.out 4; have hfz17_5 := blk_frozen BK493.out 5; have hfz17_6 := blk_frozen BK493.out 6; have hfz17_7 := blk_frozen BK493.out 7; have hfz17_8 := blk_frozen BK493.out 8))
 go_ret
 exact ⟨by first | rfl | (simp [errW_none, errW_some] <;> rfl) | (simp [*, errW_none, errW_some] <;> rfl), by repeat (first | (with_reducible first | exact HB.out | apply below_alloc | apply pw_below_drewN | apply below_drew1 | refine below_set ?_ GE493.out | refine below_set ?_ GE504.out) | exact HB.out)⟩ }
 {
 rw [if_neg c8] at H
 have c8b0 : (t483 == t494 && (t484 == t495 && (t485 == t496 && (t486 == t497 && (t487 == t498 && (t488 == t499 && (t489 == t500 && (t490 == t501 && (t491 == t502))))))))) = false := by simpa using c8
 (try (have c8b1 : decide (t483 = t494 && (t484 == t495 && (t485 == t496 && (t486 == t497 && (t487 == t498 && (t488 == t499 && (t489 == t500 && (t490 == t501 && (t491 == t502))))))))) = false := by simpa using c8))
 (try (have c8b2 : (t483 == t494 && (t484 == t495 && (t485 == t496 && (t486 == t497 && (t487 == t498 && (t488 == t499 && (t489 == t500 && (t490 == t501 && (t491 == t502))))))))) = false := by simpa using c8))
 (try (have c8b3 : ¬ (t483 = t494 && (t484 == t495 && (t485 == t496 && (t486 == t497 && (t487 == t498 && (t488 == t499 && (t489 == t500 && (t490 == t501 && (t491 == t502))))))))) := by simpa using c8))
 clear c8
 obtain rfl := Option.some.inj H
 go_enter Try.func7, Try.ntmps7
 go_wp2_with (first | ((with_reducible refine gate_callee (f := 10) rfl ?_); refine goesL_ (some 7) rfl rfl Try.func10 (by kernel_rfl) rfl #[] rfl (by (try simp only [List.map_toArray, List.map_cons, List.map_nil]); first | done | rfl | (simp only [List.length_drop, List.length_take]; rfl)) ?_; (with_reducible refine (skiarealaw25_alive.calls k  true _ A2.out).mono ?_); rintro e w18 ⟨rfl, hb⟩; refine ⟨_, rfl, ?_⟩; have n0_ := Aside0.mk (below_step (by repeat (first | (with_reducible first | exact HB.out | apply below_alloc | apply pw_below_drewN | apply below_drew1) | exact HB.out)) hb); clear HB; have HB := n0_; clear n0_; (try clear hb); (try clear hb2); (try clear hk); (try clear hi)) | ((with_reducible refine gate_callee (f := 24) rfl ?_); refine goesL_ (some 14) rfl rfl Try.func24 (by kernel_rfl) rfl #[.slice A0 l0.length c0] rfl (by (try simp only [List.map_toArray, List.map_cons, List.map_nil]); first | done | rfl | (simp only [List.length_drop, List.length_take]; rfl)) ?_; (with_reducible refine (media_Decode.calls k _ _ l0 t483 t484 t485 t486 t487 t488 t489 t490 t491 t492 _ ?side1 ?side2 A6.out).mono ?_); (case side1 => repeat (first | exact (Kd.C_below HR0.out HB.out) | (with_reducible refine Kd.C_alloc ?_ _) | (with_reducible refine Kd.C_drewN ?_ _) | (with_reducible refine Kd.C_drew ?_))); (case side2 => exact HC0.out); rintro e w19 ⟨rfl, hb⟩; refine ⟨_, rfl, ?_⟩; have n0_ := Aside0.mk (below_step (by repeat (first | (with_reducible first | exact HB.out | apply below_alloc | apply pw_below_drewN | apply below_drew1) | exact HB.out)) hb); clear HB; have HB := n0_; clear n0_; (try clear hb); (try clear hb2); (try clear hk); (try clear hi)) | ((with_reducible refine gate_dst (N := 3) rfl ?_); refine box_event ?hg (N := 3) ?hd (cs := #[.int .i64 0, .int .i64 0, .int .i64 0, .int .i64 0, .int .i64 0, .int .i64 0, .int .i64 0, .int .i64 0, .int .u64 0]) (t := 24) ?hr ?_; (case hd => rfl); (case hg => rfl); (case hr => first | (go_simp; done) | (go_simp; rfl)); intro gb493 hg w20 hbox hb; have n0_ := Aside0.mk (below_step (by repeat (first | (with_reducible first | exact HB.out | apply below_alloc | apply pw_below_drewN | apply below_drew1) | exact HB.out)) hb); have n1_ := Aside0.mk (hbox); have n2_ := Aside0.mk ((by rw [hg]; exact (below_size (by repeat (first | (with_reducible first | exact HB.out | apply below_alloc | apply pw_below_drewN | apply below_drew1) | exact HB.out))) : w.heap.size ≤ gb493)); have n3_ := Aside0.mk ((by rw [hg]; exact (below_size (by repeat (first | (with_reducible first | exact HB.out | apply below_alloc | apply pw_below_drewN | apply below_drew1) | exact HB.out))) : w.heap.size ≤ gb493)); clear HB; have HB := n0_; have BK493 := n1_; have GW493 := n2_; have GE493 := n3_; clear n0_ n1_ n2_ n3_; clear hb hbox hg; have hcz21_0 : w20.cell? ⟨gb493, 0, none⟩ = some (.int .i64 0) := (blk_cell BK493.out 0).trans rfl; have hcz21_1 : w20.cell? ⟨gb493, 1, none⟩ = some (.int .i64 0) := (blk_cell BK493.out 1).trans rfl; have hcz21_2 : w20.cell? ⟨gb493, 2, none⟩ = some (.int .i64 0) := (blk_cell BK493.out 2).trans rfl; have hcz21_3 : w20.cell? ⟨gb493, 3, none⟩ = some (.int .i64 0) := (blk_cell BK493.out 3).trans rfl; have hcz21_4 : w20.cell? ⟨gb493, 4, none⟩ = some (.int .i64 0) := (blk_cell BK493.out 4).trans rfl; have hcz21_5 : w20.cell? ⟨gb493, 5, none⟩ = some (.int .i64 0) := (blk_cell BK493.out 5).trans rfl; have hcz21_6 : w20.cell? ⟨gb493, 6, none⟩ = some (.int .i64 0) := (blk_cell BK493.out 6).trans rfl; have hcz21_7 : w20.cell? ⟨gb493, 7, none⟩ = some (.int .i64 0) := (blk_cell BK493.out 7).trans rfl; have hcz21_8 : w20.cell? ⟨gb493, 8, none⟩ = some (.int .u64 0) := (blk_cell BK493.out 8).trans rfl; have hfz21_0 := blk_frozen BK493.out 0; have hfz21_1 := blk_frozen BK493.out 1; have hfz21_2 := blk_frozen BK493.out 2; have hfz21_3 := blk_frozen BK493.out 3; have hfz21_4 := blk_frozen BK493.out 4; have hfz21_5 := blk_frozen BK493.out 5; have hfz21_6 := blk_frozen BK493.out 6; have hfz21_7 := blk_frozen BK493.out 7; have hfz21_8 := blk_frozen BK493.out 8) | ((with_reducible refine gate_callee (f := 25) rfl ?_); refine goesL_ (some 19) rfl rfl Try.func25 (by kernel_rfl) rfl #[.slice A0 l0.length c0] rfl (by (try simp only [List.map_toArray, List.map_cons, List.map_nil]); first | done | rfl | (simp only [List.length_drop, List.length_take]; rfl)) ?_; (with_reducible refine (skiarearef25_Decode.calls k _ _ l0 t494 t495 t496 t497 t498 t499 t500 t501 t502 t503 _ ?side1 ?side2 A7.out).mono ?_); (case side1 => exact Kd.C_below HR0.out (by repeat (first | (with_reducible first | exact HB.out | apply below_alloc | apply pw_below_drewN | apply below_drew1 | refine below_set ?_ GE493.out) | exact HB.out))); (case side2 => exact HC0.out); rintro e w22 ⟨rfl, hb⟩; refine ⟨_, rfl, ?_⟩; have n0_ := Aside0.mk (blk_below (g := gb493) (o := .cells #[.int .i64 t483, .int .i64 t484, .int .i64 t485, .int .i64 t486, .int .i64 t487, .int .i64 t488, .int .i64 t489, .int .i64 t490, .int .u64 t491] 24 (0, 0)) (by (with_reducible repeat (first | refine blk_drewN ?_ _ | refine blk_drew ?_ | refine blk_alloc ?_ _)); refine blk_put (cs := #[.int .i64 t483, .int .i64 t484, .int .i64 t485, .int .i64 t486, .int .i64 t487, .int .i64 t488, .int .i64 t489, .int .i64 t490, .int .u64 0]) ?_ 8 _ rfl; refine blk_put (cs := #[.int .i64 t483, .int .i64 t484, .int .i64 t485, .int .i64 t486, .int .i64 t487, .int .i64 t488, .int .i64 t489, .int .i64 0, .int .u64 0]) ?_ 7 _ rfl; refine blk_put (cs := #[.int .i64 t483, .int .i64 t484, .int .i64 t485, .int .i64 t486, .int .i64 t487, .int .i64 t488, .int .i64 0, .int .i64 0, .int .u64 0]) ?_ 6 _ rfl; refine blk_put (cs := #[.int .i64 t483, .int .i64 t484, .int .i64 t485, .int .i64 t486, .int .i64 t487, .int .i64 0, .int .i64 0, .int .i64 0, .int .u64 0]) ?_ 5 _ rfl; refine blk_put (cs := #[.int .i64 t483, .int .i64 t484, .int .i64 t485, .int .i64 t486, .int .i64 0, .int .i64 0, .int .i64 0, .int .i64 0, .int .u64 0]) ?_ 4 _ rfl; refine blk_put (cs := #[.int .i64 t483, .int .i64 t484, .int .i64 t485, .int .i64 0, .int .i64 0, .int .i64 0, .int .i64 0, .int .i64 0, .int .u64 0]) ?_ 3 _ rfl; refine blk_put (cs := #[.int .i64 t483, .int .i64 t484, .int .i64 0, .int .i64 0, .int .i64 0, .int .i64 0, .int .i64 0, .int .i64 0, .int .u64 0]) ?_ 2 _ rfl; refine blk_put (cs := #[.int .i64 t483, .int .i64 0, .int .i64 0, .int .i64 0, .int .i64 0, .int .i64 0, .int .i64 0, .int .i64 0, .int .u64 0]) ?_ 1 _ rfl; refine blk_put (cs := #[.int .i64 0, .int .i64 0, .int .i64 0, .int .i64 0, .int .i64 0, .int .i64 0, .int .i64 0, .int .i64 0, .int .u64 0]) ?_ 0 _ rfl; (with_reducible repeat (first | refine blk_drewN ?_ _ | refine blk_drew ?_ | refine blk_alloc ?_ _)); exact BK493.out) hb); have n1_ := Aside0.mk (below_step (by repeat (first | (with_reducible first | exact HB.out | apply below_alloc | apply pw_below_drewN | apply below_drew1 | refine below_set ?_ GE493.out) | exact HB.out)) hb); clear BK493; clear HB; have BK493 := n0_; have HB := n1_; clear n0_ n1_; (try clear hb); (try clear hb2); (try clear hk); (try clear hi)) | ((with_reducible refine gate_dst (N := 5) rfl ?_); refine box_event ?hg (N := 5) ?hd (cs := #[.int .i64 0, .int .i64 0, .int .i64 0, .int .i64 0, .int .i64 0, .int .i64 0, .int .i64 0, .int .i64 0, .int .u64 0]) (t := 24) ?hr ?_; (case hd => rfl); (case hg => rfl); (case hr => first | (go_simp; done) | (go_simp; rfl)); intro gb504 hg w23 hbox hb; have n0_ := Aside0.mk (blk_below (g := gb493) (o := .cells #[.int .i64 t483, .int .i64 t484, .int .i64 t485, .int .i64 t486, .int .i64 t487, .int .i64 t488, .int .i64 t489, .int .i64 t490, .int .u64 t491] 24 (0, 0)) (by (with_reducible repeat (first | refine blk_drewN ?_ _ | refine blk_drew ?_ | refine blk_alloc ?_ _)); exact BK493.out) hb); have n1_ := Aside0.mk (below_step (by repeat (first | (with_reducible first | exact HB.out | apply below_alloc | apply pw_below_drewN | apply below_drew1 | refine below_set ?_ GE493.out) | exact HB.out)) hb); have n2_ := Aside0.mk (hbox); have n3_ := Aside0.mk ((by rw [hg]; exact (below_size (by repeat (first | (with_reducible first | exact HB.out | apply below_alloc | apply pw_below_drewN | apply below_drew1 | refine below_set ?_ GE493.out) | exact HB.out))) : w.heap.size ≤ gb504)); have n4_ := Aside0.mk ((by rw [hg]; exact (below_size (by repeat (first | (with_reducible first | exact HB.out | apply below_alloc | apply pw_below_drewN | apply below_drew1 | refine below_set ?_ GE493.out) | exact HB.out))) : w.heap.size ≤ gb504)); have n5_ := Aside0.mk ((by rw [hg]; exact Nat.ne_of_lt (blk_lt (g := gb493) (o := .cells #[.int .i64 t483, .int .i64 t484, .int .i64 t485, .int .i64 t486, .int .i64 t487, .int .i64 t488, .int .i64 t489, .int .i64 t490, .int .u64 t491] 24 (0, 0)) (by (with_reducible repeat (first | refine blk_drewN ?_ _ | refine blk_drew ?_ | refine blk_alloc ?_ _)); exact BK493.out)) : gb493 ≠ gb504)); have n6_ := Aside0.mk ((by rw [hg]; exact Nat.ne_of_gt (blk_lt (g := gb493) (o := .cells #[.int .i64 t483, .int .i64 t484, .int .i64 t485, .int .i64 t486, .int .i64 t487, .int .i64 t488, .int .i64 t489, .int .i64 t490, .int .u64 t491] 24 (0, 0)) (by (with_reducible repeat (first | refine blk_drewN ?_ _ | refine blk_drew ?_ | refine blk_alloc ?_ _)); exact BK493.out)) : gb504 ≠ gb493)); clear BK493; clear HB; have BK493 := n0_; have HB := n1_; have BK504 := n2_; have GW504 := n3_; have GE504 := n4_; have NB493_504 := n5_; have NB504_493 := n6_; clear n0_ n1_ n2_ n3_ n4_ n5_ n6_; clear hb hbox hg; have hnb24 := NB504_493.out; have hnc24 := NB493_504.out; have hcz25_0 : w23.cell? ⟨gb504, 0, none⟩ = some (.int .i64 0) := (blk_cell BK504.out 0).trans rfl; have hcz25_1 : w23.cell? ⟨gb504, 1, none⟩ = some (.int .i64 0) := (blk_cell BK504.out 1).trans rfl; have hcz25_2 : w23.cell? ⟨gb504, 2, none⟩ = some (.int .i64 0) := (blk_cell BK504.out 2).trans rfl; have hcz25_3 : w23.cell? ⟨gb504, 3, none⟩ = some (.int .i64 0) := (blk_cell BK504.out 3).trans rfl; have hcz25_4 : w23.cell? ⟨gb504, 4, none⟩ = some (.int .i64 0) := (blk_cell BK504.out 4).trans rfl; have hcz25_5 : w23.cell? ⟨gb504, 5, none⟩ = some (.int .i64 0) := (blk_cell BK504.out 5).trans rfl; have hcz25_6 : w23.cell? ⟨gb504, 6, none⟩ = some (.int .i64 0) := (blk_cell BK504.out 6).trans rfl; have hcz25_7 : w23.cell? ⟨gb504, 7, none⟩ = some (.int .i64 0) := (blk_cell BK504.out 7).trans rfl; have hcz25_8 : w23.cell? ⟨gb504, 8, none⟩ = some (.int .u64 0) := (blk_cell BK504.out 8).trans rfl; have hfz25_0 := blk_frozen BK504.out 0; have hfz25_1 := blk_frozen BK504.out 1; have hfz25_2 := blk_frozen BK504.out 2; have hfz25_3 := blk_frozen BK504.out 3; have hfz25_4 := blk_frozen BK504.out 4; have hfz25_5 := blk_frozen BK504.out 5; have hfz25_6 := blk_frozen BK504.out 6; have hfz25_7 := blk_frozen BK504.out 7; have hfz25_8 := blk_frozen BK504.out 8; have hcz26_0 : w23.cell? ⟨gb493, 0, none⟩ = some (.int .i64 t483) := (blk_cell BK493.out 0).trans rfl; have hcz26_1 : w23.cell? ⟨gb493, 1, none⟩ = some (.int .i64 t484) := (blk_cell BK493.out 1).trans rfl; have hcz26_2 : w23.cell? ⟨gb493, 2, none⟩ = some (.int .i64 t485) := (blk_cell BK493.out 2).trans rfl; have hcz26_3 : w23.cell? ⟨gb493, 3, none⟩ = some (.int .i64 t486) := (blk_cell BK493.out 3).trans rfl; have hcz26_4 : w23.cell? ⟨gb493, 4, none⟩ = some (.int .i64 t487) := (blk_cell BK493.out 4).trans rfl; have hcz26_5 : w23.cell? ⟨gb493, 5, none⟩ = some (.int .i64 t488) := (blk_cell BK493.out 5).trans rfl; have hcz26_6 : w23.cell? ⟨gb493, 6, none⟩ = some (.int .i64 t489) := (blk_cell BK493.out 6).trans rfl; have hcz26_7 : w23.cell? ⟨gb493, 7, none⟩ = some (.int .i64 t490) := (blk_cell BK493.out 7).trans rfl; have hcz26_8 : w23.cell? ⟨gb493, 8, none⟩ = some (.int .u64 t491) := (blk_cell BK493.out 8).trans rfl; have hfz26_0 := blk_frozen BK493.out 0; have hfz26_1 := blk_frozen BK493.out 1; have hfz26_2 := blk_frozen BK493.out 2; have hfz26_3 := blk_frozen BK493.out 3; have hfz26_4 := blk_frozen BK493.out 4; have hfz26_5 := blk_frozen BK493.out 5; have hfz26_6 := blk_frozen BK493.out 6; have hfz26_7 := blk_frozen BK493.out 7; have hfz26_8 := blk_frozen BK493.out 8))
 go_ret
 exact ⟨by first | rfl | (simp [errW_none, errW_some] <;> rfl) | (simp [*, errW_none, errW_some] <;> rfl), by repeat (first | (with_reducible first | exact HB.out | apply below_alloc | apply pw_below_drewN | apply below_drew1 | refine below_set ?_ GE493.out | refine below_set ?_ GE504.out) | exact HB.out)⟩ } } }
  {
 replace c3 := Bool.eq_false_iff.mpr c3
 subst c3
 have H1 : (some false) = some r := by rw [if_neg (show ¬ (false = true) by decide)] at H; exact H
 clear H
 have H := H1
 clear H1
 obtain rfl := Option.some.inj H
 go_enter Try.func7, Try.ntmps7
 go_wp2_with (first | ((with_reducible refine gate_callee (f := 10) rfl ?_); refine goesL_ (some 7) rfl rfl Try.func10 (by kernel_rfl) rfl #[] rfl (by (try simp only [List.map_toArray, List.map_cons, List.map_nil]); first | done | rfl | (simp only [List.length_drop, List.length_take]; rfl)) ?_; (with_reducible refine (skiarealaw25_alive.calls k  false _ A2.out).mono ?_); rintro e w27 ⟨rfl, hb⟩; refine ⟨_, rfl, ?_⟩; have n0_ := Aside0.mk (below_step (by repeat (first | (with_reducible first | exact HB.out | apply below_alloc | apply pw_below_drewN | apply below_drew1) | exact HB.out)) hb); clear HB; have HB := n0_; clear n0_; (try clear hb); (try clear hb2); (try clear hk); (try clear hi)))
 go_ret
 exact ⟨by first | rfl | (simp [errW_none, errW_some] <;> rfl) | (simp [*, errW_none, errW_some] <;> rfl), by repeat (first | (with_reducible first | exact HB.out | apply below_alloc | apply pw_below_drewN | apply below_drew1) | exact HB.out)⟩ }
def skiarealaw25_MediaDecodes.Pure : Prop := ∀ (l0 : List Int), l0.length ≤ maxLen → l0.length * 1 ≤ 140737488351232 → (∀ x ∈ l0, (Lit.int .u8 x).wf = true) → ∃ k, skiarealaw25_MediaDecodes.f k l0 = some true
theorem skiarealaw25_MediaDecodes.walk (P : skiarealaw25_MediaDecodes.Pure) (a0 : Option Addr) (len0 cap0 : Nat) (z0 : List Int) (w : World) (w0 : (a0 = none ∧ len0 = 0 ∧ cap0 = 0 ∧ z0 = []) ∨ ∃ x, a0 = some x ∧ len0 ≤ cap0 ∧ cap0 ≤ maxLen ∧ z0.length = cap0 ∧ (∀ i, i < z0.length → w.cell? (x.add i) = some (.int .u8 (z0.getD i 0))) ∧ ∀ n ∈ z0, (Lit.int .u8 n).wf = true) (y0 : len0 * 1 ≤ 140737488351232) :
    Calls Try.prog 7 #[.slice a0 len0 cap0] w fun e w' => e = .returned (.bool true) ∧ Below w.heap.size w w' := by
  obtain ⟨l0, rfl, hr0, hm0, hw0, hc0⟩ := ReadsInt.ofRowC w0
  obtain ⟨k, h⟩ := P l0 hm0 y0 hw0
  refine (skiarealaw25_MediaDecodes.calls k _ _ l0 true w (Kd.C_of_reads (d := (0 : Int)) (h1 := fun _ => rfl) hr0) hc0 h).mono ?_
  rintro e w' ⟨rfl, hd⟩
  exact ⟨rfl, hd⟩

end Go.Proofs.Ytdlinojgmllkoaa.Q

namespace Go.Proofs.Ytdlinojgmllkoaa.Q
open Go.RowKit Go.Proofs.YtdlinojgmllkoaaW.PrintWords Go.Proofs.YtdlinojgmllkoaaW.PrintLast Go.Proofs.YtdlinojgmllkoaaW.PrintMore
attribute [local go_sem] max2_int min2_int max_two min_two max_three min_three max_four min_four   -- for this text's walks alone
set_option linter.unusedVariables false
set_option linter.unusedSimpArgs false

def skiarearef04_Mix.f (a0 : Int) : Option (Int) := some (Go.bits .xor .u64 (IntKind.u64.wrap ((Go.bits .xor .u64 (IntKind.u64.wrap ((Go.bits .xor .u64 a0 (a0 / 1073741824)) * 13787848793156543929)) ((IntKind.u64.wrap ((Go.bits .xor .u64 a0 (a0 / 1073741824)) * 13787848793156543929)) / 134217728)) * 10723151780598845931)) ((IntKind.u64.wrap ((Go.bits .xor .u64 (IntKind.u64.wrap ((Go.bits .xor .u64 a0 (a0 / 1073741824)) * 13787848793156543929)) ((IntKind.u64.wrap ((Go.bits .xor .u64 a0 (a0 / 1073741824)) * 13787848793156543929)) / 134217728)) * 10723151780598845931)) / 2147483648))
set_option maxHeartbeats 8000000 in
set_option maxRecDepth 100000 in
theorem skiarearef04_Mix.calls (a0 : Int) (r : Int) (w : World) (h : skiarearef04_Mix.f a0 = some r) :
    Calls Try.prog 49 #[.int .u64 a0] w fun e w' => e = .returned (.int .u64 r) ∧ Drawn0 w w' := by
  have H : (some (Go.bits .xor .u64 (IntKind.u64.wrap ((Go.bits .xor .u64 (IntKind.u64.wrap ((Go.bits .xor .u64 a0 (a0 / 1073741824)) * 13787848793156543929)) ((IntKind.u64.wrap ((Go.bits .xor .u64 a0 (a0 / 1073741824)) * 13787848793156543929)) / 134217728)) * 10723151780598845931)) ((IntKind.u64.wrap ((Go.bits .xor .u64 (IntKind.u64.wrap ((Go.bits .xor .u64 a0 (a0 / 1073741824)) * 13787848793156543929)) ((IntKind.u64.wrap ((Go.bits .xor .u64 a0 (a0 / 1073741824)) * 13787848793156543929)) / 134217728)) * 10723151780598845931)) / 2147483648))) = some r := h
  clear h
  obtain rfl := Option.some.inj H
  go_enter Try.func49, Try.ntmps49
  go_wp2
  go_ret
  exact ⟨by first | rfl | (simp; done) | (simp [*]; done), by repeat (first | exact Drawn0.refl _ | apply Drawn0.step)⟩
end Go.Proofs.Ytdlinojgmllkoaa.Q

namespace Go.Proofs.Ytdlinojgmllkoaa.Q
open Go.RowKit Go.Proofs.YtdlinojgmllkoaaW.PrintWords Go.Proofs.YtdlinojgmllkoaaW.PrintLast Go.Proofs.YtdlinojgmllkoaaW.PrintMore
attribute [local go_sem] max2_int min2_int max_two min_two max_three min_three max_four min_four   -- for this text's walks alone
set_option linter.unusedVariables false
set_option linter.unusedSimpArgs false

def skiarearef04_Block.l0 : Nat → List Int → Int → Int → Int → Int → Option (Int)
  | 0, _, _, _, _, _ => none
  | k + 1, x0, x1, x5, x6, x7 => if x7 < (x0.length : Int) then (if x7 < (wrap64 (x1 + 8)) then (if 0 ≤ x7 then (skiarearef04_Block.l0 k x0 x1 (IntKind.u64.wrap (x5 + (IntKind.u64.wrap ((IntKind.u64.wrap (rd x0 x7)) * x6)))) (IntKind.u64.wrap (x6 * 256)) (wrap64 (x7 + 1))) else (none)) else (some x5)) else (some x5)
def skiarearef04_Block.f (k : Nat) (l0 : List Int) (a1 : Int) : Option (Int) := skiarearef04_Block.l0 k l0 a1 0 1 a1
theorem skiarearef04_Block.mono_l : ∀ k, (∀ y0 y1 y2 y3 y4, LeO (skiarearef04_Block.l0 k y0 y1 y2 y3 y4) (skiarearef04_Block.l0 (k + 1) y0 y1 y2 y3 y4))
  | 0 => fun _ _ _ _ _ r h => by simp [skiarearef04_Block.l0] at h
  | k + 1 => by
    have ih0 := skiarearef04_Block.mono_l k
    · intro y0 y1 y2 y3 y4
      unfold skiarearef04_Block.l0
      repeat' first
      | (with_reducible exact ih0 _ _ _ _ _)
      | (with_reducible exact LeO.refl _)
      | (with_reducible exact LeO.none _)
      | (with_reducible refine LeO.ite ?_ ?_)
      | (with_reducible refine LeO.bind ?_ (fun _ => ?_))
      | exact ih0 _ _ _ _ _
      | exact LeO.none _
      | refine LeO.ite ?_ ?_
      | refine LeO.bind ?_ (fun _ => ?_)
theorem skiarearef04_Block.mono : ∀ a0 a1 k, LeO (skiarearef04_Block.f k a0 a1) (skiarearef04_Block.f (k + 1) a0 a1) := by
  intro a0 a1 k
  have ih0 := skiarearef04_Block.mono_l k
  unfold skiarearef04_Block.f
  repeat' first
      | (with_reducible exact ih0 _ _ _ _ _)
      | (with_reducible exact LeO.refl _)
      | (with_reducible exact LeO.none _)
      | (with_reducible refine LeO.ite ?_ ?_)
      | (with_reducible refine LeO.bind ?_ (fun _ => ?_))
      | exact ih0 _ _ _ _ _
      | exact LeO.none _
      | refine LeO.ite ?_ ?_
      | refine LeO.bind ?_ (fun _ => ?_)
set_option maxHeartbeats 8000000 in
set_option maxRecDepth 100000 in
theorem skiarearef04_Block.calls (k : Nat) (A0 : Option Addr) (c0 : Nat) (l0 : List Int) (a1 : Int) (r : Int) (w : World) (hr0 : Kd.C (Kd.int .u8) w A0 l0.length l0) (hc0 : l0.length ≤ c0) (h : skiarearef04_Block.f k l0 a1 = some r) :
    Calls Try.prog 50 #[.slice A0 l0.length c0, .int .i64 a1] w fun e w' => e = .returned (.int .u64 r) ∧ Drawn0 w w' := by
  have HR0 := Aside0.mk hr0
  have HC0 := Aside0.mk hc0
  clear hr0 hc0
  have H : (skiarearef04_Block.l0 k l0 a1 0 1 a1) = some r := h
  clear h
  have H' := Aside0.mk H
  clear H
  go_enter Try.func50, Try.ntmps50
  go_wp2
  go_loopg [5, 6, 7] k (fun kq v5 v6 v7 w' => ∃ (x5_1 : Int) (x6_1 : Int) (x7_1 : Int), v5 = .int .u64 x5_1 ∧ v6 = .int .u64 x6_1 ∧ v7 = .int .i64 x7_1 ∧ Aside0 (skiarearef04_Block.l0 kq l0 a1 x5_1 x6_1 x7_1 = some r) ∧ Aside0 (kq ≤ k) ∧ Drawn0 w w')
  case atStart => exact ⟨(0), (1), (a1), (by first | rfl | (simp; done) | (simp [*]; done)), (by first | rfl | (simp; done) | (simp [*]; done)), (by first | rfl | (simp; done) | (simp [*]; done)), H', ⟨Nat.le_refl _⟩, by repeat (first | exact Drawn0.refl _ | apply Drawn0.step)⟩
  case round =>
   (
 clear H'
 try clear p2
 obtain ⟨x5_1, x6_1, x7_1, rfl, rfl, rfl, HA, HK1, ⟨m1, rfl⟩⟩ := hrel
 cases gk with
 | zero => exact absurd HA.out (by simp [skiarearef04_Block.l0])
 | succ k1 =>
   (
 have H := HA.out
 clear HA
 simp only [skiarearef04_Block.l0] at H
 by_cases c3 : x7_1 < (l0.length : Int)
 {
 rw [if_pos c3] at H
 have c3b0 : decide (x7_1 < (l0.length : Int)) = true := decide_eq_true c3
 clear c3
 by_cases c4 : x7_1 < (wrap64 (a1 + 8))
 {
 rw [if_pos c4] at H
 have c4b0 : decide (x7_1 < (wrap64 (a1 + 8))) = true := decide_eq_true c4
 clear c4
 by_cases c5 : 0 ≤ x7_1
 {
 rw [if_pos c5] at H
 have c5b0 : decide (0 ≤ x7_1) = true := decide_eq_true c5
 clear c5
 have H' := Aside0.mk H
 clear H
 have p307 : 0 ≤ (x7_1 : Int) := of_decide_eq_true (by first | (with_reducible assumption) | assumption)
 have q307 : x7_1 < (l0.length : Int) := of_decide_eq_true (by first | (with_reducible assumption) | assumption)
 obtain ⟨ad307, e307, hx307_0⟩ := Kd.at_int HR0.out x7_1 p307 q307
 cases e307
 replace p307 := eq_true p307
 replace q307 := eq_true q307
 go_wp2
 go_roundg k1
 case measure => have := HK1.out; omega
 case rel => exact ⟨(IntKind.u64.wrap (x5_1 + (IntKind.u64.wrap ((IntKind.u64.wrap (rd l0 x7_1)) * x6_1)))), (IntKind.u64.wrap (x6_1 * 256)), (wrap64 (x7_1 + 1)), (by first | rfl | (simp; done) | (simp [*]; done)), (by first | rfl | (simp; done) | (simp [*]; done)), (by first | rfl | (simp; done) | (simp [*]; done)), H', ⟨by have := HK1.out; omega⟩, by repeat (first | exact Drawn0.refl _ | apply Drawn0.step)⟩ }
 {
 rw [if_neg c5] at H
 exact absurd H (by simp) } }
 {
 rw [if_neg c4] at H
 have c4b0 : decide (x7_1 < (wrap64 (a1 + 8))) = false := decide_eq_false c4
 clear c4
 obtain rfl := Option.some.inj H
 go_wp2
 go_ret
 exact ⟨by first | rfl | (simp; done) | (simp [*]; done), by repeat (first | exact Drawn0.refl _ | apply Drawn0.step)⟩ } }
 {
 rw [if_neg c3] at H
 have c3b0 : decide (x7_1 < (l0.length : Int)) = false := decide_eq_false c3
 clear c3
 obtain rfl := Option.some.inj H
 go_wp2
 go_ret
 exact ⟨by first | rfl | (simp; done) | (simp [*]; done), by repeat (first | exact Drawn0.refl _ | apply Drawn0.step)⟩ } ) )
end Go.Proofs.Ytdlinojgmllkoaa.Q

namespace Go.Proofs.Ytdlinojgmllkoaa.Q
open Go.RowKit Go.Proofs.YtdlinojgmllkoaaW.PrintWords Go.Proofs.YtdlinojgmllkoaaW.PrintLast Go.Proofs.YtdlinojgmllkoaaW.PrintMore
attribute [local go_sem] max2_int min2_int max_two min_two max_three min_three max_four min_four   -- for this text's walks alone
set_option linter.unusedVariables false
set_option linter.unusedSimpArgs false

attribute [local irreducible] Calls skiarearef04_Block.f skiarearef04_Mix.f
def skiarearef04_Tag.l0 : Nat → List Int → Int → Int → Option (Int)
  | 0, _, _, _ => none
  | k + 1, x1, x5, x6 => if x6 < (x1.length : Int) then ((skiarearef04_Block.f k x1 x6).bind fun t309 => ((skiarearef04_Mix.f (Go.bits .xor .u64 x5 t309)).bind fun t310 => (skiarearef04_Tag.l0 k x1 t310 (wrap64 (x6 + 8))))) else ((skiarearef04_Mix.f (Go.bits .xor .u64 x5 (IntKind.u64.wrap ((x1.length : Int))))).bind fun t311 => (some t311))
def skiarearef04_Tag.f (k : Nat) (a0 : Int) (l1 : List Int) : Option (Int) := (skiarearef04_Mix.f a0).bind fun t308 => (skiarearef04_Tag.l0 k l1 t308 0)
theorem skiarearef04_Tag.mono_l : ∀ k, (∀ y0 y1 y2, LeO (skiarearef04_Tag.l0 k y0 y1 y2) (skiarearef04_Tag.l0 (k + 1) y0 y1 y2))
  | 0 => fun _ _ _ r h => by simp [skiarearef04_Tag.l0] at h
  | k + 1 => by
    have ih0 := skiarearef04_Tag.mono_l k
    · intro y0 y1 y2
      unfold skiarearef04_Tag.l0
      repeat' first
      | (with_reducible exact ih0 _ _ _)
      | (with_reducible exact skiarearef04_Block.mono _ _ _)
      | (with_reducible exact LeO.refl _)
      | (with_reducible exact LeO.none _)
      | (with_reducible refine LeO.ite ?_ ?_)
      | (with_reducible refine LeO.bind ?_ (fun _ => ?_))
      | exact ih0 _ _ _
      | exact skiarearef04_Block.mono _ _ _
      | exact LeO.none _
      | refine LeO.ite ?_ ?_
      | refine LeO.bind ?_ (fun _ => ?_)
theorem skiarearef04_Tag.mono : ∀ a0 a1 k, LeO (skiarearef04_Tag.f k a0 a1) (skiarearef04_Tag.f (k + 1) a0 a1) := by
  intro a0 a1 k
  have ih0 := skiarearef04_Tag.mono_l k
  unfold skiarearef04_Tag.f
  repeat' first
      | (with_reducible exact ih0 _ _ _)
      | (with_reducible exact skiarearef04_Block.mono _ _ _)
      | (with_reducible exact LeO.refl _)
      | (with_reducible exact LeO.none _)
      | (with_reducible refine LeO.ite ?_ ?_)
      | (with_reducible refine LeO.bind ?_ (fun _ => ?_))
      | exact ih0 _ _ _
      | exact skiarearef04_Block.mono _ _ _
      | exact LeO.none _
      | refine LeO.ite ?_ ?_
      | refine LeO.bind ?_ (fun _ => ?_)
set_option maxHeartbeats 8000000 in
set_option maxRecDepth 100000 in
theorem skiarearef04_Tag.calls (k : Nat) (a0 : Int) (A1 : Option Addr) (c1 : Nat) (l1 : List Int) (r : Int) (w : World) (hr1 : Kd.C (Kd.int .u8) w A1 l1.length l1) (hc1 : l1.length ≤ c1) (h : skiarearef04_Tag.f k a0 l1 = some r) :
    Calls Try.prog 42 #[.int .u64 a0, .slice A1 l1.length c1] w fun e w' => e = .returned (.int .u64 r) ∧ Drawn0 w w' := by
  have HR1 := Aside0.mk hr1
  have HC1 := Aside0.mk hc1
  clear hr1 hc1
  have H : ((skiarearef04_Mix.f a0).bind fun t308 => (skiarearef04_Tag.l0 k l1 t308 0)) = some r := h
  clear h
  replace H := Option.bind_eq_some_iff.mp H
  obtain ⟨t308, A30, H⟩ := H
  try dsimp only at H
  have A3 := Aside0.mk A30
  clear A30
  have H' := Aside0.mk H
  clear H
  go_enter Try.func42, Try.ntmps42
  go_wp2_with (first | ((with_reducible refine gate_callee (f := 49) rfl ?_); refine goesL_ (some 8) rfl rfl Try.func49 (by kernel_rfl) rfl #[.int .u64 a0] rfl (by (try simp only [List.map_toArray, List.map_cons, List.map_nil]); first | done | rfl | (simp only [List.length_drop, List.length_take]; rfl)) ?_; (with_reducible refine (skiarearef04_Mix.calls a0 t308 _ A3.out).mono ?_); rintro e w' ⟨rfl, ⟨nd, rfl⟩⟩; refine ⟨_, rfl, ?_⟩))
  go_loopg [5, 6] k (fun kq v5 v6 w' => ∃ (x5_1 : Int) (x6_1 : Int), v5 = .int .u64 x5_1 ∧ v6 = .int .i64 x6_1 ∧ Aside0 (skiarearef04_Tag.l0 kq l1 x5_1 x6_1 = some r) ∧ Aside0 (kq ≤ k) ∧ Drawn0 w w')
  case atStart => exact ⟨(t308), (0), (by first | rfl | (simp; done) | (simp [*]; done)), (by first | rfl | (simp; done) | (simp [*]; done)), H', ⟨Nat.le_refl _⟩, by repeat (first | exact Drawn0.refl _ | apply Drawn0.step)⟩
  case round =>
   (
 clear H'
 try clear c1
 try clear p2
 obtain ⟨x5_1, x6_1, rfl, rfl, HA, HK1, ⟨m1, rfl⟩⟩ := hrel
 cases gk with
 | zero => exact absurd HA.out (by simp [skiarearef04_Tag.l0])
 | succ k1 =>
   (
 have H := HA.out
 clear HA
 simp only [skiarearef04_Tag.l0] at H
 by_cases c4 : x6_1 < (l1.length : Int)
 {
 rw [if_pos c4] at H
 have c4b0 : decide (x6_1 < (l1.length : Int)) = true := decide_eq_true c4
 clear c4
 replace H := Option.bind_eq_some_iff.mp H
 obtain ⟨t309, A50, H⟩ := H
 try dsimp only at H
 have A5 := Aside0.mk A50
 clear A50
 replace H := Option.bind_eq_some_iff.mp H
 obtain ⟨t310, A60, H⟩ := H
 try dsimp only at H
 have A6 := Aside0.mk A60
 clear A60
 have H' := Aside0.mk H
 clear H
 go_wp2_with (first | ((with_reducible refine gate_callee (f := 50) rfl ?_); refine goesL_ (some 18) rfl rfl Try.func50 (by kernel_rfl) rfl #[.slice A1 l1.length c1, .int .i64 x6_1] rfl (by (try simp only [List.map_toArray, List.map_cons, List.map_nil]); first | done | rfl | (simp only [List.length_drop, List.length_take]; rfl)) ?_; (with_reducible refine (skiarearef04_Block.calls k1 _ _ l1 x6_1 t309 _ ?side1 ?side2 A5.out).mono ?_); (case side1 => repeat (first | exact HR1.out | (with_reducible refine Kd.C_alloc ?_ _) | (with_reducible refine Kd.C_drewN ?_ _) | (with_reducible refine Kd.C_drew ?_))); (case side2 => exact HC1.out); rintro e w' ⟨rfl, ⟨nd, rfl⟩⟩; refine ⟨_, rfl, ?_⟩) | ((with_reducible refine gate_callee (f := 49) rfl ?_); refine goesL_ (some 20) rfl rfl Try.func49 (by kernel_rfl) rfl #[.int .u64 (Go.bits .xor .u64 x5_1 t309)] rfl (by (try simp only [List.map_toArray, List.map_cons, List.map_nil]); first | done | rfl | (simp only [List.length_drop, List.length_take]; rfl)) ?_; (with_reducible refine (skiarearef04_Mix.calls (Go.bits .xor .u64 x5_1 t309) t310 _ A6.out).mono ?_); rintro e w' ⟨rfl, ⟨nd, rfl⟩⟩; refine ⟨_, rfl, ?_⟩))
 go_roundg k1
 case measure => have := HK1.out; omega
 case rel => exact ⟨(t310), (wrap64 (x6_1 + 8)), (by first | rfl | (simp; done) | (simp [*]; done)), (by first | rfl | (simp; done) | (simp [*]; done)), H', ⟨by have := HK1.out; omega⟩, by repeat (first | exact Drawn0.refl _ | apply Drawn0.step)⟩ }
 {
 rw [if_neg c4] at H
 have c4b0 : decide (x6_1 < (l1.length : Int)) = false := decide_eq_false c4
 clear c4
 replace H := Option.bind_eq_some_iff.mp H
 obtain ⟨t311, A70, H⟩ := H
 try dsimp only at H
 have A7 := Aside0.mk A70
 clear A70
 obtain rfl := Option.some.inj H
 go_wp2_with (first | ((with_reducible refine gate_callee (f := 49) rfl ?_); refine goesL_ (some 26) rfl rfl Try.func49 (by kernel_rfl) rfl #[.int .u64 (Go.bits .xor .u64 x5_1 (IntKind.u64.wrap ((l1.length : Int))))] rfl (by (try simp only [List.map_toArray, List.map_cons, List.map_nil]); first | done | rfl | (simp only [List.length_drop, List.length_take]; rfl)) ?_; (with_reducible refine (skiarearef04_Mix.calls (Go.bits .xor .u64 x5_1 (IntKind.u64.wrap ((l1.length : Int)))) t311 _ A7.out).mono ?_); rintro e w' ⟨rfl, ⟨nd, rfl⟩⟩; refine ⟨_, rfl, ?_⟩))
 go_ret
 exact ⟨by first | rfl | (simp; done) | (simp [*]; done), by repeat (first | exact Drawn0.refl _ | apply Drawn0.step)⟩ } ) )
end Go.Proofs.Ytdlinojgmllkoaa.Q

namespace Go.Proofs.Ytdlinojgmllkoaa.Q
open Go.RowKit Go.Proofs.YtdlinojgmllkoaaW.PrintWords Go.Proofs.YtdlinojgmllkoaaW.PrintLast Go.Proofs.YtdlinojgmllkoaaW.PrintMore
attribute [local go_sem] max2_int min2_int max_two min_two max_three min_three max_four min_four   -- for this text's walks alone
set_option linter.unusedVariables false
set_option linter.unusedSimpArgs false

attribute [local irreducible] Calls skiarearef04_Mix.f
def skiarearef04_Key.f (a0 : Int) (a1 : Int) : Option (Int) := (skiarearef04_Mix.f (IntKind.u64.wrap (a0 + (IntKind.u64.wrap ((IntKind.u64.wrap (a1)) * 11400714819323198485))))).bind fun t312 => (some t312)
set_option maxHeartbeats 8000000 in
set_option maxRecDepth 100000 in
theorem skiarearef04_Key.calls (a0 : Int) (a1 : Int) (r : Int) (w : World) (h : skiarearef04_Key.f a0 a1 = some r) :
    Calls Try.prog 43 #[.int .u64 a0, .int .i64 a1] w fun e w' => e = .returned (.int .u64 r) ∧ Drawn0 w w' := by
  have H : ((skiarearef04_Mix.f (IntKind.u64.wrap (a0 + (IntKind.u64.wrap ((IntKind.u64.wrap (a1)) * 11400714819323198485))))).bind fun t312 => (some t312)) = some r := h
  clear h
  replace H := Option.bind_eq_some_iff.mp H
  obtain ⟨t312, A30, H⟩ := H
  try dsimp only at H
  have A3 := Aside0.mk A30
  clear A30
  obtain rfl := Option.some.inj H
  go_enter Try.func43, Try.ntmps43
  go_wp2_with (first | ((with_reducible refine gate_callee (f := 49) rfl ?_); refine goesL_ (some 10) rfl rfl Try.func49 (by kernel_rfl) rfl #[.int .u64 (IntKind.u64.wrap (a0 + (IntKind.u64.wrap ((IntKind.u64.wrap (a1)) * 11400714819323198485))))] rfl (by (try simp only [List.map_toArray, List.map_cons, List.map_nil]); first | done | rfl | (simp only [List.length_drop, List.length_take]; rfl)) ?_; (with_reducible refine (skiarearef04_Mix.calls (IntKind.u64.wrap (a0 + (IntKind.u64.wrap ((IntKind.u64.wrap (a1)) * 11400714819323198485)))) t312 _ A3.out).mono ?_); rintro e w' ⟨rfl, ⟨nd, rfl⟩⟩; refine ⟨_, rfl, ?_⟩))
  go_ret
  exact ⟨by first | rfl | (simp; done) | (simp [*]; done), by repeat (first | exact Drawn0.refl _ | apply Drawn0.step)⟩
end Go.Proofs.Ytdlinojgmllkoaa.Q

namespace Go.Proofs.Ytdlinojgmllkoaa.Q
open Go.RowKit Go.Proofs.YtdlinojgmllkoaaW.PrintWords Go.Proofs.YtdlinojgmllkoaaW.PrintLast Go.Proofs.YtdlinojgmllkoaaW.PrintMore
attribute [local go_sem] max2_int min2_int max_two min_two max_three min_three max_four min_four   -- for this text's walks alone
set_option linter.unusedVariables false
set_option linter.unusedSimpArgs false

attribute [local irreducible] Calls skiarearef04_Key.f skiarearef04_Tag.f skiarearef25_Body.f
def skiarearef25_tag.f (k : Nat) (a0 : Int) (a1_0 : Int) (a1_1 : Int) (a1_2 : Int) (a1_3 : Int) (a1_4 : Int) (a1_5 : Int) (a1_6 : Int) (a1_7 : Int) (a1_8 : Int) : Option (Int) := (skiarearef04_Key.f a0 a1_0).bind fun t314 => ((skiarearef25_Body.f k a1_0 a1_1 a1_2 a1_3 a1_4 a1_5 a1_6 a1_7 a1_8).bind fun t315 => ((skiarearef04_Tag.f k t314 t315).bind fun t318 => (some t318)))
theorem skiarearef25_tag.mono : ∀ a0 a1 a2 a3 a4 a5 a6 a7 a8 a9 k, LeO (skiarearef25_tag.f k a0 a1 a2 a3 a4 a5 a6 a7 a8 a9) (skiarearef25_tag.f (k + 1) a0 a1 a2 a3 a4 a5 a6 a7 a8 a9) := by
  intro a0 a1 a2 a3 a4 a5 a6 a7 a8 a9 k
  unfold skiarearef25_tag.f
  repeat' first
      | (with_reducible exact skiarearef04_Tag.mono _ _ _)
      | (with_reducible exact skiarearef25_Body.mono _ _ _ _ _ _ _ _ _ _)
      | (with_reducible exact LeO.refl _)
      | (with_reducible exact LeO.none _)
      | (with_reducible refine LeO.ite ?_ ?_)
      | (with_reducible refine LeO.bind ?_ (fun _ => ?_))
      | exact skiarearef04_Tag.mono _ _ _
      | exact skiarearef25_Body.mono _ _ _ _ _ _ _ _ _ _
      | exact LeO.none _
      | refine LeO.ite ?_ ?_
      | refine LeO.bind ?_ (fun _ => ?_)
def skiarearef25_tag.T1 : Bool × List (List Nat × List Nat) := (true, [([], []), ([], []), ([1], [1]), ([0, 2], [0, 2]), ([], []), ([4, 3], [4]), ([3, 5, 5], [3, 5]), ([6, 6, 0, 1, 2, 3, 4, 5, 6], [6])])
def skiarearef25_tag.B1 : List Nat := [0, 0, 2, 7, 0, 31, 63, 127]
theorem skiarearef25_tag.tab1 : rtab .any (opsOf Try.f29 1) = skiarearef25_tag.T1 := by kernel_rfl
theorem skiarearef25_tag.bits1 : waitsOk skiarearef25_tag.T1.2 skiarearef25_tag.B1 = true := by kernel_rfl
set_option maxHeartbeats 8000000 in
set_option maxRecDepth 100000 in
theorem skiarearef25_tag.calls (k : Nat) (a0 : Int) (a1_0 : Int) (a1_1 : Int) (a1_2 : Int) (a1_3 : Int) (a1_4 : Int) (a1_5 : Int) (a1_6 : Int) (a1_7 : Int) (a1_8 : Int) (r : Int) (w : World) (h : skiarearef25_tag.f k a0 a1_0 a1_1 a1_2 a1_3 a1_4 a1_5 a1_6 a1_7 a1_8 = some r) :
    Calls Try.prog 29 #[.int .u64 a0, .agg #[.int .i64 a1_0, .int .i64 a1_1, .int .i64 a1_2, .int .i64 a1_3, .int .i64 a1_4, .int .i64 a1_5, .int .i64 a1_6, .int .i64 a1_7, .int .u64 a1_8]] w fun e w' => e = .returned (.int .u64 r) ∧ Below w.heap.size w w' := by
  have hu24 := Try.underlying24
  have HB := Aside0.mk (Below.refl w.heap.size w)
  have H : ((skiarearef04_Key.f a0 a1_0).bind fun t314 => ((skiarearef25_Body.f k a1_0 a1_1 a1_2 a1_3 a1_4 a1_5 a1_6 a1_7 a1_8).bind fun t315 => ((skiarearef04_Tag.f k t314 t315).bind fun t318 => (some t318)))) = some r := h
  clear h
  replace H := Option.bind_eq_some_iff.mp H
  obtain ⟨t314, A30, H⟩ := H
  try dsimp only at H
  have A3 := Aside0.mk A30
  clear A30
  replace H := Option.bind_eq_some_iff.mp H
  obtain ⟨t315, A40, H⟩ := H
  try dsimp only at H
  have A4 := Aside0.mk A40
  clear A40
  replace H := Option.bind_eq_some_iff.mp H
  obtain ⟨t318, A50, H⟩ := H
  try dsimp only at H
  have A5 := Aside0.mk A50
  clear A50
  obtain rfl := Option.some.inj H
  go_enter Try.func29, Try.ntmps29
  try go_wp2_with (first | ((with_reducible refine gate_dst (N := 3) rfl ?_); refine box_event ?hg (N := 3) ?hd (cs := #[.int .i64 a1_0, .int .i64 a1_1, .int .i64 a1_2, .int .i64 a1_3, .int .i64 a1_4, .int .i64 a1_5, .int .i64 a1_6, .int .i64 a1_7, .int .u64 a1_8]) (t := 24) ?hr ?_; (case hd => rfl); (case hg => rfl); (case hr => first | (go_simp; done) | (go_simp; rfl)); intro gb313 hg w6 hbox hb; have n0_ := Aside0.mk (below_step (by repeat (first | (with_reducible first | exact HB.out | apply below_alloc | apply pw_below_drewN | apply below_drew1) | exact HB.out)) hb); have n1_ := Aside0.mk (hbox); have n2_ := Aside0.mk ((by rw [hg]; exact (below_size (by repeat (first | (with_reducible first | exact HB.out | apply below_alloc | apply pw_below_drewN | apply below_drew1) | exact HB.out))) : w.heap.size ≤ gb313)); have n3_ := Aside0.mk ((by rw [hg]; exact (below_size (by repeat (first | (with_reducible first | exact HB.out | apply below_alloc | apply pw_below_drewN | apply below_drew1) | exact HB.out))) : w.heap.size ≤ gb313)); clear HB; have HB := n0_; have BK313 := n1_; have GW313 := n2_; have GE313 := n3_; clear n0_ n1_ n2_ n3_; clear hb hbox hg))
  have n0_ := Aside0.mk (blk_drew BK313.out)
  have n1_ := Aside0.mk (below_drew1 HB.out)
  clear BK313
  clear HB
  have BK313 := n0_
  have HB := n1_
  clear n0_ n1_
  refine start_ (n := 8) (S := fun w' => w'.cell? ⟨gb313, 0, none⟩ = some (.int .i64 a1_0) ∧ w'.cell? ⟨gb313, 1, none⟩ = some (.int .i64 a1_1) ∧ w'.cell? ⟨gb313, 2, none⟩ = some (.int .i64 a1_2) ∧ w'.cell? ⟨gb313, 3, none⟩ = some (.int .i64 a1_3) ∧ w'.cell? ⟨gb313, 4, none⟩ = some (.int .i64 a1_4) ∧ w'.cell? ⟨gb313, 5, none⟩ = some (.int .i64 a1_5) ∧ w'.cell? ⟨gb313, 6, none⟩ = some (.int .i64 a1_6) ∧ w'.cell? ⟨gb313, 7, none⟩ = some (.int .i64 a1_7) ∧ w'.cell? ⟨gb313, 8, none⟩ = some (.int .u64 a1_8)) (ds := []) #[false, false, false, false, false, false, false, false] (by kernel_rfl) rfl rfl ⟨(blk_cell BK313.out 0).trans rfl, (blk_cell BK313.out 1).trans rfl, (blk_cell BK313.out 2).trans rfl, (blk_cell BK313.out 3).trans rfl, (blk_cell BK313.out 4).trans rfl, (blk_cell BK313.out 5).trans rfl, (blk_cell BK313.out 6).trans rfl, (blk_cell BK313.out 7).trans rfl, (blk_cell BK313.out 8).trans rfl⟩ (fun hHeld => ?_); refine with_tabW skiarearef25_tag.tab1 skiarearef25_tag.bits1 (fun HT_ HW_ => ?_)
  generalize w6.drew = w7 at BK313 HB hHeld ⊢
  refine pure_ (i := 0) (N := some 5) (v := ?_) (a' := ?_) #[true, false, false, false, false, false, false, false] rfl rfl (any_of HT_.out (by kernel_rfl)) (fun _ _ _ h => h) (Or.inl ⟨by rfl, ?_⟩) ?_ ?_
  rotate_left
  {
 intro w'
 go_simp
 with_reducible rfl }
  rotate_left
  {
 simp only [Act.put, List.setIfInBounds_toArray, List.set_cons_zero, List.set_cons_succ, i64_w, i32_w, IntKind.wrap_u8, IntKind.wrap_u32]
 rfl }
  refine pure_ (i := 1) (N := some 6) (v := ?_) (a' := ?_) #[true, true, false, false, false, false, false, false] rfl rfl (any_of HT_.out (by kernel_rfl)) (fun _ _ _ h => h) (Or.inl ⟨by rfl, ?_⟩) ?_ ?_
  rotate_left
  {
 intro w'
 go_simp
 with_reducible rfl }
  rotate_left
  {
 simp only [Act.put, List.setIfInBounds_toArray, List.set_cons_zero, List.set_cons_succ, i64_w, i32_w, IntKind.wrap_u8, IntKind.wrap_u32]
 rfl }
  refine take_ (i := 2) (N := some 7) (v := ?_) (a' := ?_) #[true, true, true, false, false, false, false, false] rfl rfl (take_ofW HT_.out HW_.out (by kernel_rfl)) (fun _ _ _ h => h) (Or.inl ⟨by rfl, ?_⟩) hHeld ?_ ?_
  rotate_left
  {
 rintro w' ⟨s0, s1, s2, s3, s4, s5, s6, s7, s8⟩
 go_simp
 with_reducible rfl }
  rotate_left
  {
 simp only [Act.put, List.setIfInBounds_toArray, List.set_cons_zero, List.set_cons_succ, i64_w, i32_w, IntKind.wrap_u8, IntKind.wrap_u32]
 rfl }
  refine take_ (i := 4) (N := some 9) (v := ?_) (a' := ?_) #[true, true, true, false, true, false, false, false] rfl rfl (take_ofW HT_.out HW_.out (by kernel_rfl)) (fun _ _ _ h => h) (Or.inl ⟨by rfl, ?_⟩) hHeld ?_ ?_
  rotate_left
  {
 rintro w' ⟨s0, s1, s2, s3, s4, s5, s6, s7, s8⟩
 go_simp
 with_reducible rfl }
  rotate_left
  {
 simp only [Act.put, List.setIfInBounds_toArray, List.set_cons_zero, List.set_cons_succ, i64_w, i32_w, IntKind.wrap_u8, IntKind.wrap_u32]
 rfl }
  refine one_ (i := 3) (N := some 8) #[true, true, true, true, true, false, false, false] rfl rfl (one_of HT_.out (by kernel_rfl)) (by decide) (fun K hK => ?_)
  refine goes_ Try.func43 (by kernel_rfl) rfl #[.int .u64 a0, .int .i64 a1_0] (by rfl) rfl rfl (by (try simp only [List.map_toArray, List.map_cons, List.map_nil]); first | done | rfl | (simp only [List.length_drop, List.length_take]; rfl)) ?_
  with_reducible refine (skiarearef04_Key.calls a0 a1_0 t314 _ A3.out).mono ?_
  rintro e w' ⟨rfl, ⟨nd, rfl⟩⟩
  refine ⟨_, rfl, ?_⟩
  refine hK.out _ _ ⟨(blk_cell BK313.out 0).trans rfl, (blk_cell BK313.out 1).trans rfl, (blk_cell BK313.out 2).trans rfl, (blk_cell BK313.out 3).trans rfl, (blk_cell BK313.out 4).trans rfl, (blk_cell BK313.out 5).trans rfl, (blk_cell BK313.out 6).trans rfl, (blk_cell BK313.out 7).trans rfl, (blk_cell BK313.out 8).trans rfl⟩ (fun hHeld => ?_)
  clear hK K
  refine norm_ (a' := ?_) ?_ ?_
  rotate_left
  {
 show Act.put _ (some 8) _ = _
 simp only [Act.put, List.setIfInBounds_toArray, List.set_cons_zero, List.set_cons_succ, i64_w, i32_w, IntKind.wrap_u8, IntKind.wrap_u32]
 rfl }
  refine one_ (i := 5) (N := some 10) #[true, true, true, true, true, true, false, false] rfl rfl (one_of HT_.out (by kernel_rfl)) (by decide) (fun K hK => ?_)
  refine goes_ Try.func20 (by kernel_rfl) rfl #[.agg #[.int .i64 a1_0, .int .i64 a1_1, .int .i64 a1_2, .int .i64 a1_3, .int .i64 a1_4, .int .i64 a1_5, .int .i64 a1_6, .int .i64 a1_7, .int .u64 a1_8]] (by rfl) rfl rfl (by (try simp only [List.map_toArray, List.map_cons, List.map_nil]); first | done | rfl | (simp only [List.length_drop, List.length_take]; rfl)) ?_
  with_reducible refine (skiarearef25_Body.calls k a1_0 a1_1 a1_2 a1_3 a1_4 a1_5 a1_6 a1_7 a1_8 t315 _ A4.out).mono ?_
  rintro e w8 ⟨v316, rfl, ho0, hb⟩
  refine ⟨_, rfl, ?_⟩
  have n0_ := Aside0.mk (Kd.R_lower ho0 (below_size (by repeat (first | (with_reducible first | exact HB.out | apply below_alloc | apply pw_below_drewN | apply below_drew1 | refine below_set ?_ GE313.out) | exact HB.out))))
  have n1_ := Aside0.mk (blk_below (g := gb313) (o := .cells #[.int .i64 a1_0, .int .i64 a1_1, .int .i64 a1_2, .int .i64 a1_3, .int .i64 a1_4, .int .i64 a1_5, .int .i64 a1_6, .int .i64 a1_7, .int .u64 a1_8] 24 (0, 0)) (by (with_reducible repeat (first | refine blk_drewN ?_ _ | refine blk_drew ?_ | refine blk_alloc ?_ _)); exact BK313.out) hb)
  have n2_ := Aside0.mk (below_step (by repeat (first | (with_reducible first | exact HB.out | apply below_alloc | apply pw_below_drewN | apply below_drew1 | refine below_set ?_ GE313.out) | exact HB.out)) hb)
  clear BK313
  clear HB
  have HO317 := n0_
  have BK313 := n1_
  have HB := n2_
  clear n0_ n1_ n2_
  (try clear hb)
  (try clear hb2)
  (try clear hk)
  (try clear hi)
  (try clear ho0)
  obtain ⟨Ao9, co9, eo9⟩ := Kd.R_slice HO317.out
  (first | subst eo9 | (injection eo9 with f1_ f2_ f3_; have f4_ := f1_.symm; have f5_ := f3_.symm; clear f1_ f2_ f3_; subst f4_; subst f5_))
  refine hK.out _ _ ⟨(blk_cell BK313.out 0).trans rfl, (blk_cell BK313.out 1).trans rfl, (blk_cell BK313.out 2).trans rfl, (blk_cell BK313.out 3).trans rfl, (blk_cell BK313.out 4).trans rfl, (blk_cell BK313.out 5).trans rfl, (blk_cell BK313.out 6).trans rfl, (blk_cell BK313.out 7).trans rfl, (blk_cell BK313.out 8).trans rfl⟩ (fun hHeld => ?_)
  clear hK K
  refine norm_ (a' := ?_) ?_ ?_
  rotate_left
  {
 show Act.put _ (some 10) _ = _
 simp only [Act.put, List.setIfInBounds_toArray, List.set_cons_zero, List.set_cons_succ, i64_w, i32_w, IntKind.wrap_u8, IntKind.wrap_u32]
 rfl }
  refine one_ (i := 6) (N := some 11) #[true, true, true, true, true, true, true, false] rfl rfl (one_of HT_.out (by kernel_rfl)) (by decide) (fun K hK => ?_)
  refine goes_ Try.func42 (by kernel_rfl) rfl #[.int .u64 t314, .slice Ao9 t315.length co9] (by rfl) rfl rfl (by (try simp only [List.map_toArray, List.map_cons, List.map_nil]); first | done | rfl | (simp only [List.length_drop, List.length_take]; rfl)) ?_
  with_reducible refine (skiarearef04_Tag.calls k t314 _ _ t315 t318 _ ?side1 ?side2 A5.out).mono ?_
  (case side1 => repeat (first | exact (Kd.R_reads' HO317.out).2.2 | (with_reducible refine Kd.C_alloc ?_ _) | (with_reducible refine Kd.C_drewN ?_ _) | (with_reducible refine Kd.C_drew ?_)))
  (case side2 => exact (Kd.R_reads' HO317.out).2.1)
  rintro e w' ⟨rfl, ⟨nd, rfl⟩⟩
  refine ⟨_, rfl, ?_⟩
  refine hK.out _ _ ⟨(blk_cell BK313.out 0).trans rfl, (blk_cell BK313.out 1).trans rfl, (blk_cell BK313.out 2).trans rfl, (blk_cell BK313.out 3).trans rfl, (blk_cell BK313.out 4).trans rfl, (blk_cell BK313.out 5).trans rfl, (blk_cell BK313.out 6).trans rfl, (blk_cell BK313.out 7).trans rfl, (blk_cell BK313.out 8).trans rfl⟩ (fun hHeld => ?_)
  clear hK K
  refine norm_ (a' := ?_) ?_ ?_
  rotate_left
  {
 show Act.put _ (some 11) _ = _
 simp only [Act.put, List.setIfInBounds_toArray, List.set_cons_zero, List.set_cons_succ, i64_w, i32_w, IntKind.wrap_u8, IntKind.wrap_u32]
 rfl }
  refine pure_ (i := 7) (N := some 4) (v := ?_) (a' := ?_) #[true, true, true, true, true, true, true, true] rfl rfl (any_of HT_.out (by kernel_rfl)) (fun _ _ _ h => h) (Or.inl ⟨by rfl, ?_⟩) ?_ ?_
  rotate_left
  {
 intro w'
 go_simp
 with_reducible rfl }
  rotate_left
  {
 simp only [Act.put, List.setIfInBounds_toArray, List.set_cons_zero, List.set_cons_succ, i64_w, i32_w, IntKind.wrap_u8, IntKind.wrap_u32]
 rfl }
  refine done_ (done_of HT_.out (by kernel_rfl)) ?_
  try go_wp2
  go_ret
  exact ⟨by first | rfl | (simp [errW_none, errW_some] <;> rfl) | (simp [*, errW_none, errW_some] <;> rfl), by repeat (first | (with_reducible first | exact HB.out | apply below_alloc | apply pw_below_drewN | apply below_drew1 | refine below_set ?_ GE313.out) | exact HB.out)⟩
end Go.Proofs.Ytdlinojgmllkoaa.Q

namespace Go.Proofs.Ytdlinojgmllkoaa.Q
open Go.RowKit Go.Proofs.YtdlinojgmllkoaaW.PrintWords Go.Proofs.YtdlinojgmllkoaaW.PrintLast Go.Proofs.YtdlinojgmllkoaaW.PrintMore
attribute [local go_sem] max2_int min2_int max_two min_two max_three min_three max_four min_four   -- for this text's walks alone
set_option linter.unusedVariables false
set_option linter.unusedSimpArgs false

attribute [local irreducible] Calls skiarearef25_tag.f
def skiarearef25_Sign.f (k : Nat) (a0 : Int) (a1_0 : Int) (a1_1 : Int) (a1_2 : Int) (a1_3 : Int) (a1_4 : Int) (a1_5 : Int) (a1_6 : Int) (a1_7 : Int) (a1_8 : Int) : Option (Int × Int × Int × Int × Int × Int × Int × Int × Int) := (skiarearef25_tag.f k a0 a1_0 a1_1 a1_2 a1_3 a1_4 a1_5 a1_6 a1_7 a1_8).bind fun t321 => (some (a1_0, a1_1, a1_2, a1_3, a1_4, a1_5, a1_6, a1_7, t321))
theorem skiarearef25_Sign.mono : ∀ a0 a1 a2 a3 a4 a5 a6 a7 a8 a9 k, LeO (skiarearef25_Sign.f k a0 a1 a2 a3 a4 a5 a6 a7 a8 a9) (skiarearef25_Sign.f (k + 1) a0 a1 a2 a3 a4 a5 a6 a7 a8 a9) := by
  intro a0 a1 a2 a3 a4 a5 a6 a7 a8 a9 k
  unfold skiarearef25_Sign.f
  repeat' first
      | (with_reducible exact skiarearef25_tag.mono _ _ _ _ _ _ _ _ _ _ _)
      | (with_reducible exact LeO.refl _)
      | (with_reducible exact LeO.none _)
      | (with_reducible refine LeO.ite ?_ ?_)
      | (with_reducible refine LeO.bind ?_ (fun _ => ?_))
      | exact skiarearef25_tag.mono _ _ _ _ _ _ _ _ _ _ _
      | exact LeO.none _
      | refine LeO.ite ?_ ?_
      | refine LeO.bind ?_ (fun _ => ?_)
set_option maxHeartbeats 8000000 in
set_option maxRecDepth 100000 in
theorem skiarearef25_Sign.calls (k : Nat) (a0 : Int) (a1_0 : Int) (a1_1 : Int) (a1_2 : Int) (a1_3 : Int) (a1_4 : Int) (a1_5 : Int) (a1_6 : Int) (a1_7 : Int) (a1_8 : Int) (r1 : Int) (r2 : Int) (r3 : Int) (r4 : Int) (r5 : Int) (r6 : Int) (r7 : Int) (r8 : Int) (r9 : Int) (w : World) (h : skiarearef25_Sign.f k a0 a1_0 a1_1 a1_2 a1_3 a1_4 a1_5 a1_6 a1_7 a1_8 = some (r1, r2, r3, r4, r5, r6, r7, r8, r9)) :
    Calls Try.prog 21 #[.int .u64 a0, .agg #[.int .i64 a1_0, .int .i64 a1_1, .int .i64 a1_2, .int .i64 a1_3, .int .i64 a1_4, .int .i64 a1_5, .int .i64 a1_6, .int .i64 a1_7, .int .u64 a1_8]] w fun e w' => e = .returned (.agg #[.int .i64 r1, .int .i64 r2, .int .i64 r3, .int .i64 r4, .int .i64 r5, .int .i64 r6, .int .i64 r7, .int .i64 r8, .int .u64 r9]) ∧ Below w.heap.size w w' := by
  have hu24 := Try.underlying24
  have HB := Aside0.mk (Below.refl w.heap.size w)
  have H : ((skiarearef25_tag.f k a0 a1_0 a1_1 a1_2 a1_3 a1_4 a1_5 a1_6 a1_7 a1_8).bind fun t321 => (some (a1_0, a1_1, a1_2, a1_3, a1_4, a1_5, a1_6, a1_7, t321))) = some (r1, r2, r3, r4, r5, r6, r7, r8, r9) := h
  clear h
  replace H := Option.bind_eq_some_iff.mp H
  obtain ⟨t321, A30, H⟩ := H
  try dsimp only at H
  have A3 := Aside0.mk A30
  clear A30
  simp only [Option.some.injEq, Prod.mk.injEq] at H
  obtain ⟨rfl, rfl, rfl, rfl, rfl, rfl, rfl, rfl, rfl⟩ := H
  go_enter Try.func21, Try.ntmps21
  go_wp2_with (first | ((with_reducible refine gate_dst (N := 3) rfl ?_); refine box_event ?hg (N := 3) ?hd (cs := #[.int .i64 a1_0, .int .i64 a1_1, .int .i64 a1_2, .int .i64 a1_3, .int .i64 a1_4, .int .i64 a1_5, .int .i64 a1_6, .int .i64 a1_7, .int .u64 a1_8]) (t := 24) ?hr ?_; (case hd => rfl); (case hg => rfl); (case hr => first | (go_simp; done) | (go_simp; rfl)); intro gb319 hg w4 hbox hb; have n0_ := Aside0.mk (below_step (by repeat (first | (with_reducible first | exact HB.out | apply below_alloc | apply pw_below_drewN | apply below_drew1) | exact HB.out)) hb); have n1_ := Aside0.mk (hbox); have n2_ := Aside0.mk ((by rw [hg]; exact (below_size (by repeat (first | (with_reducible first | exact HB.out | apply below_alloc | apply pw_below_drewN | apply below_drew1) | exact HB.out))) : w.heap.size ≤ gb319)); have n3_ := Aside0.mk ((by rw [hg]; exact (below_size (by repeat (first | (with_reducible first | exact HB.out | apply below_alloc | apply pw_below_drewN | apply below_drew1) | exact HB.out))) : w.heap.size ≤ gb319)); clear HB; have HB := n0_; have BK319 := n1_; have GW319 := n2_; have GE319 := n3_; clear n0_ n1_ n2_ n3_; clear hb hbox hg) | ((with_reducible refine gate_dst (N := 4) rfl ?_); refine box_event ?hg (N := 4) ?hd (cs := #[.int .i64 0, .int .i64 0, .int .i64 0, .int .i64 0, .int .i64 0, .int .i64 0, .int .i64 0, .int .i64 0, .int .u64 0]) (t := 24) ?hr ?_; (case hd => rfl); (case hg => rfl); (case hr => first | (go_simp; done) | (go_simp; rfl)); intro gb320 hg w5 hbox hb; have n0_ := Aside0.mk (blk_below (g := gb319) (o := .cells #[.int .i64 a1_0, .int .i64 a1_1, .int .i64 a1_2, .int .i64 a1_3, .int .i64 a1_4, .int .i64 a1_5, .int .i64 a1_6, .int .i64 a1_7, .int .u64 a1_8] 24 (0, 0)) (by (with_reducible repeat (first | refine blk_drewN ?_ _ | refine blk_drew ?_ | refine blk_alloc ?_ _)); exact BK319.out) hb); have n1_ := Aside0.mk (below_step (by repeat (first | (with_reducible first | exact HB.out | apply below_alloc | apply pw_below_drewN | apply below_drew1 | refine below_set ?_ GE319.out) | exact HB.out)) hb); have n2_ := Aside0.mk (hbox); have n3_ := Aside0.mk ((by rw [hg]; exact (below_size (by repeat (first | (with_reducible first | exact HB.out | apply below_alloc | apply pw_below_drewN | apply below_drew1 | refine below_set ?_ GE319.out) | exact HB.out))) : w.heap.size ≤ gb320)); have n4_ := Aside0.mk ((by rw [hg]; exact (below_size (by repeat (first | (with_reducible first | exact HB.out | apply below_alloc | apply pw_below_drewN | apply below_drew1 | refine below_set ?_ GE319.out) | exact HB.out))) : w.heap.size ≤ gb320)); have n5_ := Aside0.mk ((by rw [hg]; exact Nat.ne_of_lt (blk_lt (g := gb319) (o := .cells #[.int .i64 a1_0, .int .i64 a1_1, .int .i64 a1_2, .int .i64 a1_3, .int .i64 a1_4, .int .i64 a1_5, .int .i64 a1_6, .int .i64 a1_7, .int .u64 a1_8] 24 (0, 0)) (by (with_reducible repeat (first | refine blk_drewN ?_ _ | refine blk_drew ?_ | refine blk_alloc ?_ _)); exact BK319.out)) : gb319 ≠ gb320)); have n6_ := Aside0.mk ((by rw [hg]; exact Nat.ne_of_gt (blk_lt (g := gb319) (o := .cells #[.int .i64 a1_0, .int .i64 a1_1, .int .i64 a1_2, .int .i64 a1_3, .int .i64 a1_4, .int .i64 a1_5, .int .i64 a1_6, .int .i64 a1_7, .int .u64 a1_8] 24 (0, 0)) (by (with_reducible repeat (first | refine blk_drewN ?_ _ | refine blk_drew ?_ | refine blk_alloc ?_ _)); exact BK319.out)) : gb320 ≠ gb319)); clear BK319; clear HB; have BK319 := n0_; have HB := n1_; have BK320 := n2_; have GW320 := n3_; have GE320 := n4_; have NB319_320 := n5_; have NB320_319 := n6_; clear n0_ n1_ n2_ n3_ n4_ n5_ n6_; clear hb hbox hg; have hnb6 := NB319_320.out; have hnc6 := NB320_319.out; have hcz7_0 : w5.cell? ⟨gb319, 0, none⟩ = some (.int .i64 a1_0) := (blk_cell BK319.out 0).trans rfl; have hcz7_1 : w5.cell? ⟨gb319, 1, none⟩ = some (.int .i64 a1_1) := (blk_cell BK319.out 1).trans rfl; have hcz7_2 : w5.cell? ⟨gb319, 2, none⟩ = some (.int .i64 a1_2) := (blk_cell BK319.out 2).trans rfl; have hcz7_3 : w5.cell? ⟨gb319, 3, none⟩ = some (.int .i64 a1_3) := (blk_cell BK319.out 3).trans rfl; have hcz7_4 : w5.cell? ⟨gb319, 4, none⟩ = some (.int .i64 a1_4) := (blk_cell BK319.out 4).trans rfl; have hcz7_5 : w5.cell? ⟨gb319, 5, none⟩ = some (.int .i64 a1_5) := (blk_cell BK319.out 5).trans rfl; have hcz7_6 : w5.cell? ⟨gb319, 6, none⟩ = some (.int .i64 a1_6) := (blk_cell BK319.out 6).trans rfl; have hcz7_7 : w5.cell? ⟨gb319, 7, none⟩ = some (.int .i64 a1_7) := (blk_cell BK319.out 7).trans rfl; have hcz7_8 : w5.cell? ⟨gb319, 8, none⟩ = some (.int .u64 a1_8) := (blk_cell BK319.out 8).trans rfl; have hfz7_0 := blk_frozen BK319.out 0; have hfz7_1 := blk_frozen BK319.out 1; have hfz7_2 := blk_frozen BK319.out 2; have hfz7_3 := blk_frozen BK319.out 3; have hfz7_4 := blk_frozen BK319.out 4; have hfz7_5 := blk_frozen BK319.out 5; have hfz7_6 := blk_frozen BK319.out 6; have hfz7_7 := blk_frozen BK319.out 7; have hfz7_8 := blk_frozen BK319.out 8) | ((with_reducible refine gate_callee (f := 29) rfl ?_); refine goesL_ (some 7) rfl rfl Try.func29 (by kernel_rfl) rfl #[.int .u64 a0, .agg #[.int .i64 a1_0, .int .i64 a1_1, .int .i64 a1_2, .int .i64 a1_3, .int .i64 a1_4, .int .i64 a1_5, .int .i64 a1_6, .int .i64 a1_7, .int .u64 a1_8]] rfl (by (try simp only [List.map_toArray, List.map_cons, List.map_nil]); first | done | rfl | (simp only [List.length_drop, List.length_take]; rfl)) ?_; (with_reducible refine (skiarearef25_tag.calls k a0 a1_0 a1_1 a1_2 a1_3 a1_4 a1_5 a1_6 a1_7 a1_8 t321 _ A3.out).mono ?_); rintro e w8 ⟨rfl, hb⟩; refine ⟨_, rfl, ?_⟩; have n0_ := Aside0.mk (blk_below (g := gb319) (o := .cells #[.int .i64 a1_0, .int .i64 a1_1, .int .i64 a1_2, .int .i64 a1_3, .int .i64 a1_4, .int .i64 a1_5, .int .i64 a1_6, .int .i64 a1_7, .int .u64 a1_8] 24 (0, 0)) (by (with_reducible repeat (first | refine blk_drewN ?_ _ | refine blk_drew ?_ | refine blk_alloc ?_ _)); exact BK319.out) hb); have n1_ := Aside0.mk (blk_below (g := gb320) (o := .cells #[.int .i64 0, .int .i64 0, .int .i64 0, .int .i64 0, .int .i64 0, .int .i64 0, .int .i64 0, .int .i64 0, .int .u64 0] 24 (0, 0)) (by (with_reducible repeat (first | refine blk_drewN ?_ _ | refine blk_drew ?_ | refine blk_alloc ?_ _)); exact BK320.out) hb); have n2_ := Aside0.mk (below_step (by repeat (first | (with_reducible first | exact HB.out | apply below_alloc | apply pw_below_drewN | apply below_drew1 | refine below_set ?_ GE319.out | refine below_set ?_ GE320.out) | exact HB.out)) hb); clear BK319; clear BK320; clear HB; have BK319 := n0_; have BK320 := n1_; have HB := n2_; clear n0_ n1_ n2_; (try clear hb); (try clear hb2); (try clear hk); (try clear hi); have hcz9_0 : w8.cell? ⟨gb319, 0, none⟩ = some (.int .i64 a1_0) := (blk_cell BK319.out 0).trans rfl; have hcz9_1 : w8.cell? ⟨gb319, 1, none⟩ = some (.int .i64 a1_1) := (blk_cell BK319.out 1).trans rfl; have hcz9_2 : w8.cell? ⟨gb319, 2, none⟩ = some (.int .i64 a1_2) := (blk_cell BK319.out 2).trans rfl; have hcz9_3 : w8.cell? ⟨gb319, 3, none⟩ = some (.int .i64 a1_3) := (blk_cell BK319.out 3).trans rfl; have hcz9_4 : w8.cell? ⟨gb319, 4, none⟩ = some (.int .i64 a1_4) := (blk_cell BK319.out 4).trans rfl; have hcz9_5 : w8.cell? ⟨gb319, 5, none⟩ = some (.int .i64 a1_5) := (blk_cell BK319.out 5).trans rfl; have hcz9_6 : w8.cell? ⟨gb319, 6, none⟩ = some (.int .i64 a1_6) := (blk_cell BK319.out 6).trans rfl; have hcz9_7 : w8.cell? ⟨gb319, 7, none⟩ = some (.int .i64 a1_7) := (blk_cell BK319.out 7).trans rfl; have hcz9_8 : w8.cell? ⟨gb319, 8, none⟩ = some (.int .u64 a1_8) := (blk_cell BK319.out 8).trans rfl; have hfz9_0 := blk_frozen BK319.out 0; have hfz9_1 := blk_frozen BK319.out 1; have hfz9_2 := blk_frozen BK319.out 2; have hfz9_3 := blk_frozen BK319.out 3; have hfz9_4 := blk_frozen BK319.out 4; have hfz9_5 := blk_frozen BK319.out 5; have hfz9_6 := blk_frozen BK319.out 6; have hfz9_7 := blk_frozen BK319.out 7; have hfz9_8 := blk_frozen BK319.out 8; have hcz10_0 : w8.cell? ⟨gb320, 0, none⟩ = some (.int .i64 0) := (blk_cell BK320.out 0).trans rfl; have hcz10_1 : w8.cell? ⟨gb320, 1, none⟩ = some (.int .i64 0) := (blk_cell BK320.out 1).trans rfl; have hcz10_2 : w8.cell? ⟨gb320, 2, none⟩ = some (.int .i64 0) := (blk_cell BK320.out 2).trans rfl; have hcz10_3 : w8.cell? ⟨gb320, 3, none⟩ = some (.int .i64 0) := (blk_cell BK320.out 3).trans rfl; have hcz10_4 : w8.cell? ⟨gb320, 4, none⟩ = some (.int .i64 0) := (blk_cell BK320.out 4).trans rfl; have hcz10_5 : w8.cell? ⟨gb320, 5, none⟩ = some (.int .i64 0) := (blk_cell BK320.out 5).trans rfl; have hcz10_6 : w8.cell? ⟨gb320, 6, none⟩ = some (.int .i64 0) := (blk_cell BK320.out 6).trans rfl; have hcz10_7 : w8.cell? ⟨gb320, 7, none⟩ = some (.int .i64 0) := (blk_cell BK320.out 7).trans rfl; have hcz10_8 : w8.cell? ⟨gb320, 8, none⟩ = some (.int .u64 0) := (blk_cell BK320.out 8).trans rfl; have hfz10_0 := blk_frozen BK320.out 0; have hfz10_1 := blk_frozen BK320.out 1; have hfz10_2 := blk_frozen BK320.out 2; have hfz10_3 := blk_frozen BK320.out 3; have hfz10_4 := blk_frozen BK320.out 4; have hfz10_5 := blk_frozen BK320.out 5; have hfz10_6 := blk_frozen BK320.out 6; have hfz10_7 := blk_frozen BK320.out 7; have hfz10_8 := blk_frozen BK320.out 8))
  refine bodyPost_ret (results_cell_row rfl _ _ gb320 24 #[.int .i64 a1_0, .int .i64 a1_1, .int .i64 a1_2, .int .i64 a1_3, .int .i64 a1_4, .int .i64 a1_5, .int .i64 a1_6, .int .i64 a1_7, .int .u64 t321] (0, 0) _ rfl (by (with_reducible repeat (first | refine blk_drewN ?_ _ | refine blk_drew ?_ | refine blk_alloc ?_ _)); refine blk_put (cs := #[.int .i64 a1_0, .int .i64 a1_1, .int .i64 a1_2, .int .i64 a1_3, .int .i64 a1_4, .int .i64 a1_5, .int .i64 a1_6, .int .i64 a1_7, .int .u64 0]) ?_ 8 _ rfl; refine blk_put (cs := #[.int .i64 a1_0, .int .i64 a1_1, .int .i64 a1_2, .int .i64 a1_3, .int .i64 a1_4, .int .i64 a1_5, .int .i64 a1_6, .int .i64 0, .int .u64 0]) ?_ 7 _ rfl; refine blk_put (cs := #[.int .i64 a1_0, .int .i64 a1_1, .int .i64 a1_2, .int .i64 a1_3, .int .i64 a1_4, .int .i64 a1_5, .int .i64 0, .int .i64 0, .int .u64 0]) ?_ 6 _ rfl; refine blk_put (cs := #[.int .i64 a1_0, .int .i64 a1_1, .int .i64 a1_2, .int .i64 a1_3, .int .i64 a1_4, .int .i64 0, .int .i64 0, .int .i64 0, .int .u64 0]) ?_ 5 _ rfl; refine blk_put (cs := #[.int .i64 a1_0, .int .i64 a1_1, .int .i64 a1_2, .int .i64 a1_3, .int .i64 0, .int .i64 0, .int .i64 0, .int .i64 0, .int .u64 0]) ?_ 4 _ rfl; refine blk_put (cs := #[.int .i64 a1_0, .int .i64 a1_1, .int .i64 a1_2, .int .i64 0, .int .i64 0, .int .i64 0, .int .i64 0, .int .i64 0, .int .u64 0]) ?_ 3 _ rfl; refine blk_put (cs := #[.int .i64 a1_0, .int .i64 a1_1, .int .i64 0, .int .i64 0, .int .i64 0, .int .i64 0, .int .i64 0, .int .i64 0, .int .u64 0]) ?_ 2 _ rfl; refine blk_put (cs := #[.int .i64 a1_0, .int .i64 0, .int .i64 0, .int .i64 0, .int .i64 0, .int .i64 0, .int .i64 0, .int .i64 0, .int .u64 0]) ?_ 1 _ rfl; refine blk_put (cs := #[.int .i64 0, .int .i64 0, .int .i64 0, .int .i64 0, .int .i64 0, .int .i64 0, .int .i64 0, .int .i64 0, .int .u64 0]) ?_ 0 _ rfl; refine blk_far ?_ NB320_319.out _; (with_reducible repeat (first | refine blk_drewN ?_ _ | refine blk_drew ?_ | refine blk_alloc ?_ _)); exact BK320.out) Try.underlying24 rfl (by kernel_rfl)) rfl ?_
  exact ⟨by first | rfl | (simp [errW_none, errW_some] <;> rfl) | (simp [*, errW_none, errW_some] <;> rfl), by repeat (first | (with_reducible first | exact HB.out | apply below_alloc | apply pw_below_drewN | apply below_drew1 | refine below_set ?_ GE319.out | refine below_set ?_ GE320.out) | exact HB.out)⟩
end Go.Proofs.Ytdlinojgmllkoaa.Q
