-- Printed by a program of this session (wip/pp), out of Lean's print of the loaded functions, and joined by another. Lean checks it.
import Derived.Test.YtdlinojgmllkoaaQma2
namespace Go.Proofs.Ytdlinojgmllkoaa.Q
open Go.RowKit Go.Proofs.YtdlinojgmllkoaaW.PrintWords Go.Proofs.YtdlinojgmllkoaaW.PrintLast Go.Proofs.YtdlinojgmllkoaaW.PrintMore
attribute [local go_sem] max2_int min2_int max_two min_two max_three min_three max_four min_four   -- for this text's walks alone
set_option linter.unusedVariables false
set_option linter.unusedSimpArgs false

def skiarearef25_Right.j0 : Nat → Bool → Int → Int → Int → Int → Int → Int → Int → Int → Int → Option (Int)
  | 0, _, _, _, _, _, _, _, _, _, _ => none
  | k + 1, x80, x286000, x286001, x286002, x286003, x286004, x286005, x286006, x286007, x286008 => if x80 = true then (some 2) else (if x286003 = (-1) then (if x286007 = (-1) then (if x286006 = 0 then (if x286005 = (-1) then (if x286003 > x286007 then (some 10) else (some 0)) else (some 10)) else (some 10)) else (some 10)) else (if x286007 = (-1) then (if x286006 = 0 then (if x286005 = (-1) then (if x286003 > x286007 then (some 10) else (some 0)) else (some 10)) else (some 10)) else (if x286003 > x286007 then (some 10) else (some 0))))
def skiarearef25_Right.f (k : Nat) (a0_0 : Int) (a0_1 : Int) (a0_2 : Int) (a0_3 : Int) (a0_4 : Int) (a0_5 : Int) (a0_6 : Int) (a0_7 : Int) (a0_8 : Int) : Option (Int) := if a0_0 < 1 then (skiarearef25_Right.j0 k true a0_0 a0_1 a0_2 a0_3 a0_4 a0_5 a0_6 a0_7 a0_8) else (if a0_0 > 9999 then (skiarearef25_Right.j0 k true a0_0 a0_1 a0_2 a0_3 a0_4 a0_5 a0_6 a0_7 a0_8) else (if a0_2 < 1 then (skiarearef25_Right.j0 k true a0_0 a0_1 a0_2 a0_3 a0_4 a0_5 a0_6 a0_7 a0_8) else (if a0_2 > 9999 then (skiarearef25_Right.j0 k true a0_0 a0_1 a0_2 a0_3 a0_4 a0_5 a0_6 a0_7 a0_8) else (if a0_1 < 0 then (skiarearef25_Right.j0 k true a0_0 a0_1 a0_2 a0_3 a0_4 a0_5 a0_6 a0_7 a0_8) else (if a0_1 > 1000000 then (skiarearef25_Right.j0 k true a0_0 a0_1 a0_2 a0_3 a0_4 a0_5 a0_6 a0_7 a0_8) else (if a0_3 < (-1) then (skiarearef25_Right.j0 k true a0_0 a0_1 a0_2 a0_3 a0_4 a0_5 a0_6 a0_7 a0_8) else (if a0_3 > 20000000 then (skiarearef25_Right.j0 k true a0_0 a0_1 a0_2 a0_3 a0_4 a0_5 a0_6 a0_7 a0_8) else (if a0_7 < (-1) then (skiarearef25_Right.j0 k true a0_0 a0_1 a0_2 a0_3 a0_4 a0_5 a0_6 a0_7 a0_8) else (if a0_7 > 20000000 then (skiarearef25_Right.j0 k true a0_0 a0_1 a0_2 a0_3 a0_4 a0_5 a0_6 a0_7 a0_8) else (if a0_4 < 0 then (skiarearef25_Right.j0 k true a0_0 a0_1 a0_2 a0_3 a0_4 a0_5 a0_6 a0_7 a0_8) else (if a0_4 > 100 then (skiarearef25_Right.j0 k true a0_0 a0_1 a0_2 a0_3 a0_4 a0_5 a0_6 a0_7 a0_8) else (if a0_5 < (-1) then (skiarearef25_Right.j0 k true a0_0 a0_1 a0_2 a0_3 a0_4 a0_5 a0_6 a0_7 a0_8) else (if a0_5 > 231 then (skiarearef25_Right.j0 k true a0_0 a0_1 a0_2 a0_3 a0_4 a0_5 a0_6 a0_7 a0_8) else (if a0_6 < 0 then (skiarearef25_Right.j0 k true a0_0 a0_1 a0_2 a0_3 a0_4 a0_5 a0_6 a0_7 a0_8) else (skiarearef25_Right.j0 k (decide (a0_6 > 9999)) a0_0 a0_1 a0_2 a0_3 a0_4 a0_5 a0_6 a0_7 a0_8)))))))))))))))
theorem skiarearef25_Right.mono_l : ∀ k, (∀ y0 y1 y2 y3 y4 y5 y6 y7 y8 y9, LeO (skiarearef25_Right.j0 k y0 y1 y2 y3 y4 y5 y6 y7 y8 y9) (skiarearef25_Right.j0 (k + 1) y0 y1 y2 y3 y4 y5 y6 y7 y8 y9))
  | 0 => fun _ _ _ _ _ _ _ _ _ _ r h => by simp [skiarearef25_Right.j0] at h
  | k + 1 => by
    have ih0 := skiarearef25_Right.mono_l k
    · intro y0 y1 y2 y3 y4 y5 y6 y7 y8 y9
      unfold skiarearef25_Right.j0
      repeat' first
      | (with_reducible exact ih0 _ _ _ _ _ _ _ _ _ _)
      | (with_reducible exact LeO.refl _)
      | (with_reducible exact LeO.none _)
      | (with_reducible refine LeO.ite ?_ ?_)
      | (with_reducible refine LeO.bind ?_ (fun _ => ?_))
      | exact ih0 _ _ _ _ _ _ _ _ _ _
      | exact LeO.none _
      | refine LeO.ite ?_ ?_
      | refine LeO.bind ?_ (fun _ => ?_)
theorem skiarearef25_Right.mono : ∀ a0 a1 a2 a3 a4 a5 a6 a7 a8 k, LeO (skiarearef25_Right.f k a0 a1 a2 a3 a4 a5 a6 a7 a8) (skiarearef25_Right.f (k + 1) a0 a1 a2 a3 a4 a5 a6 a7 a8) := by
  intro a0 a1 a2 a3 a4 a5 a6 a7 a8 k
  have ih0 := skiarearef25_Right.mono_l k
  unfold skiarearef25_Right.f
  repeat' first
      | (with_reducible exact ih0 _ _ _ _ _ _ _ _ _ _)
      | (with_reducible exact LeO.refl _)
      | (with_reducible exact LeO.none _)
      | (with_reducible refine LeO.ite ?_ ?_)
      | (with_reducible refine LeO.bind ?_ (fun _ => ?_))
      | exact ih0 _ _ _ _ _ _ _ _ _ _
      | exact LeO.none _
      | refine LeO.ite ?_ ?_
      | refine LeO.bind ?_ (fun _ => ?_)
set_option maxHeartbeats 8000000 in
set_option maxRecDepth 100000 in
theorem skiarearef25_Right.calls (k : Nat) (a0_0 : Int) (a0_1 : Int) (a0_2 : Int) (a0_3 : Int) (a0_4 : Int) (a0_5 : Int) (a0_6 : Int) (a0_7 : Int) (a0_8 : Int) (r : Int) (w : World) (h : skiarearef25_Right.f k a0_0 a0_1 a0_2 a0_3 a0_4 a0_5 a0_6 a0_7 a0_8 = some r) :
    Calls Try.prog 12 #[.agg #[.int .i64 a0_0, .int .i64 a0_1, .int .i64 a0_2, .int .i64 a0_3, .int .i64 a0_4, .int .i64 a0_5, .int .i64 a0_6, .int .i64 a0_7, .int .u64 a0_8]] w fun e w' => e = .returned (.int .i64 r) ∧ Below w.heap.size w w' := by
  have hu24 := Try.underlying24
  have HB := Aside0.mk (Below.refl w.heap.size w)
  have H : (if a0_0 < 1 then (skiarearef25_Right.j0 k true a0_0 a0_1 a0_2 a0_3 a0_4 a0_5 a0_6 a0_7 a0_8) else (if a0_0 > 9999 then (skiarearef25_Right.j0 k true a0_0 a0_1 a0_2 a0_3 a0_4 a0_5 a0_6 a0_7 a0_8) else (if a0_2 < 1 then (skiarearef25_Right.j0 k true a0_0 a0_1 a0_2 a0_3 a0_4 a0_5 a0_6 a0_7 a0_8) else (if a0_2 > 9999 then (skiarearef25_Right.j0 k true a0_0 a0_1 a0_2 a0_3 a0_4 a0_5 a0_6 a0_7 a0_8) else (if a0_1 < 0 then (skiarearef25_Right.j0 k true a0_0 a0_1 a0_2 a0_3 a0_4 a0_5 a0_6 a0_7 a0_8) else (if a0_1 > 1000000 then (skiarearef25_Right.j0 k true a0_0 a0_1 a0_2 a0_3 a0_4 a0_5 a0_6 a0_7 a0_8) else (if a0_3 < (-1) then (skiarearef25_Right.j0 k true a0_0 a0_1 a0_2 a0_3 a0_4 a0_5 a0_6 a0_7 a0_8) else (if a0_3 > 20000000 then (skiarearef25_Right.j0 k true a0_0 a0_1 a0_2 a0_3 a0_4 a0_5 a0_6 a0_7 a0_8) else (if a0_7 < (-1) then (skiarearef25_Right.j0 k true a0_0 a0_1 a0_2 a0_3 a0_4 a0_5 a0_6 a0_7 a0_8) else (if a0_7 > 20000000 then (skiarearef25_Right.j0 k true a0_0 a0_1 a0_2 a0_3 a0_4 a0_5 a0_6 a0_7 a0_8) else (if a0_4 < 0 then (skiarearef25_Right.j0 k true a0_0 a0_1 a0_2 a0_3 a0_4 a0_5 a0_6 a0_7 a0_8) else (if a0_4 > 100 then (skiarearef25_Right.j0 k true a0_0 a0_1 a0_2 a0_3 a0_4 a0_5 a0_6 a0_7 a0_8) else (if a0_5 < (-1) then (skiarearef25_Right.j0 k true a0_0 a0_1 a0_2 a0_3 a0_4 a0_5 a0_6 a0_7 a0_8) else (if a0_5 > 231 then (skiarearef25_Right.j0 k true a0_0 a0_1 a0_2 a0_3 a0_4 a0_5 a0_6 a0_7 a0_8) else (if a0_6 < 0 then (skiarearef25_Right.j0 k true a0_0 a0_1 a0_2 a0_3 a0_4 a0_5 a0_6 a0_7 a0_8) else (skiarearef25_Right.j0 k (decide (a0_6 > 9999)) a0_0 a0_1 a0_2 a0_3 a0_4 a0_5 a0_6 a0_7 a0_8)))))))))))))))) = some r := h
  clear h
  have HC2 := Aside0.mk H
  clear H
  go_enter Try.func12, Try.ntmps12
  go_upto_region 1 with (first | ((with_reducible refine gate_dst (N := 1) rfl ?_); refine box_event ?hg (N := 1) ?hd (cs := #[.int .i64 a0_0, .int .i64 a0_1, .int .i64 a0_2, .int .i64 a0_3, .int .i64 a0_4, .int .i64 a0_5, .int .i64 a0_6, .int .i64 a0_7, .int .u64 a0_8]) (t := 24) ?hr ?_; (case hd => rfl); (case hg => rfl); (case hr => first | (go_simp; done) | (go_simp; rfl)); intro gb285 hg w3 hbox hb; have n0_ := Aside0.mk (below_step (by repeat (first | (with_reducible first | exact HB.out | apply below_alloc | apply pw_below_drewN | apply below_drew1) | exact HB.out)) hb); have n1_ := Aside0.mk (hbox); have n2_ := Aside0.mk ((by rw [hg]; exact (below_size (by repeat (first | (with_reducible first | exact HB.out | apply below_alloc | apply pw_below_drewN | apply below_drew1) | exact HB.out))) : w.heap.size ≤ gb285)); have n3_ := Aside0.mk ((by rw [hg]; exact (below_size (by repeat (first | (with_reducible first | exact HB.out | apply below_alloc | apply pw_below_drewN | apply below_drew1) | exact HB.out))) : w.heap.size ≤ gb285)); clear HB; have HB := n0_; have BK285 := n1_; have GW285 := n2_; have GE285 := n3_; clear n0_ n1_ n2_ n3_; clear hb hbox hg))
  (try simp only [Act.put, List.setIfInBounds_toArray, List.set_cons_zero, List.set_cons_succ])
  go_cut [80] (fun v80 wc => ∃ (kq : Nat) (x80_1 : Bool), v80 = .bool x80_1 ∧ Aside0 (skiarearef25_Right.j0 kq x80_1 a0_0 a0_1 a0_2 a0_3 a0_4 a0_5 a0_6 a0_7 a0_8 = some r) ∧ Aside0 (kq ≤ k) ∧ Aside0 (wc.heap[gb285]? = some (.cells #[.int .i64 a0_0, .int .i64 a0_1, .int .i64 a0_2, .int .i64 a0_3, .int .i64 a0_4, .int .i64 a0_5, .int .i64 a0_6, .int .i64 a0_7, .int .u64 a0_8] 24 (0, 0))) ∧ Aside0 (Below w.heap.size w wc))
  case first =>
   (
 have H := HC2.out
 clear HC2
 by_cases c4 : a0_0 < 1
 {
 rw [if_pos c4] at H
 have c4b0 : decide (a0_0 < 1) = true := decide_eq_true c4
 clear c4
 (first | rw [c4b0] | (simp only [i64_w, i32_w, IntKind.wrap_u8, IntKind.wrap_u32]; rw [c4b0]) | skip)
 have H' := Aside0.mk H
 clear H
 have hcz5_0 : w3.cell? ⟨gb285, 0, none⟩ = some (.int .i64 a0_0) := (blk_cell BK285.out 0).trans rfl
 have hcz5_1 : w3.cell? ⟨gb285, 1, none⟩ = some (.int .i64 a0_1) := (blk_cell BK285.out 1).trans rfl
 have hcz5_2 : w3.cell? ⟨gb285, 2, none⟩ = some (.int .i64 a0_2) := (blk_cell BK285.out 2).trans rfl
 have hcz5_3 : w3.cell? ⟨gb285, 3, none⟩ = some (.int .i64 a0_3) := (blk_cell BK285.out 3).trans rfl
 have hcz5_4 : w3.cell? ⟨gb285, 4, none⟩ = some (.int .i64 a0_4) := (blk_cell BK285.out 4).trans rfl
 have hcz5_5 : w3.cell? ⟨gb285, 5, none⟩ = some (.int .i64 a0_5) := (blk_cell BK285.out 5).trans rfl
 have hcz5_6 : w3.cell? ⟨gb285, 6, none⟩ = some (.int .i64 a0_6) := (blk_cell BK285.out 6).trans rfl
 have hcz5_7 : w3.cell? ⟨gb285, 7, none⟩ = some (.int .i64 a0_7) := (blk_cell BK285.out 7).trans rfl
 have hcz5_8 : w3.cell? ⟨gb285, 8, none⟩ = some (.int .u64 a0_8) := (blk_cell BK285.out 8).trans rfl
 have hfz5_0 := blk_frozen BK285.out 0
 have hfz5_1 := blk_frozen BK285.out 1
 have hfz5_2 := blk_frozen BK285.out 2
 have hfz5_3 := blk_frozen BK285.out 3
 have hfz5_4 := blk_frozen BK285.out 4
 have hfz5_5 := blk_frozen BK285.out 5
 have hfz5_6 := blk_frozen BK285.out 6
 have hfz5_7 := blk_frozen BK285.out 7
 have hfz5_8 := blk_frozen BK285.out 8
 go_wp2
 go_meet
 case rel => exact ⟨_, (true), (by first | rfl | (simp; done) | (simp [*]; done)), H', ⟨by first | omega | exact Nat.le_refl _⟩, ⟨by (with_reducible repeat (first | refine blk_drewN ?_ _ | refine blk_drew ?_ | refine blk_alloc ?_ _)); exact BK285.out⟩, ⟨by repeat (first | (with_reducible first | exact HB.out | apply below_alloc | apply pw_below_drewN | apply below_drew1 | refine below_set ?_ GE285.out) | exact HB.out)⟩⟩ }
 {
 rw [if_neg c4] at H
 have c4b0 : decide (a0_0 < 1) = false := decide_eq_false c4
 clear c4
 (first | rw [c4b0] | (simp only [i64_w, i32_w, IntKind.wrap_u8, IntKind.wrap_u32]; rw [c4b0]) | skip)
 by_cases c6 : a0_0 > 9999
 {
 rw [if_pos c6] at H
 have c6b0 : decide (9999 < a0_0) = true := decide_eq_true c6
 clear c6
 have H' := Aside0.mk H
 clear H
 have hcz7_0 : w3.cell? ⟨gb285, 0, none⟩ = some (.int .i64 a0_0) := (blk_cell BK285.out 0).trans rfl
 have hcz7_1 : w3.cell? ⟨gb285, 1, none⟩ = some (.int .i64 a0_1) := (blk_cell BK285.out 1).trans rfl
 have hcz7_2 : w3.cell? ⟨gb285, 2, none⟩ = some (.int .i64 a0_2) := (blk_cell BK285.out 2).trans rfl
 have hcz7_3 : w3.cell? ⟨gb285, 3, none⟩ = some (.int .i64 a0_3) := (blk_cell BK285.out 3).trans rfl
 have hcz7_4 : w3.cell? ⟨gb285, 4, none⟩ = some (.int .i64 a0_4) := (blk_cell BK285.out 4).trans rfl
 have hcz7_5 : w3.cell? ⟨gb285, 5, none⟩ = some (.int .i64 a0_5) := (blk_cell BK285.out 5).trans rfl
 have hcz7_6 : w3.cell? ⟨gb285, 6, none⟩ = some (.int .i64 a0_6) := (blk_cell BK285.out 6).trans rfl
 have hcz7_7 : w3.cell? ⟨gb285, 7, none⟩ = some (.int .i64 a0_7) := (blk_cell BK285.out 7).trans rfl
 have hcz7_8 : w3.cell? ⟨gb285, 8, none⟩ = some (.int .u64 a0_8) := (blk_cell BK285.out 8).trans rfl
 have hfz7_0 := blk_frozen BK285.out 0
 have hfz7_1 := blk_frozen BK285.out 1
 have hfz7_2 := blk_frozen BK285.out 2
 have hfz7_3 := blk_frozen BK285.out 3
 have hfz7_4 := blk_frozen BK285.out 4
 have hfz7_5 := blk_frozen BK285.out 5
 have hfz7_6 := blk_frozen BK285.out 6
 have hfz7_7 := blk_frozen BK285.out 7
 have hfz7_8 := blk_frozen BK285.out 8
 go_wp2
 go_meet
 case rel => exact ⟨_, (true), (by first | rfl | (simp; done) | (simp [*]; done)), H', ⟨by first | omega | exact Nat.le_refl _⟩, ⟨by (with_reducible repeat (first | refine blk_drewN ?_ _ | refine blk_drew ?_ | refine blk_alloc ?_ _)); exact BK285.out⟩, ⟨by repeat (first | (with_reducible first | exact HB.out | apply below_alloc | apply pw_below_drewN | apply below_drew1 | refine below_set ?_ GE285.out) | exact HB.out)⟩⟩ }
 {
 rw [if_neg c6] at H
 have c6b0 : decide (9999 < a0_0) = false := decide_eq_false c6
 clear c6
 by_cases c8 : a0_2 < 1
 {
 rw [if_pos c8] at H
 have c8b0 : decide (a0_2 < 1) = true := decide_eq_true c8
 clear c8
 have H' := Aside0.mk H
 clear H
 have hcz9_0 : w3.cell? ⟨gb285, 0, none⟩ = some (.int .i64 a0_0) := (blk_cell BK285.out 0).trans rfl
 have hcz9_1 : w3.cell? ⟨gb285, 1, none⟩ = some (.int .i64 a0_1) := (blk_cell BK285.out 1).trans rfl
 have hcz9_2 : w3.cell? ⟨gb285, 2, none⟩ = some (.int .i64 a0_2) := (blk_cell BK285.out 2).trans rfl
 have hcz9_3 : w3.cell? ⟨gb285, 3, none⟩ = some (.int .i64 a0_3) := (blk_cell BK285.out 3).trans rfl
 have hcz9_4 : w3.cell? ⟨gb285, 4, none⟩ = some (.int .i64 a0_4) := (blk_cell BK285.out 4).trans rfl
 have hcz9_5 : w3.cell? ⟨gb285, 5, none⟩ = some (.int .i64 a0_5) := (blk_cell BK285.out 5).trans rfl
 have hcz9_6 : w3.cell? ⟨gb285, 6, none⟩ = some (.int .i64 a0_6) := (blk_cell BK285.out 6).trans rfl
 have hcz9_7 : w3.cell? ⟨gb285, 7, none⟩ = some (.int .i64 a0_7) := (blk_cell BK285.out 7).trans rfl
 have hcz9_8 : w3.cell? ⟨gb285, 8, none⟩ = some (.int .u64 a0_8) := (blk_cell BK285.out 8).trans rfl
 have hfz9_0 := blk_frozen BK285.out 0
 have hfz9_1 := blk_frozen BK285.out 1
 have hfz9_2 := blk_frozen BK285.out 2
 have hfz9_3 := blk_frozen BK285.out 3
 have hfz9_4 := blk_frozen BK285.out 4
 have hfz9_5 := blk_frozen BK285.out 5
 have hfz9_6 := blk_frozen BK285.out 6
 have hfz9_7 := blk_frozen BK285.out 7
 have hfz9_8 := blk_frozen BK285.out 8
 go_wp2
 go_meet
 case rel => exact ⟨_, (true), (by first | rfl | (simp; done) | (simp [*]; done)), H', ⟨by first | omega | exact Nat.le_refl _⟩, ⟨by (with_reducible repeat (first | refine blk_drewN ?_ _ | refine blk_drew ?_ | refine blk_alloc ?_ _)); exact BK285.out⟩, ⟨by repeat (first | (with_reducible first | exact HB.out | apply below_alloc | apply pw_below_drewN | apply below_drew1 | refine below_set ?_ GE285.out) | exact HB.out)⟩⟩ }
 {
 rw [if_neg c8] at H
 have c8b0 : decide (a0_2 < 1) = false := decide_eq_false c8
 clear c8
 by_cases c10 : a0_2 > 9999
 {
 rw [if_pos c10] at H
 have c10b0 : decide (9999 < a0_2) = true := decide_eq_true c10
 clear c10
 have H' := Aside0.mk H
 clear H
 have hcz11_0 : w3.cell? ⟨gb285, 0, none⟩ = some (.int .i64 a0_0) := (blk_cell BK285.out 0).trans rfl
 have hcz11_1 : w3.cell? ⟨gb285, 1, none⟩ = some (.int .i64 a0_1) := (blk_cell BK285.out 1).trans rfl
 have hcz11_2 : w3.cell? ⟨gb285, 2, none⟩ = some (.int .i64 a0_2) := (blk_cell BK285.out 2).trans rfl
 have hcz11_3 : w3.cell? ⟨gb285, 3, none⟩ = some (.int .i64 a0_3) := (blk_cell BK285.out 3).trans rfl
 have hcz11_4 : w3.cell? ⟨gb285, 4, none⟩ = some (.int .i64 a0_4) := (blk_cell BK285.out 4).trans rfl
 have hcz11_5 : w3.cell? ⟨gb285, 5, none⟩ = some (.int .i64 a0_5) := (blk_cell BK285.out 5).trans rfl
 have hcz11_6 : w3.cell? ⟨gb285, 6, none⟩ = some (.int .i64 a0_6) := (blk_cell BK285.out 6).trans rfl
 have hcz11_7 : w3.cell? ⟨gb285, 7, none⟩ = some (.int .i64 a0_7) := (blk_cell BK285.out 7).trans rfl
 have hcz11_8 : w3.cell? ⟨gb285, 8, none⟩ = some (.int .u64 a0_8) := (blk_cell BK285.out 8).trans rfl
 have hfz11_0 := blk_frozen BK285.out 0
 have hfz11_1 := blk_frozen BK285.out 1
 have hfz11_2 := blk_frozen BK285.out 2
 have hfz11_3 := blk_frozen BK285.out 3
 have hfz11_4 := blk_frozen BK285.out 4
 have hfz11_5 := blk_frozen BK285.out 5
 have hfz11_6 := blk_frozen BK285.out 6
 have hfz11_7 := blk_frozen BK285.out 7
 have hfz11_8 := blk_frozen BK285.out 8
 go_wp2
 go_meet
 case rel => exact ⟨_, (true), (by first | rfl | (simp; done) | (simp [*]; done)), H', ⟨by first | omega | exact Nat.le_refl _⟩, ⟨by (with_reducible repeat (first | refine blk_drewN ?_ _ | refine blk_drew ?_ | refine blk_alloc ?_ _)); exact BK285.out⟩, ⟨by repeat (first | (with_reducible first | exact HB.out | apply below_alloc | apply pw_below_drewN | apply below_drew1 | refine below_set ?_ GE285.out) | exact HB.out)⟩⟩ }
 {
 rw [if_neg c10] at H
 have c10b0 : decide (9999 < a0_2) = false := decide_eq_false c10
 clear c10
 by_cases c12 : a0_1 < 0
 {
 rw [if_pos c12] at H
 have c12b0 : decide (a0_1 < 0) = true := decide_eq_true c12
 clear c12
 have H' := Aside0.mk H
 clear H
 have hcz13_0 : w3.cell? ⟨gb285, 0, none⟩ = some (.int .i64 a0_0) := (blk_cell BK285.out 0).trans rfl
 have hcz13_1 : w3.cell? ⟨gb285, 1, none⟩ = some (.int .i64 a0_1) := (blk_cell BK285.out 1).trans rfl
 have hcz13_2 : w3.cell? ⟨gb285, 2, none⟩ = some (.int .i64 a0_2) := (blk_cell BK285.out 2).trans rfl
 have hcz13_3 : w3.cell? ⟨gb285, 3, none⟩ = some (.int .i64 a0_3) := (blk_cell BK285.out 3).trans rfl
 have hcz13_4 : w3.cell? ⟨gb285, 4, none⟩ = some (.int .i64 a0_4) := (blk_cell BK285.out 4).trans rfl
 have hcz13_5 : w3.cell? ⟨gb285, 5, none⟩ = some (.int .i64 a0_5) := (blk_cell BK285.out 5).trans rfl
 have hcz13_6 : w3.cell? ⟨gb285, 6, none⟩ = some (.int .i64 a0_6) := (blk_cell BK285.out 6).trans rfl
 have hcz13_7 : w3.cell? ⟨gb285, 7, none⟩ = some (.int .i64 a0_7) := (blk_cell BK285.out 7).trans rfl
 have hcz13_8 : w3.cell? ⟨gb285, 8, none⟩ = some (.int .u64 a0_8) := (blk_cell BK285.out 8).trans rfl
 have hfz13_0 := blk_frozen BK285.out 0
 have hfz13_1 := blk_frozen BK285.out 1
 have hfz13_2 := blk_frozen BK285.out 2
 have hfz13_3 := blk_frozen BK285.out 3
 have hfz13_4 := blk_frozen BK285.out 4
 have hfz13_5 := blk_frozen BK285.out 5
 have hfz13_6 := blk_frozen BK285.out 6
 have hfz13_7 := blk_frozen BK285.out 7
 have hfz13_8 := blk_frozen BK285.out 8
 go_wp2
 go_meet
 case rel => exact ⟨_, (true), (by first | rfl | (simp; done) | (simp [*]; done)), H', ⟨by first | omega | exact Nat.le_refl _⟩, ⟨by (with_reducible repeat (first | refine blk_drewN ?_ _ | refine blk_drew ?_ | refine blk_alloc ?_ _)); exact BK285.out⟩, ⟨by repeat (first | (with_reducible first | exact HB.out | apply below_alloc | apply pw_below_drewN | apply below_drew1 | refine below_set ?_ GE285.out) | exact HB.out)⟩⟩ }
 {
 rw [if_neg c12] at H
 have c12b0 : decide (a0_1 < 0) = false := decide_eq_false c12
 clear c12
 by_cases c14 : a0_1 > 1000000
 {
 rw [if_pos c14] at H
 have c14b0 : decide (1000000 < a0_1) = true := decide_eq_true c14
 clear c14
 have H' := Aside0.mk H
 clear H
 have hcz15_0 : w3.cell? ⟨gb285, 0, none⟩ = some (.int .i64 a0_0) := (blk_cell BK285.out 0).trans rfl
 have hcz15_1 : w3.cell? ⟨gb285, 1, none⟩ = some (.int .i64 a0_1) := (blk_cell BK285.out 1).trans rfl
 have hcz15_2 : w3.cell? ⟨gb285, 2, none⟩ = some (.int .i64 a0_2) := (blk_cell BK285.out 2).trans rfl
 have hcz15_3 : w3.cell? ⟨gb285, 3, none⟩ = some (.int .i64 a0_3) := (blk_cell BK285.out 3).trans rfl
 have hcz15_4 : w3.cell? ⟨gb285, 4, none⟩ = some (.int .i64 a0_4) := (blk_cell BK285.out 4).trans rfl
 have hcz15_5 : w3.cell? ⟨gb285, 5, none⟩ = some (.int .i64 a0_5) := (blk_cell BK285.out 5).trans rfl
 have hcz15_6 : w3.cell? ⟨gb285, 6, none⟩ = some (.int .i64 a0_6) := (blk_cell BK285.out 6).trans rfl
 have hcz15_7 : w3.cell? ⟨gb285, 7, none⟩ = some (.int .i64 a0_7) := (blk_cell BK285.out 7).trans rfl
 have hcz15_8 : w3.cell? ⟨gb285, 8, none⟩ = some (.int .u64 a0_8) := (blk_cell BK285.out 8).trans rfl
 have hfz15_0 := blk_frozen BK285.out 0
 have hfz15_1 := blk_frozen BK285.out 1
 have hfz15_2 := blk_frozen BK285.out 2
 have hfz15_3 := blk_frozen BK285.out 3
 have hfz15_4 := blk_frozen BK285.out 4
 have hfz15_5 := blk_frozen BK285.out 5
 have hfz15_6 := blk_frozen BK285.out 6
 have hfz15_7 := blk_frozen BK285.out 7
 have hfz15_8 := blk_frozen BK285.out 8
 go_wp2
 go_meet
 case rel => exact ⟨_, (true), (by first | rfl | (simp; done) | (simp [*]; done)), H', ⟨by first | omega | exact Nat.le_refl _⟩, ⟨by (with_reducible repeat (first | refine blk_drewN ?_ _ | refine blk_drew ?_ | refine blk_alloc ?_ _)); exact BK285.out⟩, ⟨by repeat (first | (with_reducible first | exact HB.out | apply below_alloc | apply pw_below_drewN | apply below_drew1 | refine below_set ?_ GE285.out) | exact HB.out)⟩⟩ }
 {
 rw [if_neg c14] at H
 have c14b0 : decide (1000000 < a0_1) = false := decide_eq_false c14
 clear c14
 by_cases c16 : a0_3 < (-1)
 {
 rw [if_pos c16] at H
 have c16b0 : decide (a0_3 < (-1)) = true := decide_eq_true c16
 clear c16
 have H' := Aside0.mk H
 clear H
 have hcz17_0 : w3.cell? ⟨gb285, 0, none⟩ = some (.int .i64 a0_0) := (blk_cell BK285.out 0).trans rfl
 have hcz17_1 : w3.cell? ⟨gb285, 1, none⟩ = some (.int .i64 a0_1) := (blk_cell BK285.out 1).trans rfl
 have hcz17_2 : w3.cell? ⟨gb285, 2, none⟩ = some (.int .i64 a0_2) := (blk_cell BK285.out 2).trans rfl
 have hcz17_3 : w3.cell? ⟨gb285, 3, none⟩ = some (.int .i64 a0_3) := (blk_cell BK285.out 3).trans rfl
 have hcz17_4 : w3.cell? ⟨gb285, 4, none⟩ = some (.int .i64 a0_4) := (blk_cell BK285.out 4).trans rfl
 have hcz17_5 : w3.cell? ⟨gb285, 5, none⟩ = some (.int .i64 a0_5) := (blk_cell BK285.out 5).trans rfl
 have hcz17_6 : w3.cell? ⟨gb285, 6, none⟩ = some (.int .i64 a0_6) := (blk_cell BK285.out 6).trans rfl
 have hcz17_7 : w3.cell? ⟨gb285, 7, none⟩ = some (.int .i64 a0_7) := (blk_cell BK285.out 7).trans rfl
 have hcz17_8 : w3.cell? ⟨gb285, 8, none⟩ = some (.int .u64 a0_8) := (blk_cell BK285.out 8).trans rfl
 have hfz17_0 := blk_frozen BK285.out 0
 have hfz17_1 := blk_frozen BK285.out 1
 have hfz17_2 := blk_frozen BK285.out 2
 have hfz17_3 := blk_frozen BK285.out 3
 have hfz17_4 := blk_frozen BK285.out 4
 have hfz17_5 := blk_frozen BK285.out 5
 have hfz17_6 := blk_frozen BK285.out 6
 have hfz17_7 := blk_frozen BK285.out 7
 have hfz17_8 := blk_frozen BK285.out 8
 go_wp2
 go_meet
 case rel => exact ⟨_, (true), (by first | rfl | (simp; done) | (simp [*]; done)), H', ⟨by first | omega | exact Nat.le_refl _⟩, ⟨by (with_reducible repeat (first | refine blk_drewN ?_ _ | refine blk_drew ?_ | refine blk_alloc ?_ _)); exact BK285.out⟩, ⟨by repeat (first | (with_reducible first | exact HB.out | apply below_alloc | apply pw_below_drewN | apply below_drew1 | refine below_set ?_ GE285.out) | exact HB.out)⟩⟩ }
 {
 rw [if_neg c16] at H
 have c16b0 : decide (a0_3 < (-1)) = false := decide_eq_false c16
 clear c16
 by_cases c18 : a0_3 > 20000000
 {
 rw [if_pos c18] at H
 have c18b0 : decide (20000000 < a0_3) = true := decide_eq_true c18
 clear c18
 have H' := Aside0.mk H
 clear H
 have hcz19_0 : w3.cell? ⟨gb285, 0, none⟩ = some (.int .i64 a0_0) := (blk_cell BK285.out 0).trans rfl
 have hcz19_1 : w3.cell? ⟨gb285, 1, none⟩ = some (.int .i64 a0_1) := (blk_cell BK285.out 1).trans rfl
 have hcz19_2 : w3.cell? ⟨gb285, 2, none⟩ = some (.int .i64 a0_2) := (blk_cell BK285.out 2).trans rfl
 have hcz19_3 : w3.cell? ⟨gb285, 3, none⟩ = some (.int .i64 a0_3) := (blk_cell BK285.out 3).trans rfl
 have hcz19_4 : w3.cell? ⟨gb285, 4, none⟩ = some (.int .i64 a0_4) := (blk_cell BK285.out 4).trans rfl
 have hcz19_5 : w3.cell? ⟨gb285, 5, none⟩ = some (.int .i64 a0_5) := (blk_cell BK285.out 5).trans rfl
 have hcz19_6 : w3.cell? ⟨gb285, 6, none⟩ = some (.int .i64 a0_6) := (blk_cell BK285.out 6).trans rfl
 have hcz19_7 : w3.cell? ⟨gb285, 7, none⟩ = some (.int .i64 a0_7) := (blk_cell BK285.out 7).trans rfl
 have hcz19_8 : w3.cell? ⟨gb285, 8, none⟩ = some (.int .u64 a0_8) := (blk_cell BK285.out 8).trans rfl
 have hfz19_0 := blk_frozen BK285.out 0
 have hfz19_1 := blk_frozen BK285.out 1
 have hfz19_2 := blk_frozen BK285.out 2
 have hfz19_3 := blk_frozen BK285.out 3
 have hfz19_4 := blk_frozen BK285.out 4
 have hfz19_5 := blk_frozen BK285.out 5
 have hfz19_6 := blk_frozen BK285.out 6
 have hfz19_7 := blk_frozen BK285.out 7
 have hfz19_8 := blk_frozen BK285.out 8
 go_wp2
 go_meet
 case rel => exact ⟨_, (true), (by first | rfl | (simp; done) | (simp [*]; done)), H', ⟨by first | omega | exact Nat.le_refl _⟩, ⟨by (with_reducible repeat (first | refine blk_drewN ?_ _ | refine blk_drew ?_ | refine blk_alloc ?_ _)); exact BK285.out⟩, ⟨by repeat (first | (with_reducible first | exact HB.out | apply below_alloc | apply pw_below_drewN | apply below_drew1 | refine below_set ?_ GE285.out) | exact HB.out)⟩⟩ }
 {
 rw [if_neg c18] at H
 have c18b0 : decide (20000000 < a0_3) = false := decide_eq_false c18
 clear c18
 by_cases c20 : a0_7 < (-1)
 {
 rw [if_pos c20] at H
 have c20b0 : decide (a0_7 < (-1)) = true := decide_eq_true c20
 clear c20
 have H' := Aside0.mk H
 clear H
 have hcz21_0 : w3.cell? ⟨gb285, 0, none⟩ = some (.int .i64 a0_0) := (blk_cell BK285.out 0).trans rfl
 have hcz21_1 : w3.cell? ⟨gb285, 1, none⟩ = some (.int .i64 a0_1) := (blk_cell BK285.out 1).trans rfl
 have hcz21_2 : w3.cell? ⟨gb285, 2, none⟩ = some (.int .i64 a0_2) := (blk_cell BK285.out 2).trans rfl
 have hcz21_3 : w3.cell? ⟨gb285, 3, none⟩ = some (.int .i64 a0_3) := (blk_cell BK285.out 3).trans rfl
 have hcz21_4 : w3.cell? ⟨gb285, 4, none⟩ = some (.int .i64 a0_4) := (blk_cell BK285.out 4).trans rfl
 have hcz21_5 : w3.cell? ⟨gb285, 5, none⟩ = some (.int .i64 a0_5) := (blk_cell BK285.out 5).trans rfl
 have hcz21_6 : w3.cell? ⟨gb285, 6, none⟩ = some (.int .i64 a0_6) := (blk_cell BK285.out 6).trans rfl
 have hcz21_7 : w3.cell? ⟨gb285, 7, none⟩ = some (.int .i64 a0_7) := (blk_cell BK285.out 7).trans rfl
 have hcz21_8 : w3.cell? ⟨gb285, 8, none⟩ = some (.int .u64 a0_8) := (blk_cell BK285.out 8).trans rfl
 have hfz21_0 := blk_frozen BK285.out 0
 have hfz21_1 := blk_frozen BK285.out 1
 have hfz21_2 := blk_frozen BK285.out 2
 have hfz21_3 := blk_frozen BK285.out 3
 have hfz21_4 := blk_frozen BK285.out 4
 have hfz21_5 := blk_frozen BK285.out 5
 have hfz21_6 := blk_frozen BK285.out 6
 have hfz21_7 := blk_frozen BK285.out 7
 have hfz21_8 := blk_frozen BK285.out 8
 go_wp2
 go_meet
 case rel => exact ⟨_, (true), (by first | rfl | (simp; done) | (simp [*]; done)), H', ⟨by first | omega | exact Nat.le_refl _⟩, ⟨by (with_reducible repeat (first | refine blk_drewN ?_ _ | refine blk_drew ?_ | refine blk_alloc ?_ _)); exact BK285.out⟩, ⟨by repeat (first | (with_reducible first | exact HB.out | apply below_alloc | apply pw_below_drewN | apply below_drew1 | refine below_set ?_ GE285.out) | exact HB.out)⟩⟩ }
 {
 rw [if_neg c20] at H
 have c20b0 : decide (a0_7 < (-1)) = false := decide_eq_false c20
 clear c20
 by_cases c22 : a0_7 > 20000000
 {
 rw [if_pos c22] at H
 have c22b0 : decide (20000000 < a0_7) = true := decide_eq_true c22
 clear c22
 have H' := Aside0.mk H
 clear H
 have hcz23_0 : w3.cell? ⟨gb285, 0, none⟩ = some (.int .i64 a0_0) := (blk_cell BK285.out 0).trans rfl
 have hcz23_1 : w3.cell? ⟨gb285, 1, none⟩ = some (.int .i64 a0_1) := (blk_cell BK285.out 1).trans rfl
 have hcz23_2 : w3.cell? ⟨gb285, 2, none⟩ = some (.int .i64 a0_2) := (blk_cell BK285.out 2).trans rfl
 have hcz23_3 : w3.cell? ⟨gb285, 3, none⟩ = some (.int .i64 a0_3) := (blk_cell BK285.out 3).trans rfl
 have hcz23_4 : w3.cell? ⟨gb285, 4, none⟩ = some (.int .i64 a0_4) := (blk_cell BK285.out 4).trans rfl
 have hcz23_5 : w3.cell? ⟨gb285, 5, none⟩ = some (.int .i64 a0_5) := (blk_cell BK285.out 5).trans rfl
 have hcz23_6 : w3.cell? ⟨gb285, 6, none⟩ = some (.int .i64 a0_6) := (blk_cell BK285.out 6).trans rfl
 have hcz23_7 : w3.cell? ⟨gb285, 7, none⟩ = some (.int .i64 a0_7) := (blk_cell BK285.out 7).trans rfl
 have hcz23_8 : w3.cell? ⟨gb285, 8, none⟩ = some (.int .u64 a0_8) := (blk_cell BK285.out 8).trans rfl
 have hfz23_0 := blk_frozen BK285.out 0
 have hfz23_1 := blk_frozen BK285.out 1
 have hfz23_2 := blk_frozen BK285.out 2
 have hfz23_3 := blk_frozen BK285.out 3
 have hfz23_4 := blk_frozen BK285.out 4
 have hfz23_5 := blk_frozen BK285.out 5
 have hfz23_6 := blk_frozen BK285.out 6
 have hfz23_7 := blk_frozen BK285.out 7
 have hfz23_8 := blk_frozen BK285.out 8
 go_wp2
 go_meet
 case rel => exact ⟨_, (true), (by first | rfl | (simp; done) | (simp [*]; done)), H', ⟨by first | omega | exact Nat.le_refl _⟩, ⟨by (with_reducible repeat (first | refine blk_drewN ?_ _ | refine blk_drew ?_ | refine blk_alloc ?_ _)); exact BK285.out⟩, ⟨by repeat (first | (with_reducible first | exact HB.out | apply below_alloc | apply pw_below_drewN | apply below_drew1 | refine below_set ?_ GE285.out) | exact HB.out)⟩⟩ }
 {
 rw [if_neg c22] at H
 have c22b0 : decide (20000000 < a0_7) = false := decide_eq_false c22
 clear c22
 by_cases c24 : a0_4 < 0
 {
 rw [if_pos c24] at H
 have c24b0 : decide (a0_4 < 0) = true := decide_eq_true c24
 clear c24
 have H' := Aside0.mk H
 clear H
 have hcz25_0 : w3.cell? ⟨gb285, 0, none⟩ = some (.int .i64 a0_0) := (blk_cell BK285.out 0).trans rfl
 have hcz25_1 : w3.cell? ⟨gb285, 1, none⟩ = some (.int .i64 a0_1) := (blk_cell BK285.out 1).trans rfl
 have hcz25_2 : w3.cell? ⟨gb285, 2, none⟩ = some (.int .i64 a0_2) := (blk_cell BK285.out 2).trans rfl
 have hcz25_3 : w3.cell? ⟨gb285, 3, none⟩ = some (.int .i64 a0_3) := (blk_cell BK285.out 3).trans rfl
 have hcz25_4 : w3.cell? ⟨gb285, 4, none⟩ = some (.int .i64 a0_4) := (blk_cell BK285.out 4).trans rfl
 have hcz25_5 : w3.cell? ⟨gb285, 5, none⟩ = some (.int .i64 a0_5) := (blk_cell BK285.out 5).trans rfl
 have hcz25_6 : w3.cell? ⟨gb285, 6, none⟩ = some (.int .i64 a0_6) := (blk_cell BK285.out 6).trans rfl
 have hcz25_7 : w3.cell? ⟨gb285, 7, none⟩ = some (.int .i64 a0_7) := (blk_cell BK285.out 7).trans rfl
 have hcz25_8 : w3.cell? ⟨gb285, 8, none⟩ = some (.int .u64 a0_8) := (blk_cell BK285.out 8).trans rfl
 have hfz25_0 := blk_frozen BK285.out 0
 have hfz25_1 := blk_frozen BK285.out 1
 have hfz25_2 := blk_frozen BK285.out 2
 have hfz25_3 := blk_frozen BK285.out 3
 have hfz25_4 := blk_frozen BK285.out 4
 have hfz25_5 := blk_frozen BK285.out 5
 have hfz25_6 := blk_frozen BK285.out 6
 have hfz25_7 := blk_frozen BK285.out 7
 have hfz25_8 := blk_frozen BK285.out 8
 go_wp2
 go_meet
 case rel => exact ⟨_, (true), (by first | rfl | (simp; done) | (simp [*]; done)), H', ⟨by first | omega | exact Nat.le_refl _⟩, ⟨by (with_reducible repeat (first | refine blk_drewN ?_ _ | refine blk_drew ?_ | refine blk_alloc ?_ _)); exact BK285.out⟩, ⟨by repeat (first | (with_reducible first | exact HB.out | apply below_alloc | apply pw_below_drewN | apply below_drew1 | refine below_set ?_ GE285.out) | exact HB.out)⟩⟩ }
 {
 rw [if_neg c24] at H
 have c24b0 : decide (a0_4 < 0) = false := decide_eq_false c24
 clear c24
 by_cases c26 : a0_4 > 100
 {
 rw [if_pos c26] at H
 have c26b0 : decide (100 < a0_4) = true := decide_eq_true c26
 clear c26
 have H' := Aside0.mk H
 clear H
 have hcz27_0 : w3.cell? ⟨gb285, 0, none⟩ = some (.int .i64 a0_0) := (blk_cell BK285.out 0).trans rfl
 have hcz27_1 : w3.cell? ⟨gb285, 1, none⟩ = some (.int .i64 a0_1) := (blk_cell BK285.out 1).trans rfl
 have hcz27_2 : w3.cell? ⟨gb285, 2, none⟩ = some (.int .i64 a0_2) := (blk_cell BK285.out 2).trans rfl
 have hcz27_3 : w3.cell? ⟨gb285, 3, none⟩ = some (.int .i64 a0_3) := (blk_cell BK285.out 3).trans rfl
 have hcz27_4 : w3.cell? ⟨gb285, 4, none⟩ = some (.int .i64 a0_4) := (blk_cell BK285.out 4).trans rfl
 have hcz27_5 : w3.cell? ⟨gb285, 5, none⟩ = some (.int .i64 a0_5) := (blk_cell BK285.out 5).trans rfl
 have hcz27_6 : w3.cell? ⟨gb285, 6, none⟩ = some (.int .i64 a0_6) := (blk_cell BK285.out 6).trans rfl
 have hcz27_7 : w3.cell? ⟨gb285, 7, none⟩ = some (.int .i64 a0_7) := (blk_cell BK285.out 7).trans rfl
 have hcz27_8 : w3.cell? ⟨gb285, 8, none⟩ = some (.int .u64 a0_8) := (blk_cell BK285.out 8).trans rfl
 have hfz27_0 := blk_frozen BK285.out 0
 have hfz27_1 := blk_frozen BK285.out 1
 have hfz27_2 := blk_frozen BK285.out 2
 have hfz27_3 := blk_frozen BK285.out 3
 have hfz27_4 := blk_frozen BK285.out 4
 have hfz27_5 := blk_frozen BK285.out 5
 have hfz27_6 := blk_frozen BK285.out 6
 have hfz27_7 := blk_frozen BK285.out 7
 have hfz27_8 := blk_frozen BK285.out 8
 go_wp2
 go_meet
 case rel => exact ⟨_, (true), (by first | rfl | (simp; done) | (simp [*]; done)), H', ⟨by first | omega | exact Nat.le_refl _⟩, ⟨by (with_reducible repeat (first | refine blk_drewN ?_ _ | refine blk_drew ?_ | refine blk_alloc ?_ _)); exact BK285.out⟩, ⟨by repeat (first | (with_reducible first | exact HB.out | apply below_alloc | apply pw_below_drewN | apply below_drew1 | refine below_set ?_ GE285.out) | exact HB.out)⟩⟩ }
 {
 rw [if_neg c26] at H
 have c26b0 : decide (100 < a0_4) = false := decide_eq_false c26
 clear c26
 by_cases c28 : a0_5 < (-1)
 {
 rw [if_pos c28] at H
 have c28b0 : decide (a0_5 < (-1)) = true := decide_eq_true c28
 clear c28
 have H' := Aside0.mk H
 clear H
 have hcz29_0 : w3.cell? ⟨gb285, 0, none⟩ = some (.int .i64 a0_0) := (blk_cell BK285.out 0).trans rfl
 have hcz29_1 : w3.cell? ⟨gb285, 1, none⟩ = some (.int .i64 a0_1) := (blk_cell BK285.out 1).trans rfl
 have hcz29_2 : w3.cell? ⟨gb285, 2, none⟩ = some (.int .i64 a0_2) := (blk_cell BK285.out 2).trans rfl
 have hcz29_3 : w3.cell? ⟨gb285, 3, none⟩ = some (.int .i64 a0_3) := (blk_cell BK285.out 3).trans rfl
 have hcz29_4 : w3.cell? ⟨gb285, 4, none⟩ = some (.int .i64 a0_4) := (blk_cell BK285.out 4).trans rfl
 have hcz29_5 : w3.cell? ⟨gb285, 5, none⟩ = some (.int .i64 a0_5) := (blk_cell BK285.out 5).trans rfl
 have hcz29_6 : w3.cell? ⟨gb285, 6, none⟩ = some (.int .i64 a0_6) := (blk_cell BK285.out 6).trans rfl
 have hcz29_7 : w3.cell? ⟨gb285, 7, none⟩ = some (.int .i64 a0_7) := (blk_cell BK285.out 7).trans rfl
 have hcz29_8 : w3.cell? ⟨gb285, 8, none⟩ = some (.int .u64 a0_8) := (blk_cell BK285.out 8).trans rfl
 have hfz29_0 := blk_frozen BK285.out 0
 have hfz29_1 := blk_frozen BK285.out 1
 have hfz29_2 := blk_frozen BK285.out 2
 have hfz29_3 := blk_frozen BK285.out 3
 have hfz29_4 := blk_frozen BK285.out 4
 have hfz29_5 := blk_frozen BK285.out 5
 have hfz29_6 := blk_frozen BK285.out 6
 have hfz29_7 := blk_frozen BK285.out 7
 have hfz29_8 := blk_frozen BK285.out 8
 go_wp2
 go_meet
 case rel => exact ⟨_, (true), (by first | rfl | (simp; done) | (simp [*]; done)), H', ⟨by first | omega | exact Nat.le_refl _⟩, ⟨by (with_reducible repeat (first | refine blk_drewN ?_ _ | refine blk_drew ?_ | refine blk_alloc ?_ _)); exact BK285.out⟩, ⟨by repeat (first | (with_reducible first | exact HB.out | apply below_alloc | apply pw_below_drewN | apply below_drew1 | refine below_set ?_ GE285.out) | exact HB.out)⟩⟩ }
 {
 rw [if_neg c28] at H
 have c28b0 : decide (a0_5 < (-1)) = false := decide_eq_false c28
 clear c28
 by_cases c30 : a0_5 > 231
 {
 rw [if_pos c30] at H
 have c30b0 : decide (231 < a0_5) = true := decide_eq_true c30
 clear c30
 have H' := Aside0.mk H
 clear H
 have hcz31_0 : w3.cell? ⟨gb285, 0, none⟩ = some (.int .i64 a0_0) := (blk_cell BK285.out 0).trans rfl
 have hcz31_1 : w3.cell? ⟨gb285, 1, none⟩ = some (.int .i64 a0_1) := (blk_cell BK285.out 1).trans rfl
 have hcz31_2 : w3.cell? ⟨gb285, 2, none⟩ = some (.int .i64 a0_2) := (blk_cell BK285.out 2).trans rfl
 have hcz31_3 : w3.cell? ⟨gb285, 3, none⟩ = some (.int .i64 a0_3) := (blk_cell BK285.out 3).trans rfl
 have hcz31_4 : w3.cell? ⟨gb285, 4, none⟩ = some (.int .i64 a0_4) := (blk_cell BK285.out 4).trans rfl
 have hcz31_5 : w3.cell? ⟨gb285, 5, none⟩ = some (.int .i64 a0_5) := (blk_cell BK285.out 5).trans rfl
 have hcz31_6 : w3.cell? ⟨gb285, 6, none⟩ = some (.int .i64 a0_6) := (blk_cell BK285.out 6).trans rfl
 have hcz31_7 : w3.cell? ⟨gb285, 7, none⟩ = some (.int .i64 a0_7) := (blk_cell BK285.out 7).trans rfl
 have hcz31_8 : w3.cell? ⟨gb285, 8, none⟩ = some (.int .u64 a0_8) := (blk_cell BK285.out 8).trans rfl
 have hfz31_0 := blk_frozen BK285.out 0
 have hfz31_1 := blk_frozen BK285.out 1
 have hfz31_2 := blk_frozen BK285.out 2
 have hfz31_3 := blk_frozen BK285.out 3
 have hfz31_4 := blk_frozen BK285.out 4
 have hfz31_5 := blk_frozen BK285.out 5
 have hfz31_6 := blk_frozen BK285.out 6
 have hfz31_7 := blk_frozen BK285.out 7
 have hfz31_8 := blk_frozen BK285.out 8
 go_wp2
 go_meet
 case rel => exact ⟨_, (true), (by first | rfl | (simp; done) | (simp [*]; done)), H', ⟨by first | omega | exact Nat.le_refl _⟩, ⟨by (with_reducible repeat (first | refine blk_drewN ?_ _ | refine blk_drew ?_ | refine blk_alloc ?_ _)); exact BK285.out⟩, ⟨by repeat (first | (with_reducible first | exact HB.out | apply below_alloc | apply pw_below_drewN | apply below_drew1 | refine below_set ?_ GE285.out) | exact HB.out)⟩⟩ }
 {
 rw [if_neg c30] at H
 have c30b0 : decide (231 < a0_5) = false := decide_eq_false c30
 clear c30
 by_cases c32 : a0_6 < 0
 {
 rw [if_pos c32] at H
 have c32b0 : decide (a0_6 < 0) = true := decide_eq_true c32
 clear c32
 have H' := Aside0.mk H
 clear H
 have hcz33_0 : w3.cell? ⟨gb285, 0, none⟩ = some (.int .i64 a0_0) := (blk_cell BK285.out 0).trans rfl
 have hcz33_1 : w3.cell? ⟨gb285, 1, none⟩ = some (.int .i64 a0_1) := (blk_cell BK285.out 1).trans rfl
 have hcz33_2 : w3.cell? ⟨gb285, 2, none⟩ = some (.int .i64 a0_2) := (blk_cell BK285.out 2).trans rfl
 have hcz33_3 : w3.cell? ⟨gb285, 3, none⟩ = some (.int .i64 a0_3) := (blk_cell BK285.out 3).trans rfl
 have hcz33_4 : w3.cell? ⟨gb285, 4, none⟩ = some (.int .i64 a0_4) := (blk_cell BK285.out 4).trans rfl
 have hcz33_5 : w3.cell? ⟨gb285, 5, none⟩ = some (.int .i64 a0_5) := (blk_cell BK285.out 5).trans rfl
 have hcz33_6 : w3.cell? ⟨gb285, 6, none⟩ = some (.int .i64 a0_6) := (blk_cell BK285.out 6).trans rfl
 have hcz33_7 : w3.cell? ⟨gb285, 7, none⟩ = some (.int .i64 a0_7) := (blk_cell BK285.out 7).trans rfl
 have hcz33_8 : w3.cell? ⟨gb285, 8, none⟩ = some (.int .u64 a0_8) := (blk_cell BK285.out 8).trans rfl
 have hfz33_0 := blk_frozen BK285.out 0
 have hfz33_1 := blk_frozen BK285.out 1
 have hfz33_2 := blk_frozen BK285.out 2
 have hfz33_3 := blk_frozen BK285.out 3
 have hfz33_4 := blk_frozen BK285.out 4
 have hfz33_5 := blk_frozen BK285.out 5
 have hfz33_6 := blk_frozen BK285.out 6
 have hfz33_7 := blk_frozen BK285.out 7
 have hfz33_8 := blk_frozen BK285.out 8
 go_wp2
 go_meet
 case rel => exact ⟨_, (true), (by first | rfl | (simp; done) | (simp [*]; done)), H', ⟨by first | omega | exact Nat.le_refl _⟩, ⟨by (with_reducible repeat (first | refine blk_drewN ?_ _ | refine blk_drew ?_ | refine blk_alloc ?_ _)); exact BK285.out⟩, ⟨by repeat (first | (with_reducible first | exact HB.out | apply below_alloc | apply pw_below_drewN | apply below_drew1 | refine below_set ?_ GE285.out) | exact HB.out)⟩⟩ }
 {
 rw [if_neg c32] at H
 have c32b0 : decide (a0_6 < 0) = false := decide_eq_false c32
 clear c32
 have H' := Aside0.mk H
 clear H
 have hcz34_0 : w3.cell? ⟨gb285, 0, none⟩ = some (.int .i64 a0_0) := (blk_cell BK285.out 0).trans rfl
 have hcz34_1 : w3.cell? ⟨gb285, 1, none⟩ = some (.int .i64 a0_1) := (blk_cell BK285.out 1).trans rfl
 have hcz34_2 : w3.cell? ⟨gb285, 2, none⟩ = some (.int .i64 a0_2) := (blk_cell BK285.out 2).trans rfl
 have hcz34_3 : w3.cell? ⟨gb285, 3, none⟩ = some (.int .i64 a0_3) := (blk_cell BK285.out 3).trans rfl
 have hcz34_4 : w3.cell? ⟨gb285, 4, none⟩ = some (.int .i64 a0_4) := (blk_cell BK285.out 4).trans rfl
 have hcz34_5 : w3.cell? ⟨gb285, 5, none⟩ = some (.int .i64 a0_5) := (blk_cell BK285.out 5).trans rfl
 have hcz34_6 : w3.cell? ⟨gb285, 6, none⟩ = some (.int .i64 a0_6) := (blk_cell BK285.out 6).trans rfl
 have hcz34_7 : w3.cell? ⟨gb285, 7, none⟩ = some (.int .i64 a0_7) := (blk_cell BK285.out 7).trans rfl
 have hcz34_8 : w3.cell? ⟨gb285, 8, none⟩ = some (.int .u64 a0_8) := (blk_cell BK285.out 8).trans rfl
 have hfz34_0 := blk_frozen BK285.out 0
 have hfz34_1 := blk_frozen BK285.out 1
 have hfz34_2 := blk_frozen BK285.out 2
 have hfz34_3 := blk_frozen BK285.out 3
 have hfz34_4 := blk_frozen BK285.out 4
 have hfz34_5 := blk_frozen BK285.out 5
 have hfz34_6 := blk_frozen BK285.out 6
 have hfz34_7 := blk_frozen BK285.out 7
 have hfz34_8 := blk_frozen BK285.out 8
 go_wp2
 go_meet
 case rel => exact ⟨_, (decide (a0_6 > 9999)), (by first | rfl | (simp; done) | (simp [*]; done)), H', ⟨by first | omega | exact Nat.le_refl _⟩, ⟨by (with_reducible repeat (first | refine blk_drewN ?_ _ | refine blk_drew ?_ | refine blk_alloc ?_ _)); exact BK285.out⟩, ⟨by repeat (first | (with_reducible first | exact HB.out | apply below_alloc | apply pw_below_drewN | apply below_drew1 | refine below_set ?_ GE285.out) | exact HB.out)⟩⟩ } } } } } } } } } } } } } } } )
  case rest =>
   (
 clear HC2
 try clear c1
 try clear c2
 try clear p2
 try clear c3
 try clear c4
 try clear c4b0
 try clear c6
 try clear c6b0
 try clear c8
 try clear c8b0
 try clear c10
 try clear c10b0
 try clear c12
 try clear c12b0
 try clear c14
 try clear c14b0
 try clear c16
 try clear c16b0
 try clear c18
 try clear c18b0
 try clear c20
 try clear c20b0
 try clear c22
 try clear c22b0
 try clear c24
 try clear c24b0
 try clear c26
 try clear c26b0
 try clear c28
 try clear c28b0
 try clear c30
 try clear c30b0
 try clear c32
 try clear c32b0
 try clear hcz11_0
 try clear hcz11_1
 try clear hcz11_2
 try clear hcz11_3
 try clear hcz11_4
 try clear hcz11_5
 try clear hcz11_6
 try clear hcz11_7
 try clear hcz11_8
 try clear hcz13_0
 try clear hcz13_1
 try clear hcz13_2
 try clear hcz13_3
 try clear hcz13_4
 try clear hcz13_5
 try clear hcz13_6
 try clear hcz13_7
 try clear hcz13_8
 try clear hcz15_0
 try clear hcz15_1
 try clear hcz15_2
 try clear hcz15_3
 try clear hcz15_4
 try clear hcz15_5
 try clear hcz15_6
 try clear hcz15_7
 try clear hcz15_8
 try clear hcz17_0
 try clear hcz17_1
 try clear hcz17_2
 try clear hcz17_3
 try clear hcz17_4
 try clear hcz17_5
 try clear hcz17_6
 try clear hcz17_7
 try clear hcz17_8
 try clear hcz19_0
 try clear hcz19_1
 try clear hcz19_2
 try clear hcz19_3
 try clear hcz19_4
 try clear hcz19_5
 try clear hcz19_6
 try clear hcz19_7
 try clear hcz19_8
 try clear hcz21_0
 try clear hcz21_1
 try clear hcz21_2
 try clear hcz21_3
 try clear hcz21_4
 try clear hcz21_5
 try clear hcz21_6
 try clear hcz21_7
 try clear hcz21_8
 try clear hcz23_0
 try clear hcz23_1
 try clear hcz23_2
 try clear hcz23_3
 try clear hcz23_4
 try clear hcz23_5
 try clear hcz23_6
 try clear hcz23_7
 try clear hcz23_8
 try clear hcz25_0
 try clear hcz25_1
 try clear hcz25_2
 try clear hcz25_3
 try clear hcz25_4
 try clear hcz25_5
 try clear hcz25_6
 try clear hcz25_7
 try clear hcz25_8
 try clear hcz27_0
 try clear hcz27_1
 try clear hcz27_2
 try clear hcz27_3
 try clear hcz27_4
 try clear hcz27_5
 try clear hcz27_6
 try clear hcz27_7
 try clear hcz27_8
 try clear hcz29_0
 try clear hcz29_1
 try clear hcz29_2
 try clear hcz29_3
 try clear hcz29_4
 try clear hcz29_5
 try clear hcz29_6
 try clear hcz29_7
 try clear hcz29_8
 try clear hcz31_0
 try clear hcz31_1
 try clear hcz31_2
 try clear hcz31_3
 try clear hcz31_4
 try clear hcz31_5
 try clear hcz31_6
 try clear hcz31_7
 try clear hcz31_8
 try clear hcz33_0
 try clear hcz33_1
 try clear hcz33_2
 try clear hcz33_3
 try clear hcz33_4
 try clear hcz33_5
 try clear hcz33_6
 try clear hcz33_7
 try clear hcz33_8
 try clear hcz34_0
 try clear hcz34_1
 try clear hcz34_2
 try clear hcz34_3
 try clear hcz34_4
 try clear hcz34_5
 try clear hcz34_6
 try clear hcz34_7
 try clear hcz34_8
 try clear hcz5_0
 try clear hcz5_1
 try clear hcz5_2
 try clear hcz5_3
 try clear hcz5_4
 try clear hcz5_5
 try clear hcz5_6
 try clear hcz5_7
 try clear hcz5_8
 try clear hcz7_0
 try clear hcz7_1
 try clear hcz7_2
 try clear hcz7_3
 try clear hcz7_4
 try clear hcz7_5
 try clear hcz7_6
 try clear hcz7_7
 try clear hcz7_8
 try clear hcz9_0
 try clear hcz9_1
 try clear hcz9_2
 try clear hcz9_3
 try clear hcz9_4
 try clear hcz9_5
 try clear hcz9_6
 try clear hcz9_7
 try clear hcz9_8
 try clear hfz11_0
 try clear hfz11_1
 try clear hfz11_2
 try clear hfz11_3
 try clear hfz11_4
 try clear hfz11_5
 try clear hfz11_6
 try clear hfz11_7
 try clear hfz11_8
 try clear hfz13_0
 try clear hfz13_1
 try clear hfz13_2
 try clear hfz13_3
 try clear hfz13_4
 try clear hfz13_5
 try clear hfz13_6
 try clear hfz13_7
 try clear hfz13_8
 try clear hfz15_0
 try clear hfz15_1
 try clear hfz15_2
 try clear hfz15_3
 try clear hfz15_4
 try clear hfz15_5
 try clear hfz15_6
 try clear hfz15_7
 try clear hfz15_8
 try clear hfz17_0
 try clear hfz17_1
 try clear hfz17_2
 try clear hfz17_3
 try clear hfz17_4
 try clear hfz17_5
 try clear hfz17_6
 try clear hfz17_7
 try clear hfz17_8
 try clear hfz19_0
 try clear hfz19_1
 try clear hfz19_2
 try clear hfz19_3
 try clear hfz19_4
 try clear hfz19_5
 try clear hfz19_6
 try clear hfz19_7
 try clear hfz19_8
 try clear hfz21_0
 try clear hfz21_1
 try clear hfz21_2
 try clear hfz21_3
 try clear hfz21_4
 try clear hfz21_5
 try clear hfz21_6
 try clear hfz21_7
 try clear hfz21_8
 try clear hfz23_0
 try clear hfz23_1
 try clear hfz23_2
 try clear hfz23_3
 try clear hfz23_4
 try clear hfz23_5
 try clear hfz23_6
 try clear hfz23_7
 try clear hfz23_8
 try clear hfz25_0
 try clear hfz25_1
 try clear hfz25_2
 try clear hfz25_3
 try clear hfz25_4
 try clear hfz25_5
 try clear hfz25_6
 try clear hfz25_7
 try clear hfz25_8
 try clear hfz27_0
 try clear hfz27_1
 try clear hfz27_2
 try clear hfz27_3
 try clear hfz27_4
 try clear hfz27_5
 try clear hfz27_6
 try clear hfz27_7
 try clear hfz27_8
 try clear hfz29_0
 try clear hfz29_1
 try clear hfz29_2
 try clear hfz29_3
 try clear hfz29_4
 try clear hfz29_5
 try clear hfz29_6
 try clear hfz29_7
 try clear hfz29_8
 try clear hfz31_0
 try clear hfz31_1
 try clear hfz31_2
 try clear hfz31_3
 try clear hfz31_4
 try clear hfz31_5
 try clear hfz31_6
 try clear hfz31_7
 try clear hfz31_8
 try clear hfz33_0
 try clear hfz33_1
 try clear hfz33_2
 try clear hfz33_3
 try clear hfz33_4
 try clear hfz33_5
 try clear hfz33_6
 try clear hfz33_7
 try clear hfz33_8
 try clear hfz34_0
 try clear hfz34_1
 try clear hfz34_2
 try clear hfz34_3
 try clear hfz34_4
 try clear hfz34_5
 try clear hfz34_6
 try clear hfz34_7
 try clear hfz34_8
 try clear hfz5_0
 try clear hfz5_1
 try clear hfz5_2
 try clear hfz5_3
 try clear hfz5_4
 try clear hfz5_5
 try clear hfz5_6
 try clear hfz5_7
 try clear hfz5_8
 try clear hfz7_0
 try clear hfz7_1
 try clear hfz7_2
 try clear hfz7_3
 try clear hfz7_4
 try clear hfz7_5
 try clear hfz7_6
 try clear hfz7_7
 try clear hfz7_8
 try clear hfz9_0
 try clear hfz9_1
 try clear hfz9_2
 try clear hfz9_3
 try clear hfz9_4
 try clear hfz9_5
 try clear hfz9_6
 try clear hfz9_7
 try clear hfz9_8
 obtain ⟨kq, x80_1, rfl, HA, HJ1, BK285, HB⟩ := hcut
 cases kq with
 | zero => exact absurd HA.out (by simp [skiarearef25_Right.j0])
 | succ kj1 =>
   (
 have H := HA.out
 clear HA
 simp only [skiarearef25_Right.j0] at H
 by_cases c35 : x80_1 = true
 {
 subst c35
 have H1 : (some 2) = some r := by rw [if_pos rfl] at H; exact H
 clear H
 have H := H1
 clear H1
 obtain rfl := Option.some.inj H
 go_wp2
 go_ret
 exact ⟨by first | rfl | (simp [errW_none, errW_some] <;> rfl) | (simp [*, errW_none, errW_some] <;> rfl), by repeat (first | (with_reducible first | exact HB.out | apply below_alloc | apply pw_below_drewN | apply below_drew1 | refine below_set ?_ GE285.out) | exact HB.out)⟩ }
 {
 replace c35 := Bool.eq_false_iff.mpr c35
 subst c35
 have H1 : (if a0_3 = (-1) then (if a0_7 = (-1) then (if a0_6 = 0 then (if a0_5 = (-1) then (if a0_3 > a0_7 then (some 10) else (some 0)) else (some 10)) else (some 10)) else (some 10)) else (if a0_7 = (-1) then (if a0_6 = 0 then (if a0_5 = (-1) then (if a0_3 > a0_7 then (some 10) else (some 0)) else (some 10)) else (some 10)) else (if a0_3 > a0_7 then (some 10) else (some 0)))) = some r := by rw [if_neg (show ¬ (false = true) by decide)] at H; exact H
 clear H
 have H := H1
 clear H1
 by_cases c36 : a0_3 = (-1)
 {
 rw [if_pos c36] at H
 have c36b0 : (a0_3 == (-1)) = true := beq_iff_eq.mpr c36
 have c36b1 : (a0_3 != (-1)) = false := bne_eq_false_iff_eq.mpr c36
 clear c36
 by_cases c37 : a0_7 = (-1)
 {
 rw [if_pos c37] at H
 have c37b0 : (a0_7 == (-1)) = true := beq_iff_eq.mpr c37
 have c37b1 : (a0_7 != (-1)) = false := bne_eq_false_iff_eq.mpr c37
 clear c37
 by_cases c38 : a0_6 = 0
 {
 rw [if_pos c38] at H
 have c38b0 : (a0_6 == 0) = true := beq_iff_eq.mpr c38
 have c38b1 : (a0_6 != 0) = false := bne_eq_false_iff_eq.mpr c38
 clear c38
 by_cases c39 : a0_5 = (-1)
 {
 rw [if_pos c39] at H
 have c39b0 : (a0_5 == (-1)) = true := beq_iff_eq.mpr c39
 have c39b1 : (a0_5 != (-1)) = false := bne_eq_false_iff_eq.mpr c39
 clear c39
 by_cases c40 : a0_3 > a0_7
 {
 rw [if_pos c40] at H
 have c40b0 : decide (a0_7 < a0_3) = true := decide_eq_true c40
 clear c40
 obtain rfl := Option.some.inj H
 have hcz41_0 : wc.cell? ⟨gb285, 0, none⟩ = some (.int .i64 a0_0) := (blk_cell BK285.out 0).trans rfl
 have hcz41_1 : wc.cell? ⟨gb285, 1, none⟩ = some (.int .i64 a0_1) := (blk_cell BK285.out 1).trans rfl
 have hcz41_2 : wc.cell? ⟨gb285, 2, none⟩ = some (.int .i64 a0_2) := (blk_cell BK285.out 2).trans rfl
 have hcz41_3 : wc.cell? ⟨gb285, 3, none⟩ = some (.int .i64 a0_3) := (blk_cell BK285.out 3).trans rfl
 have hcz41_4 : wc.cell? ⟨gb285, 4, none⟩ = some (.int .i64 a0_4) := (blk_cell BK285.out 4).trans rfl
 have hcz41_5 : wc.cell? ⟨gb285, 5, none⟩ = some (.int .i64 a0_5) := (blk_cell BK285.out 5).trans rfl
 have hcz41_6 : wc.cell? ⟨gb285, 6, none⟩ = some (.int .i64 a0_6) := (blk_cell BK285.out 6).trans rfl
 have hcz41_7 : wc.cell? ⟨gb285, 7, none⟩ = some (.int .i64 a0_7) := (blk_cell BK285.out 7).trans rfl
 have hcz41_8 : wc.cell? ⟨gb285, 8, none⟩ = some (.int .u64 a0_8) := (blk_cell BK285.out 8).trans rfl
 have hfz41_0 := blk_frozen BK285.out 0
 have hfz41_1 := blk_frozen BK285.out 1
 have hfz41_2 := blk_frozen BK285.out 2
 have hfz41_3 := blk_frozen BK285.out 3
 have hfz41_4 := blk_frozen BK285.out 4
 have hfz41_5 := blk_frozen BK285.out 5
 have hfz41_6 := blk_frozen BK285.out 6
 have hfz41_7 := blk_frozen BK285.out 7
 have hfz41_8 := blk_frozen BK285.out 8
 go_wp2
 go_ret
 exact ⟨by first | rfl | (simp [errW_none, errW_some] <;> rfl) | (simp [*, errW_none, errW_some] <;> rfl), by repeat (first | (with_reducible first | exact HB.out | apply below_alloc | apply pw_below_drewN | apply below_drew1 | refine below_set ?_ GE285.out) | exact HB.out)⟩ }
 {
 rw [if_neg c40] at H
 have c40b0 : decide (a0_7 < a0_3) = false := decide_eq_false c40
 clear c40
 obtain rfl := Option.some.inj H
 have hcz42_0 : wc.cell? ⟨gb285, 0, none⟩ = some (.int .i64 a0_0) := (blk_cell BK285.out 0).trans rfl
 have hcz42_1 : wc.cell? ⟨gb285, 1, none⟩ = some (.int .i64 a0_1) := (blk_cell BK285.out 1).trans rfl
 have hcz42_2 : wc.cell? ⟨gb285, 2, none⟩ = some (.int .i64 a0_2) := (blk_cell BK285.out 2).trans rfl
 have hcz42_3 : wc.cell? ⟨gb285, 3, none⟩ = some (.int .i64 a0_3) := (blk_cell BK285.out 3).trans rfl
 have hcz42_4 : wc.cell? ⟨gb285, 4, none⟩ = some (.int .i64 a0_4) := (blk_cell BK285.out 4).trans rfl
 have hcz42_5 : wc.cell? ⟨gb285, 5, none⟩ = some (.int .i64 a0_5) := (blk_cell BK285.out 5).trans rfl
 have hcz42_6 : wc.cell? ⟨gb285, 6, none⟩ = some (.int .i64 a0_6) := (blk_cell BK285.out 6).trans rfl
 have hcz42_7 : wc.cell? ⟨gb285, 7, none⟩ = some (.int .i64 a0_7) := (blk_cell BK285.out 7).trans rfl
 have hcz42_8 : wc.cell? ⟨gb285, 8, none⟩ = some (.int .u64 a0_8) := (blk_cell BK285.out 8).trans rfl
 have hfz42_0 := blk_frozen BK285.out 0
 have hfz42_1 := blk_frozen BK285.out 1
 have hfz42_2 := blk_frozen BK285.out 2
 have hfz42_3 := blk_frozen BK285.out 3
 have hfz42_4 := blk_frozen BK285.out 4
 have hfz42_5 := blk_frozen BK285.out 5
 have hfz42_6 := blk_frozen BK285.out 6
 have hfz42_7 := blk_frozen BK285.out 7
 have hfz42_8 := blk_frozen BK285.out 8
 go_wp2
 go_ret
 exact ⟨by first | rfl | (simp [errW_none, errW_some] <;> rfl) | (simp [*, errW_none, errW_some] <;> rfl), by repeat (first | (with_reducible first | exact HB.out | apply below_alloc | apply pw_below_drewN | apply below_drew1 | refine below_set ?_ GE285.out) | exact HB.out)⟩ } }
 {
 rw [if_neg c39] at H
 have c39b0 : (a0_5 == (-1)) = false := beq_eq_false_iff_ne.mpr c39
 have c39b1 : (a0_5 != (-1)) = true := bne_iff_ne.mpr c39
 obtain rfl := Option.some.inj H
 have hcz43_0 : wc.cell? ⟨gb285, 0, none⟩ = some (.int .i64 a0_0) := (blk_cell BK285.out 0).trans rfl
 have hcz43_1 : wc.cell? ⟨gb285, 1, none⟩ = some (.int .i64 a0_1) := (blk_cell BK285.out 1).trans rfl
 have hcz43_2 : wc.cell? ⟨gb285, 2, none⟩ = some (.int .i64 a0_2) := (blk_cell BK285.out 2).trans rfl
 have hcz43_3 : wc.cell? ⟨gb285, 3, none⟩ = some (.int .i64 a0_3) := (blk_cell BK285.out 3).trans rfl
 have hcz43_4 : wc.cell? ⟨gb285, 4, none⟩ = some (.int .i64 a0_4) := (blk_cell BK285.out 4).trans rfl
 have hcz43_5 : wc.cell? ⟨gb285, 5, none⟩ = some (.int .i64 a0_5) := (blk_cell BK285.out 5).trans rfl
 have hcz43_6 : wc.cell? ⟨gb285, 6, none⟩ = some (.int .i64 a0_6) := (blk_cell BK285.out 6).trans rfl
 have hcz43_7 : wc.cell? ⟨gb285, 7, none⟩ = some (.int .i64 a0_7) := (blk_cell BK285.out 7).trans rfl
 have hcz43_8 : wc.cell? ⟨gb285, 8, none⟩ = some (.int .u64 a0_8) := (blk_cell BK285.out 8).trans rfl
 have hfz43_0 := blk_frozen BK285.out 0
 have hfz43_1 := blk_frozen BK285.out 1
 have hfz43_2 := blk_frozen BK285.out 2
 have hfz43_3 := blk_frozen BK285.out 3
 have hfz43_4 := blk_frozen BK285.out 4
 have hfz43_5 := blk_frozen BK285.out 5
 have hfz43_6 := blk_frozen BK285.out 6
 have hfz43_7 := blk_frozen BK285.out 7
 have hfz43_8 := blk_frozen BK285.out 8
 go_wp2
 go_ret
 exact ⟨by first | rfl | (simp [errW_none, errW_some] <;> rfl) | (simp [*, errW_none, errW_some] <;> rfl), by repeat (first | (with_reducible first | exact HB.out | apply below_alloc | apply pw_below_drewN | apply below_drew1 | refine below_set ?_ GE285.out) | exact HB.out)⟩ } }
 {
 rw [if_neg c38] at H
 have c38b0 : (a0_6 == 0) = false := beq_eq_false_iff_ne.mpr c38
 have c38b1 : (a0_6 != 0) = true := bne_iff_ne.mpr c38
 obtain rfl := Option.some.inj H
 have hcz44_0 : wc.cell? ⟨gb285, 0, none⟩ = some (.int .i64 a0_0) := (blk_cell BK285.out 0).trans rfl
 have hcz44_1 : wc.cell? ⟨gb285, 1, none⟩ = some (.int .i64 a0_1) := (blk_cell BK285.out 1).trans rfl
 have hcz44_2 : wc.cell? ⟨gb285, 2, none⟩ = some (.int .i64 a0_2) := (blk_cell BK285.out 2).trans rfl
 have hcz44_3 : wc.cell? ⟨gb285, 3, none⟩ = some (.int .i64 a0_3) := (blk_cell BK285.out 3).trans rfl
 have hcz44_4 : wc.cell? ⟨gb285, 4, none⟩ = some (.int .i64 a0_4) := (blk_cell BK285.out 4).trans rfl
 have hcz44_5 : wc.cell? ⟨gb285, 5, none⟩ = some (.int .i64 a0_5) := (blk_cell BK285.out 5).trans rfl
 have hcz44_6 : wc.cell? ⟨gb285, 6, none⟩ = some (.int .i64 a0_6) := (blk_cell BK285.out 6).trans rfl
 have hcz44_7 : wc.cell? ⟨gb285, 7, none⟩ = some (.int .i64 a0_7) := (blk_cell BK285.out 7).trans rfl
 have hcz44_8 : wc.cell? ⟨gb285, 8, none⟩ = some (.int .u64 a0_8) := (blk_cell BK285.out 8).trans rfl
 have hfz44_0 := blk_frozen BK285.out 0
 have hfz44_1 := blk_frozen BK285.out 1
 have hfz44_2 := blk_frozen BK285.out 2
 have hfz44_3 := blk_frozen BK285.out 3
 have hfz44_4 := blk_frozen BK285.out 4
 have hfz44_5 := blk_frozen BK285.out 5
 have hfz44_6 := blk_frozen BK285.out 6
 have hfz44_7 := blk_frozen BK285.out 7
 have hfz44_8 := blk_frozen BK285.out 8
 go_wp2
 go_ret
 exact ⟨by first | rfl | (simp [errW_none, errW_some] <;> rfl) | (simp [*, errW_none, errW_some] <;> rfl), by repeat (first | (with_reducible first | exact HB.out | apply below_alloc | apply pw_below_drewN | apply below_drew1 | refine below_set ?_ GE285.out) | exact HB.out)⟩ } }
 {
 rw [if_neg c37] at H
 have c37b0 : (a0_7 == (-1)) = false := beq_eq_false_iff_ne.mpr c37
 have c37b1 : (a0_7 != (-1)) = true := bne_iff_ne.mpr c37
 obtain rfl := Option.some.inj H
 have hcz45_0 : wc.cell? ⟨gb285, 0, none⟩ = some (.int .i64 a0_0) := (blk_cell BK285.out 0).trans rfl
 have hcz45_1 : wc.cell? ⟨gb285, 1, none⟩ = some (.int .i64 a0_1) := (blk_cell BK285.out 1).trans rfl
 have hcz45_2 : wc.cell? ⟨gb285, 2, none⟩ = some (.int .i64 a0_2) := (blk_cell BK285.out 2).trans rfl
 have hcz45_3 : wc.cell? ⟨gb285, 3, none⟩ = some (.int .i64 a0_3) := (blk_cell BK285.out 3).trans rfl
 have hcz45_4 : wc.cell? ⟨gb285, 4, none⟩ = some (.int .i64 a0_4) := (blk_cell BK285.out 4).trans rfl
 have hcz45_5 : wc.cell? ⟨gb285, 5, none⟩ = some (.int .i64 a0_5) := (blk_cell BK285.out 5).trans rfl
 have hcz45_6 : wc.cell? ⟨gb285, 6, none⟩ = some (.int .i64 a0_6) := (blk_cell BK285.out 6).trans rfl
 have hcz45_7 : wc.cell? ⟨gb285, 7, none⟩ = some (.int .i64 a0_7) := (blk_cell BK285.out 7).trans rfl
 have hcz45_8 : wc.cell? ⟨gb285, 8, none⟩ = some (.int .u64 a0_8) := (blk_cell BK285.out 8).trans rfl
 have hfz45_0 := blk_frozen BK285.out 0
 have hfz45_1 := blk_frozen BK285.out 1
 have hfz45_2 := blk_frozen BK285.out 2
 have hfz45_3 := blk_frozen BK285.out 3
 have hfz45_4 := blk_frozen BK285.out 4
 have hfz45_5 := blk_frozen BK285.out 5
 have hfz45_6 := blk_frozen BK285.out 6
 have hfz45_7 := blk_frozen BK285.out 7
 have hfz45_8 := blk_frozen BK285.out 8
 go_wp2
 go_ret
 exact ⟨by first | rfl | (simp [errW_none, errW_some] <;> rfl) | (simp [*, errW_none, errW_some] <;> rfl), by repeat (first | (with_reducible first | exact HB.out | apply below_alloc | apply pw_below_drewN | apply below_drew1 | refine below_set ?_ GE285.out) | exact HB.out)⟩ } }
 {
 rw [if_neg c36] at H
 have c36b0 : (a0_3 == (-1)) = false := beq_eq_false_iff_ne.mpr c36
 have c36b1 : (a0_3 != (-1)) = true := bne_iff_ne.mpr c36
 by_cases c46 : a0_7 = (-1)
 {
 rw [if_pos c46] at H
 have c46b0 : (a0_7 == (-1)) = true := beq_iff_eq.mpr c46
 have c46b1 : (a0_7 != (-1)) = false := bne_eq_false_iff_eq.mpr c46
 clear c46
 by_cases c47 : a0_6 = 0
 {
 rw [if_pos c47] at H
 have c47b0 : (a0_6 == 0) = true := beq_iff_eq.mpr c47
 have c47b1 : (a0_6 != 0) = false := bne_eq_false_iff_eq.mpr c47
 clear c47
 by_cases c48 : a0_5 = (-1)
 {
 rw [if_pos c48] at H
 have c48b0 : (a0_5 == (-1)) = true := beq_iff_eq.mpr c48
 have c48b1 : (a0_5 != (-1)) = false := bne_eq_false_iff_eq.mpr c48
 clear c48
 by_cases c49 : a0_3 > a0_7
 {
 rw [if_pos c49] at H
 have c49b0 : decide (a0_7 < a0_3) = true := decide_eq_true c49
 clear c49
 obtain rfl := Option.some.inj H
 have hcz50_0 : wc.cell? ⟨gb285, 0, none⟩ = some (.int .i64 a0_0) := (blk_cell BK285.out 0).trans rfl
 have hcz50_1 : wc.cell? ⟨gb285, 1, none⟩ = some (.int .i64 a0_1) := (blk_cell BK285.out 1).trans rfl
 have hcz50_2 : wc.cell? ⟨gb285, 2, none⟩ = some (.int .i64 a0_2) := (blk_cell BK285.out 2).trans rfl
 have hcz50_3 : wc.cell? ⟨gb285, 3, none⟩ = some (.int .i64 a0_3) := (blk_cell BK285.out 3).trans rfl
 have hcz50_4 : wc.cell? ⟨gb285, 4, none⟩ = some (.int .i64 a0_4) := (blk_cell BK285.out 4).trans rfl
 have hcz50_5 : wc.cell? ⟨gb285, 5, none⟩ = some (.int .i64 a0_5) := (blk_cell BK285.out 5).trans rfl
 have hcz50_6 : wc.cell? ⟨gb285, 6, none⟩ = some (.int .i64 a0_6) := (blk_cell BK285.out 6).trans rfl
 have hcz50_7 : wc.cell? ⟨gb285, 7, none⟩ = some (.int .i64 a0_7) := (blk_cell BK285.out 7).trans rfl
 have hcz50_8 : wc.cell? ⟨gb285, 8, none⟩ = some (.int .u64 a0_8) := (blk_cell BK285.out 8).trans rfl
 have hfz50_0 := blk_frozen BK285.out 0
 have hfz50_1 := blk_frozen BK285.out 1
 have hfz50_2 := blk_frozen BK285.out 2
 have hfz50_3 := blk_frozen BK285.out 3
 have hfz50_4 := blk_frozen BK285.out 4
 have hfz50_5 := blk_frozen BK285.out 5
 have hfz50_6 := blk_frozen BK285.out 6
 have hfz50_7 := blk_frozen BK285.out 7
 have hfz50_8 := blk_frozen BK285.out 8
 go_wp2
 go_ret
 exact ⟨by first | rfl | (simp [errW_none, errW_some] <;> rfl) | (simp [*, errW_none, errW_some] <;> rfl), by repeat (first | (with_reducible first | exact HB.out | apply below_alloc | apply pw_below_drewN | apply below_drew1 | refine below_set ?_ GE285.out) | exact HB.out)⟩ }
 {
 rw [if_neg c49] at H
 have c49b0 : decide (a0_7 < a0_3) = false := decide_eq_false c49
 clear c49
 obtain rfl := Option.some.inj H
 have hcz51_0 : wc.cell? ⟨gb285, 0, none⟩ = some (.int .i64 a0_0) := (blk_cell BK285.out 0).trans rfl
 have hcz51_1 : wc.cell? ⟨gb285, 1, none⟩ = some (.int .i64 a0_1) := (blk_cell BK285.out 1).trans rfl
 have hcz51_2 : wc.cell? ⟨gb285, 2, none⟩ = some (.int .i64 a0_2) := (blk_cell BK285.out 2).trans rfl
 have hcz51_3 : wc.cell? ⟨gb285, 3, none⟩ = some (.int .i64 a0_3) := (blk_cell BK285.out 3).trans rfl
 have hcz51_4 : wc.cell? ⟨gb285, 4, none⟩ = some (.int .i64 a0_4) := (blk_cell BK285.out 4).trans rfl
 have hcz51_5 : wc.cell? ⟨gb285, 5, none⟩ = some (.int .i64 a0_5) := (blk_cell BK285.out 5).trans rfl
 have hcz51_6 : wc.cell? ⟨gb285, 6, none⟩ = some (.int .i64 a0_6) := (blk_cell BK285.out 6).trans rfl
 have hcz51_7 : wc.cell? ⟨gb285, 7, none⟩ = some (.int .i64 a0_7) := (blk_cell BK285.out 7).trans rfl
 have hcz51_8 : wc.cell? ⟨gb285, 8, none⟩ = some (.int .u64 a0_8) := (blk_cell BK285.out 8).trans rfl
 have hfz51_0 := blk_frozen BK285.out 0
 have hfz51_1 := blk_frozen BK285.out 1
 have hfz51_2 := blk_frozen BK285.out 2
 have hfz51_3 := blk_frozen BK285.out 3
 have hfz51_4 := blk_frozen BK285.out 4
 have hfz51_5 := blk_frozen BK285.out 5
 have hfz51_6 := blk_frozen BK285.out 6
 have hfz51_7 := blk_frozen BK285.out 7
 have hfz51_8 := blk_frozen BK285.out 8
 go_wp2
 go_ret
 exact ⟨by first | rfl | (simp [errW_none, errW_some] <;> rfl) | (simp [*, errW_none, errW_some] <;> rfl), by repeat (first | (with_reducible first | exact HB.out | apply below_alloc | apply pw_below_drewN | apply below_drew1 | refine below_set ?_ GE285.out) | exact HB.out)⟩ } }
 {
 rw [if_neg c48] at H
 have c48b0 : (a0_5 == (-1)) = false := beq_eq_false_iff_ne.mpr c48
 have c48b1 : (a0_5 != (-1)) = true := bne_iff_ne.mpr c48
 obtain rfl := Option.some.inj H
 have hcz52_0 : wc.cell? ⟨gb285, 0, none⟩ = some (.int .i64 a0_0) := (blk_cell BK285.out 0).trans rfl
 have hcz52_1 : wc.cell? ⟨gb285, 1, none⟩ = some (.int .i64 a0_1) := (blk_cell BK285.out 1).trans rfl
 have hcz52_2 : wc.cell? ⟨gb285, 2, none⟩ = some (.int .i64 a0_2) := (blk_cell BK285.out 2).trans rfl
 have hcz52_3 : wc.cell? ⟨gb285, 3, none⟩ = some (.int .i64 a0_3) := (blk_cell BK285.out 3).trans rfl
 have hcz52_4 : wc.cell? ⟨gb285, 4, none⟩ = some (.int .i64 a0_4) := (blk_cell BK285.out 4).trans rfl
 have hcz52_5 : wc.cell? ⟨gb285, 5, none⟩ = some (.int .i64 a0_5) := (blk_cell BK285.out 5).trans rfl
 have hcz52_6 : wc.cell? ⟨gb285, 6, none⟩ = some (.int .i64 a0_6) := (blk_cell BK285.out 6).trans rfl
 have hcz52_7 : wc.cell? ⟨gb285, 7, none⟩ = some (.int .i64 a0_7) := (blk_cell BK285.out 7).trans rfl
 have hcz52_8 : wc.cell? ⟨gb285, 8, none⟩ = some (.int .u64 a0_8) := (blk_cell BK285.out 8).trans rfl
 have hfz52_0 := blk_frozen BK285.out 0
 have hfz52_1 := blk_frozen BK285.out 1
 have hfz52_2 := blk_frozen BK285.out 2
 have hfz52_3 := blk_frozen BK285.out 3
 have hfz52_4 := blk_frozen BK285.out 4
 have hfz52_5 := blk_frozen BK285.out 5
 have hfz52_6 := blk_frozen BK285.out 6
 have hfz52_7 := blk_frozen BK285.out 7
 have hfz52_8 := blk_frozen BK285.out 8
 go_wp2
 go_ret
 exact ⟨by first | rfl | (simp [errW_none, errW_some] <;> rfl) | (simp [*, errW_none, errW_some] <;> rfl), by repeat (first | (with_reducible first | exact HB.out | apply below_alloc | apply pw_below_drewN | apply below_drew1 | refine below_set ?_ GE285.out) | exact HB.out)⟩ } }
 {
 rw [if_neg c47] at H
 have c47b0 : (a0_6 == 0) = false := beq_eq_false_iff_ne.mpr c47
 have c47b1 : (a0_6 != 0) = true := bne_iff_ne.mpr c47
 obtain rfl := Option.some.inj H
 have hcz53_0 : wc.cell? ⟨gb285, 0, none⟩ = some (.int .i64 a0_0) := (blk_cell BK285.out 0).trans rfl
 have hcz53_1 : wc.cell? ⟨gb285, 1, none⟩ = some (.int .i64 a0_1) := (blk_cell BK285.out 1).trans rfl
 have hcz53_2 : wc.cell? ⟨gb285, 2, none⟩ = some (.int .i64 a0_2) := (blk_cell BK285.out 2).trans rfl
 have hcz53_3 : wc.cell? ⟨gb285, 3, none⟩ = some (.int .i64 a0_3) := (blk_cell BK285.out 3).trans rfl
 have hcz53_4 : wc.cell? ⟨gb285, 4, none⟩ = some (.int .i64 a0_4) := (blk_cell BK285.out 4).trans rfl
 have hcz53_5 : wc.cell? ⟨gb285, 5, none⟩ = some (.int .i64 a0_5) := (blk_cell BK285.out 5).trans rfl
 have hcz53_6 : wc.cell? ⟨gb285, 6, none⟩ = some (.int .i64 a0_6) := (blk_cell BK285.out 6).trans rfl
 have hcz53_7 : wc.cell? ⟨gb285, 7, none⟩ = some (.int .i64 a0_7) := (blk_cell BK285.out 7).trans rfl
 have hcz53_8 : wc.cell? ⟨gb285, 8, none⟩ = some (.int .u64 a0_8) := (blk_cell BK285.out 8).trans rfl
 have hfz53_0 := blk_frozen BK285.out 0
 have hfz53_1 := blk_frozen BK285.out 1
 have hfz53_2 := blk_frozen BK285.out 2
 have hfz53_3 := blk_frozen BK285.out 3
 have hfz53_4 := blk_frozen BK285.out 4
 have hfz53_5 := blk_frozen BK285.out 5
 have hfz53_6 := blk_frozen BK285.out 6
 have hfz53_7 := blk_frozen BK285.out 7
 have hfz53_8 := blk_frozen BK285.out 8
 go_wp2
 go_ret
 exact ⟨by first | rfl | (simp [errW_none, errW_some] <;> rfl) | (simp [*, errW_none, errW_some] <;> rfl), by repeat (first | (with_reducible first | exact HB.out | apply below_alloc | apply pw_below_drewN | apply below_drew1 | refine below_set ?_ GE285.out) | exact HB.out)⟩ } }
 {
 rw [if_neg c46] at H
 have c46b0 : (a0_7 == (-1)) = false := beq_eq_false_iff_ne.mpr c46
 have c46b1 : (a0_7 != (-1)) = true := bne_iff_ne.mpr c46
 by_cases c54 : a0_3 > a0_7
 {
 rw [if_pos c54] at H
 have c54b0 : decide (a0_7 < a0_3) = true := decide_eq_true c54
 clear c54
 obtain rfl := Option.some.inj H
 have hcz55_0 : wc.cell? ⟨gb285, 0, none⟩ = some (.int .i64 a0_0) := (blk_cell BK285.out 0).trans rfl
 have hcz55_1 : wc.cell? ⟨gb285, 1, none⟩ = some (.int .i64 a0_1) := (blk_cell BK285.out 1).trans rfl
 have hcz55_2 : wc.cell? ⟨gb285, 2, none⟩ = some (.int .i64 a0_2) := (blk_cell BK285.out 2).trans rfl
 have hcz55_3 : wc.cell? ⟨gb285, 3, none⟩ = some (.int .i64 a0_3) := (blk_cell BK285.out 3).trans rfl
 have hcz55_4 : wc.cell? ⟨gb285, 4, none⟩ = some (.int .i64 a0_4) := (blk_cell BK285.out 4).trans rfl
 have hcz55_5 : wc.cell? ⟨gb285, 5, none⟩ = some (.int .i64 a0_5) := (blk_cell BK285.out 5).trans rfl
 have hcz55_6 : wc.cell? ⟨gb285, 6, none⟩ = some (.int .i64 a0_6) := (blk_cell BK285.out 6).trans rfl
 have hcz55_7 : wc.cell? ⟨gb285, 7, none⟩ = some (.int .i64 a0_7) := (blk_cell BK285.out 7).trans rfl
 have hcz55_8 : wc.cell? ⟨gb285, 8, none⟩ = some (.int .u64 a0_8) := (blk_cell BK285.out 8).trans rfl
 have hfz55_0 := blk_frozen BK285.out 0
 have hfz55_1 := blk_frozen BK285.out 1
 have hfz55_2 := blk_frozen BK285.out 2
 have hfz55_3 := blk_frozen BK285.out 3
 have hfz55_4 := blk_frozen BK285.out 4
 have hfz55_5 := blk_frozen BK285.out 5
 have hfz55_6 := blk_frozen BK285.out 6
 have hfz55_7 := blk_frozen BK285.out 7
 have hfz55_8 := blk_frozen BK285.out 8
 go_wp2
 go_ret
 exact ⟨by first | rfl | (simp [errW_none, errW_some] <;> rfl) | (simp [*, errW_none, errW_some] <;> rfl), by repeat (first | (with_reducible first | exact HB.out | apply below_alloc | apply pw_below_drewN | apply below_drew1 | refine below_set ?_ GE285.out) | exact HB.out)⟩ }
 {
 rw [if_neg c54] at H
 have c54b0 : decide (a0_7 < a0_3) = false := decide_eq_false c54
 clear c54
 obtain rfl := Option.some.inj H
 have hcz56_0 : wc.cell? ⟨gb285, 0, none⟩ = some (.int .i64 a0_0) := (blk_cell BK285.out 0).trans rfl
 have hcz56_1 : wc.cell? ⟨gb285, 1, none⟩ = some (.int .i64 a0_1) := (blk_cell BK285.out 1).trans rfl
 have hcz56_2 : wc.cell? ⟨gb285, 2, none⟩ = some (.int .i64 a0_2) := (blk_cell BK285.out 2).trans rfl
 have hcz56_3 : wc.cell? ⟨gb285, 3, none⟩ = some (.int .i64 a0_3) := (blk_cell BK285.out 3).trans rfl
 have hcz56_4 : wc.cell? ⟨gb285, 4, none⟩ = some (.int .i64 a0_4) := (blk_cell BK285.out 4).trans rfl
 have hcz56_5 : wc.cell? ⟨gb285, 5, none⟩ = some (.int .i64 a0_5) := (blk_cell BK285.out 5).trans rfl
 have hcz56_6 : wc.cell? ⟨gb285, 6, none⟩ = some (.int .i64 a0_6) := (blk_cell BK285.out 6).trans rfl
 have hcz56_7 : wc.cell? ⟨gb285, 7, none⟩ = some (.int .i64 a0_7) := (blk_cell BK285.out 7).trans rfl
 have hcz56_8 : wc.cell? ⟨gb285, 8, none⟩ = some (.int .u64 a0_8) := (blk_cell BK285.out 8).trans rfl
 have hfz56_0 := blk_frozen BK285.out 0
 have hfz56_1 := blk_frozen BK285.out 1
 have hfz56_2 := blk_frozen BK285.out 2
 have hfz56_3 := blk_frozen BK285.out 3
 have hfz56_4 := blk_frozen BK285.out 4
 have hfz56_5 := blk_frozen BK285.out 5
 have hfz56_6 := blk_frozen BK285.out 6
 have hfz56_7 := blk_frozen BK285.out 7
 have hfz56_8 := blk_frozen BK285.out 8
 go_wp2
 go_ret
 exact ⟨by first | rfl | (simp [errW_none, errW_some] <;> rfl) | (simp [*, errW_none, errW_some] <;> rfl), by repeat (first | (with_reducible first | exact HB.out | apply below_alloc | apply pw_below_drewN | apply below_drew1 | refine below_set ?_ GE285.out) | exact HB.out)⟩ } } } } ) )
end Go.Proofs.Ytdlinojgmllkoaa.Q

namespace Go.Proofs.Ytdlinojgmllkoaa.Q
open Go.RowKit Go.Proofs.YtdlinojgmllkoaaW.PrintWords Go.Proofs.YtdlinojgmllkoaaW.PrintLast Go.Proofs.YtdlinojgmllkoaaW.PrintMore
attribute [local go_sem] max2_int min2_int max_two min_two max_three min_three max_four min_four   -- for this text's walks alone
set_option linter.unusedVariables false
set_option linter.unusedSimpArgs false

mutual
def skiarearef03_Put.j0 : Nat → Int → List Int → Option (List Int)
  | 0, _, _ => none
  | k + 1, x1, x5 => skiarearef03_Put.l0 k x1 x5
def skiarearef03_Put.l0 : Nat → Int → List Int → Option (List Int)
  | 0, _, _ => none
  | k + 1, x1, x5 => if x1 ≥ 128 then (if x5.length < 140737488355328 then (skiarearef03_Put.l0 k (wrap64 (Int.tdiv x1 128)) (x5 ++ [((Int.tmod x1 128) + 128) % 256])) else (none)) else (if x5.length < 140737488355328 then (some (x5 ++ [(x1) % 256])) else (none))
end
def skiarearef03_Put.f (k : Nat) (l0 : List Int) (a1 : Int) : Option (List Int) := if ([] : List Int).length + l0.length < 140737488355328 then ((some (([] : List Int) ++ l0 : List Int)).bind fun y290 => (if a1 < 0 then (skiarearef03_Put.j0 k 0 y290) else (skiarearef03_Put.j0 k a1 y290))) else (none)
theorem skiarearef03_Put.mono_l : ∀ k, (∀ y0 y1, LeO (skiarearef03_Put.j0 k y0 y1) (skiarearef03_Put.j0 (k + 1) y0 y1)) ∧ (∀ y0 y1, LeO (skiarearef03_Put.l0 k y0 y1) (skiarearef03_Put.l0 (k + 1) y0 y1))
  | 0 => ⟨fun _ _ r h => by simp [skiarearef03_Put.j0] at h, fun _ _ r h => by simp [skiarearef03_Put.l0] at h⟩
  | k + 1 => by
    obtain ⟨ih0, ih1⟩ := skiarearef03_Put.mono_l k
    refine ⟨?_, ?_⟩
    · intro y0 y1
      unfold skiarearef03_Put.j0
      repeat' first
      | (with_reducible exact ih0 _ _)
      | (with_reducible exact ih1 _ _)
      | (with_reducible exact LeO.refl _)
      | (with_reducible exact LeO.none _)
      | (with_reducible refine LeO.ite ?_ ?_)
      | (with_reducible refine LeO.bind ?_ (fun _ => ?_))
      | exact ih0 _ _
      | exact ih1 _ _
      | exact LeO.none _
      | refine LeO.ite ?_ ?_
      | refine LeO.bind ?_ (fun _ => ?_)
    · intro y0 y1
      unfold skiarearef03_Put.l0
      repeat' first
      | (with_reducible exact ih0 _ _)
      | (with_reducible exact ih1 _ _)
      | (with_reducible exact LeO.refl _)
      | (with_reducible exact LeO.none _)
      | (with_reducible refine LeO.ite ?_ ?_)
      | (with_reducible refine LeO.bind ?_ (fun _ => ?_))
      | exact ih0 _ _
      | exact ih1 _ _
      | exact LeO.none _
      | refine LeO.ite ?_ ?_
      | refine LeO.bind ?_ (fun _ => ?_)
theorem skiarearef03_Put.mono : ∀ a0 a1 k, LeO (skiarearef03_Put.f k a0 a1) (skiarearef03_Put.f (k + 1) a0 a1) := by
  intro a0 a1 k
  obtain ⟨ih0, ih1⟩ := skiarearef03_Put.mono_l k
  unfold skiarearef03_Put.f
  repeat' first
      | (with_reducible exact ih0 _ _)
      | (with_reducible exact ih1 _ _)
      | (with_reducible exact LeO.refl _)
      | (with_reducible exact LeO.none _)
      | (with_reducible refine LeO.ite ?_ ?_)
      | (with_reducible refine LeO.bind ?_ (fun _ => ?_))
      | exact ih0 _ _
      | exact ih1 _ _
      | exact LeO.none _
      | refine LeO.ite ?_ ?_
      | refine LeO.bind ?_ (fun _ => ?_)
set_option maxHeartbeats 8000000 in
set_option maxRecDepth 100000 in
theorem skiarearef03_Put.calls (k : Nat) (A0 : Option Addr) (c0 : Nat) (l0 : List Int) (a1 : Int) (r : List Int) (w : World) (hr0 : Kd.C (Kd.int .u8) w A0 l0.length l0) (hc0 : l0.length ≤ c0) (h : skiarearef03_Put.f k l0 a1 = some r) :
    Calls Try.prog 34 #[.slice A0 l0.length c0, .int .i64 a1] w fun e w' => ∃ v0_ : Value, e = .returned (v0_) ∧ Kd.R (Kd.int .u8) 5 w' w.heap.size (fun _ => True) v0_ r ∧ Below w.heap.size w w' := by
  have HR0 := Aside0.mk hr0
  have HC0 := Aside0.mk hc0
  clear hr0 hc0
  have HB := Aside0.mk (Below.refl w.heap.size w)
  have H : (if ([] : List Int).length + l0.length < 140737488355328 then ((some (([] : List Int) ++ l0 : List Int)).bind fun y290 => (if a1 < 0 then (skiarearef03_Put.j0 k 0 y290) else (skiarearef03_Put.j0 k a1 y290))) else (none)) = some r := h
  clear h
  by_cases c3 : ([] : List Int).length + l0.length < 140737488355328
  {
 rw [if_pos c3] at H
 have LMc3 := Aside0.mk c3
 clear c3
 obtain ⟨y290, hy290⟩ : ∃ y_ : List Int, y_ = (([] : List Int) ++ l0) := ⟨_, rfl⟩
 replace H : (if a1 < 0 then (skiarearef03_Put.j0 k 0 y290) else (skiarearef03_Put.j0 k a1 y290)) = some r := by first | (rw [hy290]; with_reducible exact H) | (have H2_ := (Option.bind_some _ _).symm.trans H; rw [hy290]; with_reducible exact H2_) | (have H2_ := (Option.bind_some _ _).symm.trans H; with_reducible exact H2_) | with_reducible exact H | (rw [hy290]; exact H) | exact H
 have Ny290 := Aside0.mk hy290
 clear hy290
 have HC4 := Aside0.mk H
 clear H
 go_enter Try.func34, Try.ntmps34
 go_upto_if 9 with (first | ((with_reducible refine gate_builtin (b := .append) (xs := #[.const (.slice none 0 0), .tmp 6]) rfl ?_); at_builtin; refine Kd.R_append_rows (Kd.int .u8) (w0 := w) w.heap.size rfl (.const (.slice none 0 0)) (.tmp 6) 35 5 (.int .u8 0) 1 rfl Try.underlying35 info5 rfl (by decide) (by omega) (.slice none 0 0) ([] : List Int) l0 _ _ _ (fun _ => True) (fun _ => False) rfl rfl ?aO ?aR (fun _ _ h => h) (fun _ h => h.elim) ?aF ?aB ?aS ?aL ?_; (case aR => repeat (first | exact HR0.out | (with_reducible refine Kd.C_alloc ?_ _) | (with_reducible refine Kd.C_drewN ?_ _) | (with_reducible refine Kd.C_drew ?_))); (case aB => exact (by repeat (first | (with_reducible first | exact HB.out | apply below_alloc | apply pw_below_drewN | apply below_drew1) | exact HB.out))); (case aF => exact (fun _ _ => trivial)); (case aO => exact ((Kd.R_nil _ _ _ _ (fun _ => True)))); (case aS => exact (below_size (by repeat (first | (with_reducible first | exact HB.out | apply below_alloc | apply pw_below_drewN | apply below_drew1) | exact HB.out)))); (case aL => have := LMc3.out; omega); intro v291 w5 ho hb hg hat; rw [← Ny290.out] at ho; have n0_ := Aside0.mk (hb); have n1_ := Aside0.mk (ho); clear HB; have HB := n0_; have HO292 := n1_; clear n0_ n1_; clear ho hb hg hat))
 (try simp only [Act.put, List.setIfInBounds_toArray, List.set_cons_zero, List.set_cons_succ])
 go_cut [1] (fun v1 wc => ∃ (kq : Nat) (x1_3 : Int), v1 = .int .i64 x1_3 ∧ Aside0 (skiarearef03_Put.j0 kq x1_3 y290 = some r) ∧ Aside0 (kq ≤ k) ∧ Aside0 (Kd.R (Kd.int .u8) 5 wc w.heap.size (fun _ => True) v291 y290) ∧ Aside0 (Below w.heap.size w wc))
 case first =>
   (
 have H := HC4.out
 clear HC4
 by_cases c6 : a1 < 0
 {
 rw [if_pos c6] at H
 have c6b0 : decide (a1 < 0) = true := decide_eq_true c6
 clear c6
 (first | rw [c6b0] | (simp only [i64_w, i32_w, IntKind.wrap_u8, IntKind.wrap_u32]; rw [c6b0]) | skip)
 have H' := Aside0.mk H
 clear H
 go_wp2
 go_meet
 case rel => exact ⟨_, (0), (by first | rfl | (simp; done) | (simp [*]; done)), H', ⟨by first | omega | exact Nat.le_refl _⟩, ⟨by (with_reducible repeat (first | apply Kd.R_alloc | apply Kd.R_drewN | apply Kd.R_drew)); exact HO292.out⟩, ⟨by repeat (first | (with_reducible first | exact HB.out | apply below_alloc | apply pw_below_drewN | apply below_drew1) | exact HB.out)⟩⟩ }
 {
 rw [if_neg c6] at H
 have c6b0 : decide (a1 < 0) = false := decide_eq_false c6
 clear c6
 (first | rw [c6b0] | (simp only [i64_w, i32_w, IntKind.wrap_u8, IntKind.wrap_u32]; rw [c6b0]) | skip)
 have H' := Aside0.mk H
 clear H
 go_wp2
 go_meet
 case rel => exact ⟨_, (a1), (by first | rfl | (simp; done) | (simp [*]; done)), H', ⟨by first | omega | exact Nat.le_refl _⟩, ⟨by (with_reducible repeat (first | apply Kd.R_alloc | apply Kd.R_drewN | apply Kd.R_drew)); exact HO292.out⟩, ⟨by repeat (first | (with_reducible first | exact HB.out | apply below_alloc | apply pw_below_drewN | apply below_drew1) | exact HB.out)⟩⟩ } )
 case rest =>
   (
 clear HC4
 try clear p2
 try clear c3
 try clear c6
 try clear c6b0
 obtain ⟨kq, x1_3, rfl, HA, HJ3, HO_5, HB⟩ := hcut
 cases kq with
 | zero => exact absurd HA.out (by simp [skiarearef03_Put.j0])
 | succ kj3 =>
   (
 have H := HA.out
 clear HA
 simp only [skiarearef03_Put.j0] at H
 have H' := Aside0.mk H
 clear H
 go_wp2
 go_loopg [1, 5] kj3 (fun kq v1 v5 w' => ∃ (x1_2 : Int) (x5_2 : List Int), v1 = .int .i64 x1_2 ∧ Aside0 (skiarearef03_Put.l0 kq x1_2 x5_2 = some r) ∧ Aside0 (kq ≤ kj3) ∧ Aside0 (Kd.R (Kd.int .u8) 5 w' w.heap.size (fun _ => True) v5 x5_2) ∧ Aside0 (Below w.heap.size w w'))
 case atStart => exact ⟨(x1_3), (y290), (by first | rfl | (simp; done) | (simp [*]; done)), H', ⟨Nat.le_refl _⟩, ⟨by (with_reducible repeat (first | apply Kd.R_alloc | apply Kd.R_drewN | apply Kd.R_drew)); exact HO_5.out⟩, ⟨by repeat (first | (with_reducible first | exact HB.out | apply below_alloc | apply pw_below_drewN | apply below_drew1) | exact HB.out)⟩⟩
 case round =>
   (
 clear H'
 try clear p2
 try clear c3
 try clear c6
 try clear c6b0
 try clear p2
 obtain ⟨x1_2, x5_2, rfl, HA, HK2, HO_5, HB⟩ := hrel
 cases gk with
 | zero => exact absurd HA.out (by simp [skiarearef03_Put.l0])
 | succ k2 =>
   (
 have H := HA.out
 clear HA
 simp only [skiarearef03_Put.l0] at H
 by_cases c7 : x1_2 ≥ 128
 {
 rw [if_pos c7] at H
 have c7b0 : decide (128 ≤ x1_2) = true := decide_eq_true c7
 clear c7
 by_cases c8 : x5_2.length < 140737488355328
 {
 rw [if_pos c8] at H
 have LMc8 := Aside0.mk c8
 clear c8
 obtain ⟨y293, hy293⟩ : ∃ y_ : List Int, y_ = (x5_2 ++ [((Int.tmod x1_2 128) + 128) % 256]) := ⟨_, rfl⟩
 replace H : (skiarearef03_Put.l0 k2 (wrap64 (Int.tdiv x1_2 128)) y293) = some r := by first | (rw [hy293]; with_reducible exact H) | (have H2_ := (Option.bind_some _ _).symm.trans H; rw [hy293]; with_reducible exact H2_) | (have H2_ := (Option.bind_some _ _).symm.trans H; with_reducible exact H2_) | with_reducible exact H | (rw [hy293]; exact H) | exact H
 have Ny293 := Aside0.mk hy293
 clear hy293
 have H' := Aside0.mk H
 clear H
 go_wp2_with (first | ((with_reducible refine gate_builtin (b := .append) (xs := #[.tmp 12, .tmp 17]) rfl ?_); at_builtin; refine Kd.R_append (Kd.int .u8) (w0 := w) w.heap.size rfl (.tmp 12) (.tmp 17) 35 5 (.int .u8 0) 1 rfl Try.underlying35 info5 rfl (by decide) (by omega) u5 x5_2 (((Int.tmod x1_2 128) + 128) % 256) [.int .u8 (((Int.tmod x1_2 128) + 128) % 256)] (fun _ => True) (fun _ => False) rfl rfl ?aP (fun _ hk => hk.elim) ?aF ?aO ?aB ?aS ?aL ?_; (case aP => exact rfl); (case aB => exact (by repeat (first | (with_reducible first | exact HB.out | apply below_alloc | apply pw_below_drewN | apply below_drew1) | exact HB.out))); (case aF => exact (fun _ _ => trivial)); (case aO => exact (by (with_reducible repeat (first | apply Kd.R_alloc | apply Kd.R_drewN | apply Kd.R_drew)); exact HO_5.out)); (case aS => exact (below_size (by repeat (first | (with_reducible first | exact HB.out | apply below_alloc | apply pw_below_drewN | apply below_drew1) | exact HB.out)))); (case aL => have := LMc8.out; omega); intro v294 w9 ho hb hg hat; rw [← Ny293.out] at ho; have n0_ := Aside0.mk (hb); have n1_ := Aside0.mk (ho); clear HB; clear HO_5; have HB := n0_; have HO295 := n1_; clear n0_ n1_; clear ho hb hg hat))
 go_roundg k2
 case measure => have := HJ3.out; have := HK2.out; omega
 case rel => exact ⟨(wrap64 (Int.tdiv x1_2 128)), (y293), (by first | rfl | (simp; done) | (simp [*]; done)), H', ⟨by have := HJ3.out; have := HK2.out; omega⟩, ⟨by (with_reducible repeat (first | apply Kd.R_alloc | apply Kd.R_drewN | apply Kd.R_drew)); exact HO295.out⟩, ⟨by repeat (first | (with_reducible first | exact HB.out | apply below_alloc | apply pw_below_drewN | apply below_drew1) | exact HB.out)⟩⟩ }
 {
 rw [if_neg c8] at H
 exact absurd H (by simp) } }
 {
 rw [if_neg c7] at H
 have c7b0 : decide (128 ≤ x1_2) = false := decide_eq_false c7
 clear c7
 by_cases c10 : x5_2.length < 140737488355328
 {
 rw [if_pos c10] at H
 have LMc10 := Aside0.mk c10
 clear c10
 obtain ⟨y296, hy296⟩ : ∃ y_ : List Int, y_ = (x5_2 ++ [(x1_2) % 256]) := ⟨_, rfl⟩
 replace H : (some y296) = some r := by first | (rw [hy296]; with_reducible exact H) | (have H2_ := (Option.bind_some _ _).symm.trans H; rw [hy296]; with_reducible exact H2_) | (have H2_ := (Option.bind_some _ _).symm.trans H; with_reducible exact H2_) | with_reducible exact H | (rw [hy296]; exact H) | exact H
 have Ny296 := Aside0.mk hy296
 clear hy296
 obtain rfl := Option.some.inj H
 go_wp2_with (first | ((with_reducible refine gate_builtin (b := .append) (xs := #[.tmp 21, .tmp 24]) rfl ?_); at_builtin; refine Kd.R_append (Kd.int .u8) (w0 := w) w.heap.size rfl (.tmp 21) (.tmp 24) 35 5 (.int .u8 0) 1 rfl Try.underlying35 info5 rfl (by decide) (by omega) u5 x5_2 ((x1_2) % 256) [.int .u8 ((x1_2) % 256)] (fun _ => True) (fun _ => False) rfl rfl ?aP (fun _ hk => hk.elim) ?aF ?aO ?aB ?aS ?aL ?_; (case aP => exact rfl); (case aB => exact (by repeat (first | (with_reducible first | exact HB.out | apply below_alloc | apply pw_below_drewN | apply below_drew1) | exact HB.out))); (case aF => exact (fun _ _ => trivial)); (case aO => exact (by (with_reducible repeat (first | apply Kd.R_alloc | apply Kd.R_drewN | apply Kd.R_drew)); exact HO_5.out)); (case aS => exact (below_size (by repeat (first | (with_reducible first | exact HB.out | apply below_alloc | apply pw_below_drewN | apply below_drew1) | exact HB.out)))); (case aL => have := LMc10.out; omega); intro v297 w11 ho hb hg hat; rw [← Ny296.out] at ho; have n0_ := Aside0.mk (hb); have n1_ := Aside0.mk (ho); clear HB; clear HO_5; have HB := n0_; have HO298 := n1_; clear n0_ n1_; clear ho hb hg hat))
 go_ret
 exact ⟨_, by first | rfl | (simp [errW_none, errW_some] <;> rfl) | (simp [*, errW_none, errW_some] <;> rfl), by (with_reducible repeat (first | apply Kd.R_alloc | apply Kd.R_drewN | apply Kd.R_drew)); exact HO298.out, by repeat (first | (with_reducible first | exact HB.out | apply below_alloc | apply pw_below_drewN | apply below_drew1) | exact HB.out)⟩ }
 {
 rw [if_neg c10] at H
 exact absurd H (by simp) } } ) ) ) ) }
  {
 rw [if_neg c3] at H
 exact absurd H (by simp) }
end Go.Proofs.Ytdlinojgmllkoaa.Q

namespace Go.Proofs.Ytdlinojgmllkoaa.Q
open Go.RowKit Go.Proofs.YtdlinojgmllkoaaW.PrintWords Go.Proofs.YtdlinojgmllkoaaW.PrintLast Go.Proofs.YtdlinojgmllkoaaW.PrintMore
attribute [local go_sem] max2_int min2_int max_two min_two max_three min_three max_four min_four   -- for this text's walks alone
set_option linter.unusedVariables false
set_option linter.unusedSimpArgs false

attribute [local irreducible] Calls skiarearef03_Put.f
def skiarearef25_Body.l0 : Nat → List Int → List Int → Int → Option (List Int)
  | 0, _, _, _ => none
  | k + 1, x3, x4, x5 => if x5 < (x3.length : Int) then (if 0 ≤ x5 then ((skiarearef03_Put.f k x4 (rd x3 x5)).bind fun t304 => (skiarearef25_Body.l0 k x3 t304 (wrap64 (x5 + 1)))) else (none)) else (some x4)
def skiarearef25_Body.f (k : Nat) (a0_0 : Int) (a0_1 : Int) (a0_2 : Int) (a0_3 : Int) (a0_4 : Int) (a0_5 : Int) (a0_6 : Int) (a0_7 : Int) (a0_8 : Int) : Option (List Int) := skiarearef25_Body.l0 k (([a0_0, a0_1, a0_2, wrap64 (a0_3 + 1), a0_4, wrap64 (a0_5 + 1), a0_6, wrap64 (a0_7 + 1)] : List Int)) ([] : List Int) 0
theorem skiarearef25_Body.mono_l : ∀ k, (∀ y0 y1 y2, LeO (skiarearef25_Body.l0 k y0 y1 y2) (skiarearef25_Body.l0 (k + 1) y0 y1 y2))
  | 0 => fun _ _ _ r h => by simp [skiarearef25_Body.l0] at h
  | k + 1 => by
    have ih0 := skiarearef25_Body.mono_l k
    · intro y0 y1 y2
      unfold skiarearef25_Body.l0
      repeat' first
      | (with_reducible exact ih0 _ _ _)
      | (with_reducible exact skiarearef03_Put.mono _ _ _)
      | (with_reducible exact LeO.refl _)
      | (with_reducible exact LeO.none _)
      | (with_reducible refine LeO.ite ?_ ?_)
      | (with_reducible refine LeO.bind ?_ (fun _ => ?_))
      | exact ih0 _ _ _
      | exact skiarearef03_Put.mono _ _ _
      | exact LeO.none _
      | refine LeO.ite ?_ ?_
      | refine LeO.bind ?_ (fun _ => ?_)
theorem skiarearef25_Body.mono : ∀ a0 a1 a2 a3 a4 a5 a6 a7 a8 k, LeO (skiarearef25_Body.f k a0 a1 a2 a3 a4 a5 a6 a7 a8) (skiarearef25_Body.f (k + 1) a0 a1 a2 a3 a4 a5 a6 a7 a8) := by
  intro a0 a1 a2 a3 a4 a5 a6 a7 a8 k
  have ih0 := skiarearef25_Body.mono_l k
  unfold skiarearef25_Body.f
  repeat' first
      | (with_reducible exact ih0 _ _ _)
      | (with_reducible exact skiarearef03_Put.mono _ _ _)
      | (with_reducible exact LeO.refl _)
      | (with_reducible exact LeO.none _)
      | (with_reducible refine LeO.ite ?_ ?_)
      | (with_reducible refine LeO.bind ?_ (fun _ => ?_))
      | exact ih0 _ _ _
      | exact skiarearef03_Put.mono _ _ _
      | exact LeO.none _
      | refine LeO.ite ?_ ?_
      | refine LeO.bind ?_ (fun _ => ?_)
set_option maxHeartbeats 8000000 in
set_option maxRecDepth 100000 in
theorem skiarearef25_Body.calls (k : Nat) (a0_0 : Int) (a0_1 : Int) (a0_2 : Int) (a0_3 : Int) (a0_4 : Int) (a0_5 : Int) (a0_6 : Int) (a0_7 : Int) (a0_8 : Int) (r : List Int) (w : World) (h : skiarearef25_Body.f k a0_0 a0_1 a0_2 a0_3 a0_4 a0_5 a0_6 a0_7 a0_8 = some r) :
    Calls Try.prog 20 #[.agg #[.int .i64 a0_0, .int .i64 a0_1, .int .i64 a0_2, .int .i64 a0_3, .int .i64 a0_4, .int .i64 a0_5, .int .i64 a0_6, .int .i64 a0_7, .int .u64 a0_8]] w fun e w' => ∃ v0_ : Value, e = .returned (v0_) ∧ Kd.R (Kd.int .u8) 5 w' w.heap.size (fun _ => True) v0_ r ∧ Below w.heap.size w w' := by
  have hu24 := Try.underlying24
  have HB := Aside0.mk (Below.refl w.heap.size w)
  have H : (skiarearef25_Body.l0 k (([a0_0, a0_1, a0_2, wrap64 (a0_3 + 1), a0_4, wrap64 (a0_5 + 1), a0_6, wrap64 (a0_7 + 1)] : List Int)) ([] : List Int) 0) = some r := h
  clear h
  obtain ⟨y300, hy300⟩ : ∃ y_ : List Int, y_ = (([a0_0, a0_1, a0_2, wrap64 (a0_3 + 1), a0_4, wrap64 (a0_5 + 1), a0_6, wrap64 (a0_7 + 1)] : List Int)) := ⟨_, rfl⟩
  replace H : (skiarearef25_Body.l0 k y300 ([] : List Int) 0) = some r := by first | (rw [hy300]; with_reducible exact H) | (have H2_ := (Option.bind_some _ _).symm.trans H; rw [hy300]; with_reducible exact H2_) | (have H2_ := (Option.bind_some _ _).symm.trans H; with_reducible exact H2_) | with_reducible exact H | (rw [hy300]; exact H) | exact H
  have Ny300 := Aside0.mk hy300
  clear hy300
  have H' := Aside0.mk H
  clear H
  go_enter Try.func20, Try.ntmps20
  go_wp2_with (first | ((with_reducible refine gate_dst (N := 1) rfl ?_); refine box_event ?hg (N := 1) ?hd (cs := #[.int .i64 a0_0, .int .i64 a0_1, .int .i64 a0_2, .int .i64 a0_3, .int .i64 a0_4, .int .i64 a0_5, .int .i64 a0_6, .int .i64 a0_7, .int .u64 a0_8]) (t := 24) ?hr ?_; (case hd => rfl); (case hg => rfl); (case hr => first | (go_simp; done) | (go_simp; rfl)); intro gb299 hg w2 hbox hb; have n0_ := Aside0.mk (below_step (by repeat (first | (with_reducible first | exact HB.out | apply below_alloc | apply pw_below_drewN | apply below_drew1) | exact HB.out)) hb); have n1_ := Aside0.mk (hbox); have n2_ := Aside0.mk ((by rw [hg]; exact (below_size (by repeat (first | (with_reducible first | exact HB.out | apply below_alloc | apply pw_below_drewN | apply below_drew1) | exact HB.out))) : w.heap.size ≤ gb299)); have n3_ := Aside0.mk ((by rw [hg]; exact (below_size (by repeat (first | (with_reducible first | exact HB.out | apply below_alloc | apply pw_below_drewN | apply below_drew1) | exact HB.out))) : w.heap.size ≤ gb299)); clear HB; have HB := n0_; have BK299 := n1_; have GW299 := n2_; have GE299 := n3_; clear n0_ n1_ n2_ n3_; clear hb hbox hg; have hcz3_0 : w2.cell? ⟨gb299, 0, none⟩ = some (.int .i64 a0_0) := (blk_cell BK299.out 0).trans rfl; have hcz3_1 : w2.cell? ⟨gb299, 1, none⟩ = some (.int .i64 a0_1) := (blk_cell BK299.out 1).trans rfl; have hcz3_2 : w2.cell? ⟨gb299, 2, none⟩ = some (.int .i64 a0_2) := (blk_cell BK299.out 2).trans rfl; have hcz3_3 : w2.cell? ⟨gb299, 3, none⟩ = some (.int .i64 a0_3) := (blk_cell BK299.out 3).trans rfl; have hcz3_4 : w2.cell? ⟨gb299, 4, none⟩ = some (.int .i64 a0_4) := (blk_cell BK299.out 4).trans rfl; have hcz3_5 : w2.cell? ⟨gb299, 5, none⟩ = some (.int .i64 a0_5) := (blk_cell BK299.out 5).trans rfl; have hcz3_6 : w2.cell? ⟨gb299, 6, none⟩ = some (.int .i64 a0_6) := (blk_cell BK299.out 6).trans rfl; have hcz3_7 : w2.cell? ⟨gb299, 7, none⟩ = some (.int .i64 a0_7) := (blk_cell BK299.out 7).trans rfl; have hcz3_8 : w2.cell? ⟨gb299, 8, none⟩ = some (.int .u64 a0_8) := (blk_cell BK299.out 8).trans rfl; have hfz3_0 := blk_frozen BK299.out 0; have hfz3_1 := blk_frozen BK299.out 1; have hfz3_2 := blk_frozen BK299.out 2; have hfz3_3 := blk_frozen BK299.out 3; have hfz3_4 := blk_frozen BK299.out 4; have hfz3_5 := blk_frozen BK299.out 5; have hfz3_6 := blk_frozen BK299.out 6; have hfz3_7 := blk_frozen BK299.out 7; have hfz3_8 := blk_frozen BK299.out 8) | ((with_reducible refine gate_dst (N := 25) rfl ?_); refine Kd.R_lit (Kd.int .i64) _ 3 ?hg (N := 25) ?hd (xs := ([a0_0, a0_1, a0_2, wrap64 (a0_3 + 1), a0_4, wrap64 (a0_5 + 1), a0_6, wrap64 (a0_7 + 1)] : List Int)) (inner := [.int .i64 a0_0, .int .i64 a0_1, .int .i64 a0_2, .int .i64 (wrap64 (a0_3 + 1)), .int .i64 a0_4, .int .i64 (wrap64 (a0_5 + 1)), .int .i64 a0_6, .int .i64 (wrap64 (a0_7 + 1))]) (ok := fun _ => True) (okp := fun _ => True) ?hr ?hp (fun _ hk => hk) trivial (Below.refl _ _) (Nat.le_refl _) (by simp) ?_; (case hd => rfl); (case hg => rfl); (case hr => first | (go_simp; done) | (go_simp; rfl)); (case hp => exact (Reps.one (show Kd.M (Kd.int .i64) _ _ _ a0_0 [.int .i64 a0_0] from rfl) (Reps.one (show Kd.M (Kd.int .i64) _ _ _ a0_1 [.int .i64 a0_1] from rfl) (Reps.one (show Kd.M (Kd.int .i64) _ _ _ a0_2 [.int .i64 a0_2] from rfl) (Reps.one (show Kd.M (Kd.int .i64) _ _ _ (wrap64 (a0_3 + 1)) [.int .i64 (wrap64 (a0_3 + 1))] from rfl) (Reps.one (show Kd.M (Kd.int .i64) _ _ _ a0_4 [.int .i64 a0_4] from rfl) (Reps.one (show Kd.M (Kd.int .i64) _ _ _ (wrap64 (a0_5 + 1)) [.int .i64 (wrap64 (a0_5 + 1))] from rfl) (Reps.one (show Kd.M (Kd.int .i64) _ _ _ a0_6 [.int .i64 a0_6] from rfl) (Reps.one (show Kd.M (Kd.int .i64) _ _ _ (wrap64 (a0_7 + 1)) [.int .i64 (wrap64 (a0_7 + 1))] from rfl) (Reps.none _ _)))))))))); intro v301 w4 ho5 hb hg_ hnew_; clear hg_ hnew_; (first | rw [← Ny300.out] at ho5 | (simp only [Int.reduceToNat] at ho5; rw [← Ny300.out] at ho5)); have n0_ := Aside0.mk (Kd.R_lower ho5 (below_size (by repeat (first | (with_reducible first | exact HB.out | apply below_alloc | apply pw_below_drewN | apply below_drew1 | refine below_set ?_ GE299.out) | exact HB.out)))); have n1_ := Aside0.mk (blk_below (g := gb299) (o := .cells #[.int .i64 a0_0, .int .i64 a0_1, .int .i64 a0_2, .int .i64 a0_3, .int .i64 a0_4, .int .i64 a0_5, .int .i64 a0_6, .int .i64 a0_7, .int .u64 a0_8] 24 (0, 0)) (by (with_reducible repeat (first | refine blk_drewN ?_ _ | refine blk_drew ?_ | refine blk_alloc ?_ _)); exact BK299.out) hb); have n2_ := Aside0.mk (below_step (by repeat (first | (with_reducible first | exact HB.out | apply below_alloc | apply pw_below_drewN | apply below_drew1 | refine below_set ?_ GE299.out) | exact HB.out)) hb); clear BK299; clear HB; have HO302 := n0_; have BK299 := n1_; have HB := n2_; clear n0_ n1_ n2_; clear hb ho5))
  go_loopg [4, 5] k (fun kq v4 v5 w' => ∃ (x4_1 : List Int) (x5_1 : Int), v5 = .int .i64 x5_1 ∧ Aside0 (skiarearef25_Body.l0 kq y300 x4_1 x5_1 = some r) ∧ Aside0 (kq ≤ k) ∧ Aside0 (Kd.R (Kd.int .i64) 3 w' w.heap.size (fun _ => True) v301 y300) ∧ Aside0 (Kd.R (Kd.int .u8) 5 w' w.heap.size (fun _ => True) v4 x4_1) ∧ Aside0 (w'.heap[gb299]? = some (.cells #[.int .i64 a0_0, .int .i64 a0_1, .int .i64 a0_2, .int .i64 a0_3, .int .i64 a0_4, .int .i64 a0_5, .int .i64 a0_6, .int .i64 a0_7, .int .u64 a0_8] 24 (0, 0))) ∧ Aside0 (Below w.heap.size w w'))
  case atStart => exact ⟨(([] : List Int)), (0), (by first | rfl | (simp; done) | (simp [*]; done)), H', ⟨Nat.le_refl _⟩, ⟨by (with_reducible repeat (first | apply Kd.R_alloc | apply Kd.R_drewN | apply Kd.R_drew)); exact HO302.out⟩, ⟨by first | exact Kd.R_nil _ _ _ _ _ | exact Kd.N_nil _ _ _ _ _ | exact Kd.V_nil _ _ _ _ _ | exact Kd.Q_nil _ _ _ _ _ | exact Kd.S_nil _ _ _ _ _⟩, ⟨by (with_reducible repeat (first | refine blk_drewN ?_ _ | refine blk_drew ?_ | refine blk_alloc ?_ _)); exact BK299.out⟩, ⟨by repeat (first | (with_reducible first | exact HB.out | apply below_alloc | apply pw_below_drewN | apply below_drew1 | refine below_set ?_ GE299.out) | exact HB.out)⟩⟩
  case round =>
   (
 clear H'
 try clear c2
 try clear p2
 try clear hcz3_0
 try clear hcz3_1
 try clear hcz3_2
 try clear hcz3_3
 try clear hcz3_4
 try clear hcz3_5
 try clear hcz3_6
 try clear hcz3_7
 try clear hcz3_8
 try clear hfz3_0
 try clear hfz3_1
 try clear hfz3_2
 try clear hfz3_3
 try clear hfz3_4
 try clear hfz3_5
 try clear hfz3_6
 try clear hfz3_7
 try clear hfz3_8
 obtain ⟨x4_1, x5_1, rfl, HA, HK1, HO_3, HO_4, BK299, HB⟩ := hrel
 cases gk with
 | zero => exact absurd HA.out (by simp [skiarearef25_Body.l0])
 | succ k1 =>
   (
 have H := HA.out
 clear HA
 simp only [skiarearef25_Body.l0] at H
 by_cases c6 : x5_1 < (y300.length : Int)
 {
 rw [if_pos c6] at H
 have c6b0 : decide (x5_1 < (y300.length : Int)) = true := decide_eq_true c6
 clear c6
 by_cases c7 : 0 ≤ x5_1
 {
 rw [if_pos c7] at H
 have c7b0 : decide (0 ≤ x5_1) = true := decide_eq_true c7
 clear c7
 replace H := Option.bind_eq_some_iff.mp H
 obtain ⟨t304, A80, H⟩ := H
 try dsimp only at H
 have A8 := Aside0.mk A80
 clear A80
 have H' := Aside0.mk H
 clear H
 obtain ⟨Ao9, co9, eo9⟩ := Kd.R_slice HO_3.out
 subst eo9
 have p303 : 0 ≤ (x5_1 : Int) := of_decide_eq_true (by first | (with_reducible assumption) | assumption)
 have q303 : x5_1 < (y300.length : Int) := of_decide_eq_true (by first | (with_reducible assumption) | assumption)
 obtain ⟨ad303, e303, hx303_0⟩ := Kd.at_int (Kd.R_reads' HO_3.out).2.2 x5_1 p303 q303
 cases e303
 replace p303 := eq_true p303
 replace q303 := eq_true q303
 obtain ⟨Ao10, co10, eo10⟩ := Kd.R_slice HO_4.out
 subst eo10
 go_wp2_with (first | ((with_reducible refine gate_callee (f := 34) rfl ?_); refine goesL_ (some 37) rfl rfl Try.func34 (by kernel_rfl) rfl #[.slice Ao10 x4_1.length co10, .int .i64 (rd y300 x5_1)] rfl (by (try simp only [List.map_toArray, List.map_cons, List.map_nil]); first | done | rfl | (simp only [List.length_drop, List.length_take]; rfl)) ?_; (with_reducible refine (skiarearef03_Put.calls k1 _ _ x4_1 (rd y300 x5_1) t304 _ ?side1 ?side2 A8.out).mono ?_); (case side1 => repeat (first | exact (Kd.R_reads' HO_4.out).2.2 | (with_reducible refine Kd.C_alloc ?_ _) | (with_reducible refine Kd.C_drewN ?_ _) | (with_reducible refine Kd.C_drew ?_))); (case side2 => exact (Kd.R_reads' HO_4.out).2.1); rintro e w11 ⟨v305, rfl, ho0, hb⟩; refine ⟨_, rfl, ?_⟩; have n0_ := Aside0.mk (Kd.R_below (by (with_reducible repeat (first | apply Kd.R_alloc | apply Kd.R_drewN | apply Kd.R_drew)); exact HO_3.out) hb); have n1_ := Aside0.mk (Kd.R_elder' (by (with_reducible repeat (first | apply Kd.R_alloc | apply Kd.R_drewN | apply Kd.R_drew)); exact HO_4.out) (Kd.R_base ho0) hb); have n2_ := Aside0.mk (Kd.R_lower (Kd.R_new' ho0 (Kd.R_lt (by (with_reducible repeat (first | apply Kd.R_alloc | apply Kd.R_drewN | apply Kd.R_drew)); exact HO_4.out))) (below_size (by repeat (first | (with_reducible first | exact HB.out | apply below_alloc | apply pw_below_drewN | apply below_drew1 | refine below_set ?_ GE299.out) | exact HB.out)))); have n3_ := Aside0.mk (blk_below (g := gb299) (o := .cells #[.int .i64 a0_0, .int .i64 a0_1, .int .i64 a0_2, .int .i64 a0_3, .int .i64 a0_4, .int .i64 a0_5, .int .i64 a0_6, .int .i64 a0_7, .int .u64 a0_8] 24 (0, 0)) (by (with_reducible repeat (first | refine blk_drewN ?_ _ | refine blk_drew ?_ | refine blk_alloc ?_ _)); exact BK299.out) hb); have n4_ := Aside0.mk (below_step (by repeat (first | (with_reducible first | exact HB.out | apply below_alloc | apply pw_below_drewN | apply below_drew1 | refine below_set ?_ GE299.out) | exact HB.out)) hb); clear HO_3; clear HO_4; clear BK299; clear HB; have HO_3 := n0_; have HO_4 := n1_; have HO306 := n2_; have BK299 := n3_; have HB := n4_; clear n0_ n1_ n2_ n3_ n4_; (try clear hb); (try clear hb2); (try clear hk); (try clear hi); (try clear ho0)))
 go_roundg k1
 case measure => have := HK1.out; omega
 case rel => exact ⟨(t304), (wrap64 (x5_1 + 1)), (by first | rfl | (simp; done) | (simp [*]; done)), H', ⟨by have := HK1.out; omega⟩, ⟨by (with_reducible repeat (first | apply Kd.R_alloc | apply Kd.R_drewN | apply Kd.R_drew)); exact HO_3.out⟩, ⟨by (with_reducible repeat (first | apply Kd.R_alloc | apply Kd.R_drewN | apply Kd.R_drew)); exact Kd.R_mono HO306.out (fun _ hk => trivial)⟩, ⟨by (with_reducible repeat (first | refine blk_drewN ?_ _ | refine blk_drew ?_ | refine blk_alloc ?_ _)); exact BK299.out⟩, ⟨by repeat (first | (with_reducible first | exact HB.out | apply below_alloc | apply pw_below_drewN | apply below_drew1 | refine below_set ?_ GE299.out) | exact HB.out)⟩⟩ }
 {
 rw [if_neg c7] at H
 exact absurd H (by simp) } }
 {
 rw [if_neg c6] at H
 have c6b0 : decide (x5_1 < (y300.length : Int)) = false := decide_eq_false c6
 clear c6
 obtain rfl := Option.some.inj H
 obtain ⟨Ao12, co12, eo12⟩ := Kd.R_slice HO_3.out
 subst eo12
 go_wp2
 go_ret
 exact ⟨_, by first | rfl | (simp [errW_none, errW_some] <;> rfl) | (simp [*, errW_none, errW_some] <;> rfl), by (with_reducible repeat (first | apply Kd.R_alloc | apply Kd.R_drewN | apply Kd.R_drew)); exact HO_4.out, by repeat (first | (with_reducible first | exact HB.out | apply below_alloc | apply pw_below_drewN | apply below_drew1 | refine below_set ?_ GE299.out) | exact HB.out)⟩ } ) )
end Go.Proofs.Ytdlinojgmllkoaa.Q

namespace Go.Proofs.Ytdlinojgmllkoaa.Q
open Go.RowKit Go.Proofs.YtdlinojgmllkoaaW.PrintWords Go.Proofs.YtdlinojgmllkoaaW.PrintLast Go.Proofs.YtdlinojgmllkoaaW.PrintMore
attribute [local go_sem] max2_int min2_int max_two min_two max_three min_three max_four min_four   -- for this text's walks alone
set_option linter.unusedVariables false
set_option linter.unusedSimpArgs false

mutual
def skiarearef03_Sum.l0 : Nat → List Int → Int → Int → Option (Int)
  | 0, _, _, _ => none
  | k + 1, x0, x3, x4 => if x4 < (x0.length : Int) then (if 0 ≤ x4 then (skiarearef03_Sum.l1 k x0 (Go.bits .xor .u32 x3 ((rd x0 x4) % 4294967296)) x4 0) else (none)) else (some (Go.bits .xor .u32 x3 4294967295))
def skiarearef03_Sum.l1 : Nat → List Int → Int → Int → Int → Option (Int)
  | 0, _, _, _, _ => none
  | k + 1, x0, x3, x4, x5 => if x5 < 8 then (if (Go.bits .and .u32 x3 1) = 1 then (skiarearef03_Sum.l1 k x0 (Go.bits .xor .u32 (x3 / 2) 2197175160) x4 (wrap64 (x5 + 1))) else (skiarearef03_Sum.l1 k x0 (x3 / 2) x4 (wrap64 (x5 + 1)))) else (skiarearef03_Sum.l0 k x0 x3 (wrap64 (x4 + 1)))
end
def skiarearef03_Sum.f (k : Nat) (l0 : List Int) : Option (Int) := skiarearef03_Sum.l0 k l0 4294967295 0
theorem skiarearef03_Sum.mono_l : ∀ k, (∀ y0 y1 y2, LeO (skiarearef03_Sum.l0 k y0 y1 y2) (skiarearef03_Sum.l0 (k + 1) y0 y1 y2)) ∧ (∀ y0 y1 y2 y3, LeO (skiarearef03_Sum.l1 k y0 y1 y2 y3) (skiarearef03_Sum.l1 (k + 1) y0 y1 y2 y3))
  | 0 => ⟨fun _ _ _ r h => by simp [skiarearef03_Sum.l0] at h, fun _ _ _ _ r h => by simp [skiarearef03_Sum.l1] at h⟩
  | k + 1 => by
    obtain ⟨ih0, ih1⟩ := skiarearef03_Sum.mono_l k
    refine ⟨?_, ?_⟩
    · intro y0 y1 y2
      unfold skiarearef03_Sum.l0
      repeat' first
      | (with_reducible exact ih0 _ _ _)
      | (with_reducible exact ih1 _ _ _ _)
      | (with_reducible exact LeO.refl _)
      | (with_reducible exact LeO.none _)
      | (with_reducible refine LeO.ite ?_ ?_)
      | (with_reducible refine LeO.bind ?_ (fun _ => ?_))
      | exact ih0 _ _ _
      | exact ih1 _ _ _ _
      | exact LeO.none _
      | refine LeO.ite ?_ ?_
      | refine LeO.bind ?_ (fun _ => ?_)
    · intro y0 y1 y2 y3
      unfold skiarearef03_Sum.l1
      repeat' first
      | (with_reducible exact ih0 _ _ _)
      | (with_reducible exact ih1 _ _ _ _)
      | (with_reducible exact LeO.refl _)
      | (with_reducible exact LeO.none _)
      | (with_reducible refine LeO.ite ?_ ?_)
      | (with_reducible refine LeO.bind ?_ (fun _ => ?_))
      | exact ih0 _ _ _
      | exact ih1 _ _ _ _
      | exact LeO.none _
      | refine LeO.ite ?_ ?_
      | refine LeO.bind ?_ (fun _ => ?_)
theorem skiarearef03_Sum.mono : ∀ a0 k, LeO (skiarearef03_Sum.f k a0) (skiarearef03_Sum.f (k + 1) a0) := by
  intro a0 k
  obtain ⟨ih0, ih1⟩ := skiarearef03_Sum.mono_l k
  unfold skiarearef03_Sum.f
  repeat' first
      | (with_reducible exact ih0 _ _ _)
      | (with_reducible exact ih1 _ _ _ _)
      | (with_reducible exact LeO.refl _)
      | (with_reducible exact LeO.none _)
      | (with_reducible refine LeO.ite ?_ ?_)
      | (with_reducible refine LeO.bind ?_ (fun _ => ?_))
      | exact ih0 _ _ _
      | exact ih1 _ _ _ _
      | exact LeO.none _
      | refine LeO.ite ?_ ?_
      | refine LeO.bind ?_ (fun _ => ?_)
set_option maxHeartbeats 8000000 in
set_option maxRecDepth 100000 in
theorem skiarearef03_Sum.calls (k : Nat) (A0 : Option Addr) (c0 : Nat) (l0 : List Int) (r : Int) (w : World) (hr0 : Kd.C (Kd.int .u8) w A0 l0.length l0) (hc0 : l0.length ≤ c0) (h : skiarearef03_Sum.f k l0 = some r) :
    Calls Try.prog 46 #[.slice A0 l0.length c0] w fun e w' => e = .returned (.int .u32 r) ∧ Drawn0 w w' := by
  have HR0 := Aside0.mk hr0
  have HC0 := Aside0.mk hc0
  clear hr0 hc0
  have H : (skiarearef03_Sum.l0 k l0 4294967295 0) = some r := h
  clear h
  have H' := Aside0.mk H
  clear H
  go_enter Try.func46, Try.ntmps46
  go_wp2
  go_loopg [3, 4] k (fun kq v3 v4 w' => ∃ (x3_1 : Int) (x4_1 : Int), v3 = .int .u32 x3_1 ∧ v4 = .int .i64 x4_1 ∧ Aside0 (skiarearef03_Sum.l0 kq l0 x3_1 x4_1 = some r) ∧ Aside0 (kq ≤ k) ∧ Drawn0 w w')
  case atStart => exact ⟨(4294967295), (0), (by first | rfl | (simp; done) | (simp [*]; done)), (by first | rfl | (simp; done) | (simp [*]; done)), H', ⟨Nat.le_refl _⟩, by repeat (first | exact Drawn0.refl _ | apply Drawn0.step)⟩
  case round =>
   (
 clear H'
 obtain ⟨x3_1, x4_1, rfl, rfl, HA, HK1, ⟨m1, rfl⟩⟩ := hrel
 cases gk with
 | zero => exact absurd HA.out (by simp [skiarearef03_Sum.l0])
 | succ k1 =>
   (
 have H := HA.out
 clear HA
 simp only [skiarearef03_Sum.l0] at H
 by_cases c2 : x4_1 < (l0.length : Int)
 {
 rw [if_pos c2] at H
 have c2b0 : decide (x4_1 < (l0.length : Int)) = true := decide_eq_true c2
 clear c2
 by_cases c3 : 0 ≤ x4_1
 {
 rw [if_pos c3] at H
 have c3b0 : decide (0 ≤ x4_1) = true := decide_eq_true c3
 clear c3
 have H' := Aside0.mk H
 clear H
 have p390 : 0 ≤ (x4_1 : Int) := of_decide_eq_true (by first | (with_reducible assumption) | assumption)
 have q390 : x4_1 < (l0.length : Int) := of_decide_eq_true (by first | (with_reducible assumption) | assumption)
 obtain ⟨ad390, e390, hx390_0⟩ := Kd.at_int HR0.out x4_1 p390 q390
 cases e390
 replace p390 := eq_true p390
 replace q390 := eq_true q390
 go_wp2
 go_loopg [3, 5] k1 (fun kq v3 v5 w' => ∃ (x3_2 : Int) (x5_2 : Int), v3 = .int .u32 x3_2 ∧ v5 = .int .i64 x5_2 ∧ Aside0 (skiarearef03_Sum.l1 kq l0 x3_2 x4_1 x5_2 = some r) ∧ Aside0 (kq ≤ k1) ∧ Drawn0 w w')
 case atStart => exact ⟨(Go.bits .xor .u32 x3_1 ((rd l0 x4_1) % 4294967296)), (0), (by first | rfl | (simp; done) | (simp [*]; done)), (by first | rfl | (simp; done) | (simp [*]; done)), H', ⟨Nat.le_refl _⟩, by repeat (first | exact Drawn0.refl _ | apply Drawn0.step)⟩
 case round =>
   (
 clear H'
 try clear c2
 try clear c2b0
 try clear p2
 try clear c3
 try clear c3b0
 try clear p3
 try clear q3
 try clear hx3
 try clear hx390_0
 try clear p390
 try clear q390
 obtain ⟨x3_2, x5_2, rfl, rfl, HA, HK2, ⟨m2, rfl⟩⟩ := hrel
 cases gk with
 | zero => exact absurd HA.out (by simp [skiarearef03_Sum.l1])
 | succ k2 =>
   (
 have H := HA.out
 clear HA
 simp only [skiarearef03_Sum.l1] at H
 by_cases c4 : x5_2 < 8
 {
 rw [if_pos c4] at H
 have c4b0 : decide (x5_2 < 8) = true := decide_eq_true c4
 clear c4
 by_cases c5 : (Go.bits .and .u32 x3_2 1) = 1
 {
 rw [if_pos c5] at H
 have c5b0 : ((Go.bits .and .u32 x3_2 1) == 1) = true := beq_iff_eq.mpr c5
 have c5b1 : ((Go.bits .and .u32 x3_2 1) != 1) = false := bne_eq_false_iff_eq.mpr c5
 clear c5
 have H' := Aside0.mk H
 clear H
 go_wp2
 go_roundg k2
 case measure => have := HK1.out; have := HK2.out; omega
 case rel => exact ⟨(Go.bits .xor .u32 (x3_2 / 2) 2197175160), (wrap64 (x5_2 + 1)), (by first | rfl | (simp; done) | (simp [*]; done)), (by first | rfl | (simp; done) | (simp [*]; done)), H', ⟨by have := HK1.out; have := HK2.out; omega⟩, by repeat (first | exact Drawn0.refl _ | apply Drawn0.step)⟩ }
 {
 rw [if_neg c5] at H
 have c5b0 : ((Go.bits .and .u32 x3_2 1) == 1) = false := beq_eq_false_iff_ne.mpr c5
 have c5b1 : ((Go.bits .and .u32 x3_2 1) != 1) = true := bne_iff_ne.mpr c5
 have H' := Aside0.mk H
 clear H
 go_wp2
 go_roundg k2
 case measure => have := HK1.out; have := HK2.out; omega
 case rel => exact ⟨(x3_2 / 2), (wrap64 (x5_2 + 1)), (by first | rfl | (simp; done) | (simp [*]; done)), (by first | rfl | (simp; done) | (simp [*]; done)), H', ⟨by have := HK1.out; have := HK2.out; omega⟩, by repeat (first | exact Drawn0.refl _ | apply Drawn0.step)⟩ } }
 {
 rw [if_neg c4] at H
 have c4b0 : decide (x5_2 < 8) = false := decide_eq_false c4
 clear c4
 have H' := Aside0.mk H
 clear H
 go_wp2
 go_roundg k2
 case measure => have := HK1.out; have := HK2.out; omega
 case rel => exact ⟨(x3_2), (wrap64 (x4_1 + 1)), (by first | rfl | (simp; done) | (simp [*]; done)), (by first | rfl | (simp; done) | (simp [*]; done)), H', ⟨by have := HK1.out; have := HK2.out; omega⟩, by repeat (first | exact Drawn0.refl _ | apply Drawn0.step)⟩ } ) ) }
 {
 rw [if_neg c3] at H
 exact absurd H (by simp) } }
 {
 rw [if_neg c2] at H
 have c2b0 : decide (x4_1 < (l0.length : Int)) = false := decide_eq_false c2
 clear c2
 obtain rfl := Option.some.inj H
 go_wp2
 go_ret
 exact ⟨by first | rfl | (simp; done) | (simp [*]; done), by repeat (first | exact Drawn0.refl _ | apply Drawn0.step)⟩ } ) )
end Go.Proofs.Ytdlinojgmllkoaa.Q

namespace Go.Proofs.Ytdlinojgmllkoaa.Q
open Go.RowKit Go.Proofs.YtdlinojgmllkoaaW.PrintWords Go.Proofs.YtdlinojgmllkoaaW.PrintLast Go.Proofs.YtdlinojgmllkoaaW.PrintMore
attribute [local go_sem] max2_int min2_int max_two min_two max_three min_three max_four min_four   -- for this text's walks alone
set_option linter.unusedVariables false
set_option linter.unusedSimpArgs false

attribute [local irreducible] Calls skiarearef03_Put.f skiarearef03_Sum.f
def skiarearef03_Frame.f (k : Nat) (l0 : List Int) : Option (List Int) := (skiarearef03_Sum.f k l0).bind fun t391 => ((skiarearef03_Put.f k ([] : List Int) (l0.length : Int)).bind fun t392 => (if t392.length + l0.length < 140737488355328 then ((some (t392 ++ l0 : List Int)).bind fun y395 => ((some (([(t391 / 16777216) % 256, (t391 / 65536) % 256, (t391 / 256) % 256, (t391) % 256] : List Int) : List Int)).bind fun y398 => (if y395.length + y398.length < 140737488355328 then (some (y395 ++ y398)) else (none)))) else (none)))
theorem skiarearef03_Frame.mono : ∀ a0 k, LeO (skiarearef03_Frame.f k a0) (skiarearef03_Frame.f (k + 1) a0) := by
  intro a0 k
  unfold skiarearef03_Frame.f
  repeat' first
      | (with_reducible exact skiarearef03_Put.mono _ _ _)
      | (with_reducible exact skiarearef03_Sum.mono _ _)
      | (with_reducible exact LeO.refl _)
      | (with_reducible exact LeO.none _)
      | (with_reducible refine LeO.ite ?_ ?_)
      | (with_reducible refine LeO.bind ?_ (fun _ => ?_))
      | exact skiarearef03_Put.mono _ _ _
      | exact skiarearef03_Sum.mono _ _
      | exact LeO.none _
      | refine LeO.ite ?_ ?_
      | refine LeO.bind ?_ (fun _ => ?_)
set_option maxHeartbeats 8000000 in
set_option maxRecDepth 100000 in
theorem skiarearef03_Frame.calls (k : Nat) (A0 : Option Addr) (c0 : Nat) (l0 : List Int) (r : List Int) (w : World) (hr0 : Kd.C (Kd.int .u8) w A0 l0.length l0) (hc0 : l0.length ≤ c0) (h : skiarearef03_Frame.f k l0 = some r) :
    Calls Try.prog 36 #[.slice A0 l0.length c0] w fun e w' => ∃ v0_ : Value, e = .returned (v0_) ∧ Kd.R (Kd.int .u8) 5 w' w.heap.size (fun _ => True) v0_ r ∧ Below w.heap.size w w' := by
  have HR0 := Aside0.mk hr0
  have HC0 := Aside0.mk hc0
  clear hr0 hc0
  have HB := Aside0.mk (Below.refl w.heap.size w)
  have H : ((skiarearef03_Sum.f k l0).bind fun t391 => ((skiarearef03_Put.f k ([] : List Int) (l0.length : Int)).bind fun t392 => (if t392.length + l0.length < 140737488355328 then ((some (t392 ++ l0 : List Int)).bind fun y395 => ((some (([(t391 / 16777216) % 256, (t391 / 65536) % 256, (t391 / 256) % 256, (t391) % 256] : List Int) : List Int)).bind fun y398 => (if y395.length + y398.length < 140737488355328 then (some (y395 ++ y398)) else (none)))) else (none)))) = some r := h
  clear h
  replace H := Option.bind_eq_some_iff.mp H
  obtain ⟨t391, A20, H⟩ := H
  try dsimp only at H
  have A2 := Aside0.mk A20
  clear A20
  replace H := Option.bind_eq_some_iff.mp H
  obtain ⟨t392, A30, H⟩ := H
  try dsimp only at H
  have A3 := Aside0.mk A30
  clear A30
  by_cases c4 : t392.length + l0.length < 140737488355328
  {
 rw [if_pos c4] at H
 have LMc4 := Aside0.mk c4
 clear c4
 obtain ⟨y395, hy395⟩ : ∃ y_ : List Int, y_ = (t392 ++ l0) := ⟨_, rfl⟩
 replace H : ((some (([(t391 / 16777216) % 256, (t391 / 65536) % 256, (t391 / 256) % 256, (t391) % 256] : List Int) : List Int)).bind fun y398 => (if y395.length + y398.length < 140737488355328 then (some (y395 ++ y398)) else (none))) = some r := by first | (rw [hy395]; with_reducible exact H) | (have H2_ := (Option.bind_some _ _).symm.trans H; rw [hy395]; with_reducible exact H2_) | (have H2_ := (Option.bind_some _ _).symm.trans H; with_reducible exact H2_) | with_reducible exact H | (rw [hy395]; exact H) | exact H
 have Ny395 := Aside0.mk hy395
 clear hy395
 obtain ⟨y398, hy398⟩ : ∃ y_ : List Int, y_ = (([(t391 / 16777216) % 256, (t391 / 65536) % 256, (t391 / 256) % 256, (t391) % 256] : List Int)) := ⟨_, rfl⟩
 replace H : (if y395.length + y398.length < 140737488355328 then (some (y395 ++ y398)) else (none)) = some r := by first | (rw [hy398]; with_reducible exact H) | (have H2_ := (Option.bind_some _ _).symm.trans H; rw [hy398]; with_reducible exact H2_) | (have H2_ := (Option.bind_some _ _).symm.trans H; with_reducible exact H2_) | with_reducible exact H | (rw [hy398]; exact H) | exact H
 have Ny398 := Aside0.mk hy398
 clear hy398
 by_cases c5 : y395.length + y398.length < 140737488355328
 {
 rw [if_pos c5] at H
 have LMc5 := Aside0.mk c5
 clear c5
 obtain ⟨y401, hy401⟩ : ∃ y_ : List Int, y_ = (y395 ++ y398) := ⟨_, rfl⟩
 replace H : (some y401) = some r := by first | (rw [hy401]; with_reducible exact H) | (have H2_ := (Option.bind_some _ _).symm.trans H; rw [hy401]; with_reducible exact H2_) | (have H2_ := (Option.bind_some _ _).symm.trans H; with_reducible exact H2_) | with_reducible exact H | (rw [hy401]; exact H) | exact H
 have Ny401 := Aside0.mk hy401
 clear hy401
 obtain rfl := Option.some.inj H
 go_enter Try.func36, Try.ntmps36
 go_wp2_with (first | ((with_reducible refine gate_callee (f := 46) rfl ?_); refine goesL_ (some 6) rfl rfl Try.func46 (by kernel_rfl) rfl #[.slice A0 l0.length c0] rfl (by (try simp only [List.map_toArray, List.map_cons, List.map_nil]); first | done | rfl | (simp only [List.length_drop, List.length_take]; rfl)) ?_; (with_reducible refine (skiarearef03_Sum.calls k _ _ l0 t391 _ ?side1 ?side2 A2.out).mono ?_); (case side1 => repeat (first | exact HR0.out | (with_reducible refine Kd.C_alloc ?_ _) | (with_reducible refine Kd.C_drewN ?_ _) | (with_reducible refine Kd.C_drew ?_))); (case side2 => exact HC0.out); rintro e w' ⟨rfl, ⟨nd, rfl⟩⟩; refine ⟨_, rfl, ?_⟩) | ((with_reducible refine gate_callee (f := 34) rfl ?_); refine goesL_ (some 9) rfl rfl Try.func34 (by kernel_rfl) rfl #[.slice none 0 0, .int .i64 (l0.length : Int)] rfl (by (try simp only [List.map_toArray, List.map_cons, List.map_nil]); first | done | rfl | (simp only [List.length_drop, List.length_take]; rfl)) ?_; (refine (skiarearef03_Put.calls k _ _ ([] : List Int) (l0.length : Int) t392 _ ?side1 ?side2 A3.out).mono ?_); (case side1 => exact Kd.C_nil _ _); (case side2 => exact Nat.le_refl _); rintro e w6 ⟨v393, rfl, ho0, hb⟩; refine ⟨_, rfl, ?_⟩; have n0_ := Aside0.mk (Kd.R_lower ho0 (below_size (by repeat (first | (with_reducible first | exact HB.out | apply below_alloc | apply pw_below_drewN | apply below_drew1) | exact HB.out)))); have n1_ := Aside0.mk (below_step (by repeat (first | (with_reducible first | exact HB.out | apply below_alloc | apply pw_below_drewN | apply below_drew1) | exact HB.out)) hb); clear HB; have HO394 := n0_; have HB := n1_; clear n0_ n1_; (try clear hb); (try clear hb2); (try clear hk); (try clear hi); (try clear ho0)) | ((with_reducible refine gate_builtin (b := .append) (xs := #[.tmp 9, .tmp 10]) rfl ?_); at_builtin; refine Kd.R_append_rows (Kd.int .u8) (w0 := w) w.heap.size rfl (.tmp 9) (.tmp 10) 35 5 (.int .u8 0) 1 rfl Try.underlying35 info5 rfl (by decide) (by omega) v393 t392 l0 _ _ _ (fun _ => True) (fun _ => False) rfl rfl ?aO ?aR (fun _ _ h => h) (fun _ h => h.elim) ?aF ?aB ?aS ?aL ?_; (case aR => repeat (first | exact (Kd.C_below HR0.out HB.out) | (with_reducible refine Kd.C_alloc ?_ _) | (with_reducible refine Kd.C_drewN ?_ _) | (with_reducible refine Kd.C_drew ?_))); (case aB => exact (by repeat (first | (with_reducible first | exact HB.out | apply below_alloc | apply pw_below_drewN | apply below_drew1) | exact HB.out))); (case aF => exact (fun _ _ => trivial)); (case aO => exact (by (with_reducible repeat (first | apply Kd.R_alloc | apply Kd.R_drewN | apply Kd.R_drew)); exact HO394.out)); (case aS => exact (below_size (by repeat (first | (with_reducible first | exact HB.out | apply below_alloc | apply pw_below_drewN | apply below_drew1) | exact HB.out)))); (case aL => have := LMc4.out; omega); intro v396 w7 ho hb hg hat; rw [← Ny395.out] at ho; have n0_ := Aside0.mk (hb); have n1_ := Aside0.mk (ho); clear HB; clear HO394; have HB := n0_; have HO397 := n1_; clear n0_ n1_; clear ho hb hg hat) | ((with_reducible refine gate_dst (N := 24) rfl ?_); refine Kd.R_lit (Kd.int .u8) _ 5 ?hg (N := 24) ?hd (xs := ([(t391 / 16777216) % 256, (t391 / 65536) % 256, (t391 / 256) % 256, (t391) % 256] : List Int)) (inner := [.int .u8 ((t391 / 16777216) % 256), .int .u8 ((t391 / 65536) % 256), .int .u8 ((t391 / 256) % 256), .int .u8 ((t391) % 256)]) (ok := fun _ => True) (okp := fun _ => True) ?hr ?hp (fun _ hk => hk) trivial (Below.refl _ _) (Nat.le_refl _) (by simp) ?_; (case hd => rfl); (case hg => rfl); (case hr => first | (go_simp; done) | (go_simp; rfl)); (case hp => exact (Reps.one (show Kd.M (Kd.int .u8) _ _ _ ((t391 / 16777216) % 256) [.int .u8 ((t391 / 16777216) % 256)] from rfl) (Reps.one (show Kd.M (Kd.int .u8) _ _ _ ((t391 / 65536) % 256) [.int .u8 ((t391 / 65536) % 256)] from rfl) (Reps.one (show Kd.M (Kd.int .u8) _ _ _ ((t391 / 256) % 256) [.int .u8 ((t391 / 256) % 256)] from rfl) (Reps.one (show Kd.M (Kd.int .u8) _ _ _ ((t391) % 256) [.int .u8 ((t391) % 256)] from rfl) (Reps.none _ _)))))); intro v399 w8 ho9 hb hg_ hnew_; clear hg_ hnew_; (first | rw [← Ny398.out] at ho9 | (simp only [Int.reduceToNat] at ho9; rw [← Ny398.out] at ho9)); have n0_ := Aside0.mk (Kd.R_elder' (by (with_reducible repeat (first | apply Kd.R_alloc | apply Kd.R_drewN | apply Kd.R_drew)); exact HO397.out) (Kd.R_base ho9) hb); have n1_ := Aside0.mk (Kd.R_lower (Kd.R_new' ho9 (Kd.R_lt (by (with_reducible repeat (first | apply Kd.R_alloc | apply Kd.R_drewN | apply Kd.R_drew)); exact HO397.out))) (below_size (by repeat (first | (with_reducible first | exact HB.out | apply below_alloc | apply pw_below_drewN | apply below_drew1) | exact HB.out)))); have n2_ := Aside0.mk (below_step (by repeat (first | (with_reducible first | exact HB.out | apply below_alloc | apply pw_below_drewN | apply below_drew1) | exact HB.out)) hb); clear HO397; clear HB; have HO397 := n0_; have HO400 := n1_; have HB := n2_; clear n0_ n1_ n2_; clear hb ho9; obtain ⟨Ao11, co11, eo11⟩ := Kd.R_slice HO400.out; subst eo11) | ((with_reducible refine gate_builtin (b := .append) (xs := #[.tmp 12, .tmp 24]) rfl ?_); at_builtin; refine Kd.R_append_rows (Kd.int .u8) (w0 := w) w.heap.size rfl (.tmp 12) (.tmp 24) 35 5 (.int .u8 0) 1 rfl Try.underlying35 info5 rfl (by decide) (by omega) v396 y395 y398 _ _ _ (fun k_ => some k_ ≠ (.slice Ao11 y398.length co11 : Value).ownBlock) (fun _ => False) rfl rfl ?aO ?aR (fun _ _ h => h) (fun _ h => h.elim) ?aF ?aB ?aS ?aL ?_; (case aR => repeat (first | exact (Kd.R_reads' HO400.out).2.2 | (with_reducible refine Kd.C_alloc ?_ _) | (with_reducible refine Kd.C_drewN ?_ _) | (with_reducible refine Kd.C_drew ?_))); (case aB => exact (by repeat (first | (with_reducible first | exact HB.out | apply below_alloc | apply pw_below_drewN | apply below_drew1) | exact HB.out))); (case aF => exact (fun k_ hk => Kd.fresh' (Kd.R_lt (by (with_reducible repeat (first | apply Kd.R_alloc | apply Kd.R_drewN | apply Kd.R_drew)); exact HO400.out)) k_ hk)); (case aO => exact (by (with_reducible repeat (first | apply Kd.R_alloc | apply Kd.R_drewN | apply Kd.R_drew)); exact Kd.R_mono HO397.out (fun _ hk => hk.2))); (case aS => exact (below_size (by repeat (first | (with_reducible first | exact HB.out | apply below_alloc | apply pw_below_drewN | apply below_drew1) | exact HB.out)))); (case aL => have := LMc5.out; omega); intro v402 w10 ho hb hg hat; rw [← Ny401.out] at ho; have n0_ := Aside0.mk (Kd.R_after (ok := (fun _ => True)) (by (with_reducible repeat (first | apply Kd.R_alloc | apply Kd.R_drewN | apply Kd.R_drew)); exact HO400.out) hg hat); have n1_ := Aside0.mk (hb); have n2_ := Aside0.mk (ho); clear HO400; clear HB; clear HO397; have HO400 := n0_; have HB := n1_; have HO403 := n2_; clear n0_ n1_ n2_; clear ho hb hg hat))
 go_ret
 exact ⟨_, by first | rfl | (simp [errW_none, errW_some] <;> rfl) | (simp [*, errW_none, errW_some] <;> rfl), by (with_reducible repeat (first | apply Kd.R_alloc | apply Kd.R_drewN | apply Kd.R_drew)); exact Kd.R_mono HO403.out (fun _ hk => trivial), by repeat (first | (with_reducible first | exact HB.out | apply below_alloc | apply pw_below_drewN | apply below_drew1) | exact HB.out)⟩ }
 {
 rw [if_neg c5] at H
 exact absurd H (by simp) } }
  {
 rw [if_neg c4] at H
 exact absurd H (by simp) }
end Go.Proofs.Ytdlinojgmllkoaa.Q

namespace Go.Proofs.Ytdlinojgmllkoaa.Q
open Go.RowKit Go.Proofs.YtdlinojgmllkoaaW.PrintWords Go.Proofs.YtdlinojgmllkoaaW.PrintLast Go.Proofs.YtdlinojgmllkoaaW.PrintMore
attribute [local go_sem] max2_int min2_int max_two min_two max_three min_three max_four min_four   -- for this text's walks alone
set_option linter.unusedVariables false
set_option linter.unusedSimpArgs false

attribute [local irreducible] Calls skiarearef03_Frame.f skiarearef25_Body.f
def skiarearef25_Encode.l0 : Nat → List Int → Int → Int → Int → Int → Int → Int → Int → Int → Int → Int → Option (List Int)
  | 0, _, _, _, _, _, _, _, _, _, _, _ => none
  | k + 1, x3, x4, x405000, x405001, x405002, x405003, x405004, x405005, x405006, x405007, x405008 => if x4 ≥ 0 then (if 0 ≤ (wrap64 (8 * x4)) then (if x3.length < 140737488355328 then (skiarearef25_Encode.l0 k (x3 ++ [(shr .u64 x405008 (wrap64 (8 * x4))) % 256]) (wrap64 (x4 - 1)) x405000 x405001 x405002 x405003 x405004 x405005 x405006 x405007 x405008) else (none)) else (none)) else ((skiarearef03_Frame.f k x3).bind fun t411 => (some t411))
def skiarearef25_Encode.f (k : Nat) (a0_0 : Int) (a0_1 : Int) (a0_2 : Int) (a0_3 : Int) (a0_4 : Int) (a0_5 : Int) (a0_6 : Int) (a0_7 : Int) (a0_8 : Int) : Option (List Int) := (skiarearef25_Body.f k a0_0 a0_1 a0_2 a0_3 a0_4 a0_5 a0_6 a0_7 a0_8).bind fun t405 => (skiarearef25_Encode.l0 k t405 7 a0_0 a0_1 a0_2 a0_3 a0_4 a0_5 a0_6 a0_7 a0_8)
theorem skiarearef25_Encode.mono_l : ∀ k, (∀ y0 y1 y2 y3 y4 y5 y6 y7 y8 y9 y10, LeO (skiarearef25_Encode.l0 k y0 y1 y2 y3 y4 y5 y6 y7 y8 y9 y10) (skiarearef25_Encode.l0 (k + 1) y0 y1 y2 y3 y4 y5 y6 y7 y8 y9 y10))
  | 0 => fun _ _ _ _ _ _ _ _ _ _ _ r h => by simp [skiarearef25_Encode.l0] at h
  | k + 1 => by
    have ih0 := skiarearef25_Encode.mono_l k
    · intro y0 y1 y2 y3 y4 y5 y6 y7 y8 y9 y10
      unfold skiarearef25_Encode.l0
      repeat' first
      | (with_reducible exact ih0 _ _ _ _ _ _ _ _ _ _ _)
      | (with_reducible exact skiarearef03_Frame.mono _ _)
      | (with_reducible exact skiarearef25_Body.mono _ _ _ _ _ _ _ _ _ _)
      | (with_reducible exact LeO.refl _)
      | (with_reducible exact LeO.none _)
      | (with_reducible refine LeO.ite ?_ ?_)
      | (with_reducible refine LeO.bind ?_ (fun _ => ?_))
      | exact ih0 _ _ _ _ _ _ _ _ _ _ _
      | exact skiarearef03_Frame.mono _ _
      | exact skiarearef25_Body.mono _ _ _ _ _ _ _ _ _ _
      | exact LeO.none _
      | refine LeO.ite ?_ ?_
      | refine LeO.bind ?_ (fun _ => ?_)
theorem skiarearef25_Encode.mono : ∀ a0 a1 a2 a3 a4 a5 a6 a7 a8 k, LeO (skiarearef25_Encode.f k a0 a1 a2 a3 a4 a5 a6 a7 a8) (skiarearef25_Encode.f (k + 1) a0 a1 a2 a3 a4 a5 a6 a7 a8) := by
  intro a0 a1 a2 a3 a4 a5 a6 a7 a8 k
  have ih0 := skiarearef25_Encode.mono_l k
  unfold skiarearef25_Encode.f
  repeat' first
      | (with_reducible exact ih0 _ _ _ _ _ _ _ _ _ _ _)
      | (with_reducible exact skiarearef03_Frame.mono _ _)
      | (with_reducible exact skiarearef25_Body.mono _ _ _ _ _ _ _ _ _ _)
      | (with_reducible exact LeO.refl _)
      | (with_reducible exact LeO.none _)
      | (with_reducible refine LeO.ite ?_ ?_)
      | (with_reducible refine LeO.bind ?_ (fun _ => ?_))
      | exact ih0 _ _ _ _ _ _ _ _ _ _ _
      | exact skiarearef03_Frame.mono _ _
      | exact skiarearef25_Body.mono _ _ _ _ _ _ _ _ _ _
      | exact LeO.none _
      | refine LeO.ite ?_ ?_
      | refine LeO.bind ?_ (fun _ => ?_)
set_option maxHeartbeats 8000000 in
set_option maxRecDepth 100000 in
theorem skiarearef25_Encode.calls (k : Nat) (a0_0 : Int) (a0_1 : Int) (a0_2 : Int) (a0_3 : Int) (a0_4 : Int) (a0_5 : Int) (a0_6 : Int) (a0_7 : Int) (a0_8 : Int) (r : List Int) (w : World) (h : skiarearef25_Encode.f k a0_0 a0_1 a0_2 a0_3 a0_4 a0_5 a0_6 a0_7 a0_8 = some r) :
    Calls Try.prog 23 #[.agg #[.int .i64 a0_0, .int .i64 a0_1, .int .i64 a0_2, .int .i64 a0_3, .int .i64 a0_4, .int .i64 a0_5, .int .i64 a0_6, .int .i64 a0_7, .int .u64 a0_8]] w fun e w' => ∃ v0_ : Value, e = .returned (v0_) ∧ Kd.R (Kd.int .u8) 5 w' w.heap.size (fun _ => True) v0_ r ∧ Below w.heap.size w w' := by
  have hu24 := Try.underlying24
  have HB := Aside0.mk (Below.refl w.heap.size w)
  have H : ((skiarearef25_Body.f k a0_0 a0_1 a0_2 a0_3 a0_4 a0_5 a0_6 a0_7 a0_8).bind fun t405 => (skiarearef25_Encode.l0 k t405 7 a0_0 a0_1 a0_2 a0_3 a0_4 a0_5 a0_6 a0_7 a0_8)) = some r := h
  clear h
  replace H := Option.bind_eq_some_iff.mp H
  obtain ⟨t405, A20, H⟩ := H
  try dsimp only at H
  have A2 := Aside0.mk A20
  clear A20
  have H' := Aside0.mk H
  clear H
  go_enter Try.func23, Try.ntmps23
  go_wp2_with (first | ((with_reducible refine gate_dst (N := 1) rfl ?_); refine box_event ?hg (N := 1) ?hd (cs := #[.int .i64 a0_0, .int .i64 a0_1, .int .i64 a0_2, .int .i64 a0_3, .int .i64 a0_4, .int .i64 a0_5, .int .i64 a0_6, .int .i64 a0_7, .int .u64 a0_8]) (t := 24) ?hr ?_; (case hd => rfl); (case hg => rfl); (case hr => first | (go_simp; done) | (go_simp; rfl)); intro gb404 hg w3 hbox hb; have n0_ := Aside0.mk (below_step (by repeat (first | (with_reducible first | exact HB.out | apply below_alloc | apply pw_below_drewN | apply below_drew1) | exact HB.out)) hb); have n1_ := Aside0.mk (hbox); have n2_ := Aside0.mk ((by rw [hg]; exact (below_size (by repeat (first | (with_reducible first | exact HB.out | apply below_alloc | apply pw_below_drewN | apply below_drew1) | exact HB.out))) : w.heap.size ≤ gb404)); have n3_ := Aside0.mk ((by rw [hg]; exact (below_size (by repeat (first | (with_reducible first | exact HB.out | apply below_alloc | apply pw_below_drewN | apply below_drew1) | exact HB.out))) : w.heap.size ≤ gb404)); clear HB; have HB := n0_; have BK404 := n1_; have GW404 := n2_; have GE404 := n3_; clear n0_ n1_ n2_ n3_; clear hb hbox hg; have hcz4_0 : w3.cell? ⟨gb404, 0, none⟩ = some (.int .i64 a0_0) := (blk_cell BK404.out 0).trans rfl; have hcz4_1 : w3.cell? ⟨gb404, 1, none⟩ = some (.int .i64 a0_1) := (blk_cell BK404.out 1).trans rfl; have hcz4_2 : w3.cell? ⟨gb404, 2, none⟩ = some (.int .i64 a0_2) := (blk_cell BK404.out 2).trans rfl; have hcz4_3 : w3.cell? ⟨gb404, 3, none⟩ = some (.int .i64 a0_3) := (blk_cell BK404.out 3).trans rfl; have hcz4_4 : w3.cell? ⟨gb404, 4, none⟩ = some (.int .i64 a0_4) := (blk_cell BK404.out 4).trans rfl; have hcz4_5 : w3.cell? ⟨gb404, 5, none⟩ = some (.int .i64 a0_5) := (blk_cell BK404.out 5).trans rfl; have hcz4_6 : w3.cell? ⟨gb404, 6, none⟩ = some (.int .i64 a0_6) := (blk_cell BK404.out 6).trans rfl; have hcz4_7 : w3.cell? ⟨gb404, 7, none⟩ = some (.int .i64 a0_7) := (blk_cell BK404.out 7).trans rfl; have hcz4_8 : w3.cell? ⟨gb404, 8, none⟩ = some (.int .u64 a0_8) := (blk_cell BK404.out 8).trans rfl; have hfz4_0 := blk_frozen BK404.out 0; have hfz4_1 := blk_frozen BK404.out 1; have hfz4_2 := blk_frozen BK404.out 2; have hfz4_3 := blk_frozen BK404.out 3; have hfz4_4 := blk_frozen BK404.out 4; have hfz4_5 := blk_frozen BK404.out 5; have hfz4_6 := blk_frozen BK404.out 6; have hfz4_7 := blk_frozen BK404.out 7; have hfz4_8 := blk_frozen BK404.out 8) | ((with_reducible refine gate_callee (f := 20) rfl ?_); refine goesL_ (some 6) rfl rfl Try.func20 (by kernel_rfl) rfl #[.agg #[.int .i64 a0_0, .int .i64 a0_1, .int .i64 a0_2, .int .i64 a0_3, .int .i64 a0_4, .int .i64 a0_5, .int .i64 a0_6, .int .i64 a0_7, .int .u64 a0_8]] rfl (by (try simp only [List.map_toArray, List.map_cons, List.map_nil]); first | done | rfl | (simp only [List.length_drop, List.length_take]; rfl)) ?_; (with_reducible refine (skiarearef25_Body.calls k a0_0 a0_1 a0_2 a0_3 a0_4 a0_5 a0_6 a0_7 a0_8 t405 _ A2.out).mono ?_); rintro e w5 ⟨v406, rfl, ho0, hb⟩; refine ⟨_, rfl, ?_⟩; have n0_ := Aside0.mk (Kd.R_lower ho0 (below_size (by repeat (first | (with_reducible first | exact HB.out | apply below_alloc | apply pw_below_drewN | apply below_drew1 | refine below_set ?_ GE404.out) | exact HB.out)))); have n1_ := Aside0.mk (blk_below (g := gb404) (o := .cells #[.int .i64 a0_0, .int .i64 a0_1, .int .i64 a0_2, .int .i64 a0_3, .int .i64 a0_4, .int .i64 a0_5, .int .i64 a0_6, .int .i64 a0_7, .int .u64 a0_8] 24 (0, 0)) (by (with_reducible repeat (first | refine blk_drewN ?_ _ | refine blk_drew ?_ | refine blk_alloc ?_ _)); exact BK404.out) hb); have n2_ := Aside0.mk (below_step (by repeat (first | (with_reducible first | exact HB.out | apply below_alloc | apply pw_below_drewN | apply below_drew1 | refine below_set ?_ GE404.out) | exact HB.out)) hb); clear BK404; clear HB; have HO407 := n0_; have BK404 := n1_; have HB := n2_; clear n0_ n1_ n2_; (try clear hb); (try clear hb2); (try clear hk); (try clear hi); (try clear ho0)))
  go_loopg [3, 4] k (fun kq v3 v4 w' => ∃ (x3_1 : List Int) (x4_1 : Int), v4 = .int .i64 x4_1 ∧ Aside0 (skiarearef25_Encode.l0 kq x3_1 x4_1 a0_0 a0_1 a0_2 a0_3 a0_4 a0_5 a0_6 a0_7 a0_8 = some r) ∧ Aside0 (kq ≤ k) ∧ Aside0 (Kd.R (Kd.int .u8) 5 w' w.heap.size (fun _ => True) v3 x3_1) ∧ Aside0 (w'.heap[gb404]? = some (.cells #[.int .i64 a0_0, .int .i64 a0_1, .int .i64 a0_2, .int .i64 a0_3, .int .i64 a0_4, .int .i64 a0_5, .int .i64 a0_6, .int .i64 a0_7, .int .u64 a0_8] 24 (0, 0))) ∧ Aside0 (Below w.heap.size w w'))
  case atStart => exact ⟨(t405), (7), (by first | rfl | (simp; done) | (simp [*]; done)), H', ⟨Nat.le_refl _⟩, ⟨by (with_reducible repeat (first | apply Kd.R_alloc | apply Kd.R_drewN | apply Kd.R_drew)); exact HO407.out⟩, ⟨by (with_reducible repeat (first | refine blk_drewN ?_ _ | refine blk_drew ?_ | refine blk_alloc ?_ _)); exact BK404.out⟩, ⟨by repeat (first | (with_reducible first | exact HB.out | apply below_alloc | apply pw_below_drewN | apply below_drew1 | refine below_set ?_ GE404.out) | exact HB.out)⟩⟩
  case round =>
   (
 clear H'
 try clear c2
 try clear p2
 try clear hcz4_0
 try clear hcz4_1
 try clear hcz4_2
 try clear hcz4_3
 try clear hcz4_4
 try clear hcz4_5
 try clear hcz4_6
 try clear hcz4_7
 try clear hcz4_8
 try clear hfz4_0
 try clear hfz4_1
 try clear hfz4_2
 try clear hfz4_3
 try clear hfz4_4
 try clear hfz4_5
 try clear hfz4_6
 try clear hfz4_7
 try clear hfz4_8
 obtain ⟨x3_1, x4_1, rfl, HA, HK1, HO_3, BK404, HB⟩ := hrel
 cases gk with
 | zero => exact absurd HA.out (by simp [skiarearef25_Encode.l0])
 | succ k1 =>
   (
 have H := HA.out
 clear HA
 simp only [skiarearef25_Encode.l0] at H
 by_cases c6 : x4_1 ≥ 0
 {
 rw [if_pos c6] at H
 have c6b0 : decide (0 ≤ x4_1) = true := decide_eq_true c6
 clear c6
 obtain ⟨ji7, hji7⟩ : ∃ j_ : Int, (wrap64 (8 * x4_1)) = j_ := ⟨_, rfl⟩
 replace H : (if 0 ≤ (ji7) then (if x3_1.length < 140737488355328 then (skiarearef25_Encode.l0 k1 (x3_1 ++ [(shr .u64 a0_8 (ji7)) % 256]) (wrap64 (x4_1 - 1)) a0_0 a0_1 a0_2 a0_3 a0_4 a0_5 a0_6 a0_7 a0_8) else (none)) else (none)) = some r := by first | (rw [hji7] at H; exact H) | (simp only [hji7] at H ⊢; exact H)
 have hji7w : (IntKind.i64.wrap (8 * x4_1)) = ji7 := (i64_w _).trans hji7
 by_cases c8 : 0 ≤ (ji7)
 {
 rw [if_pos c8] at H
 have c8b0 := eq_true c8
 have c8b1 : decide (0 ≤ (ji7)) = true := decide_eq_true c8
 clear c8
 obtain ⟨ji9, hji9⟩ : ∃ j_ : Int, (shr .u64 a0_8 (ji7)) = j_ := ⟨_, rfl⟩
 replace H : (if x3_1.length < 140737488355328 then (skiarearef25_Encode.l0 k1 (x3_1 ++ [(ji9) % 256]) (wrap64 (x4_1 - 1)) a0_0 a0_1 a0_2 a0_3 a0_4 a0_5 a0_6 a0_7 a0_8) else (none)) = some r := by first | (rw [hji9] at H; exact H) | (simp only [hji9] at H ⊢; exact H)
 have hji9_ : (a0_8 / 2 ^ min (ji7).toNat 64) = ji9 := hji9
 have hji9z : (ji7) ≤ 64 → (a0_8 / 2 ^ (ji7).toNat) = ji9 := shr_small hji9
 by_cases c10 : x3_1.length < 140737488355328
 {
 rw [if_pos c10] at H
 have LMc10 := Aside0.mk c10
 clear c10
 obtain ⟨y408, hy408⟩ : ∃ y_ : List Int, y_ = (x3_1 ++ [(ji9) % 256]) := ⟨_, rfl⟩
 replace H : (skiarearef25_Encode.l0 k1 y408 (wrap64 (x4_1 - 1)) a0_0 a0_1 a0_2 a0_3 a0_4 a0_5 a0_6 a0_7 a0_8) = some r := by first | (rw [hy408]; with_reducible exact H) | (have H2_ := (Option.bind_some _ _).symm.trans H; rw [hy408]; with_reducible exact H2_) | (have H2_ := (Option.bind_some _ _).symm.trans H; with_reducible exact H2_) | with_reducible exact H | (rw [hy408]; exact H) | exact H
 have Ny408 := Aside0.mk hy408
 clear hy408
 have H' := Aside0.mk H
 clear H
 have hcz11_0 : wr.cell? ⟨gb404, 0, none⟩ = some (.int .i64 a0_0) := (blk_cell BK404.out 0).trans rfl
 have hcz11_1 : wr.cell? ⟨gb404, 1, none⟩ = some (.int .i64 a0_1) := (blk_cell BK404.out 1).trans rfl
 have hcz11_2 : wr.cell? ⟨gb404, 2, none⟩ = some (.int .i64 a0_2) := (blk_cell BK404.out 2).trans rfl
 have hcz11_3 : wr.cell? ⟨gb404, 3, none⟩ = some (.int .i64 a0_3) := (blk_cell BK404.out 3).trans rfl
 have hcz11_4 : wr.cell? ⟨gb404, 4, none⟩ = some (.int .i64 a0_4) := (blk_cell BK404.out 4).trans rfl
 have hcz11_5 : wr.cell? ⟨gb404, 5, none⟩ = some (.int .i64 a0_5) := (blk_cell BK404.out 5).trans rfl
 have hcz11_6 : wr.cell? ⟨gb404, 6, none⟩ = some (.int .i64 a0_6) := (blk_cell BK404.out 6).trans rfl
 have hcz11_7 : wr.cell? ⟨gb404, 7, none⟩ = some (.int .i64 a0_7) := (blk_cell BK404.out 7).trans rfl
 have hcz11_8 : wr.cell? ⟨gb404, 8, none⟩ = some (.int .u64 a0_8) := (blk_cell BK404.out 8).trans rfl
 have hfz11_0 := blk_frozen BK404.out 0
 have hfz11_1 := blk_frozen BK404.out 1
 have hfz11_2 := blk_frozen BK404.out 2
 have hfz11_3 := blk_frozen BK404.out 3
 have hfz11_4 := blk_frozen BK404.out 4
 have hfz11_5 := blk_frozen BK404.out 5
 have hfz11_6 := blk_frozen BK404.out 6
 have hfz11_7 := blk_frozen BK404.out 7
 have hfz11_8 := blk_frozen BK404.out 8
 go_wp2_with (first | ((with_reducible refine gate_builtin (b := .append) (xs := #[.tmp 11, .tmp 18]) rfl ?_); at_builtin; refine Kd.R_append (Kd.int .u8) (w0 := w) w.heap.size rfl (.tmp 11) (.tmp 18) 35 5 (.int .u8 0) 1 rfl Try.underlying35 info5 rfl (by decide) (by omega) u3 x3_1 ((ji9) % 256) [.int .u8 ((ji9) % 256)] (fun _ => True) (fun _ => False) rfl rfl ?aP (fun _ hk => hk.elim) ?aF ?aO ?aB ?aS ?aL ?_; (case aP => exact rfl); (case aB => exact (by repeat (first | (with_reducible first | exact HB.out | apply below_alloc | apply pw_below_drewN | apply below_drew1 | refine below_set ?_ GE404.out) | exact HB.out))); (case aF => exact (fun _ _ => trivial)); (case aO => exact (by (with_reducible repeat (first | apply Kd.R_alloc | apply Kd.R_drewN | apply Kd.R_drew)); exact HO_3.out)); (case aS => exact (below_size (by repeat (first | (with_reducible first | exact HB.out | apply below_alloc | apply pw_below_drewN | apply below_drew1 | refine below_set ?_ GE404.out) | exact HB.out)))); (case aL => have := LMc10.out; omega); intro v409 w12 ho hb hg hat; rw [← Ny408.out] at ho; have n0_ := Aside0.mk (blk_grown (g := gb404) (o := .cells #[.int .i64 a0_0, .int .i64 a0_1, .int .i64 a0_2, .int .i64 a0_3, .int .i64 a0_4, .int .i64 a0_5, .int .i64 a0_6, .int .i64 a0_7, .int .u64 a0_8] 24 (0, 0)) (by (with_reducible repeat (first | refine blk_drewN ?_ _ | refine blk_drew ?_ | refine blk_alloc ?_ _)); exact BK404.out) hg (Kd.R_ne HO_3.out BK404.out (by decide))); have n1_ := Aside0.mk (hb); have n2_ := Aside0.mk (ho); clear BK404; clear HB; clear HO_3; have BK404 := n0_; have HB := n1_; have HO410 := n2_; clear n0_ n1_ n2_; clear ho hb hg hat))
 go_roundg k1
 case measure => have := HK1.out; omega
 case rel => exact ⟨(y408), (wrap64 (x4_1 - 1)), (by first | rfl | (simp; done) | (simp [*]; done)), H', ⟨by have := HK1.out; omega⟩, ⟨by (with_reducible repeat (first | apply Kd.R_alloc | apply Kd.R_drewN | apply Kd.R_drew)); exact HO410.out⟩, ⟨by (with_reducible repeat (first | refine blk_drewN ?_ _ | refine blk_drew ?_ | refine blk_alloc ?_ _)); exact BK404.out⟩, ⟨by repeat (first | (with_reducible first | exact HB.out | apply below_alloc | apply pw_below_drewN | apply below_drew1 | refine below_set ?_ GE404.out) | exact HB.out)⟩⟩ }
 {
 rw [if_neg c10] at H
 exact absurd H (by simp) } }
 {
 rw [if_neg c8] at H
 exact absurd H (by simp) } }
 {
 rw [if_neg c6] at H
 have c6b0 : decide (0 ≤ x4_1) = false := decide_eq_false c6
 clear c6
 replace H := Option.bind_eq_some_iff.mp H
 obtain ⟨t411, A130, H⟩ := H
 try dsimp only at H
 have A13 := Aside0.mk A130
 clear A130
 obtain rfl := Option.some.inj H
 obtain ⟨Ao14, co14, eo14⟩ := Kd.R_slice HO_3.out
 subst eo14
 go_wp2_with (first | ((with_reducible refine gate_callee (f := 36) rfl ?_); refine goesL_ (some 21) rfl rfl Try.func36 (by kernel_rfl) rfl #[.slice Ao14 x3_1.length co14] rfl (by (try simp only [List.map_toArray, List.map_cons, List.map_nil]); first | done | rfl | (simp only [List.length_drop, List.length_take]; rfl)) ?_; (with_reducible refine (skiarearef03_Frame.calls k1 _ _ x3_1 t411 _ ?side1 ?side2 A13.out).mono ?_); (case side1 => repeat (first | exact (Kd.R_reads' HO_3.out).2.2 | (with_reducible refine Kd.C_alloc ?_ _) | (with_reducible refine Kd.C_drewN ?_ _) | (with_reducible refine Kd.C_drew ?_))); (case side2 => exact (Kd.R_reads' HO_3.out).2.1); rintro e w15 ⟨v412, rfl, ho0, hb⟩; refine ⟨_, rfl, ?_⟩; have n0_ := Aside0.mk (Kd.R_elder' (by (with_reducible repeat (first | apply Kd.R_alloc | apply Kd.R_drewN | apply Kd.R_drew)); exact HO_3.out) (Kd.R_base ho0) hb); have n1_ := Aside0.mk (Kd.R_lower (Kd.R_new' ho0 (Kd.R_lt (by (with_reducible repeat (first | apply Kd.R_alloc | apply Kd.R_drewN | apply Kd.R_drew)); exact HO_3.out))) (below_size (by repeat (first | (with_reducible first | exact HB.out | apply below_alloc | apply pw_below_drewN | apply below_drew1 | refine below_set ?_ GE404.out) | exact HB.out)))); have n2_ := Aside0.mk (blk_below (g := gb404) (o := .cells #[.int .i64 a0_0, .int .i64 a0_1, .int .i64 a0_2, .int .i64 a0_3, .int .i64 a0_4, .int .i64 a0_5, .int .i64 a0_6, .int .i64 a0_7, .int .u64 a0_8] 24 (0, 0)) (by (with_reducible repeat (first | refine blk_drewN ?_ _ | refine blk_drew ?_ | refine blk_alloc ?_ _)); exact BK404.out) hb); have n3_ := Aside0.mk (below_step (by repeat (first | (with_reducible first | exact HB.out | apply below_alloc | apply pw_below_drewN | apply below_drew1 | refine below_set ?_ GE404.out) | exact HB.out)) hb); clear HO_3; clear BK404; clear HB; have HO_3 := n0_; have HO413 := n1_; have BK404 := n2_; have HB := n3_; clear n0_ n1_ n2_ n3_; (try clear hb); (try clear hb2); (try clear hk); (try clear hi); (try clear ho0)))
 go_ret
 exact ⟨_, by first | rfl | (simp [errW_none, errW_some] <;> rfl) | (simp [*, errW_none, errW_some] <;> rfl), by (with_reducible repeat (first | apply Kd.R_alloc | apply Kd.R_drewN | apply Kd.R_drew)); exact Kd.R_mono HO413.out (fun _ hk => trivial), by repeat (first | (with_reducible first | exact HB.out | apply below_alloc | apply pw_below_drewN | apply below_drew1 | refine below_set ?_ GE404.out) | exact HB.out)⟩ } ) )
end Go.Proofs.Ytdlinojgmllkoaa.Q

namespace Go.Proofs.Ytdlinojgmllkoaa.Q
open Go.RowKit Go.Proofs.YtdlinojgmllkoaaW.PrintWords Go.Proofs.YtdlinojgmllkoaaW.PrintLast Go.Proofs.YtdlinojgmllkoaaW.PrintMore
attribute [local go_sem] max2_int min2_int max_two min_two max_three min_three max_four min_four   -- for this text's walks alone
set_option linter.unusedVariables false
set_option linter.unusedSimpArgs false

mutual
def skiarearef03_Get.l0 : Nat → List Int → Int → Option (Int × Int × Int)
  | 0, _, _ => none
  | k + 1, x0, x5 => if x5 < 9 then (if x5 ≥ (x0.length : Int) then (some (0, 0, 5)) else (if 0 ≤ x5 then (if x5 < (x0.length : Int) then (if (rd x0 x5) ≥ 128 then (skiarearef03_Get.l0 k x0 (wrap64 (x5 + 1))) else (if x5 > 0 then (skiarearef03_Get.j1 k x0 x5 ((rd x0 x5) == 0)) else (skiarearef03_Get.j1 k x0 x5 false))) else (none)) else (none))) else (some (0, 0, 4))
def skiarearef03_Get.j1 : Nat → List Int → Int → Bool → Option (Int × Int × Int)
  | 0, _, _, _ => none
  | k + 1, x0, x5, x29 => if x29 = true then (some (0, 0, 3)) else (skiarearef03_Get.l1 k x0 x5 0 x5)
def skiarearef03_Get.l1 : Nat → List Int → Int → Int → Int → Option (Int × Int × Int)
  | 0, _, _, _, _ => none
  | k + 1, x0, x5, x6, x7 => if x7 ≥ 0 then (if 0 ≤ x7 then (if x7 < (x0.length : Int) then (skiarearef03_Get.l1 k x0 x5 (wrap64 ((wrap64 (x6 * 128)) + (wrap64 (Int.tmod (rd x0 x7) 128)))) (wrap64 (x7 - 1))) else (none)) else (none)) else (some (x6, wrap64 (x5 + 1), 0))
end
def skiarearef03_Get.f (k : Nat) (l0 : List Int) : Option (Int × Int × Int) := skiarearef03_Get.l0 k l0 0
theorem skiarearef03_Get.mono_l : ∀ k, (∀ y0 y1, LeO (skiarearef03_Get.l0 k y0 y1) (skiarearef03_Get.l0 (k + 1) y0 y1)) ∧ (∀ y0 y1 y2, LeO (skiarearef03_Get.j1 k y0 y1 y2) (skiarearef03_Get.j1 (k + 1) y0 y1 y2)) ∧ (∀ y0 y1 y2 y3, LeO (skiarearef03_Get.l1 k y0 y1 y2 y3) (skiarearef03_Get.l1 (k + 1) y0 y1 y2 y3))
  | 0 => ⟨fun _ _ r h => by simp [skiarearef03_Get.l0] at h, fun _ _ _ r h => by simp [skiarearef03_Get.j1] at h, fun _ _ _ _ r h => by simp [skiarearef03_Get.l1] at h⟩
  | k + 1 => by
    obtain ⟨ih0, ih1, ih2⟩ := skiarearef03_Get.mono_l k
    refine ⟨?_, ?_, ?_⟩
    · intro y0 y1
      unfold skiarearef03_Get.l0
      repeat' first
      | (with_reducible exact ih0 _ _)
      | (with_reducible exact ih1 _ _ _)
      | (with_reducible exact ih2 _ _ _ _)
      | (with_reducible exact LeO.refl _)
      | (with_reducible exact LeO.none _)
      | (with_reducible refine LeO.ite ?_ ?_)
      | (with_reducible refine LeO.bind ?_ (fun _ => ?_))
      | exact ih0 _ _
      | exact ih1 _ _ _
      | exact ih2 _ _ _ _
      | exact LeO.none _
      | refine LeO.ite ?_ ?_
      | refine LeO.bind ?_ (fun _ => ?_)
    · intro y0 y1 y2
      unfold skiarearef03_Get.j1
      repeat' first
      | (with_reducible exact ih0 _ _)
      | (with_reducible exact ih1 _ _ _)
      | (with_reducible exact ih2 _ _ _ _)
      | (with_reducible exact LeO.refl _)
      | (with_reducible exact LeO.none _)
      | (with_reducible refine LeO.ite ?_ ?_)
      | (with_reducible refine LeO.bind ?_ (fun _ => ?_))
      | exact ih0 _ _
      | exact ih1 _ _ _
      | exact ih2 _ _ _ _
      | exact LeO.none _
      | refine LeO.ite ?_ ?_
      | refine LeO.bind ?_ (fun _ => ?_)
    · intro y0 y1 y2 y3
      unfold skiarearef03_Get.l1
      repeat' first
      | (with_reducible exact ih0 _ _)
      | (with_reducible exact ih1 _ _ _)
      | (with_reducible exact ih2 _ _ _ _)
      | (with_reducible exact LeO.refl _)
      | (with_reducible exact LeO.none _)
      | (with_reducible refine LeO.ite ?_ ?_)
      | (with_reducible refine LeO.bind ?_ (fun _ => ?_))
      | exact ih0 _ _
      | exact ih1 _ _ _
      | exact ih2 _ _ _ _
      | exact LeO.none _
      | refine LeO.ite ?_ ?_
      | refine LeO.bind ?_ (fun _ => ?_)
theorem skiarearef03_Get.mono : ∀ a0 k, LeO (skiarearef03_Get.f k a0) (skiarearef03_Get.f (k + 1) a0) := by
  intro a0 k
  obtain ⟨ih0, ih1, ih2⟩ := skiarearef03_Get.mono_l k
  unfold skiarearef03_Get.f
  repeat' first
      | (with_reducible exact ih0 _ _)
      | (with_reducible exact ih1 _ _ _)
      | (with_reducible exact ih2 _ _ _ _)
      | (with_reducible exact LeO.refl _)
      | (with_reducible exact LeO.none _)
      | (with_reducible refine LeO.ite ?_ ?_)
      | (with_reducible refine LeO.bind ?_ (fun _ => ?_))
      | exact ih0 _ _
      | exact ih1 _ _ _
      | exact ih2 _ _ _ _
      | exact LeO.none _
      | refine LeO.ite ?_ ?_
      | refine LeO.bind ?_ (fun _ => ?_)
set_option maxHeartbeats 8000000 in
set_option maxRecDepth 100000 in
theorem skiarearef03_Get.calls (k : Nat) (A0 : Option Addr) (c0 : Nat) (l0 : List Int) (r1 : Int) (r2 : Int) (r3 : Int) (w : World) (hr0 : Kd.C (Kd.int .u8) w A0 l0.length l0) (hc0 : l0.length ≤ c0) (h : skiarearef03_Get.f k l0 = some (r1, r2, r3)) :
    Calls Try.prog 47 #[.slice A0 l0.length c0] w fun e w' => e = .returned (.tuple #[.int .i64 r1, .int .i64 r2, .int .i64 r3]) ∧ Drawn0 w w' := by
  have HR0 := Aside0.mk hr0
  have HC0 := Aside0.mk hc0
  clear hr0 hc0
  have H : (skiarearef03_Get.l0 k l0 0) = some (r1, r2, r3) := h
  clear h
  have H' := Aside0.mk H
  clear H
  go_enter Try.func47, Try.ntmps47
  go_wp2
  go_loopg [5] k (fun kq v5 w' => ∃ (x5_1 : Int), v5 = .int .i64 x5_1 ∧ Aside0 (skiarearef03_Get.l0 kq l0 x5_1 = some (r1, r2, r3)) ∧ Aside0 (kq ≤ k) ∧ Drawn0 w w')
  case atStart => exact ⟨(0), (by first | rfl | (simp; done) | (simp [*]; done)), H', ⟨Nat.le_refl _⟩, by repeat (first | exact Drawn0.refl _ | apply Drawn0.step)⟩
  case round =>
   (
 clear H'
 obtain ⟨x5_1, rfl, HA, HK1, ⟨m1, rfl⟩⟩ := hrel
 cases gk with
 | zero => exact absurd HA.out (by simp [skiarearef03_Get.l0])
 | succ k1 =>
   (
 have H := HA.out
 clear HA
 simp only [skiarearef03_Get.l0] at H
 by_cases c2 : x5_1 < 9
 {
 rw [if_pos c2] at H
 have c2b0 : decide (x5_1 < 9) = true := decide_eq_true c2
 clear c2
 by_cases c3 : x5_1 ≥ (l0.length : Int)
 {
 rw [if_pos c3] at H
 have c3b0 : decide ((l0.length : Int) ≤ x5_1) = true := decide_eq_true c3
 clear c3
 simp only [Option.some.injEq, Prod.mk.injEq] at H
 obtain ⟨rfl, rfl, rfl⟩ := H
 go_wp2
 go_ret3
 exact ⟨by first | rfl | (simp; done) | (simp [*]; done), by repeat (first | exact Drawn0.refl _ | apply Drawn0.step)⟩ }
 {
 rw [if_neg c3] at H
 have c3b0 : decide ((l0.length : Int) ≤ x5_1) = false := decide_eq_false c3
 clear c3
 by_cases c4 : 0 ≤ x5_1
 {
 rw [if_pos c4] at H
 have c4b0 : decide (0 ≤ x5_1) = true := decide_eq_true c4
 clear c4
 by_cases c5 : x5_1 < (l0.length : Int)
 {
 rw [if_pos c5] at H
 have c5b0 : decide (x5_1 < (l0.length : Int)) = true := decide_eq_true c5
 clear c5
 by_cases c6 : (rd l0 x5_1) ≥ 128
 {
 rw [if_pos c6] at H
 have c6b0 : decide (128 ≤ (rd l0 x5_1)) = true := decide_eq_true c6
 clear c6
 have H' := Aside0.mk H
 clear H
 have p424 : 0 ≤ (x5_1 : Int) := of_decide_eq_true (by first | (with_reducible assumption) | assumption)
 have q424 : x5_1 < (l0.length : Int) := of_decide_eq_true (by first | (with_reducible assumption) | assumption)
 obtain ⟨ad424, e424, hx424_0⟩ := Kd.at_int HR0.out x5_1 p424 q424
 cases e424
 replace p424 := eq_true p424
 replace q424 := eq_true q424
 go_wp2
 go_roundg k1
 case measure => have := HK1.out; omega
 case rel => exact ⟨(wrap64 (x5_1 + 1)), (by first | rfl | (simp; done) | (simp [*]; done)), H', ⟨by have := HK1.out; omega⟩, by repeat (first | exact Drawn0.refl _ | apply Drawn0.step)⟩ }
 {
 rw [if_neg c6] at H
 have c6b0 : decide (128 ≤ (rd l0 x5_1)) = false := decide_eq_false c6
 clear c6
 have HC7 := Aside0.mk H
 clear H
 have p424 : 0 ≤ (x5_1 : Int) := of_decide_eq_true (by first | (with_reducible assumption) | assumption)
 have q424 : x5_1 < (l0.length : Int) := of_decide_eq_true (by first | (with_reducible assumption) | assumption)
 obtain ⟨ad424, e424, hx424_0⟩ := Kd.at_int HR0.out x5_1 p424 q424
 cases e424
 replace p424 := eq_true p424
 replace q424 := eq_true q424
 go_upto_region 7 with (fail)
 go_cut [29] (fun v29 wc => ∃ (kq : Nat) (x29_6 : Bool), v29 = .bool x29_6 ∧ Aside0 (skiarearef03_Get.j1 kq l0 x5_1 x29_6 = some (r1, r2, r3)) ∧ Aside0 (kq ≤ k1) ∧ Drawn0 w wc)
 case first =>
   (
 have H := HC7.out
 clear HC7
 by_cases c8 : x5_1 > 0
 {
 rw [if_pos c8] at H
 have c8b0 : decide (0 < x5_1) = true := decide_eq_true c8
 clear c8
 (first | rw [c8b0] | (simp only [i64_w, i32_w, IntKind.wrap_u8, IntKind.wrap_u32]; rw [c8b0]) | skip)
 have H' := Aside0.mk H
 clear H
 have p425 : 0 ≤ (x5_1 : Int) := of_decide_eq_true (by first | (with_reducible assumption) | assumption)
 have q425 : x5_1 < (l0.length : Int) := of_decide_eq_true (by first | (with_reducible assumption) | assumption)
 obtain ⟨ad425, e425, hx425_0⟩ := Kd.at_int HR0.out x5_1 p425 q425
 obtain rfl : ad424 = ad425 := (by injection e425)
 replace p425 := eq_true p425
 replace q425 := eq_true q425
 go_wp2
 go_meet
 case rel => exact ⟨_, (((rd l0 x5_1) == 0)), (by first | rfl | (simp; done) | (simp [*]; done)), H', ⟨by have := HK1.out; first | omega | exact Nat.le_refl _⟩, by repeat (first | exact Drawn0.refl _ | apply Drawn0.step)⟩ }
 {
 rw [if_neg c8] at H
 have c8b0 : decide (0 < x5_1) = false := decide_eq_false c8
 clear c8
 (first | rw [c8b0] | (simp only [i64_w, i32_w, IntKind.wrap_u8, IntKind.wrap_u32]; rw [c8b0]) | skip)
 have H' := Aside0.mk H
 clear H
 go_wp2
 go_meet
 case rel => exact ⟨_, (false), (by first | rfl | (simp; done) | (simp [*]; done)), H', ⟨by have := HK1.out; first | omega | exact Nat.le_refl _⟩, by repeat (first | exact Drawn0.refl _ | apply Drawn0.step)⟩ } )
 case rest =>
   (
 clear HC7
 try clear c2
 try clear c2b0
 try clear p2
 try clear c3
 try clear c3b0
 try clear c4
 try clear c4b0
 try clear p4
 try clear q4
 try clear hx4
 try clear c5
 try clear c5b0
 try clear c6
 try clear c6b0
 try clear p6
 try clear c8
 try clear c8b0
 try clear hx424_0
 try clear hx425_0
 try clear p424
 try clear p425
 try clear q424
 try clear q425
 obtain ⟨kq, x29_6, rfl, HA, HJ6, ⟨mc6, rfl⟩⟩ := hcut
 cases kq with
 | zero => exact absurd HA.out (by simp [skiarearef03_Get.j1])
 | succ kj6 =>
   (
 have H := HA.out
 clear HA
 simp only [skiarearef03_Get.j1] at H
 by_cases c9 : x29_6 = true
 {
 subst c9
 have H1 : (some (0, 0, 3)) = some (r1, r2, r3) := by rw [if_pos rfl] at H; exact H
 clear H
 have H := H1
 clear H1
 simp only [Option.some.injEq, Prod.mk.injEq] at H
 obtain ⟨rfl, rfl, rfl⟩ := H
 go_wp2
 go_ret3
 exact ⟨by first | rfl | (simp; done) | (simp [*]; done), by repeat (first | exact Drawn0.refl _ | apply Drawn0.step)⟩ }
 {
 replace c9 := Bool.eq_false_iff.mpr c9
 subst c9
 have H1 : (skiarearef03_Get.l1 kj6 l0 x5_1 0 x5_1) = some (r1, r2, r3) := by rw [if_neg (show ¬ (false = true) by decide)] at H; exact H
 clear H
 have H := H1
 clear H1
 have H' := Aside0.mk H
 clear H
 go_wp2
 go_loopg [6, 7] kj6 (fun kq v6 v7 w' => ∃ (x6_3 : Int) (x7_3 : Int), v6 = .int .i64 x6_3 ∧ v7 = .int .i64 x7_3 ∧ Aside0 (skiarearef03_Get.l1 kq l0 x5_1 x6_3 x7_3 = some (r1, r2, r3)) ∧ Aside0 (kq ≤ kj6) ∧ Drawn0 w w')
 case atStart => exact ⟨(0), (x5_1), (by first | rfl | (simp; done) | (simp [*]; done)), (by first | rfl | (simp; done) | (simp [*]; done)), H', ⟨Nat.le_refl _⟩, by repeat (first | exact Drawn0.refl _ | apply Drawn0.step)⟩
 case round =>
   (
 clear H'
 try clear c2
 try clear c2b0
 try clear p2
 try clear c3
 try clear c3b0
 try clear c4
 try clear c4b0
 try clear p4
 try clear q4
 try clear hx4
 try clear c5
 try clear c5b0
 try clear c6
 try clear c6b0
 try clear p6
 try clear c8
 try clear c8b0
 try clear c9
 try clear hx424_0
 try clear hx425_0
 try clear p2
 try clear p4
 try clear p424
 try clear p425
 try clear p6
 try clear q4
 try clear q424
 try clear q425
 obtain ⟨x6_3, x7_3, rfl, rfl, HA, HK3, ⟨m3, rfl⟩⟩ := hrel
 cases gk with
 | zero => exact absurd HA.out (by simp [skiarearef03_Get.l1])
 | succ k3 =>
   (
 have H := HA.out
 clear HA
 simp only [skiarearef03_Get.l1] at H
 by_cases c10 : x7_3 ≥ 0
 {
 rw [if_pos c10] at H
 have c10b0 : decide (0 ≤ x7_3) = true := decide_eq_true c10
 clear c10
 by_cases c11 : 0 ≤ x7_3
 {
 rw [if_pos c11] at H
 have c11b0 : decide (0 ≤ x7_3) = true := decide_eq_true c11
 clear c11
 by_cases c12 : x7_3 < (l0.length : Int)
 {
 rw [if_pos c12] at H
 have c12b0 : decide (x7_3 < (l0.length : Int)) = true := decide_eq_true c12
 clear c12
 have H' := Aside0.mk H
 clear H
 have p426 : 0 ≤ (x7_3 : Int) := of_decide_eq_true (by first | (with_reducible assumption) | assumption)
 have q426 : x7_3 < (l0.length : Int) := of_decide_eq_true (by first | (with_reducible assumption) | assumption)
 obtain ⟨ad426, e426, hx426_0⟩ := Kd.at_int HR0.out x7_3 p426 q426
 obtain rfl : ad424 = ad426 := (by injection e426)
 replace p426 := eq_true p426
 replace q426 := eq_true q426
 go_wp2
 go_roundg k3
 case measure => have := HK1.out; have := HJ6.out; have := HK3.out; omega
 case rel => exact ⟨(wrap64 ((wrap64 (x6_3 * 128)) + (wrap64 (Int.tmod (rd l0 x7_3) 128)))), (wrap64 (x7_3 - 1)), (by first | rfl | (simp; done) | (simp [*]; done)), (by first | rfl | (simp; done) | (simp [*]; done)), H', ⟨by have := HK1.out; have := HJ6.out; have := HK3.out; omega⟩, by repeat (first | exact Drawn0.refl _ | apply Drawn0.step)⟩ }
 {
 rw [if_neg c12] at H
 exact absurd H (by simp) } }
 {
 rw [if_neg c11] at H
 exact absurd H (by simp) } }
 {
 rw [if_neg c10] at H
 have c10b0 : decide (0 ≤ x7_3) = false := decide_eq_false c10
 clear c10
 simp only [Option.some.injEq, Prod.mk.injEq] at H
 obtain ⟨rfl, rfl, rfl⟩ := H
 go_wp2
 go_ret3
 exact ⟨by first | rfl | (simp; done) | (simp [*]; done), by repeat (first | exact Drawn0.refl _ | apply Drawn0.step)⟩ } ) ) } ) ) } }
 {
 rw [if_neg c5] at H
 exact absurd H (by simp) } }
 {
 rw [if_neg c4] at H
 exact absurd H (by simp) } } }
 {
 rw [if_neg c2] at H
 have c2b0 : decide (x5_1 < 9) = false := decide_eq_false c2
 clear c2
 simp only [Option.some.injEq, Prod.mk.injEq] at H
 obtain ⟨rfl, rfl, rfl⟩ := H
 go_wp2
 go_ret3
 exact ⟨by first | rfl | (simp; done) | (simp [*]; done), by repeat (first | exact Drawn0.refl _ | apply Drawn0.step)⟩ } ) )
end Go.Proofs.Ytdlinojgmllkoaa.Q

namespace Go.Proofs.Ytdlinojgmllkoaa.Q
open Go.RowKit Go.Proofs.YtdlinojgmllkoaaW.PrintWords Go.Proofs.YtdlinojgmllkoaaW.PrintLast Go.Proofs.YtdlinojgmllkoaaW.PrintMore
attribute [local go_sem] max2_int min2_int max_two min_two max_three min_three max_four min_four   -- for this text's walks alone
set_option linter.unusedVariables false
set_option linter.unusedSimpArgs false

attribute [local irreducible] Calls skiarearef03_Frame.f skiarearef03_Get.f skiarearef03_Same.f
def skiarearef03_Unframe.f (k : Nat) (l0 : List Int) : Option (List Int × Int × Int) := (skiarearef03_Get.f k l0).bind fun bt427 => (if bt427.2.2 = 0 then (if bt427.1 > 65536 then (some (([] : List Int), 0, 4)) else (if (wrap64 ((l0.length : Int) - bt427.2.1)) < (wrap64 (bt427.1 + 4)) then (some (([] : List Int), 0, 5)) else (if 0 ≤ bt427.2.1 then (if bt427.2.1 ≤ (wrap64 (bt427.2.1 + bt427.1)) then (if (wrap64 (bt427.2.1 + bt427.1)) ≤ (l0.length : Int) then (if ([] : List Int).length + ((l0.take ((wrap64 (bt427.2.1 + bt427.1)) : Int).toNat).drop (bt427.2.1 : Int).toNat).length < 140737488355328 then ((some (([] : List Int) ++ ((l0.take ((wrap64 (bt427.2.1 + bt427.1)) : Int).toNat).drop (bt427.2.1 : Int).toNat) : List Int)).bind fun y431 => ((skiarearef03_Frame.f k y431).bind fun t434 => (if 0 ≤ (wrap64 ((wrap64 (bt427.2.1 + bt427.1)) + 4)) then (if (wrap64 ((wrap64 (bt427.2.1 + bt427.1)) + 4)) ≤ (l0.length : Int) then ((skiarearef03_Same.f t434 (l0.take ((wrap64 ((wrap64 (bt427.2.1 + bt427.1)) + 4)) : Int).toNat)).bind fun t438 => (if t438 = true then (some (y431, wrap64 ((wrap64 (bt427.2.1 + bt427.1)) + 4), 0)) else (some (([] : List Int), 0, 6)))) else (none)) else (none)))) else (none)) else (none)) else (none)) else (none)))) else (some (([] : List Int), 0, bt427.2.2)))
theorem skiarearef03_Unframe.mono : ∀ a0 k, LeO (skiarearef03_Unframe.f k a0) (skiarearef03_Unframe.f (k + 1) a0) := by
  intro a0 k
  unfold skiarearef03_Unframe.f
  repeat' first
      | (with_reducible exact skiarearef03_Frame.mono _ _)
      | (with_reducible exact skiarearef03_Get.mono _ _)
      | (with_reducible exact LeO.refl _)
      | (with_reducible exact LeO.none _)
      | (with_reducible refine LeO.ite ?_ ?_)
      | (with_reducible refine LeO.bind ?_ (fun _ => ?_))
      | exact skiarearef03_Frame.mono _ _
      | exact skiarearef03_Get.mono _ _
      | exact LeO.none _
      | refine LeO.ite ?_ ?_
      | refine LeO.bind ?_ (fun _ => ?_)
def skiarearef03_Unframe.T9 : Bool × List (List Nat × List Nat) := (true, [([], []), ([0], [0]), ([], []), ([], []), ([], []), ([3, 4], [3, 4]), ([5], [5]), ([2, 6], [2, 6]), ([1, 7, 1], [1, 7]), ([8], [8])])
def skiarearef03_Unframe.B9 : List Nat := [0, 1, 0, 0, 0, 24, 56, 124, 255, 511]
theorem skiarearef03_Unframe.tab9 : rtab .any (opsOf Try.f38 9) = skiarearef03_Unframe.T9 := by kernel_rfl
theorem skiarearef03_Unframe.bits9 : waitsOk skiarearef03_Unframe.T9.2 skiarearef03_Unframe.B9 = true := by kernel_rfl
set_option maxHeartbeats 8000000 in
set_option maxRecDepth 100000 in
theorem skiarearef03_Unframe.calls (k : Nat) (A0 : Option Addr) (c0 : Nat) (l0 : List Int) (r1 : List Int) (r2 : Int) (r3 : Int) (w : World) (hr0 : Kd.C (Kd.int .u8) w A0 l0.length l0) (hc0 : l0.length ≤ c0) (h : skiarearef03_Unframe.f k l0 = some (r1, r2, r3)) :
    Calls Try.prog 38 #[.slice A0 l0.length c0] w fun e w' => ∃ v0_ : Value, e = .returned (.tuple #[v0_, .int .i64 r2, .int .i64 r3]) ∧ Kd.R (Kd.int .u8) 5 w' w.heap.size (fun _ => True) v0_ r1 ∧ Below w.heap.size w w' := by
  have HR0 := Aside0.mk hr0
  have HC0 := Aside0.mk hc0
  clear hr0 hc0
  have HB := Aside0.mk (Below.refl w.heap.size w)
  have H : ((skiarearef03_Get.f k l0).bind fun bt427 => (if bt427.2.2 = 0 then (if bt427.1 > 65536 then (some (([] : List Int), 0, 4)) else (if (wrap64 ((l0.length : Int) - bt427.2.1)) < (wrap64 (bt427.1 + 4)) then (some (([] : List Int), 0, 5)) else (if 0 ≤ bt427.2.1 then (if bt427.2.1 ≤ (wrap64 (bt427.2.1 + bt427.1)) then (if (wrap64 (bt427.2.1 + bt427.1)) ≤ (l0.length : Int) then (if ([] : List Int).length + ((l0.take ((wrap64 (bt427.2.1 + bt427.1)) : Int).toNat).drop (bt427.2.1 : Int).toNat).length < 140737488355328 then ((some (([] : List Int) ++ ((l0.take ((wrap64 (bt427.2.1 + bt427.1)) : Int).toNat).drop (bt427.2.1 : Int).toNat) : List Int)).bind fun y431 => ((skiarearef03_Frame.f k y431).bind fun t434 => (if 0 ≤ (wrap64 ((wrap64 (bt427.2.1 + bt427.1)) + 4)) then (if (wrap64 ((wrap64 (bt427.2.1 + bt427.1)) + 4)) ≤ (l0.length : Int) then ((skiarearef03_Same.f t434 (l0.take ((wrap64 ((wrap64 (bt427.2.1 + bt427.1)) + 4)) : Int).toNat)).bind fun t438 => (if t438 = true then (some (y431, wrap64 ((wrap64 (bt427.2.1 + bt427.1)) + 4), 0)) else (some (([] : List Int), 0, 6)))) else (none)) else (none)))) else (none)) else (none)) else (none)) else (none)))) else (some (([] : List Int), 0, bt427.2.2)))) = some (r1, r2, r3) := h
  clear h
  replace H := Option.bind_eq_some_iff.mp H
  obtain ⟨⟨t427, t428, t429⟩, A20, H⟩ := H
  try dsimp only at H
  have A2 := Aside0.mk A20
  clear A20
  by_cases c3 : t429 = 0
  {
 rw [if_pos c3] at H
 have c3b0 : (t429 == 0) = true := beq_iff_eq.mpr c3
 have c3b1 : (t429 != 0) = false := bne_eq_false_iff_eq.mpr c3
 clear c3
 by_cases c4 : t427 > 65536
 {
 rw [if_pos c4] at H
 have c4b0 : decide (65536 < t427) = true := decide_eq_true c4
 clear c4
 simp only [Option.some.injEq, Prod.mk.injEq] at H
 obtain ⟨rfl, rfl, rfl⟩ := H
 go_enter Try.func38, Try.ntmps38
 go_wp2_with (first | ((with_reducible refine gate_callee (f := 47) rfl ?_); refine goesL_ (some 11) rfl rfl Try.func47 (by kernel_rfl) rfl #[.slice A0 l0.length c0] rfl (by (try simp only [List.map_toArray, List.map_cons, List.map_nil]); first | done | rfl | (simp only [List.length_drop, List.length_take]; rfl)) ?_; (with_reducible refine (skiarearef03_Get.calls k _ _ l0 t427 t428 t429 _ ?side1 ?side2 A2.out).mono ?_); (case side1 => repeat (first | exact HR0.out | (with_reducible refine Kd.C_alloc ?_ _) | (with_reducible refine Kd.C_drewN ?_ _) | (with_reducible refine Kd.C_drew ?_))); (case side2 => exact HC0.out); rintro e w' ⟨rfl, ⟨nd, rfl⟩⟩; refine ⟨_, rfl, ?_⟩))
 go_ret3
 exact ⟨_, by first | rfl | (simp [errW_none, errW_some] <;> rfl) | (simp [*, errW_none, errW_some] <;> rfl), by first | exact Kd.R_nil _ _ _ _ _ | exact Kd.N_nil _ _ _ _ _ | exact Kd.V_nil _ _ _ _ _ | exact Kd.Q_nil _ _ _ _ _ | exact Kd.S_nil _ _ _ _ _, by repeat (first | (with_reducible first | exact HB.out | apply below_alloc | apply pw_below_drewN | apply below_drew1) | exact HB.out)⟩ }
 {
 rw [if_neg c4] at H
 have c4b0 : decide (65536 < t427) = false := decide_eq_false c4
 clear c4
 by_cases c5 : (wrap64 ((l0.length : Int) - t428)) < (wrap64 (t427 + 4))
 {
 rw [if_pos c5] at H
 have c5b0 : decide ((wrap64 ((l0.length : Int) - t428)) < (wrap64 (t427 + 4))) = true := decide_eq_true c5
 clear c5
 simp only [Option.some.injEq, Prod.mk.injEq] at H
 obtain ⟨rfl, rfl, rfl⟩ := H
 go_enter Try.func38, Try.ntmps38
 go_wp2_with (first | ((with_reducible refine gate_callee (f := 47) rfl ?_); refine goesL_ (some 11) rfl rfl Try.func47 (by kernel_rfl) rfl #[.slice A0 l0.length c0] rfl (by (try simp only [List.map_toArray, List.map_cons, List.map_nil]); first | done | rfl | (simp only [List.length_drop, List.length_take]; rfl)) ?_; (with_reducible refine (skiarearef03_Get.calls k _ _ l0 t427 t428 t429 _ ?side1 ?side2 A2.out).mono ?_); (case side1 => repeat (first | exact HR0.out | (with_reducible refine Kd.C_alloc ?_ _) | (with_reducible refine Kd.C_drewN ?_ _) | (with_reducible refine Kd.C_drew ?_))); (case side2 => exact HC0.out); rintro e w' ⟨rfl, ⟨nd, rfl⟩⟩; refine ⟨_, rfl, ?_⟩))
 go_ret3
 exact ⟨_, by first | rfl | (simp [errW_none, errW_some] <;> rfl) | (simp [*, errW_none, errW_some] <;> rfl), by first | exact Kd.R_nil _ _ _ _ _ | exact Kd.N_nil _ _ _ _ _ | exact Kd.V_nil _ _ _ _ _ | exact Kd.Q_nil _ _ _ _ _ | exact Kd.S_nil _ _ _ _ _, by repeat (first | (with_reducible first | exact HB.out | apply below_alloc | apply pw_below_drewN | apply below_drew1) | exact HB.out)⟩ }
 {
 rw [if_neg c5] at H
 have c5b0 : decide ((wrap64 ((l0.length : Int) - t428)) < (wrap64 (t427 + 4))) = false := decide_eq_false c5
 clear c5
 by_cases c6 : 0 ≤ t428
 {
 rw [if_pos c6] at H
 have c6b0 := eq_true c6
 have c6b1 : decide (0 ≤ t428) = true := decide_eq_true c6
 clear c6
 by_cases c7 : t428 ≤ (wrap64 (t428 + t427))
 {
 rw [if_pos c7] at H
 have c7b0 := eq_true c7
 have c7b1 : decide (t428 ≤ (wrap64 (t428 + t427))) = true := decide_eq_true c7
 by_cases c8 : (wrap64 (t428 + t427)) ≤ (l0.length : Int)
 {
 rw [if_pos c8] at H
 have c8b0 := eq_true c8
 have c8b1 : decide ((wrap64 (t428 + t427)) ≤ (l0.length : Int)) = true := decide_eq_true c8
 by_cases c9 : ([] : List Int).length + ((l0.take ((wrap64 (t428 + t427)) : Int).toNat).drop (t428 : Int).toNat).length < 140737488355328
 {
 rw [if_pos c9] at H
 have LMc9 := Aside0.mk c9
 clear c9
 obtain ⟨y431, hy431⟩ : ∃ y_ : List Int, y_ = (([] : List Int) ++ ((l0.take ((wrap64 (t428 + t427)) : Int).toNat).drop (t428 : Int).toNat)) := ⟨_, rfl⟩
 replace H : ((skiarearef03_Frame.f k y431).bind fun t434 => (if 0 ≤ (wrap64 ((wrap64 (t428 + t427)) + 4)) then (if (wrap64 ((wrap64 (t428 + t427)) + 4)) ≤ (l0.length : Int) then ((skiarearef03_Same.f t434 (l0.take ((wrap64 ((wrap64 (t428 + t427)) + 4)) : Int).toNat)).bind fun t438 => (if t438 = true then (some (y431, wrap64 ((wrap64 (t428 + t427)) + 4), 0)) else (some (([] : List Int), 0, 6)))) else (none)) else (none))) = some (r1, r2, r3) := by first | (rw [hy431]; with_reducible exact H) | (have H2_ := (Option.bind_some _ _).symm.trans H; rw [hy431]; with_reducible exact H2_) | (have H2_ := (Option.bind_some _ _).symm.trans H; with_reducible exact H2_) | with_reducible exact H | (rw [hy431]; exact H) | exact H
 have Ny431 := Aside0.mk hy431
 clear hy431
 replace H := Option.bind_eq_some_iff.mp H
 obtain ⟨t434, A100, H⟩ := H
 try dsimp only at H
 have A10 := Aside0.mk A100
 clear A100
 obtain ⟨ji11, hji11⟩ : ∃ j_ : Int, (wrap64 ((wrap64 (t428 + t427)) + 4)) = j_ := ⟨_, rfl⟩
 replace H : (if 0 ≤ (ji11) then (if (ji11) ≤ (l0.length : Int) then ((skiarearef03_Same.f t434 (l0.take ((ji11) : Int).toNat)).bind fun t438 => (if t438 = true then (some (y431, ji11, 0)) else (some (([] : List Int), 0, 6)))) else (none)) else (none)) = some (r1, r2, r3) := by first | (rw [hji11] at H; exact H) | (simp only [hji11] at H ⊢; exact H)
 (try rw [hji11] at A2)
 (try rw [hji11] at A10)
 have hji11w : (IntKind.i64.wrap ((wrap64 (t428 + t427)) + 4)) = ji11 := (i64_w _).trans hji11
 by_cases c12 : 0 ≤ (ji11)
 {
 rw [if_pos c12] at H
 have c12b0 := eq_true c12
 have c12b1 : decide (0 ≤ (ji11)) = true := decide_eq_true c12
 clear c12
 by_cases c13 : (ji11) ≤ (l0.length : Int)
 {
 rw [if_pos c13] at H
 have c13b0 := eq_true c13
 have c13b1 : decide ((ji11) ≤ (l0.length : Int)) = true := decide_eq_true c13
 clear c13
 replace H := Option.bind_eq_some_iff.mp H
 obtain ⟨t438, A140, H⟩ := H
 try dsimp only at H
 have A14 := Aside0.mk A140
 clear A140
 by_cases c15 : t438 = true
 {
 subst c15
 have H1 : (some (y431, ji11, 0)) = some (r1, r2, r3) := by rw [if_pos rfl] at H; exact H
 clear H
 have H := H1
 clear H1
 simp only [Option.some.injEq, Prod.mk.injEq] at H
 obtain ⟨rfl, rfl, rfl⟩ := H
 go_enter Try.func38, Try.ntmps38
 try go_wp2_with (first | ((with_reducible refine gate_callee (f := 47) rfl ?_); refine goesL_ (some 11) rfl rfl Try.func47 (by kernel_rfl) rfl #[.slice A0 l0.length c0] rfl (by (try simp only [List.map_toArray, List.map_cons, List.map_nil]); first | done | rfl | (simp only [List.length_drop, List.length_take]; rfl)) ?_; (with_reducible refine (skiarearef03_Get.calls k _ _ l0 t427 t428 t429 _ ?side1 ?side2 A2.out).mono ?_); (case side1 => repeat (first | exact HR0.out | (with_reducible refine Kd.C_alloc ?_ _) | (with_reducible refine Kd.C_drewN ?_ _) | (with_reducible refine Kd.C_drew ?_))); (case side2 => exact HC0.out); rintro e w' ⟨rfl, ⟨nd, rfl⟩⟩; refine ⟨_, rfl, ?_⟩; obtain ⟨i016, hi016, _, hsz16, _⟩ := info_parts info5; obtain ⟨A16, hcut16, hA16, hC16⟩ := print_mid_of (P := Try.prog) (Value.int .u8) 0 35 5 .i64 .i64 Try.underlying35 hi016 hsz16 A0 c0 l0 t428 (wrap64 (t428 + t427)) (of_decide_eq_true (by first | (with_reducible assumption) | assumption)) (by first | omega | exact of_decide_eq_true (by first | (with_reducible assumption) | assumption)) (of_decide_eq_true (by first | (with_reducible assumption) | assumption)) HC0.out; have HR430 := Aside0.mk (Kd.C_of_reads (h1 := fun _ => rfl) (hA16 _ (Kd.reads_of_C HR0.out))); have HC430 := Aside0.mk hC16; clear hA16 hC16 hi016 hsz16) | ((with_reducible refine gate_builtin (b := .append) (xs := #[.const (.slice none 0 0), .tmp 32]) rfl ?_); at_builtin; refine Kd.R_append_rows (Kd.int .u8) (w0 := w) w.heap.size rfl (.const (.slice none 0 0)) (.tmp 32) 35 5 (.int .u8 0) 1 rfl Try.underlying35 info5 rfl (by decide) (by omega) (.slice none 0 0) ([] : List Int) ((l0.take ((wrap64 (t428 + t427)) : Int).toNat).drop (t428 : Int).toNat) _ _ _ (fun _ => True) (fun _ => False) rfl rfl ?aO ?aR (fun _ _ h => h) (fun _ h => h.elim) ?aF ?aB ?aS ?aL ?_; (case aR => first | (rw [← show ((l0.take ((wrap64 (t428 + t427)) : Int).toNat).drop (t428 : Int).toNat).length = ((wrap64 (t428 + t427)).toNat - t428.toNat) from (by rw [List.length_drop, List.length_take]; have h_ : ((wrap64 (t428 + t427)) : Int) ≤ (l0.length : Int) := of_decide_eq_true (by first | (with_reducible assumption) | assumption); omega)]; repeat (first | exact HR430.out | (with_reducible refine Kd.C_alloc ?_ _) | (with_reducible refine Kd.C_drewN ?_ _) | (with_reducible refine Kd.C_drew ?_))) | (repeat (first | exact HR430.out | (with_reducible refine Kd.C_alloc ?_ _) | (with_reducible refine Kd.C_drewN ?_ _) | (with_reducible refine Kd.C_drew ?_)))); (case aB => exact (by repeat (first | (with_reducible first | exact HB.out | apply below_alloc | apply pw_below_drewN | apply below_drew1) | exact HB.out))); (case aF => exact (fun _ _ => trivial)); (case aO => exact ((Kd.R_nil _ _ _ _ (fun _ => True)))); (case aS => exact (below_size (by repeat (first | (with_reducible first | exact HB.out | apply below_alloc | apply pw_below_drewN | apply below_drew1) | exact HB.out)))); (case aL => have := LMc9.out; have hlx_ := (show ((l0.take ((wrap64 (t428 + t427)) : Int).toNat).drop (t428 : Int).toNat).length = ((wrap64 (t428 + t427)).toNat - t428.toNat) from (by rw [List.length_drop, List.length_take]; have h_ : ((wrap64 (t428 + t427)) : Int) ≤ (l0.length : Int) := of_decide_eq_true (by first | (with_reducible assumption) | assumption); omega)); omega); intro v432 w17 ho hb hg hat; rw [← Ny431.out] at ho; have n0_ := Aside0.mk (hb); have n1_ := Aside0.mk (ho); clear HB; have HB := n0_; have HO433 := n1_; clear n0_ n1_; clear ho hb hg hat))
 have n0_ := Aside0.mk (Kd.R_drew HO433.out)
 have n1_ := Aside0.mk (below_drew1 HB.out)
 clear HO433
 clear HB
 have HO433 := n0_
 have HB := n1_
 clear n0_ n1_
 obtain ⟨i019, hi019, _, hsz19, _⟩ := info_parts info5
 obtain ⟨hcut19, hA19, hC19⟩ := print_take_of (P := Try.prog) (Value.int .u8) 0 35 5 .i64 Try.underlying35 hi019 hsz19 A0 c0 l0 (ji11) (of_decide_eq_true (by first | (with_reducible assumption) | assumption)) (of_decide_eq_true (by first | (with_reducible assumption) | assumption)) HC0.out
 have HR437 := Aside0.mk (Kd.C_of_reads (h1 := fun _ => rfl) (hA19 _ (Kd.reads_of_C HR0.out)))
 have HC437 := Aside0.mk hC19
 clear hA19 hC19 hi019 hsz19
 obtain ⟨Ao20, co20, eo20⟩ := Kd.R_slice HO433.out
 (first | subst eo20 | (injection eo20 with f1_ f2_ f3_; have f4_ := f1_.symm; have f5_ := f3_.symm; clear f1_ f2_ f3_; subst f4_; subst f5_))
 refine start_ (n := 10) (S := fun w' => True) (ds := []) #[false, false, false, false, false, false, false, false, false, false] (by kernel_rfl) rfl rfl trivial (fun hHeld => ?_); refine with_tabW skiarearef03_Unframe.tab9 skiarearef03_Unframe.bits9 (fun HT_ HW_ => ?_)
 generalize w17.drew = w18 at HO433 HB HR437 hHeld ⊢
 refine pure_ (i := 0) (N := some 34) (v := ?_) (a' := ?_) #[true, false, false, false, false, false, false, false, false, false] rfl rfl (any_of HT_.out (by kernel_rfl)) (fun _ _ _ h => h) (Or.inl ⟨by rfl, ?_⟩) ?_ ?_
 rotate_left
 {
 intro w'
 go_simp
 with_reducible rfl }
 rotate_left
 {
 simp only [Act.put, List.setIfInBounds_toArray, List.set_cons_zero, List.set_cons_succ, i64_w, i32_w, IntKind.wrap_u8, IntKind.wrap_u32]
 rfl }
 refine pure_ (i := 2) (N := some 36) (v := ?_) (a' := ?_) #[true, false, true, false, false, false, false, false, false, false] rfl rfl (any_of HT_.out (by kernel_rfl)) (fun _ _ _ h => h) (Or.inl ⟨by rfl, ?_⟩) ?_ ?_
 rotate_left
 {
 intro w'
 go_simp
 with_reducible rfl }
 rotate_left
 {
 simp only [Act.put, List.setIfInBounds_toArray, List.set_cons_zero, List.set_cons_succ, i64_w, i32_w, IntKind.wrap_u8, IntKind.wrap_u32]
 rfl }
 refine pure_ (i := 3) (N := some 37) (v := ?_) (a' := ?_) #[true, false, true, true, false, false, false, false, false, false] rfl rfl (any_of HT_.out (by kernel_rfl)) (fun _ _ _ h => h) (Or.inl ⟨by rfl, ?_⟩) ?_ ?_
 rotate_left
 {
 intro w'
 go_simp
 with_reducible rfl }
 rotate_left
 {
 simp only [Act.put, List.setIfInBounds_toArray, List.set_cons_zero, List.set_cons_succ, i64_w, i32_w, IntKind.wrap_u8, IntKind.wrap_u32]
 rfl }
 refine pure_ (i := 4) (N := some 38) (v := ?_) (a' := ?_) #[true, false, true, true, true, false, false, false, false, false] rfl rfl (any_of HT_.out (by kernel_rfl)) (fun _ _ _ h => h) (Or.inl ⟨by rfl, ?_⟩) ?_ ?_
 rotate_left
 {
 intro w'
 go_simp
 with_reducible rfl }
 rotate_left
 {
 simp only [Act.put, List.setIfInBounds_toArray, List.set_cons_zero, List.set_cons_succ, i64_w, i32_w, IntKind.wrap_u8, IntKind.wrap_u32]
 rfl }
 refine pure_ (i := 5) (N := some 39) (v := ?_) (a' := ?_) #[true, false, true, true, true, true, false, false, false, false] rfl rfl (any_of HT_.out (by kernel_rfl)) (fun _ _ _ h => h) (Or.inl ⟨by rfl, ?_⟩) ?_ ?_
 rotate_left
 {
 intro w'
 go_simp
 with_reducible rfl }
 rotate_left
 {
 simp only [Act.put, List.setIfInBounds_toArray, List.set_cons_zero, List.set_cons_succ, i64_w, i32_w, IntKind.wrap_u8, IntKind.wrap_u32]
 rfl }
 refine pure_ (i := 6) (N := some 40) (v := ?_) (a' := ?_) #[true, false, true, true, true, true, true, false, false, false] rfl rfl (any_of HT_.out (by kernel_rfl)) (fun _ _ _ h => h) (Or.inl ⟨by rfl, ?_⟩) ?_ ?_
 rotate_left
 {
 intro w'
 go_simp
 with_reducible rfl }
 rotate_left
 {
 simp only [Act.put, List.setIfInBounds_toArray, List.set_cons_zero, List.set_cons_succ, i64_w, i32_w, IntKind.wrap_u8, IntKind.wrap_u32]
 rfl }
 refine pure_ (i := 7) (N := some 41) (v := ?_) (a' := ?_) #[true, false, true, true, true, true, true, true, false, false] rfl rfl (any_of HT_.out (by kernel_rfl)) (fun _ _ _ h => h) (Or.inl ⟨by rfl, ?_⟩) ?_ ?_
 rotate_left
 {
 intro w'
 go_simp
 with_reducible rfl }
 rotate_left
 {
 simp only [Act.put, List.setIfInBounds_toArray, List.set_cons_zero, List.set_cons_succ, i64_w, i32_w, IntKind.wrap_u8, IntKind.wrap_u32]
 rfl }
 refine one_ (i := 1) (N := some 35) #[true, true, true, true, true, true, true, true, false, false] rfl rfl (one_of HT_.out (by kernel_rfl)) (by decide) (fun K hK => ?_)
 refine goes_ Try.func36 (by kernel_rfl) rfl #[.slice Ao20 y431.length co20] (by rfl) rfl rfl (by (try simp only [List.map_toArray, List.map_cons, List.map_nil]); first | done | rfl | (simp only [List.length_drop, List.length_take]; rfl)) ?_
 with_reducible refine (skiarearef03_Frame.calls k _ _ y431 t434 _ ?side1 ?side2 A10.out).mono ?_
 (case side1 => repeat (first | exact (Kd.R_reads' HO433.out).2.2 | (with_reducible refine Kd.C_alloc ?_ _) | (with_reducible refine Kd.C_drewN ?_ _) | (with_reducible refine Kd.C_drew ?_)))
 (case side2 => exact (Kd.R_reads' HO433.out).2.1)
 rintro e w21 ⟨v435, rfl, ho0, hb⟩
 refine ⟨_, rfl, ?_⟩
 have n0_ := Aside0.mk (Kd.R_elder' (by (with_reducible repeat (first | apply Kd.R_alloc | apply Kd.R_drewN | apply Kd.R_drew)); exact HO433.out) (Kd.R_base ho0) hb)
 have n1_ := Aside0.mk (Kd.R_lower (Kd.R_new' ho0 (Kd.R_lt (by (with_reducible repeat (first | apply Kd.R_alloc | apply Kd.R_drewN | apply Kd.R_drew)); exact HO433.out))) (below_size (by repeat (first | (with_reducible first | exact HB.out | apply below_alloc | apply pw_below_drewN | apply below_drew1) | exact HB.out))))
 have n2_ := Aside0.mk (below_step (by repeat (first | (with_reducible first | exact HB.out | apply below_alloc | apply pw_below_drewN | apply below_drew1) | exact HB.out)) hb)
 clear HO433
 clear HB
 have HO433 := n0_
 have HO436 := n1_
 have HB := n2_
 clear n0_ n1_ n2_
 (try clear hb)
 (try clear hb2)
 (try clear hk)
 (try clear hi)
 (try clear ho0)
 obtain ⟨Ao22, co22, eo22⟩ := Kd.R_slice HO436.out
 (first | subst eo22 | (injection eo22 with f1_ f2_ f3_; have f4_ := f1_.symm; have f5_ := f3_.symm; clear f1_ f2_ f3_; subst f4_; subst f5_))
 refine hK.out _ _ trivial (fun hHeld => ?_)
 clear hK K
 refine norm_ (a' := ?_) ?_ ?_
 rotate_left
 {
 show Act.put _ (some 35) _ = _
 simp only [Act.put, List.setIfInBounds_toArray, List.set_cons_zero, List.set_cons_succ, i64_w, i32_w, IntKind.wrap_u8, IntKind.wrap_u32]
 rfl }
 refine one_ (i := 8) (N := some 42) #[true, true, true, true, true, true, true, true, true, false] rfl rfl (one_of HT_.out (by kernel_rfl)) (by decide) (fun K hK => ?_)
 refine goes_ Try.func18 (by kernel_rfl) rfl #[.slice Ao22 t434.length co22, .slice A0 (l0.take ((ji11) : Int).toNat).length c0] (by rfl) rfl rfl (by (try simp only [List.map_toArray, List.map_cons, List.map_nil]); first | done | (rw [show (l0.take ((ji11) : Int).toNat).length = (ji11).toNat from (by rw [List.length_take]; have h_ : ((ji11) : Int) ≤ (l0.length : Int) := of_decide_eq_true (by first | (with_reducible assumption) | assumption); omega)] <;> rfl) | (simp only [hji11]; rfl) | rfl | (simp only [List.length_drop, List.length_take]; rfl)) ?_
 with_reducible refine (skiarearef03_Same.calls _ _ t434 _ _ (l0.take ((ji11) : Int).toNat) true _ ?side1 ?side2 ?side3 ?side4 A14.out).mono ?_
 (case side1 => repeat (first | exact (Kd.R_reads' HO436.out).2.2 | (with_reducible refine Kd.C_alloc ?_ _) | (with_reducible refine Kd.C_drewN ?_ _) | (with_reducible refine Kd.C_drew ?_)))
 (case side2 => exact (Kd.R_reads' HO436.out).2.1)
 (case side3 => repeat (first | exact (Kd.C_below HR437.out HB.out) | (with_reducible refine Kd.C_alloc ?_ _) | (with_reducible refine Kd.C_drewN ?_ _) | (with_reducible refine Kd.C_drew ?_)))
 (case side4 => exact HC437.out)
 rintro e w' ⟨rfl, ⟨nd, rfl⟩⟩
 refine ⟨_, rfl, ?_⟩
 refine hK.out _ _ trivial (fun hHeld => ?_)
 clear hK K
 refine norm_ (a' := ?_) ?_ ?_
 rotate_left
 {
 show Act.put _ (some 42) _ = _
 simp only [Act.put, List.setIfInBounds_toArray, List.set_cons_zero, List.set_cons_succ, i64_w, i32_w, IntKind.wrap_u8, IntKind.wrap_u32]
 rfl }
 refine pure_ (i := 9) (N := some 43) (v := ?_) (a' := ?_) #[true, true, true, true, true, true, true, true, true, true] rfl rfl (any_of HT_.out (by kernel_rfl)) (fun _ _ _ h => h) (Or.inl ⟨by rfl, ?_⟩) ?_ ?_
 rotate_left
 {
 intro w'
 go_simp
 with_reducible rfl }
 rotate_left
 {
 simp only [Act.put, List.setIfInBounds_toArray, List.set_cons_zero, List.set_cons_succ, i64_w, i32_w, IntKind.wrap_u8, IntKind.wrap_u32]
 rfl }
 refine done_ (done_of HT_.out (by kernel_rfl)) ?_
 try go_wp2
 go_ret3
 exact ⟨_, by first | rfl | (simp [errW_none, errW_some] <;> rfl) | (simp only [← hji11]; first | rfl | (simp [errW_none, errW_some] <;> rfl)) | (simp [*, errW_none, errW_some] <;> rfl), by (with_reducible repeat (first | apply Kd.R_alloc | apply Kd.R_drewN | apply Kd.R_drew)); exact Kd.R_mono HO433.out (fun _ hk => trivial), by repeat (first | (with_reducible first | exact HB.out | apply below_alloc | apply pw_below_drewN | apply below_drew1) | exact HB.out)⟩ }
 {
 replace c15 := Bool.eq_false_iff.mpr c15
 subst c15
 have H1 : (some (([] : List Int), 0, 6)) = some (r1, r2, r3) := by rw [if_neg (show ¬ (false = true) by decide)] at H; exact H
 clear H
 have H := H1
 clear H1
 simp only [Option.some.injEq, Prod.mk.injEq] at H
 obtain ⟨rfl, rfl, rfl⟩ := H
 go_enter Try.func38, Try.ntmps38
 try go_wp2_with (first | ((with_reducible refine gate_callee (f := 47) rfl ?_); refine goesL_ (some 11) rfl rfl Try.func47 (by kernel_rfl) rfl #[.slice A0 l0.length c0] rfl (by (try simp only [List.map_toArray, List.map_cons, List.map_nil]); first | done | rfl | (simp only [List.length_drop, List.length_take]; rfl)) ?_; (with_reducible refine (skiarearef03_Get.calls k _ _ l0 t427 t428 t429 _ ?side1 ?side2 A2.out).mono ?_); (case side1 => repeat (first | exact HR0.out | (with_reducible refine Kd.C_alloc ?_ _) | (with_reducible refine Kd.C_drewN ?_ _) | (with_reducible refine Kd.C_drew ?_))); (case side2 => exact HC0.out); rintro e w' ⟨rfl, ⟨nd, rfl⟩⟩; refine ⟨_, rfl, ?_⟩; obtain ⟨i023, hi023, _, hsz23, _⟩ := info_parts info5; obtain ⟨A23, hcut23, hA23, hC23⟩ := print_mid_of (P := Try.prog) (Value.int .u8) 0 35 5 .i64 .i64 Try.underlying35 hi023 hsz23 A0 c0 l0 t428 (wrap64 (t428 + t427)) (of_decide_eq_true (by first | (with_reducible assumption) | assumption)) (by first | omega | exact of_decide_eq_true (by first | (with_reducible assumption) | assumption)) (of_decide_eq_true (by first | (with_reducible assumption) | assumption)) HC0.out; have HR430 := Aside0.mk (Kd.C_of_reads (h1 := fun _ => rfl) (hA23 _ (Kd.reads_of_C HR0.out))); have HC430 := Aside0.mk hC23; clear hA23 hC23 hi023 hsz23) | ((with_reducible refine gate_builtin (b := .append) (xs := #[.const (.slice none 0 0), .tmp 32]) rfl ?_); at_builtin; refine Kd.R_append_rows (Kd.int .u8) (w0 := w) w.heap.size rfl (.const (.slice none 0 0)) (.tmp 32) 35 5 (.int .u8 0) 1 rfl Try.underlying35 info5 rfl (by decide) (by omega) (.slice none 0 0) ([] : List Int) ((l0.take ((wrap64 (t428 + t427)) : Int).toNat).drop (t428 : Int).toNat) _ _ _ (fun _ => True) (fun _ => False) rfl rfl ?aO ?aR (fun _ _ h => h) (fun _ h => h.elim) ?aF ?aB ?aS ?aL ?_; (case aR => first | (rw [← show ((l0.take ((wrap64 (t428 + t427)) : Int).toNat).drop (t428 : Int).toNat).length = ((wrap64 (t428 + t427)).toNat - t428.toNat) from (by rw [List.length_drop, List.length_take]; have h_ : ((wrap64 (t428 + t427)) : Int) ≤ (l0.length : Int) := of_decide_eq_true (by first | (with_reducible assumption) | assumption); omega)]; repeat (first | exact HR430.out | (with_reducible refine Kd.C_alloc ?_ _) | (with_reducible refine Kd.C_drewN ?_ _) | (with_reducible refine Kd.C_drew ?_))) | (repeat (first | exact HR430.out | (with_reducible refine Kd.C_alloc ?_ _) | (with_reducible refine Kd.C_drewN ?_ _) | (with_reducible refine Kd.C_drew ?_)))); (case aB => exact (by repeat (first | (with_reducible first | exact HB.out | apply below_alloc | apply pw_below_drewN | apply below_drew1) | exact HB.out))); (case aF => exact (fun _ _ => trivial)); (case aO => exact ((Kd.R_nil _ _ _ _ (fun _ => True)))); (case aS => exact (below_size (by repeat (first | (with_reducible first | exact HB.out | apply below_alloc | apply pw_below_drewN | apply below_drew1) | exact HB.out)))); (case aL => have := LMc9.out; have hlx_ := (show ((l0.take ((wrap64 (t428 + t427)) : Int).toNat).drop (t428 : Int).toNat).length = ((wrap64 (t428 + t427)).toNat - t428.toNat) from (by rw [List.length_drop, List.length_take]; have h_ : ((wrap64 (t428 + t427)) : Int) ≤ (l0.length : Int) := of_decide_eq_true (by first | (with_reducible assumption) | assumption); omega)); omega); intro v432 w24 ho hb hg hat; rw [← Ny431.out] at ho; have n0_ := Aside0.mk (hb); have n1_ := Aside0.mk (ho); clear HB; have HB := n0_; have HO433 := n1_; clear n0_ n1_; clear ho hb hg hat))
 have n0_ := Aside0.mk (Kd.R_drew HO433.out)
 have n1_ := Aside0.mk (below_drew1 HB.out)
 clear HO433
 clear HB
 have HO433 := n0_
 have HB := n1_
 clear n0_ n1_
 obtain ⟨i026, hi026, _, hsz26, _⟩ := info_parts info5
 obtain ⟨hcut26, hA26, hC26⟩ := print_take_of (P := Try.prog) (Value.int .u8) 0 35 5 .i64 Try.underlying35 hi026 hsz26 A0 c0 l0 (ji11) (of_decide_eq_true (by first | (with_reducible assumption) | assumption)) (of_decide_eq_true (by first | (with_reducible assumption) | assumption)) HC0.out
 have HR437 := Aside0.mk (Kd.C_of_reads (h1 := fun _ => rfl) (hA26 _ (Kd.reads_of_C HR0.out)))
 have HC437 := Aside0.mk hC26
 clear hA26 hC26 hi026 hsz26
 obtain ⟨Ao27, co27, eo27⟩ := Kd.R_slice HO433.out
 (first | subst eo27 | (injection eo27 with f1_ f2_ f3_; have f4_ := f1_.symm; have f5_ := f3_.symm; clear f1_ f2_ f3_; subst f4_; subst f5_))
 refine start_ (n := 10) (S := fun w' => True) (ds := []) #[false, false, false, false, false, false, false, false, false, false] (by kernel_rfl) rfl rfl trivial (fun hHeld => ?_); refine with_tabW skiarearef03_Unframe.tab9 skiarearef03_Unframe.bits9 (fun HT_ HW_ => ?_)
 generalize w24.drew = w25 at HO433 HB HR437 hHeld ⊢
 refine pure_ (i := 0) (N := some 34) (v := ?_) (a' := ?_) #[true, false, false, false, false, false, false, false, false, false] rfl rfl (any_of HT_.out (by kernel_rfl)) (fun _ _ _ h => h) (Or.inl ⟨by rfl, ?_⟩) ?_ ?_
 rotate_left
 {
 intro w'
 go_simp
 with_reducible rfl }
 rotate_left
 {
 simp only [Act.put, List.setIfInBounds_toArray, List.set_cons_zero, List.set_cons_succ, i64_w, i32_w, IntKind.wrap_u8, IntKind.wrap_u32]
 rfl }
 refine pure_ (i := 2) (N := some 36) (v := ?_) (a' := ?_) #[true, false, true, false, false, false, false, false, false, false] rfl rfl (any_of HT_.out (by kernel_rfl)) (fun _ _ _ h => h) (Or.inl ⟨by rfl, ?_⟩) ?_ ?_
 rotate_left
 {
 intro w'
 go_simp
 with_reducible rfl }
 rotate_left
 {
 simp only [Act.put, List.setIfInBounds_toArray, List.set_cons_zero, List.set_cons_succ, i64_w, i32_w, IntKind.wrap_u8, IntKind.wrap_u32]
 rfl }
 refine pure_ (i := 3) (N := some 37) (v := ?_) (a' := ?_) #[true, false, true, true, false, false, false, false, false, false] rfl rfl (any_of HT_.out (by kernel_rfl)) (fun _ _ _ h => h) (Or.inl ⟨by rfl, ?_⟩) ?_ ?_
 rotate_left
 {
 intro w'
 go_simp
 with_reducible rfl }
 rotate_left
 {
 simp only [Act.put, List.setIfInBounds_toArray, List.set_cons_zero, List.set_cons_succ, i64_w, i32_w, IntKind.wrap_u8, IntKind.wrap_u32]
 rfl }
 refine pure_ (i := 4) (N := some 38) (v := ?_) (a' := ?_) #[true, false, true, true, true, false, false, false, false, false] rfl rfl (any_of HT_.out (by kernel_rfl)) (fun _ _ _ h => h) (Or.inl ⟨by rfl, ?_⟩) ?_ ?_
 rotate_left
 {
 intro w'
 go_simp
 with_reducible rfl }
 rotate_left
 {
 simp only [Act.put, List.setIfInBounds_toArray, List.set_cons_zero, List.set_cons_succ, i64_w, i32_w, IntKind.wrap_u8, IntKind.wrap_u32]
 rfl }
 refine pure_ (i := 5) (N := some 39) (v := ?_) (a' := ?_) #[true, false, true, true, true, true, false, false, false, false] rfl rfl (any_of HT_.out (by kernel_rfl)) (fun _ _ _ h => h) (Or.inl ⟨by rfl, ?_⟩) ?_ ?_
 rotate_left
 {
 intro w'
 go_simp
 with_reducible rfl }
 rotate_left
 {
 simp only [Act.put, List.setIfInBounds_toArray, List.set_cons_zero, List.set_cons_succ, i64_w, i32_w, IntKind.wrap_u8, IntKind.wrap_u32]
 rfl }
 refine pure_ (i := 6) (N := some 40) (v := ?_) (a' := ?_) #[true, false, true, true, true, true, true, false, false, false] rfl rfl (any_of HT_.out (by kernel_rfl)) (fun _ _ _ h => h) (Or.inl ⟨by rfl, ?_⟩) ?_ ?_
 rotate_left
 {
 intro w'
 go_simp
 with_reducible rfl }
 rotate_left
 {
 simp only [Act.put, List.setIfInBounds_toArray, List.set_cons_zero, List.set_cons_succ, i64_w, i32_w, IntKind.wrap_u8, IntKind.wrap_u32]
 rfl }
 refine pure_ (i := 7) (N := some 41) (v := ?_) (a' := ?_) #[true, false, true, true, true, true, true, true, false, false] rfl rfl (any_of HT_.out (by kernel_rfl)) (fun _ _ _ h => h) (Or.inl ⟨by rfl, ?_⟩) ?_ ?_
 rotate_left
 {
 intro w'
 go_simp
 with_reducible rfl }
 rotate_left
 {
 simp only [Act.put, List.setIfInBounds_toArray, List.set_cons_zero, List.set_cons_succ, i64_w, i32_w, IntKind.wrap_u8, IntKind.wrap_u32]
 rfl }
 refine one_ (i := 1) (N := some 35) #[true, true, true, true, true, true, true, true, false, false] rfl rfl (one_of HT_.out (by kernel_rfl)) (by decide) (fun K hK => ?_)
 refine goes_ Try.func36 (by kernel_rfl) rfl #[.slice Ao27 y431.length co27] (by rfl) rfl rfl (by (try simp only [List.map_toArray, List.map_cons, List.map_nil]); first | done | rfl | (simp only [List.length_drop, List.length_take]; rfl)) ?_
 with_reducible refine (skiarearef03_Frame.calls k _ _ y431 t434 _ ?side1 ?side2 A10.out).mono ?_
 (case side1 => repeat (first | exact (Kd.R_reads' HO433.out).2.2 | (with_reducible refine Kd.C_alloc ?_ _) | (with_reducible refine Kd.C_drewN ?_ _) | (with_reducible refine Kd.C_drew ?_)))
 (case side2 => exact (Kd.R_reads' HO433.out).2.1)
 rintro e w28 ⟨v435, rfl, ho0, hb⟩
 refine ⟨_, rfl, ?_⟩
 have n0_ := Aside0.mk (Kd.R_elder' (by (with_reducible repeat (first | apply Kd.R_alloc | apply Kd.R_drewN | apply Kd.R_drew)); exact HO433.out) (Kd.R_base ho0) hb)
 have n1_ := Aside0.mk (Kd.R_lower (Kd.R_new' ho0 (Kd.R_lt (by (with_reducible repeat (first | apply Kd.R_alloc | apply Kd.R_drewN | apply Kd.R_drew)); exact HO433.out))) (below_size (by repeat (first | (with_reducible first | exact HB.out | apply below_alloc | apply pw_below_drewN | apply below_drew1) | exact HB.out))))
 have n2_ := Aside0.mk (below_step (by repeat (first | (with_reducible first | exact HB.out | apply below_alloc | apply pw_below_drewN | apply below_drew1) | exact HB.out)) hb)
 clear HO433
 clear HB
 have HO433 := n0_
 have HO436 := n1_
 have HB := n2_
 clear n0_ n1_ n2_
 (try clear hb)
 (try clear hb2)
 (try clear hk)
 (try clear hi)
 (try clear ho0)
 obtain ⟨Ao29, co29, eo29⟩ := Kd.R_slice HO436.out
 (first | subst eo29 | (injection eo29 with f1_ f2_ f3_; have f4_ := f1_.symm; have f5_ := f3_.symm; clear f1_ f2_ f3_; subst f4_; subst f5_))
 refine hK.out _ _ trivial (fun hHeld => ?_)
 clear hK K
 refine norm_ (a' := ?_) ?_ ?_
 rotate_left
 {
 show Act.put _ (some 35) _ = _
 simp only [Act.put, List.setIfInBounds_toArray, List.set_cons_zero, List.set_cons_succ, i64_w, i32_w, IntKind.wrap_u8, IntKind.wrap_u32]
 rfl }
 refine one_ (i := 8) (N := some 42) #[true, true, true, true, true, true, true, true, true, false] rfl rfl (one_of HT_.out (by kernel_rfl)) (by decide) (fun K hK => ?_)
 refine goes_ Try.func18 (by kernel_rfl) rfl #[.slice Ao29 t434.length co29, .slice A0 (l0.take ((ji11) : Int).toNat).length c0] (by rfl) rfl rfl (by (try simp only [List.map_toArray, List.map_cons, List.map_nil]); first | done | (rw [show (l0.take ((ji11) : Int).toNat).length = (ji11).toNat from (by rw [List.length_take]; have h_ : ((ji11) : Int) ≤ (l0.length : Int) := of_decide_eq_true (by first | (with_reducible assumption) | assumption); omega)] <;> rfl) | (simp only [hji11]; rfl) | rfl | (simp only [List.length_drop, List.length_take]; rfl)) ?_
 with_reducible refine (skiarearef03_Same.calls _ _ t434 _ _ (l0.take ((ji11) : Int).toNat) false _ ?side1 ?side2 ?side3 ?side4 A14.out).mono ?_
 (case side1 => repeat (first | exact (Kd.R_reads' HO436.out).2.2 | (with_reducible refine Kd.C_alloc ?_ _) | (with_reducible refine Kd.C_drewN ?_ _) | (with_reducible refine Kd.C_drew ?_)))
 (case side2 => exact (Kd.R_reads' HO436.out).2.1)
 (case side3 => repeat (first | exact (Kd.C_below HR437.out HB.out) | (with_reducible refine Kd.C_alloc ?_ _) | (with_reducible refine Kd.C_drewN ?_ _) | (with_reducible refine Kd.C_drew ?_)))
 (case side4 => exact HC437.out)
 rintro e w' ⟨rfl, ⟨nd, rfl⟩⟩
 refine ⟨_, rfl, ?_⟩
 refine hK.out _ _ trivial (fun hHeld => ?_)
 clear hK K
 refine norm_ (a' := ?_) ?_ ?_
 rotate_left
 {
 show Act.put _ (some 42) _ = _
 simp only [Act.put, List.setIfInBounds_toArray, List.set_cons_zero, List.set_cons_succ, i64_w, i32_w, IntKind.wrap_u8, IntKind.wrap_u32]
 rfl }
 refine pure_ (i := 9) (N := some 43) (v := ?_) (a' := ?_) #[true, true, true, true, true, true, true, true, true, true] rfl rfl (any_of HT_.out (by kernel_rfl)) (fun _ _ _ h => h) (Or.inl ⟨by rfl, ?_⟩) ?_ ?_
 rotate_left
 {
 intro w'
 go_simp
 with_reducible rfl }
 rotate_left
 {
 simp only [Act.put, List.setIfInBounds_toArray, List.set_cons_zero, List.set_cons_succ, i64_w, i32_w, IntKind.wrap_u8, IntKind.wrap_u32]
 rfl }
 refine done_ (done_of HT_.out (by kernel_rfl)) ?_
 try go_wp2
 go_ret3
 exact ⟨_, by first | rfl | (simp [errW_none, errW_some] <;> rfl) | (simp only [← hji11]; first | rfl | (simp [errW_none, errW_some] <;> rfl)) | (simp [*, errW_none, errW_some] <;> rfl), by first | exact Kd.R_nil _ _ _ _ _ | exact Kd.N_nil _ _ _ _ _ | exact Kd.V_nil _ _ _ _ _ | exact Kd.Q_nil _ _ _ _ _ | exact Kd.S_nil _ _ _ _ _, by repeat (first | (with_reducible first | exact HB.out | apply below_alloc | apply pw_below_drewN | apply below_drew1) | exact HB.out)⟩ } }
 {
 rw [if_neg c13] at H
 exact absurd H (by simp) } }
 {
 rw [if_neg c12] at H
 exact absurd H (by simp) } }
 {
 rw [if_neg c9] at H
 exact absurd H (by simp) } }
 {
 rw [if_neg c8] at H
 exact absurd H (by simp) } }
 {
 rw [if_neg c7] at H
 exact absurd H (by simp) } }
 {
 rw [if_neg c6] at H
 exact absurd H (by simp) } } } }
  {
 rw [if_neg c3] at H
 have c3b0 : (t429 == 0) = false := beq_eq_false_iff_ne.mpr c3
 have c3b1 : (t429 != 0) = true := bne_iff_ne.mpr c3
 simp only [Option.some.injEq, Prod.mk.injEq] at H
 obtain ⟨rfl, rfl, rfl⟩ := H
 go_enter Try.func38, Try.ntmps38
 go_wp2_with (first | ((with_reducible refine gate_callee (f := 47) rfl ?_); refine goesL_ (some 11) rfl rfl Try.func47 (by kernel_rfl) rfl #[.slice A0 l0.length c0] rfl (by (try simp only [List.map_toArray, List.map_cons, List.map_nil]); first | done | rfl | (simp only [List.length_drop, List.length_take]; rfl)) ?_; (with_reducible refine (skiarearef03_Get.calls k _ _ l0 t427 t428 t429 _ ?side1 ?side2 A2.out).mono ?_); (case side1 => repeat (first | exact HR0.out | (with_reducible refine Kd.C_alloc ?_ _) | (with_reducible refine Kd.C_drewN ?_ _) | (with_reducible refine Kd.C_drew ?_))); (case side2 => exact HC0.out); rintro e w' ⟨rfl, ⟨nd, rfl⟩⟩; refine ⟨_, rfl, ?_⟩))
 go_ret3
 exact ⟨_, by first | rfl | (simp [errW_none, errW_some] <;> rfl) | (simp [*, errW_none, errW_some] <;> rfl), by first | exact Kd.R_nil _ _ _ _ _ | exact Kd.N_nil _ _ _ _ _ | exact Kd.V_nil _ _ _ _ _ | exact Kd.Q_nil _ _ _ _ _ | exact Kd.S_nil _ _ _ _ _, by repeat (first | (with_reducible first | exact HB.out | apply below_alloc | apply pw_below_drewN | apply below_drew1) | exact HB.out)⟩ }
end Go.Proofs.Ytdlinojgmllkoaa.Q
