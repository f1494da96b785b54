-- Printed by a program of this session (wip/pp), out of Lean's print of the loaded functions. Lean checks it.
import Derived.Test.YtohjkgboehnamaaQx0
import Derived.Test.YtohjkgboehnamaaQx15
import Derived.Test.YtohjkgboehnamaaQx24
import Derived.Test.YtohjkgboehnamaaQx30
import Derived.Test.YtohjkgboehnamaaQx31
import Derived.Test.YtohjkgboehnamaaQHLast
namespace Go.Proofs.Ytohjkgboehnamaa.Q
open Go.RowKit Go.Proofs.YtohjkgboehnamaaW.PrintWords Go.Proofs.YtohjkgboehnamaaW.PrintLast Go.Proofs.YtohjkgboehnamaaW.PrintMore
attribute [local go_sem] max2_int min2_int max_two min_two max_three min_three max_four min_four   -- for this text's walks alone
set_option linter.unusedVariables false
set_option linter.unusedSimpArgs false

attribute [local irreducible] Calls journal_Last.f journal_Read.f journal_Whole.f journal_Write.f skiarealaw29_alive.f skiarealaw29_begin.f skiarearef29_Same.f
/-! ### skiarealaw29_JournalDrops: function 4 -/
mutual
def skiarealaw29_JournalDrops.j0 : Nat → List (S39) → Int → List Int → Bool → Option (Bool)
  | 0, _, _, _, _ => none
  | k + 1, x0, x1, x5, x31 => if x31 = true then (some true) else (if (wrap64 ((x0.length : Int) - 1)) = 0 then (none) else ((skiarealaw29_begin.f k x0 (Int.tmod (wrap64 (x1)) (wrap64 ((x0.length : Int) - 1)))).bind fun t297 => ((skiarealaw29_begin.f k x0 (wrap64 ((Int.tmod (wrap64 (x1)) (wrap64 ((x0.length : Int) - 1))) + 1))).bind fun t298 => (if t297 ≥ t298 then (skiarealaw29_JournalDrops.j1 k x0 x5 (Int.tmod (wrap64 (x1)) (wrap64 ((x0.length : Int) - 1))) t297 t298 true) else (skiarealaw29_JournalDrops.j1 k x0 x5 (Int.tmod (wrap64 (x1)) (wrap64 ((x0.length : Int) - 1))) t297 t298 (decide (t298 > (x5.length : Int))))))))
def skiarealaw29_JournalDrops.j1 : Nat → List (S39) → List Int → Int → Int → Int → Bool → Option (Bool)
  | 0, _, _, _, _, _, _ => none
  | k + 1, x0, x5, x7, x8, x9, x53 => if x53 = true then (some false) else (if 0 ≤ x8 then (if x8 ≤ (x5.length : Int) then ((journal_Last.f k (x5.take (x8 : Int).toNat)).bind fun t303 => (if 0 ≤ x9 then (if x9 ≤ (x5.length : Int) then ((journal_Last.f k (x5.take (x9 : Int).toNat)).bind fun t308 => (if t303 = t308 then (some true) else ((some (([] : List Int) : List Int)).bind fun y309 => ((some (x5.take (x8 : Int).toNat : List Int)).bind fun y312 => (if y309.length + y312.length < 140737488355328 then ((some (y309 ++ y312 : List Int)).bind fun y316 => ((some (x5.drop (x9 : Int).toNat : List Int)).bind fun y319 => (if y316.length + y319.length < 140737488355328 then ((some (y316 ++ y319 : List Int)).bind fun y323 => ((journal_Read.f k y323).bind fun bt326 => (if bt326.2 = x8 then (if 0 ≤ x7 then (if x7 ≤ (x0.length : Int) then ((skiarearef29_Same.f k bt326.1 (x0.take (x7 : Int).toNat)).bind fun t334 => (if t334 = true then ((journal_Whole.f k y323).bind fun t335 => (some (!t335))) else (some false))) else (none)) else (none)) else (some false)))) else (none)))) else (none)))))) else (none)) else (none))) else (none)) else (none))
end
def skiarealaw29_JournalDrops.f (k : Nat) (l0 : List (S39)) (a1 : Int) : Option (Bool) := (skiarealaw29_alive.f k).bind fun t292 => (if t292 = true then ((journal_Write.f k l0).bind fun bt293 => (if (l0.length : Int) > 30 then (skiarealaw29_JournalDrops.j0 k l0 a1 bt293.1 true) else (if (l0.length : Int) < 2 then (skiarealaw29_JournalDrops.j0 k l0 a1 bt293.1 true) else (skiarealaw29_JournalDrops.j0 k l0 a1 bt293.1 (bt293.2 != 0))))) else (some false))
theorem skiarealaw29_JournalDrops.mono_l : ∀ k, (∀ y0 y1 y2 y3, LeO (skiarealaw29_JournalDrops.j0 k y0 y1 y2 y3) (skiarealaw29_JournalDrops.j0 (k + 1) y0 y1 y2 y3)) ∧ (∀ y0 y1 y2 y3 y4 y5, LeO (skiarealaw29_JournalDrops.j1 k y0 y1 y2 y3 y4 y5) (skiarealaw29_JournalDrops.j1 (k + 1) y0 y1 y2 y3 y4 y5))
  | 0 => ⟨fun _ _ _ _ r h => by simp [skiarealaw29_JournalDrops.j0] at h, fun _ _ _ _ _ _ r h => by simp [skiarealaw29_JournalDrops.j1] at h⟩
  | k + 1 => by
    obtain ⟨ih0, ih1⟩ := skiarealaw29_JournalDrops.mono_l k
    refine ⟨?_, ?_⟩
    · intro y0 y1 y2 y3
      unfold skiarealaw29_JournalDrops.j0
      repeat' first
      | (with_reducible exact ih0 _ _ _ _)
      | (with_reducible exact ih1 _ _ _ _ _ _)
      | (with_reducible exact journal_Last.mono _ _)
      | (with_reducible exact journal_Read.mono _ _)
      | (with_reducible exact journal_Whole.mono _ _)
      | (with_reducible exact journal_Write.mono _ _)
      | (with_reducible exact skiarealaw29_alive.mono _)
      | (with_reducible exact skiarealaw29_begin.mono _ _ _)
      | (with_reducible exact skiarearef29_Same.mono _ _ _)
      | (with_reducible exact LeO.refl _)
      | (with_reducible exact LeO.none _)
      | (with_reducible refine LeO.ite ?_ ?_)
      | (with_reducible refine LeO.bind ?_ (fun _ => ?_))
      | exact ih0 _ _ _ _
      | exact ih1 _ _ _ _ _ _
      | exact journal_Last.mono _ _
      | exact journal_Read.mono _ _
      | exact journal_Whole.mono _ _
      | exact journal_Write.mono _ _
      | exact skiarealaw29_alive.mono _
      | exact skiarealaw29_begin.mono _ _ _
      | exact skiarearef29_Same.mono _ _ _
      | exact LeO.none _
      | refine LeO.ite ?_ ?_
      | refine LeO.bind ?_ (fun _ => ?_)
    · intro y0 y1 y2 y3 y4 y5
      unfold skiarealaw29_JournalDrops.j1
      repeat' first
      | (with_reducible exact ih0 _ _ _ _)
      | (with_reducible exact ih1 _ _ _ _ _ _)
      | (with_reducible exact journal_Last.mono _ _)
      | (with_reducible exact journal_Read.mono _ _)
      | (with_reducible exact journal_Whole.mono _ _)
      | (with_reducible exact journal_Write.mono _ _)
      | (with_reducible exact skiarealaw29_alive.mono _)
      | (with_reducible exact skiarealaw29_begin.mono _ _ _)
      | (with_reducible exact skiarearef29_Same.mono _ _ _)
      | (with_reducible exact LeO.refl _)
      | (with_reducible exact LeO.none _)
      | (with_reducible refine LeO.ite ?_ ?_)
      | (with_reducible refine LeO.bind ?_ (fun _ => ?_))
      | exact ih0 _ _ _ _
      | exact ih1 _ _ _ _ _ _
      | exact journal_Last.mono _ _
      | exact journal_Read.mono _ _
      | exact journal_Whole.mono _ _
      | exact journal_Write.mono _ _
      | exact skiarealaw29_alive.mono _
      | exact skiarealaw29_begin.mono _ _ _
      | exact skiarearef29_Same.mono _ _ _
      | exact LeO.none _
      | refine LeO.ite ?_ ?_
      | refine LeO.bind ?_ (fun _ => ?_)
theorem skiarealaw29_JournalDrops.mono : ∀ a0 a1 k, LeO (skiarealaw29_JournalDrops.f k a0 a1) (skiarealaw29_JournalDrops.f (k + 1) a0 a1) := by
  intro a0 a1 k
  obtain ⟨ih0, ih1⟩ := skiarealaw29_JournalDrops.mono_l k
  unfold skiarealaw29_JournalDrops.f
  repeat' first
      | (with_reducible exact ih0 _ _ _ _)
      | (with_reducible exact ih1 _ _ _ _ _ _)
      | (with_reducible exact journal_Last.mono _ _)
      | (with_reducible exact journal_Read.mono _ _)
      | (with_reducible exact journal_Whole.mono _ _)
      | (with_reducible exact journal_Write.mono _ _)
      | (with_reducible exact skiarealaw29_alive.mono _)
      | (with_reducible exact skiarealaw29_begin.mono _ _ _)
      | (with_reducible exact skiarearef29_Same.mono _ _ _)
      | (with_reducible exact LeO.refl _)
      | (with_reducible exact LeO.none _)
      | (with_reducible refine LeO.ite ?_ ?_)
      | (with_reducible refine LeO.bind ?_ (fun _ => ?_))
      | exact ih0 _ _ _ _
      | exact ih1 _ _ _ _ _ _
      | exact journal_Last.mono _ _
      | exact journal_Read.mono _ _
      | exact journal_Whole.mono _ _
      | exact journal_Write.mono _ _
      | exact skiarealaw29_alive.mono _
      | exact skiarealaw29_begin.mono _ _ _
      | exact skiarearef29_Same.mono _ _ _
      | exact LeO.none _
      | refine LeO.ite ?_ ?_
      | refine LeO.bind ?_ (fun _ => ?_)
def skiarealaw29_JournalDrops.T10 : Bool × List (List Nat × List Nat) := (true, [([], []), ([], []), ([0, 1], [0, 1]), ([2], [2]), ([], []), ([], []), ([4, 5], [4, 5]), ([6, 3], [6]), ([3, 7], [3, 7])])
def skiarealaw29_JournalDrops.B10 : List Nat := [0, 0, 3, 7, 0, 0, 48, 127, 255]
theorem skiarealaw29_JournalDrops.tab10 : rtab .any (opsOf Try.f4 10) = skiarealaw29_JournalDrops.T10 := by kernel_rfl
theorem skiarealaw29_JournalDrops.bits10 : waitsOk skiarealaw29_JournalDrops.T10.2 skiarealaw29_JournalDrops.B10 = true := by kernel_rfl
def skiarealaw29_JournalDrops.T12 : Bool × List (List Nat × List Nat) := (true, [([], []), ([], []), ([], []), ([1, 2], [1, 2]), ([0, 3], [0, 3]), ([], []), ([], []), ([5, 6], [5, 6]), ([4, 7, 4], [4, 7]), ([8, 8, 0, 1, 2, 3, 4, 5, 6, 7, 8], [8])])
def skiarealaw29_JournalDrops.B12 : List Nat := [0, 0, 0, 6, 15, 0, 0, 96, 255, 511]
theorem skiarealaw29_JournalDrops.tab12 : rtab .any (opsOf Try.f4 12) = skiarealaw29_JournalDrops.T12 := by kernel_rfl
theorem skiarealaw29_JournalDrops.bits12 : waitsOk skiarealaw29_JournalDrops.T12.2 skiarealaw29_JournalDrops.B12 = true := by kernel_rfl
set_option maxHeartbeats 8000000 in
set_option maxRecDepth 100000 in
theorem skiarealaw29_JournalDrops.calls (k : Nat) (A0 : Option Addr) (c0 : Nat) (l0 : List (S39)) (a1 : Int) (r : Bool) (w : World) (hr0 : Kd.C k39 w A0 l0.length l0) (hc0 : l0.length ≤ c0) (h : skiarealaw29_JournalDrops.f k l0 a1 = some r) :
    Calls Try.prog 4 #[.slice A0 l0.length c0, .int .u8 a1] w fun e w' => e = .returned (.bool r) ∧ Below w.heap.size w w' := by
  have HR0 := Aside0.mk hr0
  have HC0 := Aside0.mk hc0
  clear hr0 hc0
  have HB := Aside0.mk (Below.refl w.heap.size w)
  have H : ((skiarealaw29_alive.f k).bind fun t292 => (if t292 = true then ((journal_Write.f k l0).bind fun bt293 => (if (l0.length : Int) > 30 then (skiarealaw29_JournalDrops.j0 k l0 a1 bt293.1 true) else (if (l0.length : Int) < 2 then (skiarealaw29_JournalDrops.j0 k l0 a1 bt293.1 true) else (skiarealaw29_JournalDrops.j0 k l0 a1 bt293.1 (bt293.2 != 0))))) else (some false))) = some r := h
  clear h
  replace H := Option.bind_eq_some_iff.mp H
  obtain ⟨t292, A30, H⟩ := H
  replace H : (if t292 = true then ((journal_Write.f k l0).bind fun bt293 => (if (l0.length : Int) > 30 then (skiarealaw29_JournalDrops.j0 k l0 a1 bt293.1 true) else (if (l0.length : Int) < 2 then (skiarealaw29_JournalDrops.j0 k l0 a1 bt293.1 true) else (skiarealaw29_JournalDrops.j0 k l0 a1 bt293.1 (bt293.2 != 0))))) else (some false)) = some r := H
  have A3 := Aside0.mk A30
  clear A30
  by_cases c4 : t292 = true
  · subst c4
    have H1 : ((journal_Write.f k l0).bind fun bt293 => (if (l0.length : Int) > 30 then (skiarealaw29_JournalDrops.j0 k l0 a1 bt293.1 true) else (if (l0.length : Int) < 2 then (skiarealaw29_JournalDrops.j0 k l0 a1 bt293.1 true) else (skiarealaw29_JournalDrops.j0 k l0 a1 bt293.1 (bt293.2 != 0))))) = some r := by rw [if_pos rfl] at H; exact H
    clear H
    have H := H1
    clear H1
    replace H := Option.bind_eq_some_iff.mp H
    obtain ⟨⟨t293, t294⟩, A50, H⟩ := H
    replace H : (if (l0.length : Int) > 30 then (skiarealaw29_JournalDrops.j0 k l0 a1 t293 true) else (if (l0.length : Int) < 2 then (skiarealaw29_JournalDrops.j0 k l0 a1 t293 true) else (skiarealaw29_JournalDrops.j0 k l0 a1 t293 (t294 != 0)))) = some r := H
    have A5 := Aside0.mk A50
    clear A50
    have HC6 := Aside0.mk H
    clear H
    go_enter Try.func4, Try.ntmps4
    go_upto_region 4 with (first | ((with_reducible refine gate_callee (f := 10) rfl ?_); refine goesL_ (some 13) rfl rfl Try.func10 (by kernel_rfl) rfl #[] rfl (by (try simp only [List.map_toArray, List.map_cons, List.map_nil]); first | done | rfl | (simp only [List.length_drop, List.length_take]; rfl)) ?_; (with_reducible refine (skiarealaw29_alive.calls k  true _ A3.out).mono ?_); rintro e w7 ⟨rfl, hb⟩; refine ⟨_, rfl, ?_⟩; have n0_ := Aside0.mk (below_step (by repeat (first | (with_reducible first | exact HB.out | apply below_alloc | apply pw_below_drewN | apply below_drew1) | exact HB.out)) hb); clear HB; have HB := n0_; clear n0_; (try clear hb); (try clear hb2); (try clear hk); (try clear hi)) | ((with_reducible refine gate_callee (f := 11) rfl ?_); refine goesL_ (some 17) rfl rfl Try.func11 (by kernel_rfl) rfl #[.slice A0 l0.length c0] rfl (by (try simp only [List.map_toArray, List.map_cons, List.map_nil]); first | done | rfl | (simp only [List.length_drop, List.length_take]; rfl)) ?_; (with_reducible refine (journal_Write.calls k _ _ l0 t293 t294 _ ?side1 ?side2 A5.out).mono ?_); (case side1 => repeat (first | exact (Kd.C_below HR0.out HB.out) | (with_reducible refine Kd.C_alloc ?_ _) | (with_reducible refine Kd.C_drewN ?_ _) | (with_reducible refine Kd.C_drew ?_))); (case side2 => exact HC0.out); rintro e w8 ⟨v295, rfl, ho0, hb⟩; refine ⟨_, rfl, ?_⟩; have n0_ := Aside0.mk (Kd.R_lower ho0 (below_size (by repeat (first | (with_reducible first | exact HB.out | apply below_alloc | apply pw_below_drewN | apply below_drew1) | exact HB.out)))); have n1_ := Aside0.mk (below_step (by repeat (first | (with_reducible first | exact HB.out | apply below_alloc | apply pw_below_drewN | apply below_drew1) | exact HB.out)) hb); clear HB; have HO296 := n0_; have HB := n1_; clear n0_ n1_; (try clear hb); (try clear hb2); (try clear hk); (try clear hi); (try clear ho0)))
    (try simp only [Act.put, List.setIfInBounds_toArray, List.set_cons_zero, List.set_cons_succ])
    go_cut [31] (fun v31 wc => ∃ (kq : Nat) (x31_5 : Bool), v31 = .bool x31_5 ∧ Aside0 (skiarealaw29_JournalDrops.j0 kq l0 a1 t293 x31_5 = some r) ∧ Aside0 (kq ≤ k) ∧ Aside0 (Kd.R (Kd.int .u8) 5 wc w.heap.size (fun _ => True) v295 t293) ∧ Aside0 (Below w.heap.size w wc))
    case first =>
      have H := HC6.out
      clear HC6
      by_cases c9 : (l0.length : Int) > 30
      · rw [if_pos c9] at H
        have c9b0 : decide (30 < (l0.length : Int)) = true := decide_eq_true c9
        have c9b1 : decide (30 < l0.length) = true := decide_eq_true (by omega)
        clear c9
        (first | rw [c9b0] | (simp only [i64_w, i32_w, IntKind.wrap_u8, IntKind.wrap_u32]; rw [c9b0]) | skip)
        have H' := Aside0.mk H
        clear H
        go_wp2
        go_meet
        case rel => exact ⟨_, (true), (by first | rfl | (simp; done) | (simp [*]; done)), H', ⟨by first | omega | exact Nat.le_refl _⟩, ⟨by (with_reducible repeat (first | apply Kd.R_alloc | apply Kd.R_drewN | apply Kd.R_drew)); exact HO296.out⟩, ⟨by repeat (first | (with_reducible first | exact HB.out | apply below_alloc | apply pw_below_drewN | apply below_drew1) | exact HB.out)⟩⟩
      · rw [if_neg c9] at H
        have c9b0 : decide (30 < (l0.length : Int)) = false := decide_eq_false c9
        have c9b1 : decide (30 < l0.length) = false := decide_eq_false (by omega)
        clear c9
        (first | rw [c9b0] | (simp only [i64_w, i32_w, IntKind.wrap_u8, IntKind.wrap_u32]; rw [c9b0]) | skip)
        by_cases c10 : (l0.length : Int) < 2
        · rw [if_pos c10] at H
          have c10b0 : decide ((l0.length : Int) < 2) = true := decide_eq_true c10
          have c10b1 : decide (l0.length < 2) = true := decide_eq_true (by omega)
          clear c10
          have H' := Aside0.mk H
          clear H
          go_wp2
          go_meet
          case rel => exact ⟨_, (true), (by first | rfl | (simp; done) | (simp [*]; done)), H', ⟨by first | omega | exact Nat.le_refl _⟩, ⟨by (with_reducible repeat (first | apply Kd.R_alloc | apply Kd.R_drewN | apply Kd.R_drew)); exact HO296.out⟩, ⟨by repeat (first | (with_reducible first | exact HB.out | apply below_alloc | apply pw_below_drewN | apply below_drew1) | exact HB.out)⟩⟩
        · rw [if_neg c10] at H
          have c10b0 : decide ((l0.length : Int) < 2) = false := decide_eq_false c10
          have c10b1 : decide (l0.length < 2) = false := decide_eq_false (by omega)
          clear c10
          have H' := Aside0.mk H
          clear H
          go_wp2
          go_meet
          case rel => exact ⟨_, ((t294 != 0)), (by first | rfl | (simp; done) | (simp [*]; done)), H', ⟨by first | omega | exact Nat.le_refl _⟩, ⟨by (with_reducible repeat (first | apply Kd.R_alloc | apply Kd.R_drewN | apply Kd.R_drew)); exact HO296.out⟩, ⟨by repeat (first | (with_reducible first | exact HB.out | apply below_alloc | apply pw_below_drewN | apply below_drew1) | exact HB.out)⟩⟩
    case rest =>
      clear HC6
      try clear c1
      try clear p2
      try clear c4
      try clear c9
      try clear c9b0
      try clear c9b1
      try clear c10
      try clear c10b0
      try clear c10b1
      obtain ⟨kq, x31_5, rfl, HA, HJ5, HO_5, HB⟩ := hcut
      cases kq with
      | zero => exact absurd HA.out (by simp [skiarealaw29_JournalDrops.j0])
      | succ kj5 =>
        have H := HA.out
        clear HA
        simp only [skiarealaw29_JournalDrops.j0] at H
        by_cases c11 : x31_5 = true
        · subst c11
          have H1 : (some true) = some r := by rw [if_pos rfl] at H; exact H
          clear H
          have H := H1
          clear H1
          obtain rfl := Option.some.inj H
          go_wp2
          go_ret
          exact ⟨by first | rfl | (simp [errW_none, errW_some] <;> rfl) | (simp [*, errW_none, errW_some] <;> rfl), by repeat (first | (with_reducible first | exact HB.out | apply below_alloc | apply pw_below_drewN | apply below_drew1) | exact HB.out)⟩
        · replace c11 := Bool.eq_false_iff.mpr c11
          subst c11
          have H1 : (if (wrap64 ((l0.length : Int) - 1)) = 0 then (none) else ((skiarealaw29_begin.f kj5 l0 (Int.tmod (wrap64 (a1)) (wrap64 ((l0.length : Int) - 1)))).bind fun t297 => ((skiarealaw29_begin.f kj5 l0 (wrap64 ((Int.tmod (wrap64 (a1)) (wrap64 ((l0.length : Int) - 1))) + 1))).bind fun t298 => (if t297 ≥ t298 then (skiarealaw29_JournalDrops.j1 kj5 l0 t293 (Int.tmod (wrap64 (a1)) (wrap64 ((l0.length : Int) - 1))) t297 t298 true) else (skiarealaw29_JournalDrops.j1 kj5 l0 t293 (Int.tmod (wrap64 (a1)) (wrap64 ((l0.length : Int) - 1))) t297 t298 (decide (t298 > (t293.length : Int)))))))) = some r := by rw [if_neg (show ¬ (false = true) by decide)] at H; exact H
          clear H
          have H := H1
          clear H1
          by_cases c12 : (wrap64 ((l0.length : Int) - 1)) = 0
          · rw [if_pos c12] at H
            exact absurd H (by simp)
          · rw [if_neg c12] at H
            have c12b0 : ((wrap64 ((l0.length : Int) - 1)) == 0) = false := beq_eq_false_iff_ne.mpr c12
            have c12b1 : ((wrap64 ((l0.length : Int) - 1)) != 0) = true := bne_iff_ne.mpr c12
            replace H := Option.bind_eq_some_iff.mp H
            obtain ⟨t297, A130, H⟩ := H
            replace H : ((skiarealaw29_begin.f kj5 l0 (wrap64 ((Int.tmod (wrap64 (a1)) (wrap64 ((l0.length : Int) - 1))) + 1))).bind fun t298 => (if t297 ≥ t298 then (skiarealaw29_JournalDrops.j1 kj5 l0 t293 (Int.tmod (wrap64 (a1)) (wrap64 ((l0.length : Int) - 1))) t297 t298 true) else (skiarealaw29_JournalDrops.j1 kj5 l0 t293 (Int.tmod (wrap64 (a1)) (wrap64 ((l0.length : Int) - 1))) t297 t298 (decide (t298 > (t293.length : Int)))))) = some r := H
            have A13 := Aside0.mk A130
            clear A130
            replace H := Option.bind_eq_some_iff.mp H
            obtain ⟨t298, A140, H⟩ := H
            replace H : (if t297 ≥ t298 then (skiarealaw29_JournalDrops.j1 kj5 l0 t293 (Int.tmod (wrap64 (a1)) (wrap64 ((l0.length : Int) - 1))) t297 t298 true) else (skiarealaw29_JournalDrops.j1 kj5 l0 t293 (Int.tmod (wrap64 (a1)) (wrap64 ((l0.length : Int) - 1))) t297 t298 (decide (t298 > (t293.length : Int))))) = some r := H
            have A14 := Aside0.mk A140
            clear A140
            have HC15 := Aside0.mk H
            clear H
            go_upto_region 8 with (first | ((with_reducible refine gate_callee (f := 12) rfl ?_); refine goesL_ (some 40) rfl rfl Try.func12 (by kernel_rfl) rfl #[.slice A0 l0.length c0, .int .i64 (Int.tmod (wrap64 (a1)) (wrap64 ((l0.length : Int) - 1)))] rfl (by (try simp only [List.map_toArray, List.map_cons, List.map_nil]); first | done | rfl | (simp only [List.length_drop, List.length_take]; rfl)) ?_; (with_reducible refine (skiarealaw29_begin.calls kj5 _ _ l0 (Int.tmod (wrap64 (a1)) (wrap64 ((l0.length : Int) - 1))) t297 _ ?side1 ?side2 A13.out).mono ?_); (case side1 => repeat (first | exact (Kd.C_below HR0.out HB.out) | (with_reducible refine Kd.C_alloc ?_ _) | (with_reducible refine Kd.C_drewN ?_ _) | (with_reducible refine Kd.C_drew ?_))); (case side2 => exact HC0.out); rintro e w16 ⟨rfl, hb⟩; refine ⟨_, rfl, ?_⟩; have n0_ := Aside0.mk (Kd.R_below (by (with_reducible repeat (first | apply Kd.R_alloc | apply Kd.R_drewN | apply Kd.R_drew)); exact HO_5.out) hb); have n1_ := Aside0.mk (below_step (by repeat (first | (with_reducible first | exact HB.out | apply below_alloc | apply pw_below_drewN | apply below_drew1) | exact HB.out)) hb); clear HO_5; clear HB; have HO_5 := n0_; have HB := n1_; clear n0_ n1_; (try clear hb); (try clear hb2); (try clear hk); (try clear hi)) | ((with_reducible refine gate_callee (f := 12) rfl ?_); refine goesL_ (some 44) rfl rfl Try.func12 (by kernel_rfl) rfl #[.slice A0 l0.length c0, .int .i64 (wrap64 ((Int.tmod (wrap64 (a1)) (wrap64 ((l0.length : Int) - 1))) + 1))] rfl (by (try simp only [List.map_toArray, List.map_cons, List.map_nil]); first | done | rfl | (simp only [List.length_drop, List.length_take]; rfl)) ?_; (with_reducible refine (skiarealaw29_begin.calls kj5 _ _ l0 (wrap64 ((Int.tmod (wrap64 (a1)) (wrap64 ((l0.length : Int) - 1))) + 1)) t298 _ ?side1 ?side2 A14.out).mono ?_); (case side1 => repeat (first | exact (Kd.C_below HR0.out HB.out) | (with_reducible refine Kd.C_alloc ?_ _) | (with_reducible refine Kd.C_drewN ?_ _) | (with_reducible refine Kd.C_drew ?_))); (case side2 => exact HC0.out); rintro e w17 ⟨rfl, hb⟩; refine ⟨_, rfl, ?_⟩; have n0_ := Aside0.mk (Kd.R_below (by (with_reducible repeat (first | apply Kd.R_alloc | apply Kd.R_drewN | apply Kd.R_drew)); exact HO_5.out) hb); have n1_ := Aside0.mk (below_step (by repeat (first | (with_reducible first | exact HB.out | apply below_alloc | apply pw_below_drewN | apply below_drew1) | exact HB.out)) hb); clear HO_5; clear HB; have HO_5 := n0_; have HB := n1_; clear n0_ n1_; (try clear hb); (try clear hb2); (try clear hk); (try clear hi)))
            (try simp only [Act.put, List.setIfInBounds_toArray, List.set_cons_zero, List.set_cons_succ])
            go_cut [53] (fun v53 wc => ∃ (kq : Nat) (x53_14 : Bool), v53 = .bool x53_14 ∧ Aside0 (skiarealaw29_JournalDrops.j1 kq l0 t293 (Int.tmod (wrap64 (a1)) (wrap64 ((l0.length : Int) - 1))) t297 t298 x53_14 = some r) ∧ Aside0 (kq ≤ kj5) ∧ Aside0 (Kd.R (Kd.int .u8) 5 wc w.heap.size (fun _ => True) v295 t293) ∧ Aside0 (Below w.heap.size w wc))
            case first =>
              have H := HC15.out
              clear HC15
              by_cases c18 : t297 ≥ t298
              · rw [if_pos c18] at H
                have c18b0 : decide (t298 ≤ t297) = true := decide_eq_true c18
                clear c18
                (first | rw [c18b0] | (simp only [i64_w, i32_w, IntKind.wrap_u8, IntKind.wrap_u32]; rw [c18b0]) | skip)
                have H' := Aside0.mk H
                clear H
                go_wp2
                go_meet
                case rel => exact ⟨_, (true), (by first | rfl | (simp; done) | (simp [*]; done)), H', ⟨by have := HJ5.out; first | omega | exact Nat.le_refl _⟩, ⟨by (with_reducible repeat (first | apply Kd.R_alloc | apply Kd.R_drewN | apply Kd.R_drew)); exact HO_5.out⟩, ⟨by repeat (first | (with_reducible first | exact HB.out | apply below_alloc | apply pw_below_drewN | apply below_drew1) | exact HB.out)⟩⟩
              · rw [if_neg c18] at H
                have c18b0 : decide (t298 ≤ t297) = false := decide_eq_false c18
                clear c18
                (first | rw [c18b0] | (simp only [i64_w, i32_w, IntKind.wrap_u8, IntKind.wrap_u32]; rw [c18b0]) | skip)
                have H' := Aside0.mk H
                clear H
                obtain ⟨Ao19, co19, eo19⟩ := Kd.R_slice HO_5.out
                subst eo19
                go_wp2
                go_meet
                case rel => exact ⟨_, (decide (t298 > (t293.length : Int))), (by first | rfl | (simp; done) | (simp [*]; done)), H', ⟨by have := HJ5.out; first | omega | exact Nat.le_refl _⟩, ⟨by (with_reducible repeat (first | apply Kd.R_alloc | apply Kd.R_drewN | apply Kd.R_drew)); exact HO_5.out⟩, ⟨by repeat (first | (with_reducible first | exact HB.out | apply below_alloc | apply pw_below_drewN | apply below_drew1) | exact HB.out)⟩⟩
            case rest =>
              clear HC15
              try clear c1
              try clear p2
              try clear c4
              try clear p6
              try clear c9
              try clear c9b0
              try clear c9b1
              try clear c10
              try clear c10b0
              try clear c10b1
              try clear c11
              try clear c12
              try clear c12b0
              try clear c12b1
              try clear c18
              try clear c18b0
              try clear p2
              obtain ⟨kq, x53_14, rfl, HA, HJ14, HO_5, HB⟩ := hcut
              cases kq with
              | zero => exact absurd HA.out (by simp [skiarealaw29_JournalDrops.j1])
              | succ kj14 =>
                have H := HA.out
                clear HA
                simp only [skiarealaw29_JournalDrops.j1] at H
                by_cases c20 : x53_14 = true
                · subst c20
                  have H1 : (some false) = some r := by rw [if_pos rfl] at H; exact H
                  clear H
                  have H := H1
                  clear H1
                  obtain rfl := Option.some.inj H
                  go_wp2
                  go_ret
                  exact ⟨by first | rfl | (simp [errW_none, errW_some] <;> rfl) | (simp [*, errW_none, errW_some] <;> rfl), by repeat (first | (with_reducible first | exact HB.out | apply below_alloc | apply pw_below_drewN | apply below_drew1) | exact HB.out)⟩
                · replace c20 := Bool.eq_false_iff.mpr c20
                  subst c20
                  have H1 : (if 0 ≤ t297 then (if t297 ≤ (t293.length : Int) then ((journal_Last.f kj14 (t293.take (t297 : Int).toNat)).bind fun t303 => (if 0 ≤ t298 then (if t298 ≤ (t293.length : Int) then ((journal_Last.f kj14 (t293.take (t298 : Int).toNat)).bind fun t308 => (if t303 = t308 then (some true) else ((some (([] : List Int) : List Int)).bind fun y309 => ((some (t293.take (t297 : Int).toNat : List Int)).bind fun y312 => (if y309.length + y312.length < 140737488355328 then ((some (y309 ++ y312 : List Int)).bind fun y316 => ((some (t293.drop (t298 : Int).toNat : List Int)).bind fun y319 => (if y316.length + y319.length < 140737488355328 then ((some (y316 ++ y319 : List Int)).bind fun y323 => ((journal_Read.f kj14 y323).bind fun bt326 => (if bt326.2 = t297 then (if 0 ≤ (Int.tmod (wrap64 (a1)) (wrap64 ((l0.length : Int) - 1))) then (if (Int.tmod (wrap64 (a1)) (wrap64 ((l0.length : Int) - 1))) ≤ (l0.length : Int) then ((skiarearef29_Same.f kj14 bt326.1 (l0.take ((Int.tmod (wrap64 (a1)) (wrap64 ((l0.length : Int) - 1))) : Int).toNat)).bind fun t334 => (if t334 = true then ((journal_Whole.f kj14 y323).bind fun t335 => (some (!t335))) else (some false))) else (none)) else (none)) else (some false)))) else (none)))) else (none)))))) else (none)) else (none))) else (none)) else (none)) = some r := by rw [if_neg (show ¬ (false = true) by decide)] at H; exact H
                  clear H
                  have H := H1
                  clear H1
                  by_cases c21 : 0 ≤ t297
                  · rw [if_pos c21] at H
                    have c21b0 := eq_true c21
                    have c21b1 : decide (0 ≤ t297) = true := decide_eq_true c21
                    clear c21
                    by_cases c22 : t297 ≤ (t293.length : Int)
                    · rw [if_pos c22] at H
                      have c22b0 := eq_true c22
                      have c22b1 : decide (t297 ≤ (t293.length : Int)) = true := decide_eq_true c22
                      clear c22
                      obtain ⟨y299, hy299⟩ : ∃ y_ : List Int, y_ = (t293.take (t297 : Int).toNat) := ⟨_, rfl⟩
                      replace H : ((journal_Last.f kj14 y299).bind fun t303 => (if 0 ≤ t298 then (if t298 ≤ (t293.length : Int) then ((journal_Last.f kj14 (t293.take (t298 : Int).toNat)).bind fun t308 => (if t303 = t308 then (some true) else ((some (([] : List Int) : List Int)).bind fun y309 => ((some (t293.take (t297 : Int).toNat : List Int)).bind fun y312 => (if y309.length + y312.length < 140737488355328 then ((some (y309 ++ y312 : List Int)).bind fun y316 => ((some (t293.drop (t298 : Int).toNat : List Int)).bind fun y319 => (if y316.length + y319.length < 140737488355328 then ((some (y316 ++ y319 : List Int)).bind fun y323 => ((journal_Read.f kj14 y323).bind fun bt326 => (if bt326.2 = t297 then (if 0 ≤ (Int.tmod (wrap64 (a1)) (wrap64 ((l0.length : Int) - 1))) then (if (Int.tmod (wrap64 (a1)) (wrap64 ((l0.length : Int) - 1))) ≤ (l0.length : Int) then ((skiarearef29_Same.f kj14 bt326.1 (l0.take ((Int.tmod (wrap64 (a1)) (wrap64 ((l0.length : Int) - 1))) : Int).toNat)).bind fun t334 => (if t334 = true then ((journal_Whole.f kj14 y323).bind fun t335 => (some (!t335))) else (some false))) else (none)) else (none)) else (some false)))) else (none)))) else (none)))))) else (none)) else (none))) = some r := by first | (rw [hy299]; with_reducible exact H) | (have H2_ := (Option.bind_some _ _).symm.trans H; rw [hy299]; with_reducible exact H2_) | (have H2_ := (Option.bind_some _ _).symm.trans H; with_reducible exact H2_) | with_reducible exact H | (rw [hy299]; exact H) | exact H
                      have Ny299 := Aside0.mk hy299
                      clear hy299
                      replace H := Option.bind_eq_some_iff.mp H
                      obtain ⟨t303, A230, H⟩ := H
                      replace H : (if 0 ≤ t298 then (if t298 ≤ (t293.length : Int) then ((journal_Last.f kj14 (t293.take (t298 : Int).toNat)).bind fun t308 => (if t303 = t308 then (some true) else ((some (([] : List Int) : List Int)).bind fun y309 => ((some (t293.take (t297 : Int).toNat : List Int)).bind fun y312 => (if y309.length + y312.length < 140737488355328 then ((some (y309 ++ y312 : List Int)).bind fun y316 => ((some (t293.drop (t298 : Int).toNat : List Int)).bind fun y319 => (if y316.length + y319.length < 140737488355328 then ((some (y316 ++ y319 : List Int)).bind fun y323 => ((journal_Read.f kj14 y323).bind fun bt326 => (if bt326.2 = t297 then (if 0 ≤ (Int.tmod (wrap64 (a1)) (wrap64 ((l0.length : Int) - 1))) then (if (Int.tmod (wrap64 (a1)) (wrap64 ((l0.length : Int) - 1))) ≤ (l0.length : Int) then ((skiarearef29_Same.f kj14 bt326.1 (l0.take ((Int.tmod (wrap64 (a1)) (wrap64 ((l0.length : Int) - 1))) : Int).toNat)).bind fun t334 => (if t334 = true then ((journal_Whole.f kj14 y323).bind fun t335 => (some (!t335))) else (some false))) else (none)) else (none)) else (some false)))) else (none)))) else (none)))))) else (none)) else (none)) = some r := H
                      have A23 := Aside0.mk A230
                      clear A230
                      by_cases c24 : 0 ≤ t298
                      · rw [if_pos c24] at H
                        have c24b0 := eq_true c24
                        have c24b1 : decide (0 ≤ t298) = true := decide_eq_true c24
                        clear c24
                        by_cases c25 : t298 ≤ (t293.length : Int)
                        · rw [if_pos c25] at H
                          have c25b0 := eq_true c25
                          have c25b1 : decide (t298 ≤ (t293.length : Int)) = true := decide_eq_true c25
                          clear c25
                          obtain ⟨y304, hy304⟩ : ∃ y_ : List Int, y_ = (t293.take (t298 : Int).toNat) := ⟨_, rfl⟩
                          replace H : ((journal_Last.f kj14 y304).bind fun t308 => (if t303 = t308 then (some true) else ((some (([] : List Int) : List Int)).bind fun y309 => ((some (t293.take (t297 : Int).toNat : List Int)).bind fun y312 => (if y309.length + y312.length < 140737488355328 then ((some (y309 ++ y312 : List Int)).bind fun y316 => ((some (t293.drop (t298 : Int).toNat : List Int)).bind fun y319 => (if y316.length + y319.length < 140737488355328 then ((some (y316 ++ y319 : List Int)).bind fun y323 => ((journal_Read.f kj14 y323).bind fun bt326 => (if bt326.2 = t297 then (if 0 ≤ (Int.tmod (wrap64 (a1)) (wrap64 ((l0.length : Int) - 1))) then (if (Int.tmod (wrap64 (a1)) (wrap64 ((l0.length : Int) - 1))) ≤ (l0.length : Int) then ((skiarearef29_Same.f kj14 bt326.1 (l0.take ((Int.tmod (wrap64 (a1)) (wrap64 ((l0.length : Int) - 1))) : Int).toNat)).bind fun t334 => (if t334 = true then ((journal_Whole.f kj14 y323).bind fun t335 => (some (!t335))) else (some false))) else (none)) else (none)) else (some false)))) else (none)))) else (none)))))) = some r := by first | (rw [hy304]; with_reducible exact H) | (have H2_ := (Option.bind_some _ _).symm.trans H; rw [hy304]; with_reducible exact H2_) | (have H2_ := (Option.bind_some _ _).symm.trans H; with_reducible exact H2_) | with_reducible exact H | (rw [hy304]; exact H) | exact H
                          have Ny304 := Aside0.mk hy304
                          clear hy304
                          replace H := Option.bind_eq_some_iff.mp H
                          obtain ⟨t308, A260, H⟩ := H
                          replace H : (if t303 = t308 then (some true) else ((some (([] : List Int) : List Int)).bind fun y309 => ((some (t293.take (t297 : Int).toNat : List Int)).bind fun y312 => (if y309.length + y312.length < 140737488355328 then ((some (y309 ++ y312 : List Int)).bind fun y316 => ((some (t293.drop (t298 : Int).toNat : List Int)).bind fun y319 => (if y316.length + y319.length < 140737488355328 then ((some (y316 ++ y319 : List Int)).bind fun y323 => ((journal_Read.f kj14 y323).bind fun bt326 => (if bt326.2 = t297 then (if 0 ≤ (Int.tmod (wrap64 (a1)) (wrap64 ((l0.length : Int) - 1))) then (if (Int.tmod (wrap64 (a1)) (wrap64 ((l0.length : Int) - 1))) ≤ (l0.length : Int) then ((skiarearef29_Same.f kj14 bt326.1 (l0.take ((Int.tmod (wrap64 (a1)) (wrap64 ((l0.length : Int) - 1))) : Int).toNat)).bind fun t334 => (if t334 = true then ((journal_Whole.f kj14 y323).bind fun t335 => (some (!t335))) else (some false))) else (none)) else (none)) else (some false)))) else (none)))) else (none))))) = some r := H
                          have A26 := Aside0.mk A260
                          clear A260
                          by_cases c27 : t303 = t308
                          · rw [if_pos c27] at H
                            have c27b0 : (t303 == t308) = true := beq_iff_eq.mpr c27
                            have c27b1 : (t303 != t308) = false := bne_eq_false_iff_eq.mpr c27
                            clear c27
                            obtain rfl := Option.some.inj H
                            try go_wp2
                            have n0_ := Aside0.mk (Kd.R_drew HO_5.out)
                            have n1_ := Aside0.mk (below_drew1 HB.out)
                            clear HO_5
                            clear HB
                            have HO_5 := n0_
                            have HB := n1_
                            clear n0_ n1_
                            obtain ⟨Ao30, co30, eo30⟩ := Kd.R_slice HO_5.out
                            (first | subst eo30 | (injection eo30 with f1_ f2_ f3_; have f4_ := f1_.symm; have f5_ := f3_.symm; clear f1_ f2_ f3_; subst f4_; subst f5_))
                            have q29 : (t297 : Int) ≤ ((t293.length : Int) : Int) := of_decide_eq_true (by first | (with_reducible assumption) | assumption)
                            obtain ⟨i029, hi029, _, hsz29, _⟩ := info_parts info5
                            have hroom29 : t293.length ≤ co30 := (Kd.R_reads' HO_5.out).2.1
                            have hC29 : Kd.C (Kd.int .u8) _ Ao30 t293.length t293 := (Kd.R_reads' HO_5.out).2.2
                            have hcut29 := cut_to (P := Try.prog) 24 5 .i64 Try.underlying24 hi029 Ao30 t293.length co30 t297 (of_decide_eq_true (by first | (with_reducible assumption) | assumption)) q29 hroom29
                            have hr29 := Kd.C_take (m := (t297 : Int).toNat) hC29 (by omega)
                            have hy29 : y299.length = (t297 : Int).toNat := (by rw [Ny299.out, List.length_take]; omega)
                            rw [← Ny299.out] at hr29
                            rw [← hy29] at hcut29
                            have HR302 := Aside0.mk hr29
                            have HC302 := Aside0.mk (show y299.length ≤ co30 from by omega)
                            clear hr29 hC29 hroom29 hi029 hsz29
                            have KY29 := Aside0.mk hy29
                            clear hy29
                            have KL29 := Aside0.mk (show (t297 : Int).toNat ≤ t293.length from by omega)
                            replace q29 := eq_true q29
                            have q31 : (t298 : Int) ≤ ((t293.length : Int) : Int) := of_decide_eq_true (by first | (with_reducible assumption) | assumption)
                            obtain ⟨i031, hi031, _, hsz31, _⟩ := info_parts info5
                            have hroom31 : t293.length ≤ co30 := (Kd.R_reads' HO_5.out).2.1
                            have hC31 : Kd.C (Kd.int .u8) _ Ao30 t293.length t293 := (Kd.R_reads' HO_5.out).2.2
                            have hcut31 := cut_to (P := Try.prog) 24 5 .i64 Try.underlying24 hi031 Ao30 t293.length co30 t298 (of_decide_eq_true (by first | (with_reducible assumption) | assumption)) q31 hroom31
                            have hr31 := Kd.C_take (m := (t298 : Int).toNat) hC31 (by omega)
                            have hy31 : y304.length = (t298 : Int).toNat := (by rw [Ny304.out, List.length_take]; omega)
                            rw [← Ny304.out] at hr31
                            rw [← hy31] at hcut31
                            have HR307 := Aside0.mk hr31
                            have HC307 := Aside0.mk (show y304.length ≤ co30 from by omega)
                            clear hr31 hC31 hroom31 hi031 hsz31
                            have KY31 := Aside0.mk hy31
                            clear hy31
                            have KL31 := Aside0.mk (show (t298 : Int).toNat ≤ t293.length from by omega)
                            replace q31 := eq_true q31
                            refine start_ (n := 9) (S := fun w' => True) (ds := []) #[false, false, false, false, false, false, false, false, false] (by kernel_rfl) rfl rfl trivial (fun hHeld => ?_); refine with_tabW skiarealaw29_JournalDrops.tab10 skiarealaw29_JournalDrops.bits10 (fun HT_ HW_ => ?_)
                            generalize wc.drew = w28 at HO_5 HB HR302 HR307 hHeld ⊢
                            refine pure_ (i := 0) (N := some 54) (v := ?_) (a' := ?_) #[true, false, false, false, false, false, false, false, false] rfl rfl (any_of HT_.out (by kernel_rfl)) (fun _ _ _ h => h) (Or.inl ⟨by rfl, ?_⟩) ?_ ?_
                            rotate_left
                            · intro w'
                              go_simp
                              with_reducible rfl
                            rotate_left
                            · simp only [Act.put, List.setIfInBounds_toArray, List.set_cons_zero, List.set_cons_succ, i64_w, i32_w, IntKind.wrap_u8, IntKind.wrap_u32]
                              rfl
                            refine pure_ (i := 1) (N := some 55) (v := ?_) (a' := ?_) #[true, true, false, false, false, false, false, false, false] rfl rfl (any_of HT_.out (by kernel_rfl)) (fun _ _ _ h => h) (Or.inl ⟨by rfl, ?_⟩) ?_ ?_
                            rotate_left
                            · intro w'
                              go_simp
                              with_reducible rfl
                            rotate_left
                            · simp only [Act.put, List.setIfInBounds_toArray, List.set_cons_zero, List.set_cons_succ, i64_w, i32_w, IntKind.wrap_u8, IntKind.wrap_u32]
                              rfl
                            refine pure_ (i := 2) (N := some 56) (v := ?_) (a' := ?_) #[true, true, true, false, false, false, false, false, false] rfl rfl (any_of HT_.out (by kernel_rfl)) (fun _ _ _ h => h) (Or.inl ⟨by rfl, ?_⟩) ?_ ?_
                            rotate_left
                            · intro w'
                              go_simp
                              with_reducible rfl
                            rotate_left
                            · simp only [Act.put, List.setIfInBounds_toArray, List.set_cons_zero, List.set_cons_succ, i64_w, i32_w, IntKind.wrap_u8, IntKind.wrap_u32]
                              rfl
                            refine pure_ (i := 4) (N := some 58) (v := ?_) (a' := ?_) #[true, true, true, false, true, false, false, false, false] rfl rfl (any_of HT_.out (by kernel_rfl)) (fun _ _ _ h => h) (Or.inl ⟨by rfl, ?_⟩) ?_ ?_
                            rotate_left
                            · intro w'
                              go_simp
                              with_reducible rfl
                            rotate_left
                            · simp only [Act.put, List.setIfInBounds_toArray, List.set_cons_zero, List.set_cons_succ, i64_w, i32_w, IntKind.wrap_u8, IntKind.wrap_u32]
                              rfl
                            refine pure_ (i := 5) (N := some 59) (v := ?_) (a' := ?_) #[true, true, true, false, true, true, false, false, false] rfl rfl (any_of HT_.out (by kernel_rfl)) (fun _ _ _ h => h) (Or.inl ⟨by rfl, ?_⟩) ?_ ?_
                            rotate_left
                            · intro w'
                              go_simp
                              with_reducible rfl
                            rotate_left
                            · simp only [Act.put, List.setIfInBounds_toArray, List.set_cons_zero, List.set_cons_succ, i64_w, i32_w, IntKind.wrap_u8, IntKind.wrap_u32]
                              rfl
                            refine pure_ (i := 6) (N := some 60) (v := ?_) (a' := ?_) #[true, true, true, false, true, true, true, false, false] rfl rfl (any_of HT_.out (by kernel_rfl)) (fun _ _ _ h => h) (Or.inl ⟨by rfl, ?_⟩) ?_ ?_
                            rotate_left
                            · intro w'
                              go_simp
                              with_reducible rfl
                            rotate_left
                            · simp only [Act.put, List.setIfInBounds_toArray, List.set_cons_zero, List.set_cons_succ, i64_w, i32_w, IntKind.wrap_u8, IntKind.wrap_u32]
                              rfl
                            refine one_ (i := 3) (N := some 57) #[true, true, true, true, true, true, true, false, false] rfl rfl (one_of HT_.out (by kernel_rfl)) (by decide) (fun K hK => ?_)
                            refine goes_ Try.func16 (by kernel_rfl) rfl #[.slice Ao30 y299.length co30] (by rfl) rfl rfl (by (try simp only [List.map_toArray, List.map_cons, List.map_nil]); first | done | rfl | (simp only [List.length_drop, List.length_take]; rfl)) ?_
                            with_reducible refine (journal_Last.calls kj14 _ _ y299 t303 _ ?side1 ?side2 A23.out).mono ?_
                            (case side1 => repeat (first | exact (by repeat (first | (with_reducible exact HR302.out) | (with_reducible refine Kd.C_alloc ?_ _) | (with_reducible refine Kd.C_drewN ?_ _) | (with_reducible refine Kd.C_drew ?_) | exact HR302.out)) | (with_reducible refine Kd.C_alloc ?_ _) | (with_reducible refine Kd.C_drewN ?_ _) | (with_reducible refine Kd.C_drew ?_)))
                            (case side2 => exact HC302.out)
                            rintro e w32 ⟨rfl, hb⟩
                            refine ⟨_, rfl, ?_⟩
                            have n0_ := Aside0.mk (Kd.R_below (by (with_reducible repeat (first | apply Kd.R_alloc | apply Kd.R_drewN | apply Kd.R_drew)); exact HO_5.out) hb)
                            have n1_ := Aside0.mk (Kd.C_below (by repeat (first | (with_reducible exact HR302.out) | (with_reducible refine Kd.C_alloc ?_ _) | (with_reducible refine Kd.C_drewN ?_ _) | (with_reducible refine Kd.C_drew ?_) | exact HR302.out)) hb)
                            have n2_ := Aside0.mk (Kd.C_below (by repeat (first | (with_reducible exact HR307.out) | (with_reducible refine Kd.C_alloc ?_ _) | (with_reducible refine Kd.C_drewN ?_ _) | (with_reducible refine Kd.C_drew ?_) | exact HR307.out)) hb)
                            have n3_ := Aside0.mk (below_step (by repeat (first | (with_reducible first | exact HB.out | apply below_alloc | apply pw_below_drewN | apply below_drew1) | exact HB.out)) hb)
                            clear HO_5
                            clear HR302
                            clear HR307
                            clear HB
                            have HO_5 := n0_
                            have HR302 := n1_
                            have HR307 := n2_
                            have HB := n3_
                            clear n0_ n1_ n2_ n3_
                            (try clear hb)
                            (try clear hb2)
                            (try clear hk)
                            (try clear hi)
                            refine hK.out _ _ trivial (fun hHeld => ?_)
                            clear hK K
                            refine norm_ (a' := ?_) ?_ ?_
                            rotate_left
                            · show Act.put _ (some 57) _ = _
                              simp only [Act.put, List.setIfInBounds_toArray, List.set_cons_zero, List.set_cons_succ, i64_w, i32_w, IntKind.wrap_u8, IntKind.wrap_u32]
                              rfl
                            refine one_ (i := 7) (N := some 61) #[true, true, true, true, true, true, true, true, false] rfl rfl (one_of HT_.out (by kernel_rfl)) (by decide) (fun K hK => ?_)
                            refine goes_ Try.func16 (by kernel_rfl) rfl #[.slice Ao30 y304.length co30] (by rfl) rfl rfl (by (try simp only [List.map_toArray, List.map_cons, List.map_nil]); first | done | rfl | (simp only [List.length_drop, List.length_take]; rfl)) ?_
                            with_reducible refine (journal_Last.calls kj14 _ _ y304 t308 _ ?side1 ?side2 A26.out).mono ?_
                            (case side1 => repeat (first | exact (by repeat (first | (with_reducible exact HR307.out) | (with_reducible refine Kd.C_alloc ?_ _) | (with_reducible refine Kd.C_drewN ?_ _) | (with_reducible refine Kd.C_drew ?_) | exact HR307.out)) | (with_reducible refine Kd.C_alloc ?_ _) | (with_reducible refine Kd.C_drewN ?_ _) | (with_reducible refine Kd.C_drew ?_)))
                            (case side2 => exact HC307.out)
                            rintro e w33 ⟨rfl, hb⟩
                            refine ⟨_, rfl, ?_⟩
                            have n0_ := Aside0.mk (Kd.R_below (by (with_reducible repeat (first | apply Kd.R_alloc | apply Kd.R_drewN | apply Kd.R_drew)); exact HO_5.out) hb)
                            have n1_ := Aside0.mk (Kd.C_below (by repeat (first | (with_reducible exact HR302.out) | (with_reducible refine Kd.C_alloc ?_ _) | (with_reducible refine Kd.C_drewN ?_ _) | (with_reducible refine Kd.C_drew ?_) | exact HR302.out)) hb)
                            have n2_ := Aside0.mk (Kd.C_below (by repeat (first | (with_reducible exact HR307.out) | (with_reducible refine Kd.C_alloc ?_ _) | (with_reducible refine Kd.C_drewN ?_ _) | (with_reducible refine Kd.C_drew ?_) | exact HR307.out)) hb)
                            have n3_ := Aside0.mk (below_step (by repeat (first | (with_reducible first | exact HB.out | apply below_alloc | apply pw_below_drewN | apply below_drew1) | exact HB.out)) hb)
                            clear HO_5
                            clear HR302
                            clear HR307
                            clear HB
                            have HO_5 := n0_
                            have HR302 := n1_
                            have HR307 := n2_
                            have HB := n3_
                            clear n0_ n1_ n2_ n3_
                            (try clear hb)
                            (try clear hb2)
                            (try clear hk)
                            (try clear hi)
                            refine hK.out _ _ trivial (fun hHeld => ?_)
                            clear hK K
                            refine norm_ (a' := ?_) ?_ ?_
                            rotate_left
                            · show Act.put _ (some 61) _ = _
                              simp only [Act.put, List.setIfInBounds_toArray, List.set_cons_zero, List.set_cons_succ, i64_w, i32_w, IntKind.wrap_u8, IntKind.wrap_u32]
                              rfl
                            refine pure_ (i := 8) (N := some 62) (v := ?_) (a' := ?_) #[true, true, true, true, true, true, true, true, true] rfl rfl (any_of HT_.out (by kernel_rfl)) (fun _ _ _ h => h) (Or.inl ⟨by rfl, ?_⟩) ?_ ?_
                            rotate_left
                            · intro w'
                              go_simp
                              with_reducible rfl
                            rotate_left
                            · simp only [Act.put, List.setIfInBounds_toArray, List.set_cons_zero, List.set_cons_succ, i64_w, i32_w, IntKind.wrap_u8, IntKind.wrap_u32]
                              rfl
                            refine done_ (done_of HT_.out (by kernel_rfl)) ?_
                            try go_wp2
                            go_ret
                            exact ⟨by first | rfl | (simp [errW_none, errW_some] <;> rfl) | (simp [*, errW_none, errW_some] <;> rfl), by repeat (first | (with_reducible first | exact HB.out | apply below_alloc | apply pw_below_drewN | apply below_drew1) | exact HB.out)⟩
                          · rw [if_neg c27] at H
                            have c27b0 : (t303 == t308) = false := beq_eq_false_iff_ne.mpr c27
                            have c27b1 : (t303 != t308) = true := bne_iff_ne.mpr c27
                            obtain ⟨y309, hy309⟩ : ∃ y_ : List Int, y_ = (([] : List Int)) := ⟨_, rfl⟩
                            replace H : ((some (t293.take (t297 : Int).toNat : List Int)).bind fun y312 => (if y309.length + y312.length < 140737488355328 then ((some (y309 ++ y312 : List Int)).bind fun y316 => ((some (t293.drop (t298 : Int).toNat : List Int)).bind fun y319 => (if y316.length + y319.length < 140737488355328 then ((some (y316 ++ y319 : List Int)).bind fun y323 => ((journal_Read.f kj14 y323).bind fun bt326 => (if bt326.2 = t297 then (if 0 ≤ (Int.tmod (wrap64 (a1)) (wrap64 ((l0.length : Int) - 1))) then (if (Int.tmod (wrap64 (a1)) (wrap64 ((l0.length : Int) - 1))) ≤ (l0.length : Int) then ((skiarearef29_Same.f kj14 bt326.1 (l0.take ((Int.tmod (wrap64 (a1)) (wrap64 ((l0.length : Int) - 1))) : Int).toNat)).bind fun t334 => (if t334 = true then ((journal_Whole.f kj14 y323).bind fun t335 => (some (!t335))) else (some false))) else (none)) else (none)) else (some false)))) else (none)))) else (none))) = some r := by first | (rw [hy309]; with_reducible exact H) | (have H2_ := (Option.bind_some _ _).symm.trans H; rw [hy309]; with_reducible exact H2_) | (have H2_ := (Option.bind_some _ _).symm.trans H; with_reducible exact H2_) | with_reducible exact H | (rw [hy309]; exact H) | exact H
                            have Ny309 := Aside0.mk hy309
                            clear hy309
                            have c34b0 := eq_true (of_decide_eq_true (by first | (with_reducible assumption) | assumption) : 0 ≤ t297)
                            have c35b0 := eq_true (of_decide_eq_true (by first | (with_reducible assumption) | assumption) : t297 ≤ (t293.length : Int))
                            obtain ⟨y312, hy312⟩ : ∃ y_ : List Int, y_ = (t293.take (t297 : Int).toNat) := ⟨_, rfl⟩
                            replace H : (if y309.length + y312.length < 140737488355328 then ((some (y309 ++ y312 : List Int)).bind fun y316 => ((some (t293.drop (t298 : Int).toNat : List Int)).bind fun y319 => (if y316.length + y319.length < 140737488355328 then ((some (y316 ++ y319 : List Int)).bind fun y323 => ((journal_Read.f kj14 y323).bind fun bt326 => (if bt326.2 = t297 then (if 0 ≤ (Int.tmod (wrap64 (a1)) (wrap64 ((l0.length : Int) - 1))) then (if (Int.tmod (wrap64 (a1)) (wrap64 ((l0.length : Int) - 1))) ≤ (l0.length : Int) then ((skiarearef29_Same.f kj14 bt326.1 (l0.take ((Int.tmod (wrap64 (a1)) (wrap64 ((l0.length : Int) - 1))) : Int).toNat)).bind fun t334 => (if t334 = true then ((journal_Whole.f kj14 y323).bind fun t335 => (some (!t335))) else (some false))) else (none)) else (none)) else (some false)))) else (none)))) else (none)) = some r := by first | (rw [hy312]; with_reducible exact H) | (have H2_ := (Option.bind_some _ _).symm.trans H; rw [hy312]; with_reducible exact H2_) | (have H2_ := (Option.bind_some _ _).symm.trans H; with_reducible exact H2_) | with_reducible exact H | (rw [hy312]; exact H) | exact H
                            have Ny312 := Aside0.mk hy312
                            clear hy312
                            by_cases c36 : y309.length + y312.length < 140737488355328
                            · rw [if_pos c36] at H
                              have LMc36 := Aside0.mk c36
                              clear c36
                              obtain ⟨y316, hy316⟩ : ∃ y_ : List Int, y_ = (y309 ++ y312) := ⟨_, rfl⟩
                              replace H : ((some (t293.drop (t298 : Int).toNat : List Int)).bind fun y319 => (if y316.length + y319.length < 140737488355328 then ((some (y316 ++ y319 : List Int)).bind fun y323 => ((journal_Read.f kj14 y323).bind fun bt326 => (if bt326.2 = t297 then (if 0 ≤ (Int.tmod (wrap64 (a1)) (wrap64 ((l0.length : Int) - 1))) then (if (Int.tmod (wrap64 (a1)) (wrap64 ((l0.length : Int) - 1))) ≤ (l0.length : Int) then ((skiarearef29_Same.f kj14 bt326.1 (l0.take ((Int.tmod (wrap64 (a1)) (wrap64 ((l0.length : Int) - 1))) : Int).toNat)).bind fun t334 => (if t334 = true then ((journal_Whole.f kj14 y323).bind fun t335 => (some (!t335))) else (some false))) else (none)) else (none)) else (some false)))) else (none))) = some r := by first | (rw [hy316]; with_reducible exact H) | (have H2_ := (Option.bind_some _ _).symm.trans H; rw [hy316]; with_reducible exact H2_) | (have H2_ := (Option.bind_some _ _).symm.trans H; with_reducible exact H2_) | with_reducible exact H | (rw [hy316]; exact H) | exact H
                              have Ny316 := Aside0.mk hy316
                              clear hy316
                              have c37b0 := eq_true (of_decide_eq_true (by first | (with_reducible assumption) | assumption) : 0 ≤ t298)
                              have c38b0 := eq_true (of_decide_eq_true (by first | (with_reducible assumption) | assumption) : t298 ≤ (t293.length : Int))
                              obtain ⟨y319, hy319⟩ : ∃ y_ : List Int, y_ = (t293.drop (t298 : Int).toNat) := ⟨_, rfl⟩
                              replace H : (if y316.length + y319.length < 140737488355328 then ((some (y316 ++ y319 : List Int)).bind fun y323 => ((journal_Read.f kj14 y323).bind fun bt326 => (if bt326.2 = t297 then (if 0 ≤ (Int.tmod (wrap64 (a1)) (wrap64 ((l0.length : Int) - 1))) then (if (Int.tmod (wrap64 (a1)) (wrap64 ((l0.length : Int) - 1))) ≤ (l0.length : Int) then ((skiarearef29_Same.f kj14 bt326.1 (l0.take ((Int.tmod (wrap64 (a1)) (wrap64 ((l0.length : Int) - 1))) : Int).toNat)).bind fun t334 => (if t334 = true then ((journal_Whole.f kj14 y323).bind fun t335 => (some (!t335))) else (some false))) else (none)) else (none)) else (some false)))) else (none)) = some r := by first | (rw [hy319]; with_reducible exact H) | (have H2_ := (Option.bind_some _ _).symm.trans H; rw [hy319]; with_reducible exact H2_) | (have H2_ := (Option.bind_some _ _).symm.trans H; with_reducible exact H2_) | with_reducible exact H | (rw [hy319]; exact H) | exact H
                              have Ny319 := Aside0.mk hy319
                              clear hy319
                              by_cases c39 : y316.length + y319.length < 140737488355328
                              · rw [if_pos c39] at H
                                have LMc39 := Aside0.mk c39
                                clear c39
                                obtain ⟨y323, hy323⟩ : ∃ y_ : List Int, y_ = (y316 ++ y319) := ⟨_, rfl⟩
                                replace H : ((journal_Read.f kj14 y323).bind fun bt326 => (if bt326.2 = t297 then (if 0 ≤ (Int.tmod (wrap64 (a1)) (wrap64 ((l0.length : Int) - 1))) then (if (Int.tmod (wrap64 (a1)) (wrap64 ((l0.length : Int) - 1))) ≤ (l0.length : Int) then ((skiarearef29_Same.f kj14 bt326.1 (l0.take ((Int.tmod (wrap64 (a1)) (wrap64 ((l0.length : Int) - 1))) : Int).toNat)).bind fun t334 => (if t334 = true then ((journal_Whole.f kj14 y323).bind fun t335 => (some (!t335))) else (some false))) else (none)) else (none)) else (some false))) = some r := by first | (rw [hy323]; with_reducible exact H) | (have H2_ := (Option.bind_some _ _).symm.trans H; rw [hy323]; with_reducible exact H2_) | (have H2_ := (Option.bind_some _ _).symm.trans H; with_reducible exact H2_) | with_reducible exact H | (rw [hy323]; exact H) | exact H
                                have Ny323 := Aside0.mk hy323
                                clear hy323
                                replace H := Option.bind_eq_some_iff.mp H
                                obtain ⟨⟨t326, t327⟩, A400, H⟩ := H
                                replace H : (if t327 = t297 then (if 0 ≤ (Int.tmod (wrap64 (a1)) (wrap64 ((l0.length : Int) - 1))) then (if (Int.tmod (wrap64 (a1)) (wrap64 ((l0.length : Int) - 1))) ≤ (l0.length : Int) then ((skiarearef29_Same.f kj14 t326 (l0.take ((Int.tmod (wrap64 (a1)) (wrap64 ((l0.length : Int) - 1))) : Int).toNat)).bind fun t334 => (if t334 = true then ((journal_Whole.f kj14 y323).bind fun t335 => (some (!t335))) else (some false))) else (none)) else (none)) else (some false)) = some r := H
                                have A40 := Aside0.mk A400
                                clear A400
                                by_cases c41 : t327 = t297
                                · rw [if_pos c41] at H
                                  have c41b0 : (t327 == t297) = true := beq_iff_eq.mpr c41
                                  have c41b1 : (t327 != t297) = false := bne_eq_false_iff_eq.mpr c41
                                  clear c41
                                  obtain ⟨ji42, hji42⟩ : ∃ j_ : Int, (Int.tmod (wrap64 (a1)) (wrap64 ((l0.length : Int) - 1))) = j_ := ⟨_, rfl⟩
                                  replace H : (if 0 ≤ (ji42) then (if (ji42) ≤ (l0.length : Int) then ((skiarearef29_Same.f kj14 t326 (l0.take ((ji42) : Int).toNat)).bind fun t334 => (if t334 = true then ((journal_Whole.f kj14 y323).bind fun t335 => (some (!t335))) else (some false))) else (none)) else (none)) = some r := by first | (rw [hji42] at H; exact H) | (simp only [hji42] at H ⊢; exact H)
                                  (try rw [hji42] at A23)
                                  (try rw [hji42] at A26)
                                  (try rw [hji42] at A40)
                                  by_cases c43 : 0 ≤ (ji42)
                                  · rw [if_pos c43] at H
                                    have c43b0 := eq_true c43
                                    have c43b1 : decide (0 ≤ (ji42)) = true := decide_eq_true c43
                                    clear c43
                                    by_cases c44 : (ji42) ≤ (l0.length : Int)
                                    · rw [if_pos c44] at H
                                      have c44b0 := eq_true c44
                                      have c44b1 : decide ((ji42) ≤ (l0.length : Int)) = true := decide_eq_true c44
                                      clear c44
                                      obtain ⟨y330, hy330⟩ : ∃ y_ : List (S39), y_ = (l0.take ((ji42) : Int).toNat) := ⟨_, rfl⟩
                                      replace H : ((skiarearef29_Same.f kj14 t326 y330).bind fun t334 => (if t334 = true then ((journal_Whole.f kj14 y323).bind fun t335 => (some (!t335))) else (some false))) = some r := by first | (rw [hy330]; with_reducible exact H) | (have H2_ := (Option.bind_some _ _).symm.trans H; rw [hy330]; with_reducible exact H2_) | (have H2_ := (Option.bind_some _ _).symm.trans H; with_reducible exact H2_) | with_reducible exact H | (rw [hy330]; exact H) | exact H
                                      have Ny330 := Aside0.mk hy330
                                      clear hy330
                                      replace H := Option.bind_eq_some_iff.mp H
                                      obtain ⟨t334, A450, H⟩ := H
                                      replace H : (if t334 = true then ((journal_Whole.f kj14 y323).bind fun t335 => (some (!t335))) else (some false)) = some r := H
                                      have A45 := Aside0.mk A450
                                      clear A450
                                      by_cases c46 : t334 = true
                                      · subst c46
                                        have H1 : ((journal_Whole.f kj14 y323).bind fun t335 => (some (!t335))) = some r := by rw [if_pos rfl] at H; exact H
                                        clear H
                                        have H := H1
                                        clear H1
                                        replace H := Option.bind_eq_some_iff.mp H
                                        obtain ⟨t335, A470, H⟩ := H
                                        replace H : (some (!t335)) = some r := H
                                        have A47 := Aside0.mk A470
                                        clear A470
                                        obtain rfl := Option.some.inj H
                                        try go_wp2
                                        have n0_ := Aside0.mk (Kd.R_drew HO_5.out)
                                        have n1_ := Aside0.mk (below_drew1 HB.out)
                                        clear HO_5
                                        clear HB
                                        have HO_5 := n0_
                                        have HB := n1_
                                        clear n0_ n1_
                                        obtain ⟨Ao50, co50, eo50⟩ := Kd.R_slice HO_5.out
                                        (first | subst eo50 | (injection eo50 with f1_ f2_ f3_; have f4_ := f1_.symm; have f5_ := f3_.symm; clear f1_ f2_ f3_; subst f4_; subst f5_))
                                        have q49 : (t297 : Int) ≤ ((t293.length : Int) : Int) := of_decide_eq_true (by first | (with_reducible assumption) | assumption)
                                        obtain ⟨i049, hi049, _, hsz49, _⟩ := info_parts info5
                                        have hroom49 : t293.length ≤ co50 := (Kd.R_reads' HO_5.out).2.1
                                        have hC49 : Kd.C (Kd.int .u8) _ Ao50 t293.length t293 := (Kd.R_reads' HO_5.out).2.2
                                        have hcut49 := cut_to (P := Try.prog) 24 5 .i64 Try.underlying24 hi049 Ao50 t293.length co50 t297 (of_decide_eq_true (by first | (with_reducible assumption) | assumption)) q49 hroom49
                                        have hr49 := Kd.C_take (m := (t297 : Int).toNat) hC49 (by omega)
                                        have hy49 : y299.length = (t297 : Int).toNat := (by rw [Ny299.out, List.length_take]; omega)
                                        rw [← Ny299.out] at hr49
                                        rw [← hy49] at hcut49
                                        have HR302 := Aside0.mk hr49
                                        have HC302 := Aside0.mk (show y299.length ≤ co50 from by omega)
                                        clear hr49 hC49 hroom49 hi049 hsz49
                                        have KY49 := Aside0.mk hy49
                                        clear hy49
                                        have KL49 := Aside0.mk (show (t297 : Int).toNat ≤ t293.length from by omega)
                                        replace q49 := eq_true q49
                                        have q51 : (t298 : Int) ≤ ((t293.length : Int) : Int) := of_decide_eq_true (by first | (with_reducible assumption) | assumption)
                                        obtain ⟨i051, hi051, _, hsz51, _⟩ := info_parts info5
                                        have hroom51 : t293.length ≤ co50 := (Kd.R_reads' HO_5.out).2.1
                                        have hC51 : Kd.C (Kd.int .u8) _ Ao50 t293.length t293 := (Kd.R_reads' HO_5.out).2.2
                                        have hcut51 := cut_to (P := Try.prog) 24 5 .i64 Try.underlying24 hi051 Ao50 t293.length co50 t298 (of_decide_eq_true (by first | (with_reducible assumption) | assumption)) q51 hroom51
                                        have hr51 := Kd.C_take (m := (t298 : Int).toNat) hC51 (by omega)
                                        have hy51 : y304.length = (t298 : Int).toNat := (by rw [Ny304.out, List.length_take]; omega)
                                        rw [← Ny304.out] at hr51
                                        rw [← hy51] at hcut51
                                        have HR307 := Aside0.mk hr51
                                        have HC307 := Aside0.mk (show y304.length ≤ co50 from by omega)
                                        clear hr51 hC51 hroom51 hi051 hsz51
                                        have KY51 := Aside0.mk hy51
                                        clear hy51
                                        have KL51 := Aside0.mk (show (t298 : Int).toNat ≤ t293.length from by omega)
                                        replace q51 := eq_true q51
                                        refine start_ (n := 9) (S := fun w' => True) (ds := []) #[false, false, false, false, false, false, false, false, false] (by kernel_rfl) rfl rfl trivial (fun hHeld => ?_); refine with_tabW skiarealaw29_JournalDrops.tab10 skiarealaw29_JournalDrops.bits10 (fun HT_ HW_ => ?_)
                                        generalize wc.drew = w48 at HO_5 HB HR302 HR307 hHeld ⊢
                                        refine pure_ (i := 0) (N := some 54) (v := ?_) (a' := ?_) #[true, false, false, false, false, false, false, false, false] rfl rfl (any_of HT_.out (by kernel_rfl)) (fun _ _ _ h => h) (Or.inl ⟨by rfl, ?_⟩) ?_ ?_
                                        rotate_left
                                        · intro w'
                                          go_simp
                                          with_reducible rfl
                                        rotate_left
                                        · simp only [Act.put, List.setIfInBounds_toArray, List.set_cons_zero, List.set_cons_succ, i64_w, i32_w, IntKind.wrap_u8, IntKind.wrap_u32]
                                          rfl
                                        refine pure_ (i := 1) (N := some 55) (v := ?_) (a' := ?_) #[true, true, false, false, false, false, false, false, false] rfl rfl (any_of HT_.out (by kernel_rfl)) (fun _ _ _ h => h) (Or.inl ⟨by rfl, ?_⟩) ?_ ?_
                                        rotate_left
                                        · intro w'
                                          go_simp
                                          with_reducible rfl
                                        rotate_left
                                        · simp only [Act.put, List.setIfInBounds_toArray, List.set_cons_zero, List.set_cons_succ, i64_w, i32_w, IntKind.wrap_u8, IntKind.wrap_u32]
                                          rfl
                                        refine pure_ (i := 2) (N := some 56) (v := ?_) (a' := ?_) #[true, true, true, false, false, false, false, false, false] rfl rfl (any_of HT_.out (by kernel_rfl)) (fun _ _ _ h => h) (Or.inl ⟨by rfl, ?_⟩) ?_ ?_
                                        rotate_left
                                        · intro w'
                                          go_simp
                                          with_reducible rfl
                                        rotate_left
                                        · simp only [Act.put, List.setIfInBounds_toArray, List.set_cons_zero, List.set_cons_succ, i64_w, i32_w, IntKind.wrap_u8, IntKind.wrap_u32]
                                          rfl
                                        refine pure_ (i := 4) (N := some 58) (v := ?_) (a' := ?_) #[true, true, true, false, true, false, false, false, false] rfl rfl (any_of HT_.out (by kernel_rfl)) (fun _ _ _ h => h) (Or.inl ⟨by rfl, ?_⟩) ?_ ?_
                                        rotate_left
                                        · intro w'
                                          go_simp
                                          with_reducible rfl
                                        rotate_left
                                        · simp only [Act.put, List.setIfInBounds_toArray, List.set_cons_zero, List.set_cons_succ, i64_w, i32_w, IntKind.wrap_u8, IntKind.wrap_u32]
                                          rfl
                                        refine pure_ (i := 5) (N := some 59) (v := ?_) (a' := ?_) #[true, true, true, false, true, true, false, false, false] rfl rfl (any_of HT_.out (by kernel_rfl)) (fun _ _ _ h => h) (Or.inl ⟨by rfl, ?_⟩) ?_ ?_
                                        rotate_left
                                        · intro w'
                                          go_simp
                                          with_reducible rfl
                                        rotate_left
                                        · simp only [Act.put, List.setIfInBounds_toArray, List.set_cons_zero, List.set_cons_succ, i64_w, i32_w, IntKind.wrap_u8, IntKind.wrap_u32]
                                          rfl
                                        refine pure_ (i := 6) (N := some 60) (v := ?_) (a' := ?_) #[true, true, true, false, true, true, true, false, false] rfl rfl (any_of HT_.out (by kernel_rfl)) (fun _ _ _ h => h) (Or.inl ⟨by rfl, ?_⟩) ?_ ?_
                                        rotate_left
                                        · intro w'
                                          go_simp
                                          with_reducible rfl
                                        rotate_left
                                        · simp only [Act.put, List.setIfInBounds_toArray, List.set_cons_zero, List.set_cons_succ, i64_w, i32_w, IntKind.wrap_u8, IntKind.wrap_u32]
                                          rfl
                                        refine one_ (i := 3) (N := some 57) #[true, true, true, true, true, true, true, false, false] rfl rfl (one_of HT_.out (by kernel_rfl)) (by decide) (fun K hK => ?_)
                                        refine goes_ Try.func16 (by kernel_rfl) rfl #[.slice Ao50 y299.length co50] (by rfl) rfl rfl (by (try simp only [List.map_toArray, List.map_cons, List.map_nil]); first | done | rfl | (simp only [List.length_drop, List.length_take]; rfl)) ?_
                                        with_reducible refine (journal_Last.calls kj14 _ _ y299 t303 _ ?side1 ?side2 A23.out).mono ?_
                                        (case side1 => repeat (first | exact (by repeat (first | (with_reducible exact HR302.out) | (with_reducible refine Kd.C_alloc ?_ _) | (with_reducible refine Kd.C_drewN ?_ _) | (with_reducible refine Kd.C_drew ?_) | exact HR302.out)) | (with_reducible refine Kd.C_alloc ?_ _) | (with_reducible refine Kd.C_drewN ?_ _) | (with_reducible refine Kd.C_drew ?_)))
                                        (case side2 => exact HC302.out)
                                        rintro e w52 ⟨rfl, hb⟩
                                        refine ⟨_, rfl, ?_⟩
                                        have n0_ := Aside0.mk (Kd.R_below (by (with_reducible repeat (first | apply Kd.R_alloc | apply Kd.R_drewN | apply Kd.R_drew)); exact HO_5.out) hb)
                                        have n1_ := Aside0.mk (Kd.C_below (by repeat (first | (with_reducible exact HR302.out) | (with_reducible refine Kd.C_alloc ?_ _) | (with_reducible refine Kd.C_drewN ?_ _) | (with_reducible refine Kd.C_drew ?_) | exact HR302.out)) hb)
                                        have n2_ := Aside0.mk (Kd.C_below (by repeat (first | (with_reducible exact HR307.out) | (with_reducible refine Kd.C_alloc ?_ _) | (with_reducible refine Kd.C_drewN ?_ _) | (with_reducible refine Kd.C_drew ?_) | exact HR307.out)) hb)
                                        have n3_ := Aside0.mk (below_step (by repeat (first | (with_reducible first | exact HB.out | apply below_alloc | apply pw_below_drewN | apply below_drew1) | exact HB.out)) hb)
                                        clear HO_5
                                        clear HR302
                                        clear HR307
                                        clear HB
                                        have HO_5 := n0_
                                        have HR302 := n1_
                                        have HR307 := n2_
                                        have HB := n3_
                                        clear n0_ n1_ n2_ n3_
                                        (try clear hb)
                                        (try clear hb2)
                                        (try clear hk)
                                        (try clear hi)
                                        refine hK.out _ _ trivial (fun hHeld => ?_)
                                        clear hK K
                                        refine norm_ (a' := ?_) ?_ ?_
                                        rotate_left
                                        · show Act.put _ (some 57) _ = _
                                          simp only [Act.put, List.setIfInBounds_toArray, List.set_cons_zero, List.set_cons_succ, i64_w, i32_w, IntKind.wrap_u8, IntKind.wrap_u32]
                                          rfl
                                        refine one_ (i := 7) (N := some 61) #[true, true, true, true, true, true, true, true, false] rfl rfl (one_of HT_.out (by kernel_rfl)) (by decide) (fun K hK => ?_)
                                        refine goes_ Try.func16 (by kernel_rfl) rfl #[.slice Ao50 y304.length co50] (by rfl) rfl rfl (by (try simp only [List.map_toArray, List.map_cons, List.map_nil]); first | done | rfl | (simp only [List.length_drop, List.length_take]; rfl)) ?_
                                        with_reducible refine (journal_Last.calls kj14 _ _ y304 t308 _ ?side1 ?side2 A26.out).mono ?_
                                        (case side1 => repeat (first | exact (by repeat (first | (with_reducible exact HR307.out) | (with_reducible refine Kd.C_alloc ?_ _) | (with_reducible refine Kd.C_drewN ?_ _) | (with_reducible refine Kd.C_drew ?_) | exact HR307.out)) | (with_reducible refine Kd.C_alloc ?_ _) | (with_reducible refine Kd.C_drewN ?_ _) | (with_reducible refine Kd.C_drew ?_)))
                                        (case side2 => exact HC307.out)
                                        rintro e w53 ⟨rfl, hb⟩
                                        refine ⟨_, rfl, ?_⟩
                                        have n0_ := Aside0.mk (Kd.R_below (by (with_reducible repeat (first | apply Kd.R_alloc | apply Kd.R_drewN | apply Kd.R_drew)); exact HO_5.out) hb)
                                        have n1_ := Aside0.mk (Kd.C_below (by repeat (first | (with_reducible exact HR302.out) | (with_reducible refine Kd.C_alloc ?_ _) | (with_reducible refine Kd.C_drewN ?_ _) | (with_reducible refine Kd.C_drew ?_) | exact HR302.out)) hb)
                                        have n2_ := Aside0.mk (Kd.C_below (by repeat (first | (with_reducible exact HR307.out) | (with_reducible refine Kd.C_alloc ?_ _) | (with_reducible refine Kd.C_drewN ?_ _) | (with_reducible refine Kd.C_drew ?_) | exact HR307.out)) hb)
                                        have n3_ := Aside0.mk (below_step (by repeat (first | (with_reducible first | exact HB.out | apply below_alloc | apply pw_below_drewN | apply below_drew1) | exact HB.out)) hb)
                                        clear HO_5
                                        clear HR302
                                        clear HR307
                                        clear HB
                                        have HO_5 := n0_
                                        have HR302 := n1_
                                        have HR307 := n2_
                                        have HB := n3_
                                        clear n0_ n1_ n2_ n3_
                                        (try clear hb)
                                        (try clear hb2)
                                        (try clear hk)
                                        (try clear hi)
                                        refine hK.out _ _ trivial (fun hHeld => ?_)
                                        clear hK K
                                        refine norm_ (a' := ?_) ?_ ?_
                                        rotate_left
                                        · show Act.put _ (some 61) _ = _
                                          simp only [Act.put, List.setIfInBounds_toArray, List.set_cons_zero, List.set_cons_succ, i64_w, i32_w, IntKind.wrap_u8, IntKind.wrap_u32]
                                          rfl
                                        refine pure_ (i := 8) (N := some 62) (v := ?_) (a' := ?_) #[true, true, true, true, true, true, true, true, true] rfl rfl (any_of HT_.out (by kernel_rfl)) (fun _ _ _ h => h) (Or.inl ⟨by rfl, ?_⟩) ?_ ?_
                                        rotate_left
                                        · intro w'
                                          go_simp
                                          with_reducible rfl
                                        rotate_left
                                        · simp only [Act.put, List.setIfInBounds_toArray, List.set_cons_zero, List.set_cons_succ, i64_w, i32_w, IntKind.wrap_u8, IntKind.wrap_u32]
                                          rfl
                                        refine done_ (done_of HT_.out (by kernel_rfl)) ?_
                                        try go_wp2
                                        have n0_ := Aside0.mk (Kd.R_drew HO_5.out)
                                        have n1_ := Aside0.mk (Kd.C_drew HR302.out)
                                        have n2_ := Aside0.mk (Kd.C_drew HR307.out)
                                        have n3_ := Aside0.mk (below_drew1 HB.out)
                                        clear HO_5
                                        clear HR302
                                        clear HR307
                                        clear HB
                                        have HO_5 := n0_
                                        have HR302 := n1_
                                        have HR307 := n2_
                                        have HB := n3_
                                        clear n0_ n1_ n2_ n3_
                                        have q55 : (t297 : Int) ≤ ((t293.length : Int) : Int) := of_decide_eq_true (by first | (with_reducible assumption) | assumption)
                                        obtain ⟨i055, hi055, _, hsz55, _⟩ := info_parts info5
                                        have hroom55 : t293.length ≤ co50 := (Kd.R_reads' HO_5.out).2.1
                                        have hC55 : Kd.C (Kd.int .u8) _ Ao50 t293.length t293 := (Kd.R_reads' HO_5.out).2.2
                                        have hcut55 := cut_to (P := Try.prog) 24 5 .i64 Try.underlying24 hi055 Ao50 t293.length co50 t297 (of_decide_eq_true (by first | (with_reducible assumption) | assumption)) q55 hroom55
                                        have hr55 := Kd.C_take (m := (t297 : Int).toNat) hC55 (by omega)
                                        have hy55 : y312.length = (t297 : Int).toNat := (by rw [Ny312.out, List.length_take]; omega)
                                        rw [← Ny312.out] at hr55
                                        rw [← hy55] at hcut55
                                        have HR315 := Aside0.mk hr55
                                        have HC315 := Aside0.mk (show y312.length ≤ co50 from by omega)
                                        clear hr55 hC55 hroom55 hi055 hsz55
                                        have KY55 := Aside0.mk hy55
                                        clear hy55
                                        have KL55 := Aside0.mk (show (t297 : Int).toNat ≤ t293.length from by omega)
                                        replace q55 := eq_true q55
                                        have q56 : (t298 : Int) ≤ ((t293.length : Int) : Int) := of_decide_eq_true (by first | (with_reducible assumption) | assumption)
                                        obtain ⟨i056, hi056, _, hsz56, _⟩ := info_parts info5
                                        have hroom56 : t293.length ≤ co50 := (Kd.R_reads' HO_5.out).2.1
                                        have hC56 : Kd.C (Kd.int .u8) _ Ao50 t293.length t293 := (Kd.R_reads' HO_5.out).2.2
                                        have q056 : (0 : Int) ≤ (t298 : Int) := of_decide_eq_true (by first | (with_reducible assumption) | assumption)
                                        have hcut56 := cut_from (P := Try.prog) 24 5 .i64 Try.underlying24 hi056 1 hsz56 Ao50 t293.length co50 t298 q056 q56
                                        have hr56 := Kd.C_drop (m := (t298 : Int).toNat) (c := co50) hC56 (by omega) hroom56
                                        obtain ⟨A56, hA56⟩ : ∃ A1, A1 = (if co50 = (t298 : Int).toNat then Ao50 else (Ao50 : Option Addr).map (·.add ((t298 : Int).toNat * 1))) := ⟨_, rfl⟩
                                        obtain ⟨c56, hc56⟩ : ∃ c1, c1 = co50 - (t298 : Int).toNat := ⟨_, rfl⟩
                                        have hy56 : y319.length = t293.length - (t298 : Int).toNat := (by rw [Ny319.out, List.length_drop] <;> omega)
                                        rw [show (t293).drop (t298 : Int).toNat = y319 from Ny319.out.symm] at hr56
                                        replace hr56 : Kd.C (Kd.int .u8) _ A56 y319.length y319 := (by rw [hA56]; exact hr56)
                                        rw [← hy56, ← hA56, ← hc56] at hcut56
                                        have HR322 := Aside0.mk hr56
                                        have HC322 := Aside0.mk (show y319.length ≤ c56 from by rw [hy56, hc56]; exact Nat.sub_le_sub_right hroom56 _)
                                        clear hr56 hC56 hroom56 hi056 hsz56 hc56
                                        have KY56 := Aside0.mk hy56
                                        have KA56 := Aside0.mk hA56
                                        clear hy56 hA56
                                        have KL56 := Aside0.mk (show (t298 : Int).toNat ≤ t293.length from by omega)
                                        replace q56 := eq_true q56
                                        refine start_ (n := 10) (S := fun w' => True) (ds := []) #[false, false, false, false, false, false, false, false, false, false] (by kernel_rfl) rfl rfl trivial (fun hHeld => ?_); refine with_tabW skiarealaw29_JournalDrops.tab12 skiarealaw29_JournalDrops.bits12 (fun HT_ HW_ => ?_)
                                        generalize w53.drew = w54 at HO_5 HR302 HR307 HB HR315 HR322 hHeld ⊢
                                        refine pure_ (i := 1) (N := some 64) (v := ?_) (a' := ?_) #[false, true, false, false, false, false, false, false, false, false] rfl rfl (any_of HT_.out (by kernel_rfl)) (fun _ _ _ h => h) (Or.inl ⟨by rfl, ?_⟩) ?_ ?_
                                        rotate_left
                                        · intro w'
                                          go_simp
                                          with_reducible rfl
                                        rotate_left
                                        · simp only [Act.put, List.setIfInBounds_toArray, List.set_cons_zero, List.set_cons_succ, i64_w, i32_w, IntKind.wrap_u8, IntKind.wrap_u32]
                                          rfl
                                        refine pure_ (i := 2) (N := some 65) (v := ?_) (a' := ?_) #[false, true, true, false, false, false, false, false, false, false] rfl rfl (any_of HT_.out (by kernel_rfl)) (fun _ _ _ h => h) (Or.inl ⟨by rfl, ?_⟩) ?_ ?_
                                        rotate_left
                                        · intro w'
                                          go_simp
                                          with_reducible rfl
                                        rotate_left
                                        · simp only [Act.put, List.setIfInBounds_toArray, List.set_cons_zero, List.set_cons_succ, i64_w, i32_w, IntKind.wrap_u8, IntKind.wrap_u32]
                                          rfl
                                        refine pure_ (i := 3) (N := some 66) (v := ?_) (a' := ?_) #[false, true, true, true, false, false, false, false, false, false] rfl rfl (any_of HT_.out (by kernel_rfl)) (fun _ _ _ h => h) (Or.inl ⟨by rfl, ?_⟩) ?_ ?_
                                        rotate_left
                                        · intro w'
                                          go_simp
                                          with_reducible rfl
                                        rotate_left
                                        · simp only [Act.put, List.setIfInBounds_toArray, List.set_cons_zero, List.set_cons_succ, i64_w, i32_w, IntKind.wrap_u8, IntKind.wrap_u32]
                                          rfl
                                        refine pure_ (i := 5) (N := some 68) (v := ?_) (a' := ?_) #[false, true, true, true, false, true, false, false, false, false] rfl rfl (any_of HT_.out (by kernel_rfl)) (fun _ _ _ h => h) (Or.inl ⟨by rfl, ?_⟩) ?_ ?_
                                        rotate_left
                                        · intro w'
                                          go_simp
                                          with_reducible rfl
                                        rotate_left
                                        · simp only [Act.put, List.setIfInBounds_toArray, List.set_cons_zero, List.set_cons_succ, i64_w, i32_w, IntKind.wrap_u8, IntKind.wrap_u32]
                                          rfl
                                        refine pure_ (i := 6) (N := some 69) (v := ?_) (a' := ?_) #[false, true, true, true, false, true, true, false, false, false] rfl rfl (any_of HT_.out (by kernel_rfl)) (fun _ _ _ h => h) (Or.inl ⟨by rfl, ?_⟩) ?_ ?_
                                        rotate_left
                                        · intro w'
                                          go_simp
                                          with_reducible rfl
                                        rotate_left
                                        · simp only [Act.put, List.setIfInBounds_toArray, List.set_cons_zero, List.set_cons_succ, i64_w, i32_w, IntKind.wrap_u8, IntKind.wrap_u32]
                                          rfl
                                        refine pure_ (i := 7) (N := some 70) (v := ?_) (a' := ?_) #[false, true, true, true, false, true, true, true, false, false] rfl rfl (any_of HT_.out (by kernel_rfl)) (fun _ _ _ h => h) (Or.inl ⟨by rfl, ?_⟩) ?_ ?_
                                        rotate_left
                                        · intro w'
                                          go_simp
                                          with_reducible rfl
                                        rotate_left
                                        · simp only [Act.put, List.setIfInBounds_toArray, List.set_cons_zero, List.set_cons_succ, i64_w, i32_w, IntKind.wrap_u8, IntKind.wrap_u32]
                                          rfl
                                        refine one_ (i := 0) (N := some 63) #[true, true, true, true, false, true, true, true, false, false] rfl rfl (one_of HT_.out (by kernel_rfl)) (by decide) (fun K hK => ?_)
                                        refine Kd.R_lit_step (Kd.int .u8) _ 5 ?hg (N := 63) ?hd (xs := ([] : List Int)) (inner := []) (ok := fun _ => True) (okp := fun _ => True) ?hr ?hp (fun _ hk => hk) trivial (Below.refl _ _) (Nat.le_refl _) (by simp) ?_; (case hd => rfl); (case hg => rfl); (case hr => first | (go_simp; done) | (go_simp; rfl)); (case hp => exact (Reps.none _ _))
                                        intro v310 w57 ho58 hb hg_ hnew_
                                        clear hg_ hnew_
                                        (first | rw [← Ny309.out] at ho58 | (simp only [Int.reduceToNat] at ho58; rw [← Ny309.out] at ho58))
                                        have n0_ := Aside0.mk (Kd.R_elder' (by (with_reducible repeat (first | apply Kd.R_alloc | apply Kd.R_drewN | apply Kd.R_drew)); exact HO_5.out) (Kd.R_base ho58) hb)
                                        have n1_ := Aside0.mk (Kd.R_lower (Kd.R_new' ho58 (Kd.R_lt (by (with_reducible repeat (first | apply Kd.R_alloc | apply Kd.R_drewN | apply Kd.R_drew)); exact HO_5.out))) (below_size (by repeat (first | (with_reducible first | exact HB.out | apply below_alloc | apply pw_below_drewN | apply below_drew1) | exact HB.out))))
                                        have n2_ := Aside0.mk (Kd.C_below (by repeat (first | (with_reducible exact HR302.out) | (with_reducible refine Kd.C_alloc ?_ _) | (with_reducible refine Kd.C_drewN ?_ _) | (with_reducible refine Kd.C_drew ?_) | exact HR302.out)) hb)
                                        have n3_ := Aside0.mk (Kd.C_below (by repeat (first | (with_reducible exact HR307.out) | (with_reducible refine Kd.C_alloc ?_ _) | (with_reducible refine Kd.C_drewN ?_ _) | (with_reducible refine Kd.C_drew ?_) | exact HR307.out)) hb)
                                        have n4_ := Aside0.mk (Kd.C_below (by repeat (first | (with_reducible exact HR315.out) | (with_reducible refine Kd.C_alloc ?_ _) | (with_reducible refine Kd.C_drewN ?_ _) | (with_reducible refine Kd.C_drew ?_) | exact HR315.out)) hb)
                                        have n5_ := Aside0.mk (Kd.C_below (by repeat (first | (with_reducible exact HR322.out) | (with_reducible refine Kd.C_alloc ?_ _) | (with_reducible refine Kd.C_drewN ?_ _) | (with_reducible refine Kd.C_drew ?_) | exact HR322.out)) hb)
                                        have n6_ := Aside0.mk (below_step (by repeat (first | (with_reducible first | exact HB.out | apply below_alloc | apply pw_below_drewN | apply below_drew1) | exact HB.out)) hb)
                                        clear HO_5
                                        clear HR302
                                        clear HR307
                                        clear HR315
                                        clear HR322
                                        clear HB
                                        have HO_5 := n0_
                                        have HO311 := n1_
                                        have HR302 := n2_
                                        have HR307 := n3_
                                        have HR315 := n4_
                                        have HR322 := n5_
                                        have HB := n6_
                                        clear n0_ n1_ n2_ n3_ n4_ n5_ n6_
                                        clear hb ho58
                                        refine hK.out _ _ trivial (fun hHeld => ?_)
                                        clear hK K
                                        refine norm_ (a' := ?_) ?_ ?_
                                        rotate_left
                                        · show Act.put _ (some 63) _ = _
                                          simp only [Act.put, List.setIfInBounds_toArray, List.set_cons_zero, List.set_cons_succ, i64_w, i32_w, IntKind.wrap_u8, IntKind.wrap_u32]
                                          rfl
                                        refine one_ (i := 4) (N := some 67) #[true, true, true, true, true, true, true, true, false, false] rfl rfl (one_of HT_.out (by kernel_rfl)) (by decide) (fun K hK => ?_)
                                        refine Kd.R_append_rows_step (Kd.int .u8) (w0 := w) w.heap.size (by rfl) (.tmp 63) (.tmp 66) 24 5 (.int .u8 0) 1 rfl Try.underlying24 info5 rfl (by decide) (by omega) v310 y309 y312 _ _ _ (fun k_ => some k_ ≠ (.slice Ao50 t293.length co50 : Value).ownBlock) (fun _ => False) rfl rfl ?aO ?aR (fun _ _ h => h) (fun _ h => h.elim) ?aF ?aB ?aS ?aL ?_
                                        (case aR => (try rw [show y299.length = y312.length from by rw [Ny299.out, Ny312.out]]); repeat (first | exact (by repeat (first | (with_reducible exact HR315.out) | (with_reducible refine Kd.C_alloc ?_ _) | (with_reducible refine Kd.C_drewN ?_ _) | (with_reducible refine Kd.C_drew ?_) | exact HR315.out)) | (with_reducible refine Kd.C_alloc ?_ _) | (with_reducible refine Kd.C_drewN ?_ _) | (with_reducible refine Kd.C_drew ?_)))
                                        (case aB => exact (by repeat (first | (with_reducible first | exact HB.out | apply below_alloc | apply pw_below_drewN | apply below_drew1) | exact HB.out)))
                                        (case aF => exact (fun k_ hk => Kd.fresh' (Kd.R_lt (by (with_reducible repeat (first | apply Kd.R_alloc | apply Kd.R_drewN | apply Kd.R_drew)); exact HO_5.out)) k_ hk))
                                        (case aO => exact (by (with_reducible repeat (first | apply Kd.R_alloc | apply Kd.R_drewN | apply Kd.R_drew)); exact Kd.R_mono HO311.out (fun _ hk => hk.2)))
                                        (case aS => exact (below_size (by repeat (first | (with_reducible first | exact HB.out | apply below_alloc | apply pw_below_drewN | apply below_drew1) | exact HB.out))))
                                        (case aL => have hsame := congrArg List.length (Ny299.out.trans Ny312.out.symm); have := LMc36.out; omega)
                                        intro v317 w59 ho hb hg hat
                                        rw [← Ny316.out] at ho
                                        have n0_ := Aside0.mk (Kd.R_after (ok := (fun _ => True)) (by (with_reducible repeat (first | apply Kd.R_alloc | apply Kd.R_drewN | apply Kd.R_drew)); exact HO_5.out) hg hat)
                                        have n1_ := Aside0.mk (hb)
                                        have n2_ := Aside0.mk ((show Kd.C (Kd.int .u8) w59 Ao50 y299.length y299 from by rw [Ny299.out]; exact Kd.C_take (m := (t297 : Int).toNat) ((Kd.R_reads' (Kd.R_after (ok := (fun _ => True)) (by (with_reducible repeat (first | apply Kd.R_alloc | apply Kd.R_drewN | apply Kd.R_drew)); exact HO_5.out) hg hat)).2.2) KL49.out))
                                        have n3_ := Aside0.mk ((show Kd.C (Kd.int .u8) w59 Ao50 y304.length y304 from by rw [Ny304.out]; exact Kd.C_take (m := (t298 : Int).toNat) ((Kd.R_reads' (Kd.R_after (ok := (fun _ => True)) (by (with_reducible repeat (first | apply Kd.R_alloc | apply Kd.R_drewN | apply Kd.R_drew)); exact HO_5.out) hg hat)).2.2) KL51.out))
                                        have n4_ := Aside0.mk ((show Kd.C (Kd.int .u8) w59 Ao50 y312.length y312 from by rw [Ny312.out]; exact Kd.C_take (m := (t297 : Int).toNat) ((Kd.R_reads' (Kd.R_after (ok := (fun _ => True)) (by (with_reducible repeat (first | apply Kd.R_alloc | apply Kd.R_drewN | apply Kd.R_drew)); exact HO_5.out) hg hat)).2.2) KL55.out))
                                        have n5_ := Aside0.mk ((show Kd.C (Kd.int .u8) w59 A56 y319.length y319 from by rw [Ny319.out, KA56.out]; exact Kd.C_drop (m := (t298 : Int).toNat) (c := co50) ((Kd.R_reads' (Kd.R_after (ok := (fun _ => True)) (by (with_reducible repeat (first | apply Kd.R_alloc | apply Kd.R_drewN | apply Kd.R_drew)); exact HO_5.out) hg hat)).2.2) KL56.out ((Kd.R_reads' (Kd.R_after (ok := (fun _ => True)) (by (with_reducible repeat (first | apply Kd.R_alloc | apply Kd.R_drewN | apply Kd.R_drew)); exact HO_5.out) hg hat)).2.1)))
                                        have n6_ := Aside0.mk (ho)
                                        clear HO_5
                                        clear HB
                                        clear HR302
                                        clear HR307
                                        clear HR315
                                        clear HR322
                                        clear HO311
                                        have HO_5 := n0_
                                        have HB := n1_
                                        have HR302 := n2_
                                        have HR307 := n3_
                                        have HR315 := n4_
                                        have HR322 := n5_
                                        have HO318 := n6_
                                        clear n0_ n1_ n2_ n3_ n4_ n5_ n6_
                                        clear ho hb hg hat
                                        refine hK.out _ _ trivial (fun hHeld => ?_)
                                        clear hK K
                                        refine norm_ (a' := ?_) ?_ ?_
                                        rotate_left
                                        · show Act.put _ (some 67) _ = _
                                          simp only [Act.put, List.setIfInBounds_toArray, List.set_cons_zero, List.set_cons_succ, i64_w, i32_w, IntKind.wrap_u8, IntKind.wrap_u32]
                                          rfl
                                        refine one_ (i := 8) (N := some 71) #[true, true, true, true, true, true, true, true, true, false] rfl rfl (one_of HT_.out (by kernel_rfl)) (by decide) (fun K hK => ?_)
                                        refine Kd.R_append_rows_step (Kd.int .u8) (w0 := w) w.heap.size (by rfl) (.tmp 67) (.tmp 70) 24 5 (.int .u8 0) 1 rfl Try.underlying24 info5 rfl (by decide) (by omega) v317 y316 y319 _ _ _ (fun k_ => some k_ ≠ (.slice Ao50 t293.length co50 : Value).ownBlock) (fun _ => False) rfl rfl ?aO ?aR (fun _ _ h => h) (fun _ h => h.elim) ?aF ?aB ?aS ?aL ?_
                                        (case aR => repeat (first | exact (by repeat (first | (with_reducible exact HR322.out) | (with_reducible refine Kd.C_alloc ?_ _) | (with_reducible refine Kd.C_drewN ?_ _) | (with_reducible refine Kd.C_drew ?_) | exact HR322.out)) | (with_reducible refine Kd.C_alloc ?_ _) | (with_reducible refine Kd.C_drewN ?_ _) | (with_reducible refine Kd.C_drew ?_)))
                                        (case aB => exact (by repeat (first | (with_reducible first | exact HB.out | apply below_alloc | apply pw_below_drewN | apply below_drew1) | exact HB.out)))
                                        (case aF => exact (fun k_ hk => Kd.fresh' (Kd.R_lt (by (with_reducible repeat (first | apply Kd.R_alloc | apply Kd.R_drewN | apply Kd.R_drew)); exact HO_5.out)) k_ hk))
                                        (case aO => exact (by (with_reducible repeat (first | apply Kd.R_alloc | apply Kd.R_drewN | apply Kd.R_drew)); exact HO318.out))
                                        (case aS => exact (below_size (by repeat (first | (with_reducible first | exact HB.out | apply below_alloc | apply pw_below_drewN | apply below_drew1) | exact HB.out))))
                                        (case aL => have := LMc39.out; omega)
                                        intro v324 w60 ho hb hg hat
                                        rw [← Ny323.out] at ho
                                        have n0_ := Aside0.mk (Kd.R_after (ok := (fun _ => True)) (by (with_reducible repeat (first | apply Kd.R_alloc | apply Kd.R_drewN | apply Kd.R_drew)); exact HO_5.out) hg hat)
                                        have n1_ := Aside0.mk (hb)
                                        have n2_ := Aside0.mk ((show Kd.C (Kd.int .u8) w60 Ao50 y299.length y299 from by rw [Ny299.out]; exact Kd.C_take (m := (t297 : Int).toNat) ((Kd.R_reads' (Kd.R_after (ok := (fun _ => True)) (by (with_reducible repeat (first | apply Kd.R_alloc | apply Kd.R_drewN | apply Kd.R_drew)); exact HO_5.out) hg hat)).2.2) KL49.out))
                                        have n3_ := Aside0.mk ((show Kd.C (Kd.int .u8) w60 Ao50 y304.length y304 from by rw [Ny304.out]; exact Kd.C_take (m := (t298 : Int).toNat) ((Kd.R_reads' (Kd.R_after (ok := (fun _ => True)) (by (with_reducible repeat (first | apply Kd.R_alloc | apply Kd.R_drewN | apply Kd.R_drew)); exact HO_5.out) hg hat)).2.2) KL51.out))
                                        have n4_ := Aside0.mk ((show Kd.C (Kd.int .u8) w60 Ao50 y312.length y312 from by rw [Ny312.out]; exact Kd.C_take (m := (t297 : Int).toNat) ((Kd.R_reads' (Kd.R_after (ok := (fun _ => True)) (by (with_reducible repeat (first | apply Kd.R_alloc | apply Kd.R_drewN | apply Kd.R_drew)); exact HO_5.out) hg hat)).2.2) KL55.out))
                                        have n5_ := Aside0.mk ((show Kd.C (Kd.int .u8) w60 A56 y319.length y319 from by rw [Ny319.out, KA56.out]; exact Kd.C_drop (m := (t298 : Int).toNat) (c := co50) ((Kd.R_reads' (Kd.R_after (ok := (fun _ => True)) (by (with_reducible repeat (first | apply Kd.R_alloc | apply Kd.R_drewN | apply Kd.R_drew)); exact HO_5.out) hg hat)).2.2) KL56.out ((Kd.R_reads' (Kd.R_after (ok := (fun _ => True)) (by (with_reducible repeat (first | apply Kd.R_alloc | apply Kd.R_drewN | apply Kd.R_drew)); exact HO_5.out) hg hat)).2.1)))
                                        have n6_ := Aside0.mk (ho)
                                        clear HO_5
                                        clear HB
                                        clear HR302
                                        clear HR307
                                        clear HR315
                                        clear HR322
                                        clear HO318
                                        have HO_5 := n0_
                                        have HB := n1_
                                        have HR302 := n2_
                                        have HR307 := n3_
                                        have HR315 := n4_
                                        have HR322 := n5_
                                        have HO325 := n6_
                                        clear n0_ n1_ n2_ n3_ n4_ n5_ n6_
                                        clear ho hb hg hat
                                        refine hK.out _ _ trivial (fun hHeld => ?_)
                                        clear hK K
                                        refine norm_ (a' := ?_) ?_ ?_
                                        rotate_left
                                        · show Act.put _ (some 71) _ = _
                                          simp only [Act.put, List.setIfInBounds_toArray, List.set_cons_zero, List.set_cons_succ, i64_w, i32_w, IntKind.wrap_u8, IntKind.wrap_u32]
                                          rfl
                                        refine pure_ (i := 9) (N := some 10) (v := ?_) (a' := ?_) #[true, true, true, true, true, true, true, true, true, true] rfl rfl (any_of HT_.out (by kernel_rfl)) (fun _ _ _ h => h) (Or.inl ⟨by rfl, ?_⟩) ?_ ?_
                                        rotate_left
                                        · intro w'
                                          go_simp
                                          with_reducible rfl
                                        rotate_left
                                        · simp only [Act.put, List.setIfInBounds_toArray, List.set_cons_zero, List.set_cons_succ, i64_w, i32_w, IntKind.wrap_u8, IntKind.wrap_u32]
                                          rfl
                                        refine done_ (done_of HT_.out (by kernel_rfl)) ?_
                                        obtain ⟨Ao61, co61, eo61⟩ := Kd.R_slice HO325.out
                                        subst eo61
                                        try go_wp2_with (first | ((with_reducible refine gate_callee (f := 13) rfl ?_); refine goesL_ (some 74) rfl rfl Try.func13 (by kernel_rfl) rfl #[.slice Ao61 y323.length co61] rfl (by (try simp only [List.map_toArray, List.map_cons, List.map_nil]); first | done | rfl | (simp only [List.length_drop, List.length_take]; rfl)) ?_; (with_reducible refine (journal_Read.calls kj14 _ _ y323 t326 t327 _ ?side1 ?side2 A40.out).mono ?_); (case side1 => repeat (first | exact (Kd.R_reads' HO325.out).2.2 | (with_reducible refine Kd.C_alloc ?_ _) | (with_reducible refine Kd.C_drewN ?_ _) | (with_reducible refine Kd.C_drew ?_))); (case side2 => exact (Kd.R_reads' HO325.out).2.1); rintro e w62 ⟨v328, rfl, ho0, hb⟩; refine ⟨_, rfl, ?_⟩; have n0_ := Aside0.mk (Kd.R_below (by (with_reducible repeat (first | apply Kd.R_alloc | apply Kd.R_drewN | apply Kd.R_drew)); exact HO_5.out) hb); have n1_ := Aside0.mk (Kd.R_below (by (with_reducible repeat (first | apply Kd.R_alloc | apply Kd.R_drewN | apply Kd.R_drew)); exact HO325.out) hb); have n2_ := Aside0.mk (Kd.R_lower ho0 (below_size (by repeat (first | (with_reducible first | exact HB.out | apply below_alloc | apply pw_below_drewN | apply below_drew1) | exact HB.out)))); have n3_ := Aside0.mk (Kd.C_below (by repeat (first | (with_reducible exact HR302.out) | (with_reducible refine Kd.C_alloc ?_ _) | (with_reducible refine Kd.C_drewN ?_ _) | (with_reducible refine Kd.C_drew ?_) | exact HR302.out)) hb); have n4_ := Aside0.mk (Kd.C_below (by repeat (first | (with_reducible exact HR307.out) | (with_reducible refine Kd.C_alloc ?_ _) | (with_reducible refine Kd.C_drewN ?_ _) | (with_reducible refine Kd.C_drew ?_) | exact HR307.out)) hb); have n5_ := Aside0.mk (Kd.C_below (by repeat (first | (with_reducible exact HR315.out) | (with_reducible refine Kd.C_alloc ?_ _) | (with_reducible refine Kd.C_drewN ?_ _) | (with_reducible refine Kd.C_drew ?_) | exact HR315.out)) hb); have n6_ := Aside0.mk (Kd.C_below (by repeat (first | (with_reducible exact HR322.out) | (with_reducible refine Kd.C_alloc ?_ _) | (with_reducible refine Kd.C_drewN ?_ _) | (with_reducible refine Kd.C_drew ?_) | exact HR322.out)) hb); have n7_ := Aside0.mk (below_step (by repeat (first | (with_reducible first | exact HB.out | apply below_alloc | apply pw_below_drewN | apply below_drew1) | exact HB.out)) hb); clear HO_5; clear HO325; clear HR302; clear HR307; clear HR315; clear HR322; clear HB; have HO_5 := n0_; have HO325 := n1_; have HO329 := n2_; have HR302 := n3_; have HR307 := n4_; have HR315 := n5_; have HR322 := n6_; have HB := n7_; clear n0_ n1_ n2_ n3_ n4_ n5_ n6_ n7_; (try clear hb); (try clear hb2); (try clear hk); (try clear hi); (try clear ho0); have q63 : ((ji42) : Int) ≤ ((l0.length : Int) : Int) := of_decide_eq_true (by first | (with_reducible assumption) | assumption); obtain ⟨i063, hi063, _, hsz63, _⟩ := info_parts info39; have hroom63 : l0.length ≤ c0 := HC0.out; have hC63 : Kd.C k39 _ A0 l0.length l0 := HR0.out; have hcut63 := cut_to (P := Try.prog) 22 39 .i64 Try.underlying22 hi063 A0 l0.length c0 (ji42) (of_decide_eq_true (by first | (with_reducible assumption) | assumption)) q63 hroom63; have hr63 := Kd.C_take (m := ((ji42) : Int).toNat) hC63 (by omega); have hy63 : y330.length = ((ji42) : Int).toNat := (by rw [Ny330.out, List.length_take]; omega); rw [← Ny330.out] at hr63; rw [← hy63] at hcut63; have HR333 := Aside0.mk hr63; have HC333 := Aside0.mk (show y330.length ≤ c0 from by omega); clear hr63 hC63 hroom63 hi063 hsz63; have KY63 := Aside0.mk hy63; clear hy63; replace q63 := eq_true q63; obtain ⟨Ao64, co64, eo64⟩ := Kd.R_slice HO329.out; subst eo64) | (go_at_call 14; (with_reducible refine (skiarearef29_Same.calls kj14 _ _ t326 _ _ y330 true _ ?side1 ?side2 ?side3 ?side4 A45.out).mono ?_); (case side1 => repeat (first | exact (Kd.R_reads' HO329.out).2.2 | (with_reducible refine Kd.C_alloc ?_ _) | (with_reducible refine Kd.C_drewN ?_ _) | (with_reducible refine Kd.C_drew ?_))); (case side2 => exact (Kd.R_reads' HO329.out).2.1); (case side3 => repeat (first | exact (Kd.C_below HR333.out HB.out) | (with_reducible refine Kd.C_alloc ?_ _) | (with_reducible refine Kd.C_drewN ?_ _) | (with_reducible refine Kd.C_drew ?_))); (case side4 => exact HC333.out); rintro e w' ⟨rfl, ⟨nd, rfl⟩⟩) | (go_at_call 15; (with_reducible refine (journal_Whole.calls kj14 _ _ y323 t335 _ ?side1 ?side2 A47.out).mono ?_); (case side1 => repeat (first | exact (Kd.R_reads' HO325.out).2.2 | (with_reducible refine Kd.C_alloc ?_ _) | (with_reducible refine Kd.C_drewN ?_ _) | (with_reducible refine Kd.C_drew ?_))); (case side2 => exact (Kd.R_reads' HO325.out).2.1); rintro e w65 ⟨rfl, hb⟩; have n0_ := Aside0.mk (Kd.R_below (by (with_reducible repeat (first | apply Kd.R_alloc | apply Kd.R_drewN | apply Kd.R_drew)); exact HO_5.out) hb); have n1_ := Aside0.mk (Kd.R_below (by (with_reducible repeat (first | apply Kd.R_alloc | apply Kd.R_drewN | apply Kd.R_drew)); exact HO325.out) hb); have n2_ := Aside0.mk (Kd.R_below (by (with_reducible repeat (first | apply Kd.R_alloc | apply Kd.R_drewN | apply Kd.R_drew)); exact HO329.out) hb); have n3_ := Aside0.mk (Kd.C_below (by repeat (first | (with_reducible exact HR302.out) | (with_reducible refine Kd.C_alloc ?_ _) | (with_reducible refine Kd.C_drewN ?_ _) | (with_reducible refine Kd.C_drew ?_) | exact HR302.out)) hb); have n4_ := Aside0.mk (Kd.C_below (by repeat (first | (with_reducible exact HR307.out) | (with_reducible refine Kd.C_alloc ?_ _) | (with_reducible refine Kd.C_drewN ?_ _) | (with_reducible refine Kd.C_drew ?_) | exact HR307.out)) hb); have n5_ := Aside0.mk (Kd.C_below (by repeat (first | (with_reducible exact HR315.out) | (with_reducible refine Kd.C_alloc ?_ _) | (with_reducible refine Kd.C_drewN ?_ _) | (with_reducible refine Kd.C_drew ?_) | exact HR315.out)) hb); have n6_ := Aside0.mk (Kd.C_below (by repeat (first | (with_reducible exact HR322.out) | (with_reducible refine Kd.C_alloc ?_ _) | (with_reducible refine Kd.C_drewN ?_ _) | (with_reducible refine Kd.C_drew ?_) | exact HR322.out)) hb); have n7_ := Aside0.mk (below_step (by repeat (first | (with_reducible first | exact HB.out | apply below_alloc | apply pw_below_drewN | apply below_drew1) | exact HB.out)) hb); clear HO_5; clear HO325; clear HO329; clear HR302; clear HR307; clear HR315; clear HR322; clear HB; have HO_5 := n0_; have HO325 := n1_; have HO329 := n2_; have HR302 := n3_; have HR307 := n4_; have HR315 := n5_; have HR322 := n6_; have HB := n7_; clear n0_ n1_ n2_ n3_ n4_ n5_ n6_ n7_; (try clear hb); (try clear hb2); (try clear hk); (try clear hi)))
                                        go_ret
                                        exact ⟨by first | rfl | (simp [errW_none, errW_some] <;> rfl) | (simp only [← hji42]; first | rfl | (simp [errW_none, errW_some] <;> rfl)) | (simp [*, errW_none, errW_some] <;> rfl), by repeat (first | (with_reducible first | exact HB.out | apply below_alloc | apply pw_below_drewN | apply below_drew1) | exact HB.out)⟩
                                      · replace c46 := Bool.eq_false_iff.mpr c46
                                        subst c46
                                        have H1 : (some false) = some r := by rw [if_neg (show ¬ (false = true) by decide)] at H; exact H
                                        clear H
                                        have H := H1
                                        clear H1
                                        obtain rfl := Option.some.inj H
                                        try go_wp2
                                        have n0_ := Aside0.mk (Kd.R_drew HO_5.out)
                                        have n1_ := Aside0.mk (below_drew1 HB.out)
                                        clear HO_5
                                        clear HB
                                        have HO_5 := n0_
                                        have HB := n1_
                                        clear n0_ n1_
                                        obtain ⟨Ao68, co68, eo68⟩ := Kd.R_slice HO_5.out
                                        (first | subst eo68 | (injection eo68 with f1_ f2_ f3_; have f4_ := f1_.symm; have f5_ := f3_.symm; clear f1_ f2_ f3_; subst f4_; subst f5_))
                                        have q67 : (t297 : Int) ≤ ((t293.length : Int) : Int) := of_decide_eq_true (by first | (with_reducible assumption) | assumption)
                                        obtain ⟨i067, hi067, _, hsz67, _⟩ := info_parts info5
                                        have hroom67 : t293.length ≤ co68 := (Kd.R_reads' HO_5.out).2.1
                                        have hC67 : Kd.C (Kd.int .u8) _ Ao68 t293.length t293 := (Kd.R_reads' HO_5.out).2.2
                                        have hcut67 := cut_to (P := Try.prog) 24 5 .i64 Try.underlying24 hi067 Ao68 t293.length co68 t297 (of_decide_eq_true (by first | (with_reducible assumption) | assumption)) q67 hroom67
                                        have hr67 := Kd.C_take (m := (t297 : Int).toNat) hC67 (by omega)
                                        have hy67 : y299.length = (t297 : Int).toNat := (by rw [Ny299.out, List.length_take]; omega)
                                        rw [← Ny299.out] at hr67
                                        rw [← hy67] at hcut67
                                        have HR302 := Aside0.mk hr67
                                        have HC302 := Aside0.mk (show y299.length ≤ co68 from by omega)
                                        clear hr67 hC67 hroom67 hi067 hsz67
                                        have KY67 := Aside0.mk hy67
                                        clear hy67
                                        have KL67 := Aside0.mk (show (t297 : Int).toNat ≤ t293.length from by omega)
                                        replace q67 := eq_true q67
                                        have q69 : (t298 : Int) ≤ ((t293.length : Int) : Int) := of_decide_eq_true (by first | (with_reducible assumption) | assumption)
                                        obtain ⟨i069, hi069, _, hsz69, _⟩ := info_parts info5
                                        have hroom69 : t293.length ≤ co68 := (Kd.R_reads' HO_5.out).2.1
                                        have hC69 : Kd.C (Kd.int .u8) _ Ao68 t293.length t293 := (Kd.R_reads' HO_5.out).2.2
                                        have hcut69 := cut_to (P := Try.prog) 24 5 .i64 Try.underlying24 hi069 Ao68 t293.length co68 t298 (of_decide_eq_true (by first | (with_reducible assumption) | assumption)) q69 hroom69
                                        have hr69 := Kd.C_take (m := (t298 : Int).toNat) hC69 (by omega)
                                        have hy69 : y304.length = (t298 : Int).toNat := (by rw [Ny304.out, List.length_take]; omega)
                                        rw [← Ny304.out] at hr69
                                        rw [← hy69] at hcut69
                                        have HR307 := Aside0.mk hr69
                                        have HC307 := Aside0.mk (show y304.length ≤ co68 from by omega)
                                        clear hr69 hC69 hroom69 hi069 hsz69
                                        have KY69 := Aside0.mk hy69
                                        clear hy69
                                        have KL69 := Aside0.mk (show (t298 : Int).toNat ≤ t293.length from by omega)
                                        replace q69 := eq_true q69
                                        refine start_ (n := 9) (S := fun w' => True) (ds := []) #[false, false, false, false, false, false, false, false, false] (by kernel_rfl) rfl rfl trivial (fun hHeld => ?_); refine with_tabW skiarealaw29_JournalDrops.tab10 skiarealaw29_JournalDrops.bits10 (fun HT_ HW_ => ?_)
                                        generalize wc.drew = w66 at HO_5 HB HR302 HR307 hHeld ⊢
                                        refine pure_ (i := 0) (N := some 54) (v := ?_) (a' := ?_) #[true, false, false, false, false, false, false, false, false] rfl rfl (any_of HT_.out (by kernel_rfl)) (fun _ _ _ h => h) (Or.inl ⟨by rfl, ?_⟩) ?_ ?_
                                        rotate_left
                                        · intro w'
                                          go_simp
                                          with_reducible rfl
                                        rotate_left
                                        · simp only [Act.put, List.setIfInBounds_toArray, List.set_cons_zero, List.set_cons_succ, i64_w, i32_w, IntKind.wrap_u8, IntKind.wrap_u32]
                                          rfl
                                        refine pure_ (i := 1) (N := some 55) (v := ?_) (a' := ?_) #[true, true, false, false, false, false, false, false, false] rfl rfl (any_of HT_.out (by kernel_rfl)) (fun _ _ _ h => h) (Or.inl ⟨by rfl, ?_⟩) ?_ ?_
                                        rotate_left
                                        · intro w'
                                          go_simp
                                          with_reducible rfl
                                        rotate_left
                                        · simp only [Act.put, List.setIfInBounds_toArray, List.set_cons_zero, List.set_cons_succ, i64_w, i32_w, IntKind.wrap_u8, IntKind.wrap_u32]
                                          rfl
                                        refine pure_ (i := 2) (N := some 56) (v := ?_) (a' := ?_) #[true, true, true, false, false, false, false, false, false] rfl rfl (any_of HT_.out (by kernel_rfl)) (fun _ _ _ h => h) (Or.inl ⟨by rfl, ?_⟩) ?_ ?_
                                        rotate_left
                                        · intro w'
                                          go_simp
                                          with_reducible rfl
                                        rotate_left
                                        · simp only [Act.put, List.setIfInBounds_toArray, List.set_cons_zero, List.set_cons_succ, i64_w, i32_w, IntKind.wrap_u8, IntKind.wrap_u32]
                                          rfl
                                        refine pure_ (i := 4) (N := some 58) (v := ?_) (a' := ?_) #[true, true, true, false, true, false, false, false, false] rfl rfl (any_of HT_.out (by kernel_rfl)) (fun _ _ _ h => h) (Or.inl ⟨by rfl, ?_⟩) ?_ ?_
                                        rotate_left
                                        · intro w'
                                          go_simp
                                          with_reducible rfl
                                        rotate_left
                                        · simp only [Act.put, List.setIfInBounds_toArray, List.set_cons_zero, List.set_cons_succ, i64_w, i32_w, IntKind.wrap_u8, IntKind.wrap_u32]
                                          rfl
                                        refine pure_ (i := 5) (N := some 59) (v := ?_) (a' := ?_) #[true, true, true, false, true, true, false, false, false] rfl rfl (any_of HT_.out (by kernel_rfl)) (fun _ _ _ h => h) (Or.inl ⟨by rfl, ?_⟩) ?_ ?_
                                        rotate_left
                                        · intro w'
                                          go_simp
                                          with_reducible rfl
                                        rotate_left
                                        · simp only [Act.put, List.setIfInBounds_toArray, List.set_cons_zero, List.set_cons_succ, i64_w, i32_w, IntKind.wrap_u8, IntKind.wrap_u32]
                                          rfl
                                        refine pure_ (i := 6) (N := some 60) (v := ?_) (a' := ?_) #[true, true, true, false, true, true, true, false, false] rfl rfl (any_of HT_.out (by kernel_rfl)) (fun _ _ _ h => h) (Or.inl ⟨by rfl, ?_⟩) ?_ ?_
                                        rotate_left
                                        · intro w'
                                          go_simp
                                          with_reducible rfl
                                        rotate_left
                                        · simp only [Act.put, List.setIfInBounds_toArray, List.set_cons_zero, List.set_cons_succ, i64_w, i32_w, IntKind.wrap_u8, IntKind.wrap_u32]
                                          rfl
                                        refine one_ (i := 3) (N := some 57) #[true, true, true, true, true, true, true, false, false] rfl rfl (one_of HT_.out (by kernel_rfl)) (by decide) (fun K hK => ?_)
                                        refine goes_ Try.func16 (by kernel_rfl) rfl #[.slice Ao68 y299.length co68] (by rfl) rfl rfl (by (try simp only [List.map_toArray, List.map_cons, List.map_nil]); first | done | rfl | (simp only [List.length_drop, List.length_take]; rfl)) ?_
                                        with_reducible refine (journal_Last.calls kj14 _ _ y299 t303 _ ?side1 ?side2 A23.out).mono ?_
                                        (case side1 => repeat (first | exact (by repeat (first | (with_reducible exact HR302.out) | (with_reducible refine Kd.C_alloc ?_ _) | (with_reducible refine Kd.C_drewN ?_ _) | (with_reducible refine Kd.C_drew ?_) | exact HR302.out)) | (with_reducible refine Kd.C_alloc ?_ _) | (with_reducible refine Kd.C_drewN ?_ _) | (with_reducible refine Kd.C_drew ?_)))
                                        (case side2 => exact HC302.out)
                                        rintro e w70 ⟨rfl, hb⟩
                                        refine ⟨_, rfl, ?_⟩
                                        have n0_ := Aside0.mk (Kd.R_below (by (with_reducible repeat (first | apply Kd.R_alloc | apply Kd.R_drewN | apply Kd.R_drew)); exact HO_5.out) hb)
                                        have n1_ := Aside0.mk (Kd.C_below (by repeat (first | (with_reducible exact HR302.out) | (with_reducible refine Kd.C_alloc ?_ _) | (with_reducible refine Kd.C_drewN ?_ _) | (with_reducible refine Kd.C_drew ?_) | exact HR302.out)) hb)
                                        have n2_ := Aside0.mk (Kd.C_below (by repeat (first | (with_reducible exact HR307.out) | (with_reducible refine Kd.C_alloc ?_ _) | (with_reducible refine Kd.C_drewN ?_ _) | (with_reducible refine Kd.C_drew ?_) | exact HR307.out)) hb)
                                        have n3_ := Aside0.mk (below_step (by repeat (first | (with_reducible first | exact HB.out | apply below_alloc | apply pw_below_drewN | apply below_drew1) | exact HB.out)) hb)
                                        clear HO_5
                                        clear HR302
                                        clear HR307
                                        clear HB
                                        have HO_5 := n0_
                                        have HR302 := n1_
                                        have HR307 := n2_
                                        have HB := n3_
                                        clear n0_ n1_ n2_ n3_
                                        (try clear hb)
                                        (try clear hb2)
                                        (try clear hk)
                                        (try clear hi)
                                        refine hK.out _ _ trivial (fun hHeld => ?_)
                                        clear hK K
                                        refine norm_ (a' := ?_) ?_ ?_
                                        rotate_left
                                        · show Act.put _ (some 57) _ = _
                                          simp only [Act.put, List.setIfInBounds_toArray, List.set_cons_zero, List.set_cons_succ, i64_w, i32_w, IntKind.wrap_u8, IntKind.wrap_u32]
                                          rfl
                                        refine one_ (i := 7) (N := some 61) #[true, true, true, true, true, true, true, true, false] rfl rfl (one_of HT_.out (by kernel_rfl)) (by decide) (fun K hK => ?_)
                                        refine goes_ Try.func16 (by kernel_rfl) rfl #[.slice Ao68 y304.length co68] (by rfl) rfl rfl (by (try simp only [List.map_toArray, List.map_cons, List.map_nil]); first | done | rfl | (simp only [List.length_drop, List.length_take]; rfl)) ?_
                                        with_reducible refine (journal_Last.calls kj14 _ _ y304 t308 _ ?side1 ?side2 A26.out).mono ?_
                                        (case side1 => repeat (first | exact (by repeat (first | (with_reducible exact HR307.out) | (with_reducible refine Kd.C_alloc ?_ _) | (with_reducible refine Kd.C_drewN ?_ _) | (with_reducible refine Kd.C_drew ?_) | exact HR307.out)) | (with_reducible refine Kd.C_alloc ?_ _) | (with_reducible refine Kd.C_drewN ?_ _) | (with_reducible refine Kd.C_drew ?_)))
                                        (case side2 => exact HC307.out)
                                        rintro e w71 ⟨rfl, hb⟩
                                        refine ⟨_, rfl, ?_⟩
                                        have n0_ := Aside0.mk (Kd.R_below (by (with_reducible repeat (first | apply Kd.R_alloc | apply Kd.R_drewN | apply Kd.R_drew)); exact HO_5.out) hb)
                                        have n1_ := Aside0.mk (Kd.C_below (by repeat (first | (with_reducible exact HR302.out) | (with_reducible refine Kd.C_alloc ?_ _) | (with_reducible refine Kd.C_drewN ?_ _) | (with_reducible refine Kd.C_drew ?_) | exact HR302.out)) hb)
                                        have n2_ := Aside0.mk (Kd.C_below (by repeat (first | (with_reducible exact HR307.out) | (with_reducible refine Kd.C_alloc ?_ _) | (with_reducible refine Kd.C_drewN ?_ _) | (with_reducible refine Kd.C_drew ?_) | exact HR307.out)) hb)
                                        have n3_ := Aside0.mk (below_step (by repeat (first | (with_reducible first | exact HB.out | apply below_alloc | apply pw_below_drewN | apply below_drew1) | exact HB.out)) hb)
                                        clear HO_5
                                        clear HR302
                                        clear HR307
                                        clear HB
                                        have HO_5 := n0_
                                        have HR302 := n1_
                                        have HR307 := n2_
                                        have HB := n3_
                                        clear n0_ n1_ n2_ n3_
                                        (try clear hb)
                                        (try clear hb2)
                                        (try clear hk)
                                        (try clear hi)
                                        refine hK.out _ _ trivial (fun hHeld => ?_)
                                        clear hK K
                                        refine norm_ (a' := ?_) ?_ ?_
                                        rotate_left
                                        · show Act.put _ (some 61) _ = _
                                          simp only [Act.put, List.setIfInBounds_toArray, List.set_cons_zero, List.set_cons_succ, i64_w, i32_w, IntKind.wrap_u8, IntKind.wrap_u32]
                                          rfl
                                        refine pure_ (i := 8) (N := some 62) (v := ?_) (a' := ?_) #[true, true, true, true, true, true, true, true, true] rfl rfl (any_of HT_.out (by kernel_rfl)) (fun _ _ _ h => h) (Or.inl ⟨by rfl, ?_⟩) ?_ ?_
                                        rotate_left
                                        · intro w'
                                          go_simp
                                          with_reducible rfl
                                        rotate_left
                                        · simp only [Act.put, List.setIfInBounds_toArray, List.set_cons_zero, List.set_cons_succ, i64_w, i32_w, IntKind.wrap_u8, IntKind.wrap_u32]
                                          rfl
                                        refine done_ (done_of HT_.out (by kernel_rfl)) ?_
                                        try go_wp2
                                        have n0_ := Aside0.mk (Kd.R_drew HO_5.out)
                                        have n1_ := Aside0.mk (Kd.C_drew HR302.out)
                                        have n2_ := Aside0.mk (Kd.C_drew HR307.out)
                                        have n3_ := Aside0.mk (below_drew1 HB.out)
                                        clear HO_5
                                        clear HR302
                                        clear HR307
                                        clear HB
                                        have HO_5 := n0_
                                        have HR302 := n1_
                                        have HR307 := n2_
                                        have HB := n3_
                                        clear n0_ n1_ n2_ n3_
                                        have q73 : (t297 : Int) ≤ ((t293.length : Int) : Int) := of_decide_eq_true (by first | (with_reducible assumption) | assumption)
                                        obtain ⟨i073, hi073, _, hsz73, _⟩ := info_parts info5
                                        have hroom73 : t293.length ≤ co68 := (Kd.R_reads' HO_5.out).2.1
                                        have hC73 : Kd.C (Kd.int .u8) _ Ao68 t293.length t293 := (Kd.R_reads' HO_5.out).2.2
                                        have hcut73 := cut_to (P := Try.prog) 24 5 .i64 Try.underlying24 hi073 Ao68 t293.length co68 t297 (of_decide_eq_true (by first | (with_reducible assumption) | assumption)) q73 hroom73
                                        have hr73 := Kd.C_take (m := (t297 : Int).toNat) hC73 (by omega)
                                        have hy73 : y312.length = (t297 : Int).toNat := (by rw [Ny312.out, List.length_take]; omega)
                                        rw [← Ny312.out] at hr73
                                        rw [← hy73] at hcut73
                                        have HR315 := Aside0.mk hr73
                                        have HC315 := Aside0.mk (show y312.length ≤ co68 from by omega)
                                        clear hr73 hC73 hroom73 hi073 hsz73
                                        have KY73 := Aside0.mk hy73
                                        clear hy73
                                        have KL73 := Aside0.mk (show (t297 : Int).toNat ≤ t293.length from by omega)
                                        replace q73 := eq_true q73
                                        have q74 : (t298 : Int) ≤ ((t293.length : Int) : Int) := of_decide_eq_true (by first | (with_reducible assumption) | assumption)
                                        obtain ⟨i074, hi074, _, hsz74, _⟩ := info_parts info5
                                        have hroom74 : t293.length ≤ co68 := (Kd.R_reads' HO_5.out).2.1
                                        have hC74 : Kd.C (Kd.int .u8) _ Ao68 t293.length t293 := (Kd.R_reads' HO_5.out).2.2
                                        have q074 : (0 : Int) ≤ (t298 : Int) := of_decide_eq_true (by first | (with_reducible assumption) | assumption)
                                        have hcut74 := cut_from (P := Try.prog) 24 5 .i64 Try.underlying24 hi074 1 hsz74 Ao68 t293.length co68 t298 q074 q74
                                        have hr74 := Kd.C_drop (m := (t298 : Int).toNat) (c := co68) hC74 (by omega) hroom74
                                        obtain ⟨A74, hA74⟩ : ∃ A1, A1 = (if co68 = (t298 : Int).toNat then Ao68 else (Ao68 : Option Addr).map (·.add ((t298 : Int).toNat * 1))) := ⟨_, rfl⟩
                                        obtain ⟨c74, hc74⟩ : ∃ c1, c1 = co68 - (t298 : Int).toNat := ⟨_, rfl⟩
                                        have hy74 : y319.length = t293.length - (t298 : Int).toNat := (by rw [Ny319.out, List.length_drop] <;> omega)
                                        rw [show (t293).drop (t298 : Int).toNat = y319 from Ny319.out.symm] at hr74
                                        replace hr74 : Kd.C (Kd.int .u8) _ A74 y319.length y319 := (by rw [hA74]; exact hr74)
                                        rw [← hy74, ← hA74, ← hc74] at hcut74
                                        have HR322 := Aside0.mk hr74
                                        have HC322 := Aside0.mk (show y319.length ≤ c74 from by rw [hy74, hc74]; exact Nat.sub_le_sub_right hroom74 _)
                                        clear hr74 hC74 hroom74 hi074 hsz74 hc74
                                        have KY74 := Aside0.mk hy74
                                        have KA74 := Aside0.mk hA74
                                        clear hy74 hA74
                                        have KL74 := Aside0.mk (show (t298 : Int).toNat ≤ t293.length from by omega)
                                        replace q74 := eq_true q74
                                        refine start_ (n := 10) (S := fun w' => True) (ds := []) #[false, false, false, false, false, false, false, false, false, false] (by kernel_rfl) rfl rfl trivial (fun hHeld => ?_); refine with_tabW skiarealaw29_JournalDrops.tab12 skiarealaw29_JournalDrops.bits12 (fun HT_ HW_ => ?_)
                                        generalize w71.drew = w72 at HO_5 HR302 HR307 HB HR315 HR322 hHeld ⊢
                                        refine pure_ (i := 1) (N := some 64) (v := ?_) (a' := ?_) #[false, true, false, false, false, false, false, false, false, false] rfl rfl (any_of HT_.out (by kernel_rfl)) (fun _ _ _ h => h) (Or.inl ⟨by rfl, ?_⟩) ?_ ?_
                                        rotate_left
                                        · intro w'
                                          go_simp
                                          with_reducible rfl
                                        rotate_left
                                        · simp only [Act.put, List.setIfInBounds_toArray, List.set_cons_zero, List.set_cons_succ, i64_w, i32_w, IntKind.wrap_u8, IntKind.wrap_u32]
                                          rfl
                                        refine pure_ (i := 2) (N := some 65) (v := ?_) (a' := ?_) #[false, true, true, false, false, false, false, false, false, false] rfl rfl (any_of HT_.out (by kernel_rfl)) (fun _ _ _ h => h) (Or.inl ⟨by rfl, ?_⟩) ?_ ?_
                                        rotate_left
                                        · intro w'
                                          go_simp
                                          with_reducible rfl
                                        rotate_left
                                        · simp only [Act.put, List.setIfInBounds_toArray, List.set_cons_zero, List.set_cons_succ, i64_w, i32_w, IntKind.wrap_u8, IntKind.wrap_u32]
                                          rfl
                                        refine pure_ (i := 3) (N := some 66) (v := ?_) (a' := ?_) #[false, true, true, true, false, false, false, false, false, false] rfl rfl (any_of HT_.out (by kernel_rfl)) (fun _ _ _ h => h) (Or.inl ⟨by rfl, ?_⟩) ?_ ?_
                                        rotate_left
                                        · intro w'
                                          go_simp
                                          with_reducible rfl
                                        rotate_left
                                        · simp only [Act.put, List.setIfInBounds_toArray, List.set_cons_zero, List.set_cons_succ, i64_w, i32_w, IntKind.wrap_u8, IntKind.wrap_u32]
                                          rfl
                                        refine pure_ (i := 5) (N := some 68) (v := ?_) (a' := ?_) #[false, true, true, true, false, true, false, false, false, false] rfl rfl (any_of HT_.out (by kernel_rfl)) (fun _ _ _ h => h) (Or.inl ⟨by rfl, ?_⟩) ?_ ?_
                                        rotate_left
                                        · intro w'
                                          go_simp
                                          with_reducible rfl
                                        rotate_left
                                        · simp only [Act.put, List.setIfInBounds_toArray, List.set_cons_zero, List.set_cons_succ, i64_w, i32_w, IntKind.wrap_u8, IntKind.wrap_u32]
                                          rfl
                                        refine pure_ (i := 6) (N := some 69) (v := ?_) (a' := ?_) #[false, true, true, true, false, true, true, false, false, false] rfl rfl (any_of HT_.out (by kernel_rfl)) (fun _ _ _ h => h) (Or.inl ⟨by rfl, ?_⟩) ?_ ?_
                                        rotate_left
                                        · intro w'
                                          go_simp
                                          with_reducible rfl
                                        rotate_left
                                        · simp only [Act.put, List.setIfInBounds_toArray, List.set_cons_zero, List.set_cons_succ, i64_w, i32_w, IntKind.wrap_u8, IntKind.wrap_u32]
                                          rfl
                                        refine pure_ (i := 7) (N := some 70) (v := ?_) (a' := ?_) #[false, true, true, true, false, true, true, true, false, false] rfl rfl (any_of HT_.out (by kernel_rfl)) (fun _ _ _ h => h) (Or.inl ⟨by rfl, ?_⟩) ?_ ?_
                                        rotate_left
                                        · intro w'
                                          go_simp
                                          with_reducible rfl
                                        rotate_left
                                        · simp only [Act.put, List.setIfInBounds_toArray, List.set_cons_zero, List.set_cons_succ, i64_w, i32_w, IntKind.wrap_u8, IntKind.wrap_u32]
                                          rfl
                                        refine one_ (i := 0) (N := some 63) #[true, true, true, true, false, true, true, true, false, false] rfl rfl (one_of HT_.out (by kernel_rfl)) (by decide) (fun K hK => ?_)
                                        refine Kd.R_lit_step (Kd.int .u8) _ 5 ?hg (N := 63) ?hd (xs := ([] : List Int)) (inner := []) (ok := fun _ => True) (okp := fun _ => True) ?hr ?hp (fun _ hk => hk) trivial (Below.refl _ _) (Nat.le_refl _) (by simp) ?_; (case hd => rfl); (case hg => rfl); (case hr => first | (go_simp; done) | (go_simp; rfl)); (case hp => exact (Reps.none _ _))
                                        intro v310 w75 ho76 hb hg_ hnew_
                                        clear hg_ hnew_
                                        (first | rw [← Ny309.out] at ho76 | (simp only [Int.reduceToNat] at ho76; rw [← Ny309.out] at ho76))
                                        have n0_ := Aside0.mk (Kd.R_elder' (by (with_reducible repeat (first | apply Kd.R_alloc | apply Kd.R_drewN | apply Kd.R_drew)); exact HO_5.out) (Kd.R_base ho76) hb)
                                        have n1_ := Aside0.mk (Kd.R_lower (Kd.R_new' ho76 (Kd.R_lt (by (with_reducible repeat (first | apply Kd.R_alloc | apply Kd.R_drewN | apply Kd.R_drew)); exact HO_5.out))) (below_size (by repeat (first | (with_reducible first | exact HB.out | apply below_alloc | apply pw_below_drewN | apply below_drew1) | exact HB.out))))
                                        have n2_ := Aside0.mk (Kd.C_below (by repeat (first | (with_reducible exact HR302.out) | (with_reducible refine Kd.C_alloc ?_ _) | (with_reducible refine Kd.C_drewN ?_ _) | (with_reducible refine Kd.C_drew ?_) | exact HR302.out)) hb)
                                        have n3_ := Aside0.mk (Kd.C_below (by repeat (first | (with_reducible exact HR307.out) | (with_reducible refine Kd.C_alloc ?_ _) | (with_reducible refine Kd.C_drewN ?_ _) | (with_reducible refine Kd.C_drew ?_) | exact HR307.out)) hb)
                                        have n4_ := Aside0.mk (Kd.C_below (by repeat (first | (with_reducible exact HR315.out) | (with_reducible refine Kd.C_alloc ?_ _) | (with_reducible refine Kd.C_drewN ?_ _) | (with_reducible refine Kd.C_drew ?_) | exact HR315.out)) hb)
                                        have n5_ := Aside0.mk (Kd.C_below (by repeat (first | (with_reducible exact HR322.out) | (with_reducible refine Kd.C_alloc ?_ _) | (with_reducible refine Kd.C_drewN ?_ _) | (with_reducible refine Kd.C_drew ?_) | exact HR322.out)) hb)
                                        have n6_ := Aside0.mk (below_step (by repeat (first | (with_reducible first | exact HB.out | apply below_alloc | apply pw_below_drewN | apply below_drew1) | exact HB.out)) hb)
                                        clear HO_5
                                        clear HR302
                                        clear HR307
                                        clear HR315
                                        clear HR322
                                        clear HB
                                        have HO_5 := n0_
                                        have HO311 := n1_
                                        have HR302 := n2_
                                        have HR307 := n3_
                                        have HR315 := n4_
                                        have HR322 := n5_
                                        have HB := n6_
                                        clear n0_ n1_ n2_ n3_ n4_ n5_ n6_
                                        clear hb ho76
                                        refine hK.out _ _ trivial (fun hHeld => ?_)
                                        clear hK K
                                        refine norm_ (a' := ?_) ?_ ?_
                                        rotate_left
                                        · show Act.put _ (some 63) _ = _
                                          simp only [Act.put, List.setIfInBounds_toArray, List.set_cons_zero, List.set_cons_succ, i64_w, i32_w, IntKind.wrap_u8, IntKind.wrap_u32]
                                          rfl
                                        refine one_ (i := 4) (N := some 67) #[true, true, true, true, true, true, true, true, false, false] rfl rfl (one_of HT_.out (by kernel_rfl)) (by decide) (fun K hK => ?_)
                                        refine Kd.R_append_rows_step (Kd.int .u8) (w0 := w) w.heap.size (by rfl) (.tmp 63) (.tmp 66) 24 5 (.int .u8 0) 1 rfl Try.underlying24 info5 rfl (by decide) (by omega) v310 y309 y312 _ _ _ (fun k_ => some k_ ≠ (.slice Ao68 t293.length co68 : Value).ownBlock) (fun _ => False) rfl rfl ?aO ?aR (fun _ _ h => h) (fun _ h => h.elim) ?aF ?aB ?aS ?aL ?_
                                        (case aR => (try rw [show y299.length = y312.length from by rw [Ny299.out, Ny312.out]]); repeat (first | exact (by repeat (first | (with_reducible exact HR315.out) | (with_reducible refine Kd.C_alloc ?_ _) | (with_reducible refine Kd.C_drewN ?_ _) | (with_reducible refine Kd.C_drew ?_) | exact HR315.out)) | (with_reducible refine Kd.C_alloc ?_ _) | (with_reducible refine Kd.C_drewN ?_ _) | (with_reducible refine Kd.C_drew ?_)))
                                        (case aB => exact (by repeat (first | (with_reducible first | exact HB.out | apply below_alloc | apply pw_below_drewN | apply below_drew1) | exact HB.out)))
                                        (case aF => exact (fun k_ hk => Kd.fresh' (Kd.R_lt (by (with_reducible repeat (first | apply Kd.R_alloc | apply Kd.R_drewN | apply Kd.R_drew)); exact HO_5.out)) k_ hk))
                                        (case aO => exact (by (with_reducible repeat (first | apply Kd.R_alloc | apply Kd.R_drewN | apply Kd.R_drew)); exact Kd.R_mono HO311.out (fun _ hk => hk.2)))
                                        (case aS => exact (below_size (by repeat (first | (with_reducible first | exact HB.out | apply below_alloc | apply pw_below_drewN | apply below_drew1) | exact HB.out))))
                                        (case aL => have hsame := congrArg List.length (Ny299.out.trans Ny312.out.symm); have := LMc36.out; omega)
                                        intro v317 w77 ho hb hg hat
                                        rw [← Ny316.out] at ho
                                        have n0_ := Aside0.mk (Kd.R_after (ok := (fun _ => True)) (by (with_reducible repeat (first | apply Kd.R_alloc | apply Kd.R_drewN | apply Kd.R_drew)); exact HO_5.out) hg hat)
                                        have n1_ := Aside0.mk (hb)
                                        have n2_ := Aside0.mk ((show Kd.C (Kd.int .u8) w77 Ao68 y299.length y299 from by rw [Ny299.out]; exact Kd.C_take (m := (t297 : Int).toNat) ((Kd.R_reads' (Kd.R_after (ok := (fun _ => True)) (by (with_reducible repeat (first | apply Kd.R_alloc | apply Kd.R_drewN | apply Kd.R_drew)); exact HO_5.out) hg hat)).2.2) KL67.out))
                                        have n3_ := Aside0.mk ((show Kd.C (Kd.int .u8) w77 Ao68 y304.length y304 from by rw [Ny304.out]; exact Kd.C_take (m := (t298 : Int).toNat) ((Kd.R_reads' (Kd.R_after (ok := (fun _ => True)) (by (with_reducible repeat (first | apply Kd.R_alloc | apply Kd.R_drewN | apply Kd.R_drew)); exact HO_5.out) hg hat)).2.2) KL69.out))
                                        have n4_ := Aside0.mk ((show Kd.C (Kd.int .u8) w77 Ao68 y312.length y312 from by rw [Ny312.out]; exact Kd.C_take (m := (t297 : Int).toNat) ((Kd.R_reads' (Kd.R_after (ok := (fun _ => True)) (by (with_reducible repeat (first | apply Kd.R_alloc | apply Kd.R_drewN | apply Kd.R_drew)); exact HO_5.out) hg hat)).2.2) KL73.out))
                                        have n5_ := Aside0.mk ((show Kd.C (Kd.int .u8) w77 A74 y319.length y319 from by rw [Ny319.out, KA74.out]; exact Kd.C_drop (m := (t298 : Int).toNat) (c := co68) ((Kd.R_reads' (Kd.R_after (ok := (fun _ => True)) (by (with_reducible repeat (first | apply Kd.R_alloc | apply Kd.R_drewN | apply Kd.R_drew)); exact HO_5.out) hg hat)).2.2) KL74.out ((Kd.R_reads' (Kd.R_after (ok := (fun _ => True)) (by (with_reducible repeat (first | apply Kd.R_alloc | apply Kd.R_drewN | apply Kd.R_drew)); exact HO_5.out) hg hat)).2.1)))
                                        have n6_ := Aside0.mk (ho)
                                        clear HO_5
                                        clear HB
                                        clear HR302
                                        clear HR307
                                        clear HR315
                                        clear HR322
                                        clear HO311
                                        have HO_5 := n0_
                                        have HB := n1_
                                        have HR302 := n2_
                                        have HR307 := n3_
                                        have HR315 := n4_
                                        have HR322 := n5_
                                        have HO318 := n6_
                                        clear n0_ n1_ n2_ n3_ n4_ n5_ n6_
                                        clear ho hb hg hat
                                        refine hK.out _ _ trivial (fun hHeld => ?_)
                                        clear hK K
                                        refine norm_ (a' := ?_) ?_ ?_
                                        rotate_left
                                        · show Act.put _ (some 67) _ = _
                                          simp only [Act.put, List.setIfInBounds_toArray, List.set_cons_zero, List.set_cons_succ, i64_w, i32_w, IntKind.wrap_u8, IntKind.wrap_u32]
                                          rfl
                                        refine one_ (i := 8) (N := some 71) #[true, true, true, true, true, true, true, true, true, false] rfl rfl (one_of HT_.out (by kernel_rfl)) (by decide) (fun K hK => ?_)
                                        refine Kd.R_append_rows_step (Kd.int .u8) (w0 := w) w.heap.size (by rfl) (.tmp 67) (.tmp 70) 24 5 (.int .u8 0) 1 rfl Try.underlying24 info5 rfl (by decide) (by omega) v317 y316 y319 _ _ _ (fun k_ => some k_ ≠ (.slice Ao68 t293.length co68 : Value).ownBlock) (fun _ => False) rfl rfl ?aO ?aR (fun _ _ h => h) (fun _ h => h.elim) ?aF ?aB ?aS ?aL ?_
                                        (case aR => repeat (first | exact (by repeat (first | (with_reducible exact HR322.out) | (with_reducible refine Kd.C_alloc ?_ _) | (with_reducible refine Kd.C_drewN ?_ _) | (with_reducible refine Kd.C_drew ?_) | exact HR322.out)) | (with_reducible refine Kd.C_alloc ?_ _) | (with_reducible refine Kd.C_drewN ?_ _) | (with_reducible refine Kd.C_drew ?_)))
                                        (case aB => exact (by repeat (first | (with_reducible first | exact HB.out | apply below_alloc | apply pw_below_drewN | apply below_drew1) | exact HB.out)))
                                        (case aF => exact (fun k_ hk => Kd.fresh' (Kd.R_lt (by (with_reducible repeat (first | apply Kd.R_alloc | apply Kd.R_drewN | apply Kd.R_drew)); exact HO_5.out)) k_ hk))
                                        (case aO => exact (by (with_reducible repeat (first | apply Kd.R_alloc | apply Kd.R_drewN | apply Kd.R_drew)); exact HO318.out))
                                        (case aS => exact (below_size (by repeat (first | (with_reducible first | exact HB.out | apply below_alloc | apply pw_below_drewN | apply below_drew1) | exact HB.out))))
                                        (case aL => have := LMc39.out; omega)
                                        intro v324 w78 ho hb hg hat
                                        rw [← Ny323.out] at ho
                                        have n0_ := Aside0.mk (Kd.R_after (ok := (fun _ => True)) (by (with_reducible repeat (first | apply Kd.R_alloc | apply Kd.R_drewN | apply Kd.R_drew)); exact HO_5.out) hg hat)
                                        have n1_ := Aside0.mk (hb)
                                        have n2_ := Aside0.mk ((show Kd.C (Kd.int .u8) w78 Ao68 y299.length y299 from by rw [Ny299.out]; exact Kd.C_take (m := (t297 : Int).toNat) ((Kd.R_reads' (Kd.R_after (ok := (fun _ => True)) (by (with_reducible repeat (first | apply Kd.R_alloc | apply Kd.R_drewN | apply Kd.R_drew)); exact HO_5.out) hg hat)).2.2) KL67.out))
                                        have n3_ := Aside0.mk ((show Kd.C (Kd.int .u8) w78 Ao68 y304.length y304 from by rw [Ny304.out]; exact Kd.C_take (m := (t298 : Int).toNat) ((Kd.R_reads' (Kd.R_after (ok := (fun _ => True)) (by (with_reducible repeat (first | apply Kd.R_alloc | apply Kd.R_drewN | apply Kd.R_drew)); exact HO_5.out) hg hat)).2.2) KL69.out))
                                        have n4_ := Aside0.mk ((show Kd.C (Kd.int .u8) w78 Ao68 y312.length y312 from by rw [Ny312.out]; exact Kd.C_take (m := (t297 : Int).toNat) ((Kd.R_reads' (Kd.R_after (ok := (fun _ => True)) (by (with_reducible repeat (first | apply Kd.R_alloc | apply Kd.R_drewN | apply Kd.R_drew)); exact HO_5.out) hg hat)).2.2) KL73.out))
                                        have n5_ := Aside0.mk ((show Kd.C (Kd.int .u8) w78 A74 y319.length y319 from by rw [Ny319.out, KA74.out]; exact Kd.C_drop (m := (t298 : Int).toNat) (c := co68) ((Kd.R_reads' (Kd.R_after (ok := (fun _ => True)) (by (with_reducible repeat (first | apply Kd.R_alloc | apply Kd.R_drewN | apply Kd.R_drew)); exact HO_5.out) hg hat)).2.2) KL74.out ((Kd.R_reads' (Kd.R_after (ok := (fun _ => True)) (by (with_reducible repeat (first | apply Kd.R_alloc | apply Kd.R_drewN | apply Kd.R_drew)); exact HO_5.out) hg hat)).2.1)))
                                        have n6_ := Aside0.mk (ho)
                                        clear HO_5
                                        clear HB
                                        clear HR302
                                        clear HR307
                                        clear HR315
                                        clear HR322
                                        clear HO318
                                        have HO_5 := n0_
                                        have HB := n1_
                                        have HR302 := n2_
                                        have HR307 := n3_
                                        have HR315 := n4_
                                        have HR322 := n5_
                                        have HO325 := n6_
                                        clear n0_ n1_ n2_ n3_ n4_ n5_ n6_
                                        clear ho hb hg hat
                                        refine hK.out _ _ trivial (fun hHeld => ?_)
                                        clear hK K
                                        refine norm_ (a' := ?_) ?_ ?_
                                        rotate_left
                                        · show Act.put _ (some 71) _ = _
                                          simp only [Act.put, List.setIfInBounds_toArray, List.set_cons_zero, List.set_cons_succ, i64_w, i32_w, IntKind.wrap_u8, IntKind.wrap_u32]
                                          rfl
                                        refine pure_ (i := 9) (N := some 10) (v := ?_) (a' := ?_) #[true, true, true, true, true, true, true, true, true, true] rfl rfl (any_of HT_.out (by kernel_rfl)) (fun _ _ _ h => h) (Or.inl ⟨by rfl, ?_⟩) ?_ ?_
                                        rotate_left
                                        · intro w'
                                          go_simp
                                          with_reducible rfl
                                        rotate_left
                                        · simp only [Act.put, List.setIfInBounds_toArray, List.set_cons_zero, List.set_cons_succ, i64_w, i32_w, IntKind.wrap_u8, IntKind.wrap_u32]
                                          rfl
                                        refine done_ (done_of HT_.out (by kernel_rfl)) ?_
                                        obtain ⟨Ao79, co79, eo79⟩ := Kd.R_slice HO325.out
                                        subst eo79
                                        try go_wp2_with (first | ((with_reducible refine gate_callee (f := 13) rfl ?_); refine goesL_ (some 74) rfl rfl Try.func13 (by kernel_rfl) rfl #[.slice Ao79 y323.length co79] rfl (by (try simp only [List.map_toArray, List.map_cons, List.map_nil]); first | done | rfl | (simp only [List.length_drop, List.length_take]; rfl)) ?_; (with_reducible refine (journal_Read.calls kj14 _ _ y323 t326 t327 _ ?side1 ?side2 A40.out).mono ?_); (case side1 => repeat (first | exact (Kd.R_reads' HO325.out).2.2 | (with_reducible refine Kd.C_alloc ?_ _) | (with_reducible refine Kd.C_drewN ?_ _) | (with_reducible refine Kd.C_drew ?_))); (case side2 => exact (Kd.R_reads' HO325.out).2.1); rintro e w80 ⟨v328, rfl, ho0, hb⟩; refine ⟨_, rfl, ?_⟩; have n0_ := Aside0.mk (Kd.R_below (by (with_reducible repeat (first | apply Kd.R_alloc | apply Kd.R_drewN | apply Kd.R_drew)); exact HO_5.out) hb); have n1_ := Aside0.mk (Kd.R_below (by (with_reducible repeat (first | apply Kd.R_alloc | apply Kd.R_drewN | apply Kd.R_drew)); exact HO325.out) hb); have n2_ := Aside0.mk (Kd.R_lower ho0 (below_size (by repeat (first | (with_reducible first | exact HB.out | apply below_alloc | apply pw_below_drewN | apply below_drew1) | exact HB.out)))); have n3_ := Aside0.mk (Kd.C_below (by repeat (first | (with_reducible exact HR302.out) | (with_reducible refine Kd.C_alloc ?_ _) | (with_reducible refine Kd.C_drewN ?_ _) | (with_reducible refine Kd.C_drew ?_) | exact HR302.out)) hb); have n4_ := Aside0.mk (Kd.C_below (by repeat (first | (with_reducible exact HR307.out) | (with_reducible refine Kd.C_alloc ?_ _) | (with_reducible refine Kd.C_drewN ?_ _) | (with_reducible refine Kd.C_drew ?_) | exact HR307.out)) hb); have n5_ := Aside0.mk (Kd.C_below (by repeat (first | (with_reducible exact HR315.out) | (with_reducible refine Kd.C_alloc ?_ _) | (with_reducible refine Kd.C_drewN ?_ _) | (with_reducible refine Kd.C_drew ?_) | exact HR315.out)) hb); have n6_ := Aside0.mk (Kd.C_below (by repeat (first | (with_reducible exact HR322.out) | (with_reducible refine Kd.C_alloc ?_ _) | (with_reducible refine Kd.C_drewN ?_ _) | (with_reducible refine Kd.C_drew ?_) | exact HR322.out)) hb); have n7_ := Aside0.mk (below_step (by repeat (first | (with_reducible first | exact HB.out | apply below_alloc | apply pw_below_drewN | apply below_drew1) | exact HB.out)) hb); clear HO_5; clear HO325; clear HR302; clear HR307; clear HR315; clear HR322; clear HB; have HO_5 := n0_; have HO325 := n1_; have HO329 := n2_; have HR302 := n3_; have HR307 := n4_; have HR315 := n5_; have HR322 := n6_; have HB := n7_; clear n0_ n1_ n2_ n3_ n4_ n5_ n6_ n7_; (try clear hb); (try clear hb2); (try clear hk); (try clear hi); (try clear ho0); have q81 : ((ji42) : Int) ≤ ((l0.length : Int) : Int) := of_decide_eq_true (by first | (with_reducible assumption) | assumption); obtain ⟨i081, hi081, _, hsz81, _⟩ := info_parts info39; have hroom81 : l0.length ≤ c0 := HC0.out; have hC81 : Kd.C k39 _ A0 l0.length l0 := HR0.out; have hcut81 := cut_to (P := Try.prog) 22 39 .i64 Try.underlying22 hi081 A0 l0.length c0 (ji42) (of_decide_eq_true (by first | (with_reducible assumption) | assumption)) q81 hroom81; have hr81 := Kd.C_take (m := ((ji42) : Int).toNat) hC81 (by omega); have hy81 : y330.length = ((ji42) : Int).toNat := (by rw [Ny330.out, List.length_take]; omega); rw [← Ny330.out] at hr81; rw [← hy81] at hcut81; have HR333 := Aside0.mk hr81; have HC333 := Aside0.mk (show y330.length ≤ c0 from by omega); clear hr81 hC81 hroom81 hi081 hsz81; have KY81 := Aside0.mk hy81; clear hy81; replace q81 := eq_true q81; obtain ⟨Ao82, co82, eo82⟩ := Kd.R_slice HO329.out; subst eo82) | (go_at_call 14; (with_reducible refine (skiarearef29_Same.calls kj14 _ _ t326 _ _ y330 false _ ?side1 ?side2 ?side3 ?side4 A45.out).mono ?_); (case side1 => repeat (first | exact (Kd.R_reads' HO329.out).2.2 | (with_reducible refine Kd.C_alloc ?_ _) | (with_reducible refine Kd.C_drewN ?_ _) | (with_reducible refine Kd.C_drew ?_))); (case side2 => exact (Kd.R_reads' HO329.out).2.1); (case side3 => repeat (first | exact (Kd.C_below HR333.out HB.out) | (with_reducible refine Kd.C_alloc ?_ _) | (with_reducible refine Kd.C_drewN ?_ _) | (with_reducible refine Kd.C_drew ?_))); (case side4 => exact HC333.out); rintro e w' ⟨rfl, ⟨nd, rfl⟩⟩))
                                        go_ret
                                        exact ⟨by first | rfl | (simp [errW_none, errW_some] <;> rfl) | (simp only [← hji42]; first | rfl | (simp [errW_none, errW_some] <;> rfl)) | (simp [*, errW_none, errW_some] <;> rfl), by repeat (first | (with_reducible first | exact HB.out | apply below_alloc | apply pw_below_drewN | apply below_drew1) | exact HB.out)⟩
                                    · rw [if_neg c44] at H
                                      exact absurd H (by simp)
                                  · rw [if_neg c43] at H
                                    exact absurd H (by simp)
                                · rw [if_neg c41] at H
                                  have c41b0 : (t327 == t297) = false := beq_eq_false_iff_ne.mpr c41
                                  have c41b1 : (t327 != t297) = true := bne_iff_ne.mpr c41
                                  obtain rfl := Option.some.inj H
                                  try go_wp2
                                  have n0_ := Aside0.mk (Kd.R_drew HO_5.out)
                                  have n1_ := Aside0.mk (below_drew1 HB.out)
                                  clear HO_5
                                  clear HB
                                  have HO_5 := n0_
                                  have HB := n1_
                                  clear n0_ n1_
                                  obtain ⟨Ao85, co85, eo85⟩ := Kd.R_slice HO_5.out
                                  (first | subst eo85 | (injection eo85 with f1_ f2_ f3_; have f4_ := f1_.symm; have f5_ := f3_.symm; clear f1_ f2_ f3_; subst f4_; subst f5_))
                                  have q84 : (t297 : Int) ≤ ((t293.length : Int) : Int) := of_decide_eq_true (by first | (with_reducible assumption) | assumption)
                                  obtain ⟨i084, hi084, _, hsz84, _⟩ := info_parts info5
                                  have hroom84 : t293.length ≤ co85 := (Kd.R_reads' HO_5.out).2.1
                                  have hC84 : Kd.C (Kd.int .u8) _ Ao85 t293.length t293 := (Kd.R_reads' HO_5.out).2.2
                                  have hcut84 := cut_to (P := Try.prog) 24 5 .i64 Try.underlying24 hi084 Ao85 t293.length co85 t297 (of_decide_eq_true (by first | (with_reducible assumption) | assumption)) q84 hroom84
                                  have hr84 := Kd.C_take (m := (t297 : Int).toNat) hC84 (by omega)
                                  have hy84 : y299.length = (t297 : Int).toNat := (by rw [Ny299.out, List.length_take]; omega)
                                  rw [← Ny299.out] at hr84
                                  rw [← hy84] at hcut84
                                  have HR302 := Aside0.mk hr84
                                  have HC302 := Aside0.mk (show y299.length ≤ co85 from by omega)
                                  clear hr84 hC84 hroom84 hi084 hsz84
                                  have KY84 := Aside0.mk hy84
                                  clear hy84
                                  have KL84 := Aside0.mk (show (t297 : Int).toNat ≤ t293.length from by omega)
                                  replace q84 := eq_true q84
                                  have q86 : (t298 : Int) ≤ ((t293.length : Int) : Int) := of_decide_eq_true (by first | (with_reducible assumption) | assumption)
                                  obtain ⟨i086, hi086, _, hsz86, _⟩ := info_parts info5
                                  have hroom86 : t293.length ≤ co85 := (Kd.R_reads' HO_5.out).2.1
                                  have hC86 : Kd.C (Kd.int .u8) _ Ao85 t293.length t293 := (Kd.R_reads' HO_5.out).2.2
                                  have hcut86 := cut_to (P := Try.prog) 24 5 .i64 Try.underlying24 hi086 Ao85 t293.length co85 t298 (of_decide_eq_true (by first | (with_reducible assumption) | assumption)) q86 hroom86
                                  have hr86 := Kd.C_take (m := (t298 : Int).toNat) hC86 (by omega)
                                  have hy86 : y304.length = (t298 : Int).toNat := (by rw [Ny304.out, List.length_take]; omega)
                                  rw [← Ny304.out] at hr86
                                  rw [← hy86] at hcut86
                                  have HR307 := Aside0.mk hr86
                                  have HC307 := Aside0.mk (show y304.length ≤ co85 from by omega)
                                  clear hr86 hC86 hroom86 hi086 hsz86
                                  have KY86 := Aside0.mk hy86
                                  clear hy86
                                  have KL86 := Aside0.mk (show (t298 : Int).toNat ≤ t293.length from by omega)
                                  replace q86 := eq_true q86
                                  refine start_ (n := 9) (S := fun w' => True) (ds := []) #[false, false, false, false, false, false, false, false, false] (by kernel_rfl) rfl rfl trivial (fun hHeld => ?_); refine with_tabW skiarealaw29_JournalDrops.tab10 skiarealaw29_JournalDrops.bits10 (fun HT_ HW_ => ?_)
                                  generalize wc.drew = w83 at HO_5 HB HR302 HR307 hHeld ⊢
                                  refine pure_ (i := 0) (N := some 54) (v := ?_) (a' := ?_) #[true, false, false, false, false, false, false, false, false] rfl rfl (any_of HT_.out (by kernel_rfl)) (fun _ _ _ h => h) (Or.inl ⟨by rfl, ?_⟩) ?_ ?_
                                  rotate_left
                                  · intro w'
                                    go_simp
                                    with_reducible rfl
                                  rotate_left
                                  · simp only [Act.put, List.setIfInBounds_toArray, List.set_cons_zero, List.set_cons_succ, i64_w, i32_w, IntKind.wrap_u8, IntKind.wrap_u32]
                                    rfl
                                  refine pure_ (i := 1) (N := some 55) (v := ?_) (a' := ?_) #[true, true, false, false, false, false, false, false, false] rfl rfl (any_of HT_.out (by kernel_rfl)) (fun _ _ _ h => h) (Or.inl ⟨by rfl, ?_⟩) ?_ ?_
                                  rotate_left
                                  · intro w'
                                    go_simp
                                    with_reducible rfl
                                  rotate_left
                                  · simp only [Act.put, List.setIfInBounds_toArray, List.set_cons_zero, List.set_cons_succ, i64_w, i32_w, IntKind.wrap_u8, IntKind.wrap_u32]
                                    rfl
                                  refine pure_ (i := 2) (N := some 56) (v := ?_) (a' := ?_) #[true, true, true, false, false, false, false, false, false] rfl rfl (any_of HT_.out (by kernel_rfl)) (fun _ _ _ h => h) (Or.inl ⟨by rfl, ?_⟩) ?_ ?_
                                  rotate_left
                                  · intro w'
                                    go_simp
                                    with_reducible rfl
                                  rotate_left
                                  · simp only [Act.put, List.setIfInBounds_toArray, List.set_cons_zero, List.set_cons_succ, i64_w, i32_w, IntKind.wrap_u8, IntKind.wrap_u32]
                                    rfl
                                  refine pure_ (i := 4) (N := some 58) (v := ?_) (a' := ?_) #[true, true, true, false, true, false, false, false, false] rfl rfl (any_of HT_.out (by kernel_rfl)) (fun _ _ _ h => h) (Or.inl ⟨by rfl, ?_⟩) ?_ ?_
                                  rotate_left
                                  · intro w'
                                    go_simp
                                    with_reducible rfl
                                  rotate_left
                                  · simp only [Act.put, List.setIfInBounds_toArray, List.set_cons_zero, List.set_cons_succ, i64_w, i32_w, IntKind.wrap_u8, IntKind.wrap_u32]
                                    rfl
                                  refine pure_ (i := 5) (N := some 59) (v := ?_) (a' := ?_) #[true, true, true, false, true, true, false, false, false] rfl rfl (any_of HT_.out (by kernel_rfl)) (fun _ _ _ h => h) (Or.inl ⟨by rfl, ?_⟩) ?_ ?_
                                  rotate_left
                                  · intro w'
                                    go_simp
                                    with_reducible rfl
                                  rotate_left
                                  · simp only [Act.put, List.setIfInBounds_toArray, List.set_cons_zero, List.set_cons_succ, i64_w, i32_w, IntKind.wrap_u8, IntKind.wrap_u32]
                                    rfl
                                  refine pure_ (i := 6) (N := some 60) (v := ?_) (a' := ?_) #[true, true, true, false, true, true, true, false, false] rfl rfl (any_of HT_.out (by kernel_rfl)) (fun _ _ _ h => h) (Or.inl ⟨by rfl, ?_⟩) ?_ ?_
                                  rotate_left
                                  · intro w'
                                    go_simp
                                    with_reducible rfl
                                  rotate_left
                                  · simp only [Act.put, List.setIfInBounds_toArray, List.set_cons_zero, List.set_cons_succ, i64_w, i32_w, IntKind.wrap_u8, IntKind.wrap_u32]
                                    rfl
                                  refine one_ (i := 3) (N := some 57) #[true, true, true, true, true, true, true, false, false] rfl rfl (one_of HT_.out (by kernel_rfl)) (by decide) (fun K hK => ?_)
                                  refine goes_ Try.func16 (by kernel_rfl) rfl #[.slice Ao85 y299.length co85] (by rfl) rfl rfl (by (try simp only [List.map_toArray, List.map_cons, List.map_nil]); first | done | rfl | (simp only [List.length_drop, List.length_take]; rfl)) ?_
                                  with_reducible refine (journal_Last.calls kj14 _ _ y299 t303 _ ?side1 ?side2 A23.out).mono ?_
                                  (case side1 => repeat (first | exact (by repeat (first | (with_reducible exact HR302.out) | (with_reducible refine Kd.C_alloc ?_ _) | (with_reducible refine Kd.C_drewN ?_ _) | (with_reducible refine Kd.C_drew ?_) | exact HR302.out)) | (with_reducible refine Kd.C_alloc ?_ _) | (with_reducible refine Kd.C_drewN ?_ _) | (with_reducible refine Kd.C_drew ?_)))
                                  (case side2 => exact HC302.out)
                                  rintro e w87 ⟨rfl, hb⟩
                                  refine ⟨_, rfl, ?_⟩
                                  have n0_ := Aside0.mk (Kd.R_below (by (with_reducible repeat (first | apply Kd.R_alloc | apply Kd.R_drewN | apply Kd.R_drew)); exact HO_5.out) hb)
                                  have n1_ := Aside0.mk (Kd.C_below (by repeat (first | (with_reducible exact HR302.out) | (with_reducible refine Kd.C_alloc ?_ _) | (with_reducible refine Kd.C_drewN ?_ _) | (with_reducible refine Kd.C_drew ?_) | exact HR302.out)) hb)
                                  have n2_ := Aside0.mk (Kd.C_below (by repeat (first | (with_reducible exact HR307.out) | (with_reducible refine Kd.C_alloc ?_ _) | (with_reducible refine Kd.C_drewN ?_ _) | (with_reducible refine Kd.C_drew ?_) | exact HR307.out)) hb)
                                  have n3_ := Aside0.mk (below_step (by repeat (first | (with_reducible first | exact HB.out | apply below_alloc | apply pw_below_drewN | apply below_drew1) | exact HB.out)) hb)
                                  clear HO_5
                                  clear HR302
                                  clear HR307
                                  clear HB
                                  have HO_5 := n0_
                                  have HR302 := n1_
                                  have HR307 := n2_
                                  have HB := n3_
                                  clear n0_ n1_ n2_ n3_
                                  (try clear hb)
                                  (try clear hb2)
                                  (try clear hk)
                                  (try clear hi)
                                  refine hK.out _ _ trivial (fun hHeld => ?_)
                                  clear hK K
                                  refine norm_ (a' := ?_) ?_ ?_
                                  rotate_left
                                  · show Act.put _ (some 57) _ = _
                                    simp only [Act.put, List.setIfInBounds_toArray, List.set_cons_zero, List.set_cons_succ, i64_w, i32_w, IntKind.wrap_u8, IntKind.wrap_u32]
                                    rfl
                                  refine one_ (i := 7) (N := some 61) #[true, true, true, true, true, true, true, true, false] rfl rfl (one_of HT_.out (by kernel_rfl)) (by decide) (fun K hK => ?_)
                                  refine goes_ Try.func16 (by kernel_rfl) rfl #[.slice Ao85 y304.length co85] (by rfl) rfl rfl (by (try simp only [List.map_toArray, List.map_cons, List.map_nil]); first | done | rfl | (simp only [List.length_drop, List.length_take]; rfl)) ?_
                                  with_reducible refine (journal_Last.calls kj14 _ _ y304 t308 _ ?side1 ?side2 A26.out).mono ?_
                                  (case side1 => repeat (first | exact (by repeat (first | (with_reducible exact HR307.out) | (with_reducible refine Kd.C_alloc ?_ _) | (with_reducible refine Kd.C_drewN ?_ _) | (with_reducible refine Kd.C_drew ?_) | exact HR307.out)) | (with_reducible refine Kd.C_alloc ?_ _) | (with_reducible refine Kd.C_drewN ?_ _) | (with_reducible refine Kd.C_drew ?_)))
                                  (case side2 => exact HC307.out)
                                  rintro e w88 ⟨rfl, hb⟩
                                  refine ⟨_, rfl, ?_⟩
                                  have n0_ := Aside0.mk (Kd.R_below (by (with_reducible repeat (first | apply Kd.R_alloc | apply Kd.R_drewN | apply Kd.R_drew)); exact HO_5.out) hb)
                                  have n1_ := Aside0.mk (Kd.C_below (by repeat (first | (with_reducible exact HR302.out) | (with_reducible refine Kd.C_alloc ?_ _) | (with_reducible refine Kd.C_drewN ?_ _) | (with_reducible refine Kd.C_drew ?_) | exact HR302.out)) hb)
                                  have n2_ := Aside0.mk (Kd.C_below (by repeat (first | (with_reducible exact HR307.out) | (with_reducible refine Kd.C_alloc ?_ _) | (with_reducible refine Kd.C_drewN ?_ _) | (with_reducible refine Kd.C_drew ?_) | exact HR307.out)) hb)
                                  have n3_ := Aside0.mk (below_step (by repeat (first | (with_reducible first | exact HB.out | apply below_alloc | apply pw_below_drewN | apply below_drew1) | exact HB.out)) hb)
                                  clear HO_5
                                  clear HR302
                                  clear HR307
                                  clear HB
                                  have HO_5 := n0_
                                  have HR302 := n1_
                                  have HR307 := n2_
                                  have HB := n3_
                                  clear n0_ n1_ n2_ n3_
                                  (try clear hb)
                                  (try clear hb2)
                                  (try clear hk)
                                  (try clear hi)
                                  refine hK.out _ _ trivial (fun hHeld => ?_)
                                  clear hK K
                                  refine norm_ (a' := ?_) ?_ ?_
                                  rotate_left
                                  · show Act.put _ (some 61) _ = _
                                    simp only [Act.put, List.setIfInBounds_toArray, List.set_cons_zero, List.set_cons_succ, i64_w, i32_w, IntKind.wrap_u8, IntKind.wrap_u32]
                                    rfl
                                  refine pure_ (i := 8) (N := some 62) (v := ?_) (a' := ?_) #[true, true, true, true, true, true, true, true, true] rfl rfl (any_of HT_.out (by kernel_rfl)) (fun _ _ _ h => h) (Or.inl ⟨by rfl, ?_⟩) ?_ ?_
                                  rotate_left
                                  · intro w'
                                    go_simp
                                    with_reducible rfl
                                  rotate_left
                                  · simp only [Act.put, List.setIfInBounds_toArray, List.set_cons_zero, List.set_cons_succ, i64_w, i32_w, IntKind.wrap_u8, IntKind.wrap_u32]
                                    rfl
                                  refine done_ (done_of HT_.out (by kernel_rfl)) ?_
                                  try go_wp2
                                  have n0_ := Aside0.mk (Kd.R_drew HO_5.out)
                                  have n1_ := Aside0.mk (Kd.C_drew HR302.out)
                                  have n2_ := Aside0.mk (Kd.C_drew HR307.out)
                                  have n3_ := Aside0.mk (below_drew1 HB.out)
                                  clear HO_5
                                  clear HR302
                                  clear HR307
                                  clear HB
                                  have HO_5 := n0_
                                  have HR302 := n1_
                                  have HR307 := n2_
                                  have HB := n3_
                                  clear n0_ n1_ n2_ n3_
                                  have q90 : (t297 : Int) ≤ ((t293.length : Int) : Int) := of_decide_eq_true (by first | (with_reducible assumption) | assumption)
                                  obtain ⟨i090, hi090, _, hsz90, _⟩ := info_parts info5
                                  have hroom90 : t293.length ≤ co85 := (Kd.R_reads' HO_5.out).2.1
                                  have hC90 : Kd.C (Kd.int .u8) _ Ao85 t293.length t293 := (Kd.R_reads' HO_5.out).2.2
                                  have hcut90 := cut_to (P := Try.prog) 24 5 .i64 Try.underlying24 hi090 Ao85 t293.length co85 t297 (of_decide_eq_true (by first | (with_reducible assumption) | assumption)) q90 hroom90
                                  have hr90 := Kd.C_take (m := (t297 : Int).toNat) hC90 (by omega)
                                  have hy90 : y312.length = (t297 : Int).toNat := (by rw [Ny312.out, List.length_take]; omega)
                                  rw [← Ny312.out] at hr90
                                  rw [← hy90] at hcut90
                                  have HR315 := Aside0.mk hr90
                                  have HC315 := Aside0.mk (show y312.length ≤ co85 from by omega)
                                  clear hr90 hC90 hroom90 hi090 hsz90
                                  have KY90 := Aside0.mk hy90
                                  clear hy90
                                  have KL90 := Aside0.mk (show (t297 : Int).toNat ≤ t293.length from by omega)
                                  replace q90 := eq_true q90
                                  have q91 : (t298 : Int) ≤ ((t293.length : Int) : Int) := of_decide_eq_true (by first | (with_reducible assumption) | assumption)
                                  obtain ⟨i091, hi091, _, hsz91, _⟩ := info_parts info5
                                  have hroom91 : t293.length ≤ co85 := (Kd.R_reads' HO_5.out).2.1
                                  have hC91 : Kd.C (Kd.int .u8) _ Ao85 t293.length t293 := (Kd.R_reads' HO_5.out).2.2
                                  have q091 : (0 : Int) ≤ (t298 : Int) := of_decide_eq_true (by first | (with_reducible assumption) | assumption)
                                  have hcut91 := cut_from (P := Try.prog) 24 5 .i64 Try.underlying24 hi091 1 hsz91 Ao85 t293.length co85 t298 q091 q91
                                  have hr91 := Kd.C_drop (m := (t298 : Int).toNat) (c := co85) hC91 (by omega) hroom91
                                  obtain ⟨A91, hA91⟩ : ∃ A1, A1 = (if co85 = (t298 : Int).toNat then Ao85 else (Ao85 : Option Addr).map (·.add ((t298 : Int).toNat * 1))) := ⟨_, rfl⟩
                                  obtain ⟨c91, hc91⟩ : ∃ c1, c1 = co85 - (t298 : Int).toNat := ⟨_, rfl⟩
                                  have hy91 : y319.length = t293.length - (t298 : Int).toNat := (by rw [Ny319.out, List.length_drop] <;> omega)
                                  rw [show (t293).drop (t298 : Int).toNat = y319 from Ny319.out.symm] at hr91
                                  replace hr91 : Kd.C (Kd.int .u8) _ A91 y319.length y319 := (by rw [hA91]; exact hr91)
                                  rw [← hy91, ← hA91, ← hc91] at hcut91
                                  have HR322 := Aside0.mk hr91
                                  have HC322 := Aside0.mk (show y319.length ≤ c91 from by rw [hy91, hc91]; exact Nat.sub_le_sub_right hroom91 _)
                                  clear hr91 hC91 hroom91 hi091 hsz91 hc91
                                  have KY91 := Aside0.mk hy91
                                  have KA91 := Aside0.mk hA91
                                  clear hy91 hA91
                                  have KL91 := Aside0.mk (show (t298 : Int).toNat ≤ t293.length from by omega)
                                  replace q91 := eq_true q91
                                  refine start_ (n := 10) (S := fun w' => True) (ds := []) #[false, false, false, false, false, false, false, false, false, false] (by kernel_rfl) rfl rfl trivial (fun hHeld => ?_); refine with_tabW skiarealaw29_JournalDrops.tab12 skiarealaw29_JournalDrops.bits12 (fun HT_ HW_ => ?_)
                                  generalize w88.drew = w89 at HO_5 HR302 HR307 HB HR315 HR322 hHeld ⊢
                                  refine pure_ (i := 1) (N := some 64) (v := ?_) (a' := ?_) #[false, true, false, false, false, false, false, false, false, false] rfl rfl (any_of HT_.out (by kernel_rfl)) (fun _ _ _ h => h) (Or.inl ⟨by rfl, ?_⟩) ?_ ?_
                                  rotate_left
                                  · intro w'
                                    go_simp
                                    with_reducible rfl
                                  rotate_left
                                  · simp only [Act.put, List.setIfInBounds_toArray, List.set_cons_zero, List.set_cons_succ, i64_w, i32_w, IntKind.wrap_u8, IntKind.wrap_u32]
                                    rfl
                                  refine pure_ (i := 2) (N := some 65) (v := ?_) (a' := ?_) #[false, true, true, false, false, false, false, false, false, false] rfl rfl (any_of HT_.out (by kernel_rfl)) (fun _ _ _ h => h) (Or.inl ⟨by rfl, ?_⟩) ?_ ?_
                                  rotate_left
                                  · intro w'
                                    go_simp
                                    with_reducible rfl
                                  rotate_left
                                  · simp only [Act.put, List.setIfInBounds_toArray, List.set_cons_zero, List.set_cons_succ, i64_w, i32_w, IntKind.wrap_u8, IntKind.wrap_u32]
                                    rfl
                                  refine pure_ (i := 3) (N := some 66) (v := ?_) (a' := ?_) #[false, true, true, true, false, false, false, false, false, false] rfl rfl (any_of HT_.out (by kernel_rfl)) (fun _ _ _ h => h) (Or.inl ⟨by rfl, ?_⟩) ?_ ?_
                                  rotate_left
                                  · intro w'
                                    go_simp
                                    with_reducible rfl
                                  rotate_left
                                  · simp only [Act.put, List.setIfInBounds_toArray, List.set_cons_zero, List.set_cons_succ, i64_w, i32_w, IntKind.wrap_u8, IntKind.wrap_u32]
                                    rfl
                                  refine pure_ (i := 5) (N := some 68) (v := ?_) (a' := ?_) #[false, true, true, true, false, true, false, false, false, false] rfl rfl (any_of HT_.out (by kernel_rfl)) (fun _ _ _ h => h) (Or.inl ⟨by rfl, ?_⟩) ?_ ?_
                                  rotate_left
                                  · intro w'
                                    go_simp
                                    with_reducible rfl
                                  rotate_left
                                  · simp only [Act.put, List.setIfInBounds_toArray, List.set_cons_zero, List.set_cons_succ, i64_w, i32_w, IntKind.wrap_u8, IntKind.wrap_u32]
                                    rfl
                                  refine pure_ (i := 6) (N := some 69) (v := ?_) (a' := ?_) #[false, true, true, true, false, true, true, false, false, false] rfl rfl (any_of HT_.out (by kernel_rfl)) (fun _ _ _ h => h) (Or.inl ⟨by rfl, ?_⟩) ?_ ?_
                                  rotate_left
                                  · intro w'
                                    go_simp
                                    with_reducible rfl
                                  rotate_left
                                  · simp only [Act.put, List.setIfInBounds_toArray, List.set_cons_zero, List.set_cons_succ, i64_w, i32_w, IntKind.wrap_u8, IntKind.wrap_u32]
                                    rfl
                                  refine pure_ (i := 7) (N := some 70) (v := ?_) (a' := ?_) #[false, true, true, true, false, true, true, true, false, false] rfl rfl (any_of HT_.out (by kernel_rfl)) (fun _ _ _ h => h) (Or.inl ⟨by rfl, ?_⟩) ?_ ?_
                                  rotate_left
                                  · intro w'
                                    go_simp
                                    with_reducible rfl
                                  rotate_left
                                  · simp only [Act.put, List.setIfInBounds_toArray, List.set_cons_zero, List.set_cons_succ, i64_w, i32_w, IntKind.wrap_u8, IntKind.wrap_u32]
                                    rfl
                                  refine one_ (i := 0) (N := some 63) #[true, true, true, true, false, true, true, true, false, false] rfl rfl (one_of HT_.out (by kernel_rfl)) (by decide) (fun K hK => ?_)
                                  refine Kd.R_lit_step (Kd.int .u8) _ 5 ?hg (N := 63) ?hd (xs := ([] : List Int)) (inner := []) (ok := fun _ => True) (okp := fun _ => True) ?hr ?hp (fun _ hk => hk) trivial (Below.refl _ _) (Nat.le_refl _) (by simp) ?_; (case hd => rfl); (case hg => rfl); (case hr => first | (go_simp; done) | (go_simp; rfl)); (case hp => exact (Reps.none _ _))
                                  intro v310 w92 ho93 hb hg_ hnew_
                                  clear hg_ hnew_
                                  (first | rw [← Ny309.out] at ho93 | (simp only [Int.reduceToNat] at ho93; rw [← Ny309.out] at ho93))
                                  have n0_ := Aside0.mk (Kd.R_elder' (by (with_reducible repeat (first | apply Kd.R_alloc | apply Kd.R_drewN | apply Kd.R_drew)); exact HO_5.out) (Kd.R_base ho93) hb)
                                  have n1_ := Aside0.mk (Kd.R_lower (Kd.R_new' ho93 (Kd.R_lt (by (with_reducible repeat (first | apply Kd.R_alloc | apply Kd.R_drewN | apply Kd.R_drew)); exact HO_5.out))) (below_size (by repeat (first | (with_reducible first | exact HB.out | apply below_alloc | apply pw_below_drewN | apply below_drew1) | exact HB.out))))
                                  have n2_ := Aside0.mk (Kd.C_below (by repeat (first | (with_reducible exact HR302.out) | (with_reducible refine Kd.C_alloc ?_ _) | (with_reducible refine Kd.C_drewN ?_ _) | (with_reducible refine Kd.C_drew ?_) | exact HR302.out)) hb)
                                  have n3_ := Aside0.mk (Kd.C_below (by repeat (first | (with_reducible exact HR307.out) | (with_reducible refine Kd.C_alloc ?_ _) | (with_reducible refine Kd.C_drewN ?_ _) | (with_reducible refine Kd.C_drew ?_) | exact HR307.out)) hb)
                                  have n4_ := Aside0.mk (Kd.C_below (by repeat (first | (with_reducible exact HR315.out) | (with_reducible refine Kd.C_alloc ?_ _) | (with_reducible refine Kd.C_drewN ?_ _) | (with_reducible refine Kd.C_drew ?_) | exact HR315.out)) hb)
                                  have n5_ := Aside0.mk (Kd.C_below (by repeat (first | (with_reducible exact HR322.out) | (with_reducible refine Kd.C_alloc ?_ _) | (with_reducible refine Kd.C_drewN ?_ _) | (with_reducible refine Kd.C_drew ?_) | exact HR322.out)) hb)
                                  have n6_ := Aside0.mk (below_step (by repeat (first | (with_reducible first | exact HB.out | apply below_alloc | apply pw_below_drewN | apply below_drew1) | exact HB.out)) hb)
                                  clear HO_5
                                  clear HR302
                                  clear HR307
                                  clear HR315
                                  clear HR322
                                  clear HB
                                  have HO_5 := n0_
                                  have HO311 := n1_
                                  have HR302 := n2_
                                  have HR307 := n3_
                                  have HR315 := n4_
                                  have HR322 := n5_
                                  have HB := n6_
                                  clear n0_ n1_ n2_ n3_ n4_ n5_ n6_
                                  clear hb ho93
                                  refine hK.out _ _ trivial (fun hHeld => ?_)
                                  clear hK K
                                  refine norm_ (a' := ?_) ?_ ?_
                                  rotate_left
                                  · show Act.put _ (some 63) _ = _
                                    simp only [Act.put, List.setIfInBounds_toArray, List.set_cons_zero, List.set_cons_succ, i64_w, i32_w, IntKind.wrap_u8, IntKind.wrap_u32]
                                    rfl
                                  refine one_ (i := 4) (N := some 67) #[true, true, true, true, true, true, true, true, false, false] rfl rfl (one_of HT_.out (by kernel_rfl)) (by decide) (fun K hK => ?_)
                                  refine Kd.R_append_rows_step (Kd.int .u8) (w0 := w) w.heap.size (by rfl) (.tmp 63) (.tmp 66) 24 5 (.int .u8 0) 1 rfl Try.underlying24 info5 rfl (by decide) (by omega) v310 y309 y312 _ _ _ (fun k_ => some k_ ≠ (.slice Ao85 t293.length co85 : Value).ownBlock) (fun _ => False) rfl rfl ?aO ?aR (fun _ _ h => h) (fun _ h => h.elim) ?aF ?aB ?aS ?aL ?_
                                  (case aR => (try rw [show y299.length = y312.length from by rw [Ny299.out, Ny312.out]]); repeat (first | exact (by repeat (first | (with_reducible exact HR315.out) | (with_reducible refine Kd.C_alloc ?_ _) | (with_reducible refine Kd.C_drewN ?_ _) | (with_reducible refine Kd.C_drew ?_) | exact HR315.out)) | (with_reducible refine Kd.C_alloc ?_ _) | (with_reducible refine Kd.C_drewN ?_ _) | (with_reducible refine Kd.C_drew ?_)))
                                  (case aB => exact (by repeat (first | (with_reducible first | exact HB.out | apply below_alloc | apply pw_below_drewN | apply below_drew1) | exact HB.out)))
                                  (case aF => exact (fun k_ hk => Kd.fresh' (Kd.R_lt (by (with_reducible repeat (first | apply Kd.R_alloc | apply Kd.R_drewN | apply Kd.R_drew)); exact HO_5.out)) k_ hk))
                                  (case aO => exact (by (with_reducible repeat (first | apply Kd.R_alloc | apply Kd.R_drewN | apply Kd.R_drew)); exact Kd.R_mono HO311.out (fun _ hk => hk.2)))
                                  (case aS => exact (below_size (by repeat (first | (with_reducible first | exact HB.out | apply below_alloc | apply pw_below_drewN | apply below_drew1) | exact HB.out))))
                                  (case aL => have hsame := congrArg List.length (Ny299.out.trans Ny312.out.symm); have := LMc36.out; omega)
                                  intro v317 w94 ho hb hg hat
                                  rw [← Ny316.out] at ho
                                  have n0_ := Aside0.mk (Kd.R_after (ok := (fun _ => True)) (by (with_reducible repeat (first | apply Kd.R_alloc | apply Kd.R_drewN | apply Kd.R_drew)); exact HO_5.out) hg hat)
                                  have n1_ := Aside0.mk (hb)
                                  have n2_ := Aside0.mk ((show Kd.C (Kd.int .u8) w94 Ao85 y299.length y299 from by rw [Ny299.out]; exact Kd.C_take (m := (t297 : Int).toNat) ((Kd.R_reads' (Kd.R_after (ok := (fun _ => True)) (by (with_reducible repeat (first | apply Kd.R_alloc | apply Kd.R_drewN | apply Kd.R_drew)); exact HO_5.out) hg hat)).2.2) KL84.out))
                                  have n3_ := Aside0.mk ((show Kd.C (Kd.int .u8) w94 Ao85 y304.length y304 from by rw [Ny304.out]; exact Kd.C_take (m := (t298 : Int).toNat) ((Kd.R_reads' (Kd.R_after (ok := (fun _ => True)) (by (with_reducible repeat (first | apply Kd.R_alloc | apply Kd.R_drewN | apply Kd.R_drew)); exact HO_5.out) hg hat)).2.2) KL86.out))
                                  have n4_ := Aside0.mk ((show Kd.C (Kd.int .u8) w94 Ao85 y312.length y312 from by rw [Ny312.out]; exact Kd.C_take (m := (t297 : Int).toNat) ((Kd.R_reads' (Kd.R_after (ok := (fun _ => True)) (by (with_reducible repeat (first | apply Kd.R_alloc | apply Kd.R_drewN | apply Kd.R_drew)); exact HO_5.out) hg hat)).2.2) KL90.out))
                                  have n5_ := Aside0.mk ((show Kd.C (Kd.int .u8) w94 A91 y319.length y319 from by rw [Ny319.out, KA91.out]; exact Kd.C_drop (m := (t298 : Int).toNat) (c := co85) ((Kd.R_reads' (Kd.R_after (ok := (fun _ => True)) (by (with_reducible repeat (first | apply Kd.R_alloc | apply Kd.R_drewN | apply Kd.R_drew)); exact HO_5.out) hg hat)).2.2) KL91.out ((Kd.R_reads' (Kd.R_after (ok := (fun _ => True)) (by (with_reducible repeat (first | apply Kd.R_alloc | apply Kd.R_drewN | apply Kd.R_drew)); exact HO_5.out) hg hat)).2.1)))
                                  have n6_ := Aside0.mk (ho)
                                  clear HO_5
                                  clear HB
                                  clear HR302
                                  clear HR307
                                  clear HR315
                                  clear HR322
                                  clear HO311
                                  have HO_5 := n0_
                                  have HB := n1_
                                  have HR302 := n2_
                                  have HR307 := n3_
                                  have HR315 := n4_
                                  have HR322 := n5_
                                  have HO318 := n6_
                                  clear n0_ n1_ n2_ n3_ n4_ n5_ n6_
                                  clear ho hb hg hat
                                  refine hK.out _ _ trivial (fun hHeld => ?_)
                                  clear hK K
                                  refine norm_ (a' := ?_) ?_ ?_
                                  rotate_left
                                  · show Act.put _ (some 67) _ = _
                                    simp only [Act.put, List.setIfInBounds_toArray, List.set_cons_zero, List.set_cons_succ, i64_w, i32_w, IntKind.wrap_u8, IntKind.wrap_u32]
                                    rfl
                                  refine one_ (i := 8) (N := some 71) #[true, true, true, true, true, true, true, true, true, false] rfl rfl (one_of HT_.out (by kernel_rfl)) (by decide) (fun K hK => ?_)
                                  refine Kd.R_append_rows_step (Kd.int .u8) (w0 := w) w.heap.size (by rfl) (.tmp 67) (.tmp 70) 24 5 (.int .u8 0) 1 rfl Try.underlying24 info5 rfl (by decide) (by omega) v317 y316 y319 _ _ _ (fun k_ => some k_ ≠ (.slice Ao85 t293.length co85 : Value).ownBlock) (fun _ => False) rfl rfl ?aO ?aR (fun _ _ h => h) (fun _ h => h.elim) ?aF ?aB ?aS ?aL ?_
                                  (case aR => repeat (first | exact (by repeat (first | (with_reducible exact HR322.out) | (with_reducible refine Kd.C_alloc ?_ _) | (with_reducible refine Kd.C_drewN ?_ _) | (with_reducible refine Kd.C_drew ?_) | exact HR322.out)) | (with_reducible refine Kd.C_alloc ?_ _) | (with_reducible refine Kd.C_drewN ?_ _) | (with_reducible refine Kd.C_drew ?_)))
                                  (case aB => exact (by repeat (first | (with_reducible first | exact HB.out | apply below_alloc | apply pw_below_drewN | apply below_drew1) | exact HB.out)))
                                  (case aF => exact (fun k_ hk => Kd.fresh' (Kd.R_lt (by (with_reducible repeat (first | apply Kd.R_alloc | apply Kd.R_drewN | apply Kd.R_drew)); exact HO_5.out)) k_ hk))
                                  (case aO => exact (by (with_reducible repeat (first | apply Kd.R_alloc | apply Kd.R_drewN | apply Kd.R_drew)); exact HO318.out))
                                  (case aS => exact (below_size (by repeat (first | (with_reducible first | exact HB.out | apply below_alloc | apply pw_below_drewN | apply below_drew1) | exact HB.out))))
                                  (case aL => have := LMc39.out; omega)
                                  intro v324 w95 ho hb hg hat
                                  rw [← Ny323.out] at ho
                                  have n0_ := Aside0.mk (Kd.R_after (ok := (fun _ => True)) (by (with_reducible repeat (first | apply Kd.R_alloc | apply Kd.R_drewN | apply Kd.R_drew)); exact HO_5.out) hg hat)
                                  have n1_ := Aside0.mk (hb)
                                  have n2_ := Aside0.mk ((show Kd.C (Kd.int .u8) w95 Ao85 y299.length y299 from by rw [Ny299.out]; exact Kd.C_take (m := (t297 : Int).toNat) ((Kd.R_reads' (Kd.R_after (ok := (fun _ => True)) (by (with_reducible repeat (first | apply Kd.R_alloc | apply Kd.R_drewN | apply Kd.R_drew)); exact HO_5.out) hg hat)).2.2) KL84.out))
                                  have n3_ := Aside0.mk ((show Kd.C (Kd.int .u8) w95 Ao85 y304.length y304 from by rw [Ny304.out]; exact Kd.C_take (m := (t298 : Int).toNat) ((Kd.R_reads' (Kd.R_after (ok := (fun _ => True)) (by (with_reducible repeat (first | apply Kd.R_alloc | apply Kd.R_drewN | apply Kd.R_drew)); exact HO_5.out) hg hat)).2.2) KL86.out))
                                  have n4_ := Aside0.mk ((show Kd.C (Kd.int .u8) w95 Ao85 y312.length y312 from by rw [Ny312.out]; exact Kd.C_take (m := (t297 : Int).toNat) ((Kd.R_reads' (Kd.R_after (ok := (fun _ => True)) (by (with_reducible repeat (first | apply Kd.R_alloc | apply Kd.R_drewN | apply Kd.R_drew)); exact HO_5.out) hg hat)).2.2) KL90.out))
                                  have n5_ := Aside0.mk ((show Kd.C (Kd.int .u8) w95 A91 y319.length y319 from by rw [Ny319.out, KA91.out]; exact Kd.C_drop (m := (t298 : Int).toNat) (c := co85) ((Kd.R_reads' (Kd.R_after (ok := (fun _ => True)) (by (with_reducible repeat (first | apply Kd.R_alloc | apply Kd.R_drewN | apply Kd.R_drew)); exact HO_5.out) hg hat)).2.2) KL91.out ((Kd.R_reads' (Kd.R_after (ok := (fun _ => True)) (by (with_reducible repeat (first | apply Kd.R_alloc | apply Kd.R_drewN | apply Kd.R_drew)); exact HO_5.out) hg hat)).2.1)))
                                  have n6_ := Aside0.mk (ho)
                                  clear HO_5
                                  clear HB
                                  clear HR302
                                  clear HR307
                                  clear HR315
                                  clear HR322
                                  clear HO318
                                  have HO_5 := n0_
                                  have HB := n1_
                                  have HR302 := n2_
                                  have HR307 := n3_
                                  have HR315 := n4_
                                  have HR322 := n5_
                                  have HO325 := n6_
                                  clear n0_ n1_ n2_ n3_ n4_ n5_ n6_
                                  clear ho hb hg hat
                                  refine hK.out _ _ trivial (fun hHeld => ?_)
                                  clear hK K
                                  refine norm_ (a' := ?_) ?_ ?_
                                  rotate_left
                                  · show Act.put _ (some 71) _ = _
                                    simp only [Act.put, List.setIfInBounds_toArray, List.set_cons_zero, List.set_cons_succ, i64_w, i32_w, IntKind.wrap_u8, IntKind.wrap_u32]
                                    rfl
                                  refine pure_ (i := 9) (N := some 10) (v := ?_) (a' := ?_) #[true, true, true, true, true, true, true, true, true, true] rfl rfl (any_of HT_.out (by kernel_rfl)) (fun _ _ _ h => h) (Or.inl ⟨by rfl, ?_⟩) ?_ ?_
                                  rotate_left
                                  · intro w'
                                    go_simp
                                    with_reducible rfl
                                  rotate_left
                                  · simp only [Act.put, List.setIfInBounds_toArray, List.set_cons_zero, List.set_cons_succ, i64_w, i32_w, IntKind.wrap_u8, IntKind.wrap_u32]
                                    rfl
                                  refine done_ (done_of HT_.out (by kernel_rfl)) ?_
                                  obtain ⟨Ao96, co96, eo96⟩ := Kd.R_slice HO325.out
                                  subst eo96
                                  try go_wp2_with (first | ((with_reducible refine gate_callee (f := 13) rfl ?_); refine goesL_ (some 74) rfl rfl Try.func13 (by kernel_rfl) rfl #[.slice Ao96 y323.length co96] rfl (by (try simp only [List.map_toArray, List.map_cons, List.map_nil]); first | done | rfl | (simp only [List.length_drop, List.length_take]; rfl)) ?_; (with_reducible refine (journal_Read.calls kj14 _ _ y323 t326 t327 _ ?side1 ?side2 A40.out).mono ?_); (case side1 => repeat (first | exact (Kd.R_reads' HO325.out).2.2 | (with_reducible refine Kd.C_alloc ?_ _) | (with_reducible refine Kd.C_drewN ?_ _) | (with_reducible refine Kd.C_drew ?_))); (case side2 => exact (Kd.R_reads' HO325.out).2.1); rintro e w97 ⟨v328, rfl, ho0, hb⟩; refine ⟨_, rfl, ?_⟩; have n0_ := Aside0.mk (Kd.R_below (by (with_reducible repeat (first | apply Kd.R_alloc | apply Kd.R_drewN | apply Kd.R_drew)); exact HO_5.out) hb); have n1_ := Aside0.mk (Kd.R_below (by (with_reducible repeat (first | apply Kd.R_alloc | apply Kd.R_drewN | apply Kd.R_drew)); exact HO325.out) hb); have n2_ := Aside0.mk (Kd.R_lower ho0 (below_size (by repeat (first | (with_reducible first | exact HB.out | apply below_alloc | apply pw_below_drewN | apply below_drew1) | exact HB.out)))); have n3_ := Aside0.mk (Kd.C_below (by repeat (first | (with_reducible exact HR302.out) | (with_reducible refine Kd.C_alloc ?_ _) | (with_reducible refine Kd.C_drewN ?_ _) | (with_reducible refine Kd.C_drew ?_) | exact HR302.out)) hb); have n4_ := Aside0.mk (Kd.C_below (by repeat (first | (with_reducible exact HR307.out) | (with_reducible refine Kd.C_alloc ?_ _) | (with_reducible refine Kd.C_drewN ?_ _) | (with_reducible refine Kd.C_drew ?_) | exact HR307.out)) hb); have n5_ := Aside0.mk (Kd.C_below (by repeat (first | (with_reducible exact HR315.out) | (with_reducible refine Kd.C_alloc ?_ _) | (with_reducible refine Kd.C_drewN ?_ _) | (with_reducible refine Kd.C_drew ?_) | exact HR315.out)) hb); have n6_ := Aside0.mk (Kd.C_below (by repeat (first | (with_reducible exact HR322.out) | (with_reducible refine Kd.C_alloc ?_ _) | (with_reducible refine Kd.C_drewN ?_ _) | (with_reducible refine Kd.C_drew ?_) | exact HR322.out)) hb); have n7_ := Aside0.mk (below_step (by repeat (first | (with_reducible first | exact HB.out | apply below_alloc | apply pw_below_drewN | apply below_drew1) | exact HB.out)) hb); clear HO_5; clear HO325; clear HR302; clear HR307; clear HR315; clear HR322; clear HB; have HO_5 := n0_; have HO325 := n1_; have HO329 := n2_; have HR302 := n3_; have HR307 := n4_; have HR315 := n5_; have HR322 := n6_; have HB := n7_; clear n0_ n1_ n2_ n3_ n4_ n5_ n6_ n7_; (try clear hb); (try clear hb2); (try clear hk); (try clear hi); (try clear ho0)))
                                  go_ret
                                  exact ⟨by first | rfl | (simp [errW_none, errW_some] <;> rfl) | (simp [*, errW_none, errW_some] <;> rfl), by repeat (first | (with_reducible first | exact HB.out | apply below_alloc | apply pw_below_drewN | apply below_drew1) | exact HB.out)⟩
                              · rw [if_neg c39] at H
                                exact absurd H (by simp)
                            · rw [if_neg c36] at H
                              exact absurd H (by simp)
                        · rw [if_neg c25] at H
                          exact absurd H (by simp)
                      · rw [if_neg c24] at H
                        exact absurd H (by simp)
                    · rw [if_neg c22] at H
                      exact absurd H (by simp)
                  · rw [if_neg c21] at H
                    exact absurd H (by simp)
  · replace c4 := Bool.eq_false_iff.mpr c4
    subst c4
    have H1 : (some false) = some r := by rw [if_neg (show ¬ (false = true) by decide)] at H; exact H
    clear H
    have H := H1
    clear H1
    obtain rfl := Option.some.inj H
    go_enter Try.func4, Try.ntmps4
    go_wp2_with (first | ((with_reducible refine gate_callee (f := 10) rfl ?_); refine goesL_ (some 13) rfl rfl Try.func10 (by kernel_rfl) rfl #[] rfl (by (try simp only [List.map_toArray, List.map_cons, List.map_nil]); first | done | rfl | (simp only [List.length_drop, List.length_take]; rfl)) ?_; (with_reducible refine (skiarealaw29_alive.calls k  false _ A3.out).mono ?_); rintro e w98 ⟨rfl, hb⟩; refine ⟨_, rfl, ?_⟩; have n0_ := Aside0.mk (below_step (by repeat (first | (with_reducible first | exact HB.out | apply below_alloc | apply pw_below_drewN | apply below_drew1) | exact HB.out)) hb); clear HB; have HB := n0_; clear n0_; (try clear hb); (try clear hb2); (try clear hk); (try clear hi)))
    go_ret
    exact ⟨by first | rfl | (simp [errW_none, errW_some] <;> rfl) | (simp [*, errW_none, errW_some] <;> rfl), by repeat (first | (with_reducible first | exact HB.out | apply below_alloc | apply pw_below_drewN | apply below_drew1) | exact HB.out)⟩

end Go.Proofs.Ytohjkgboehnamaa.Q
