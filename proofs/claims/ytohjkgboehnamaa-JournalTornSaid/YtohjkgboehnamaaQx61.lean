-- Printed by a program of this session (wip/pp), out of Lean's print of the loaded functions. Lean checks it.
import Derived.Test.YtohjkgboehnamaaQx0
import Derived.Test.YtohjkgboehnamaaQx15
import Derived.Test.YtohjkgboehnamaaQx24
import Derived.Test.YtohjkgboehnamaaQx30
import Derived.Test.YtohjkgboehnamaaQHLast
namespace Go.Proofs.Ytohjkgboehnamaa.Q
open Go.RowKit Go.Proofs.YtohjkgboehnamaaW.PrintWords Go.Proofs.YtohjkgboehnamaaW.PrintLast Go.Proofs.YtohjkgboehnamaaW.PrintMore
attribute [local go_sem] max2_int min2_int max_two min_two max_three min_three max_four min_four   -- for this text's walks alone
set_option linter.unusedVariables false
set_option linter.unusedSimpArgs false

attribute [local irreducible] Calls journal_Read.f journal_Write.f skiarealaw29_alive.f skiarearef29_Same.f
/-! ### skiarealaw29_JournalTorn: function 9 -/
mutual
def skiarealaw29_JournalTorn.j0 : Nat → List (S39) → Int → List Int → Bool → Option (Bool)
  | 0, _, _, _, _ => none
  | k + 1, x0, x1, x5, x27 => if x27 = true then (some true) else (if (wrap64 ((x5.length : Int) + 1)) = 0 then (none) else (if 0 ≤ (Int.tmod (wrap64 (x1)) (wrap64 ((x5.length : Int) + 1))) then (if (Int.tmod (wrap64 (x1)) (wrap64 ((x5.length : Int) + 1))) ≤ (x5.length : Int) then ((journal_Read.f k (x5.take ((Int.tmod (wrap64 (x1)) (wrap64 ((x5.length : Int) + 1))) : Int).toNat)).bind fun bt563 => (if (bt563.1.length : Int) > (x0.length : Int) then (skiarealaw29_JournalTorn.j1 k x0 (Int.tmod (wrap64 (x1)) (wrap64 ((x5.length : Int) + 1))) bt563.1 bt563.2 true) else (if 0 ≤ (bt563.1.length : Int) then (if (bt563.1.length : Int) ≤ (x0.length : Int) then ((skiarearef29_Same.f k bt563.1 (x0.take ((bt563.1.length : Int) : Int).toNat)).bind fun t571 => (skiarealaw29_JournalTorn.j1 k x0 (Int.tmod (wrap64 (x1)) (wrap64 ((x5.length : Int) + 1))) bt563.1 bt563.2 (!t571))) else (none)) else (none)))) else (none)) else (none)))
def skiarealaw29_JournalTorn.j1 : Nat → List (S39) → Int → List (S39) → Int → Bool → Option (Bool)
  | 0, _, _, _, _, _ => none
  | k + 1, x0, x7, x8, x9, x54 => if x54 = true then (some false) else (if 0 ≤ (x8.length : Int) then (if (x8.length : Int) ≤ (x0.length : Int) then ((journal_Write.f k (x0.take ((x8.length : Int) : Int).toNat)).bind fun bt576 => (if bt576.2 = 0 then (if (bt576.1.length : Int) = x9 then (skiarealaw29_JournalTorn.j2 k x0 x7 x8 (decide (x9 > x7))) else (skiarealaw29_JournalTorn.j2 k x0 x7 x8 true)) else (skiarealaw29_JournalTorn.j2 k x0 x7 x8 true))) else (none)) else (none))
def skiarealaw29_JournalTorn.j2 : Nat → List (S39) → Int → List (S39) → Bool → Option (Bool)
  | 0, _, _, _, _ => none
  | k + 1, x0, x7, x8, x75 => if x75 = true then (some false) else (if (x8.length : Int) = (x0.length : Int) then (some true) else (if 0 ≤ (wrap64 ((x8.length : Int) + 1)) then (if (wrap64 ((x8.length : Int) + 1)) ≤ (x0.length : Int) then ((journal_Write.f k (x0.take ((wrap64 ((x8.length : Int) + 1)) : Int).toNat)).bind fun bt584 => (if bt584.2 = 0 then (some (decide ((bt584.1.length : Int) > x7))) else (some false))) else (none)) else (none)))
end
def skiarealaw29_JournalTorn.f (k : Nat) (l0 : List (S39)) (a1 : Int) : Option (Bool) := (skiarealaw29_alive.f k).bind fun t554 => (if t554 = true then ((journal_Write.f k l0).bind fun bt555 => (if (l0.length : Int) > 30 then (skiarealaw29_JournalTorn.j0 k l0 a1 bt555.1 true) else (skiarealaw29_JournalTorn.j0 k l0 a1 bt555.1 (bt555.2 != 0)))) else (some false))
theorem skiarealaw29_JournalTorn.mono_l : ∀ k, (∀ y0 y1 y2 y3, LeO (skiarealaw29_JournalTorn.j0 k y0 y1 y2 y3) (skiarealaw29_JournalTorn.j0 (k + 1) y0 y1 y2 y3)) ∧ (∀ y0 y1 y2 y3 y4, LeO (skiarealaw29_JournalTorn.j1 k y0 y1 y2 y3 y4) (skiarealaw29_JournalTorn.j1 (k + 1) y0 y1 y2 y3 y4)) ∧ (∀ y0 y1 y2 y3, LeO (skiarealaw29_JournalTorn.j2 k y0 y1 y2 y3) (skiarealaw29_JournalTorn.j2 (k + 1) y0 y1 y2 y3))
  | 0 => ⟨fun _ _ _ _ r h => by simp [skiarealaw29_JournalTorn.j0] at h, fun _ _ _ _ _ r h => by simp [skiarealaw29_JournalTorn.j1] at h, fun _ _ _ _ r h => by simp [skiarealaw29_JournalTorn.j2] at h⟩
  | k + 1 => by
    obtain ⟨ih0, ih1, ih2⟩ := skiarealaw29_JournalTorn.mono_l k
    refine ⟨?_, ?_, ?_⟩
    · intro y0 y1 y2 y3
      unfold skiarealaw29_JournalTorn.j0
      repeat' first
      | (with_reducible exact ih0 _ _ _ _)
      | (with_reducible exact ih1 _ _ _ _ _)
      | (with_reducible exact ih2 _ _ _ _)
      | (with_reducible exact journal_Read.mono _ _)
      | (with_reducible exact journal_Write.mono _ _)
      | (with_reducible exact skiarealaw29_alive.mono _)
      | (with_reducible exact skiarearef29_Same.mono _ _ _)
      | (with_reducible exact LeO.refl _)
      | (with_reducible exact LeO.none _)
      | (with_reducible refine LeO.ite ?_ ?_)
      | (with_reducible refine LeO.bind ?_ (fun _ => ?_))
      | exact ih0 _ _ _ _
      | exact ih1 _ _ _ _ _
      | exact ih2 _ _ _ _
      | exact journal_Read.mono _ _
      | exact journal_Write.mono _ _
      | exact skiarealaw29_alive.mono _
      | exact skiarearef29_Same.mono _ _ _
      | exact LeO.none _
      | refine LeO.ite ?_ ?_
      | refine LeO.bind ?_ (fun _ => ?_)
    · intro y0 y1 y2 y3 y4
      unfold skiarealaw29_JournalTorn.j1
      repeat' first
      | (with_reducible exact ih0 _ _ _ _)
      | (with_reducible exact ih1 _ _ _ _ _)
      | (with_reducible exact ih2 _ _ _ _)
      | (with_reducible exact journal_Read.mono _ _)
      | (with_reducible exact journal_Write.mono _ _)
      | (with_reducible exact skiarealaw29_alive.mono _)
      | (with_reducible exact skiarearef29_Same.mono _ _ _)
      | (with_reducible exact LeO.refl _)
      | (with_reducible exact LeO.none _)
      | (with_reducible refine LeO.ite ?_ ?_)
      | (with_reducible refine LeO.bind ?_ (fun _ => ?_))
      | exact ih0 _ _ _ _
      | exact ih1 _ _ _ _ _
      | exact ih2 _ _ _ _
      | exact journal_Read.mono _ _
      | exact journal_Write.mono _ _
      | exact skiarealaw29_alive.mono _
      | exact skiarearef29_Same.mono _ _ _
      | exact LeO.none _
      | refine LeO.ite ?_ ?_
      | refine LeO.bind ?_ (fun _ => ?_)
    · intro y0 y1 y2 y3
      unfold skiarealaw29_JournalTorn.j2
      repeat' first
      | (with_reducible exact ih0 _ _ _ _)
      | (with_reducible exact ih1 _ _ _ _ _)
      | (with_reducible exact ih2 _ _ _ _)
      | (with_reducible exact journal_Read.mono _ _)
      | (with_reducible exact journal_Write.mono _ _)
      | (with_reducible exact skiarealaw29_alive.mono _)
      | (with_reducible exact skiarearef29_Same.mono _ _ _)
      | (with_reducible exact LeO.refl _)
      | (with_reducible exact LeO.none _)
      | (with_reducible refine LeO.ite ?_ ?_)
      | (with_reducible refine LeO.bind ?_ (fun _ => ?_))
      | exact ih0 _ _ _ _
      | exact ih1 _ _ _ _ _
      | exact ih2 _ _ _ _
      | exact journal_Read.mono _ _
      | exact journal_Write.mono _ _
      | exact skiarealaw29_alive.mono _
      | exact skiarearef29_Same.mono _ _ _
      | exact LeO.none _
      | refine LeO.ite ?_ ?_
      | refine LeO.bind ?_ (fun _ => ?_)
theorem skiarealaw29_JournalTorn.mono : ∀ a0 a1 k, LeO (skiarealaw29_JournalTorn.f k a0 a1) (skiarealaw29_JournalTorn.f (k + 1) a0 a1) := by
  intro a0 a1 k
  obtain ⟨ih0, ih1, ih2⟩ := skiarealaw29_JournalTorn.mono_l k
  unfold skiarealaw29_JournalTorn.f
  repeat' first
      | (with_reducible exact ih0 _ _ _ _)
      | (with_reducible exact ih1 _ _ _ _ _)
      | (with_reducible exact ih2 _ _ _ _)
      | (with_reducible exact journal_Read.mono _ _)
      | (with_reducible exact journal_Write.mono _ _)
      | (with_reducible exact skiarealaw29_alive.mono _)
      | (with_reducible exact skiarearef29_Same.mono _ _ _)
      | (with_reducible exact LeO.refl _)
      | (with_reducible exact LeO.none _)
      | (with_reducible refine LeO.ite ?_ ?_)
      | (with_reducible refine LeO.bind ?_ (fun _ => ?_))
      | exact ih0 _ _ _ _
      | exact ih1 _ _ _ _ _
      | exact ih2 _ _ _ _
      | exact journal_Read.mono _ _
      | exact journal_Write.mono _ _
      | exact skiarealaw29_alive.mono _
      | exact skiarearef29_Same.mono _ _ _
      | exact LeO.none _
      | refine LeO.ite ?_ ?_
      | refine LeO.bind ?_ (fun _ => ?_)
set_option maxHeartbeats 8000000 in
set_option maxRecDepth 100000 in
theorem skiarealaw29_JournalTorn.calls (k : Nat) (A0 : Option Addr) (c0 : Nat) (l0 : List (S39)) (a1 : Int) (r : Bool) (w : World) (hr0 : Kd.C k39 w A0 l0.length l0) (hc0 : l0.length ≤ c0) (h : skiarealaw29_JournalTorn.f k l0 a1 = some r) :
    Calls Try.prog 9 #[.slice A0 l0.length c0, .int .u16 a1] w fun e w' => e = .returned (.bool r) ∧ Below w.heap.size w w' := by
  have HR0 := Aside0.mk hr0
  have HC0 := Aside0.mk hc0
  clear hr0 hc0
  have HB := Aside0.mk (Below.refl w.heap.size w)
  have H : ((skiarealaw29_alive.f k).bind fun t554 => (if t554 = true then ((journal_Write.f k l0).bind fun bt555 => (if (l0.length : Int) > 30 then (skiarealaw29_JournalTorn.j0 k l0 a1 bt555.1 true) else (skiarealaw29_JournalTorn.j0 k l0 a1 bt555.1 (bt555.2 != 0)))) else (some false))) = some r := h
  clear h
  replace H := Option.bind_eq_some_iff.mp H
  obtain ⟨t554, A30, H⟩ := H
  replace H : (if t554 = true then ((journal_Write.f k l0).bind fun bt555 => (if (l0.length : Int) > 30 then (skiarealaw29_JournalTorn.j0 k l0 a1 bt555.1 true) else (skiarealaw29_JournalTorn.j0 k l0 a1 bt555.1 (bt555.2 != 0)))) else (some false)) = some r := H
  have A3 := Aside0.mk A30
  clear A30
  by_cases c4 : t554 = true
  · subst c4
    have H1 : ((journal_Write.f k l0).bind fun bt555 => (if (l0.length : Int) > 30 then (skiarealaw29_JournalTorn.j0 k l0 a1 bt555.1 true) else (skiarealaw29_JournalTorn.j0 k l0 a1 bt555.1 (bt555.2 != 0)))) = some r := by rw [if_pos rfl] at H; exact H
    clear H
    have H := H1
    clear H1
    replace H := Option.bind_eq_some_iff.mp H
    obtain ⟨⟨t555, t556⟩, A50, H⟩ := H
    replace H : (if (l0.length : Int) > 30 then (skiarealaw29_JournalTorn.j0 k l0 a1 t555 true) else (skiarealaw29_JournalTorn.j0 k l0 a1 t555 (t556 != 0))) = some r := H
    have A5 := Aside0.mk A50
    clear A50
    have HC6 := Aside0.mk H
    clear H
    go_enter Try.func9, Try.ntmps9
    go_upto_region 4 with (first | ((with_reducible refine gate_callee (f := 10) rfl ?_); refine goesL_ (some 14) rfl rfl Try.func10 (by kernel_rfl) rfl #[] rfl (by (try simp only [List.map_toArray, List.map_cons, List.map_nil]); first | done | rfl | (simp only [List.length_drop, List.length_take]; rfl)) ?_; (with_reducible refine (skiarealaw29_alive.calls k  true _ A3.out).mono ?_); rintro e w7 ⟨rfl, hb⟩; refine ⟨_, rfl, ?_⟩; have n0_ := Aside0.mk (below_step (by repeat (first | (with_reducible first | exact HB.out | apply below_alloc | apply pw_below_drewN | apply below_drew1) | exact HB.out)) hb); clear HB; have HB := n0_; clear n0_; (try clear hb); (try clear hb2); (try clear hk); (try clear hi)) | ((with_reducible refine gate_callee (f := 11) rfl ?_); refine goesL_ (some 18) rfl rfl Try.func11 (by kernel_rfl) rfl #[.slice A0 l0.length c0] rfl (by (try simp only [List.map_toArray, List.map_cons, List.map_nil]); first | done | rfl | (simp only [List.length_drop, List.length_take]; rfl)) ?_; (with_reducible refine (journal_Write.calls k _ _ l0 t555 t556 _ ?side1 ?side2 A5.out).mono ?_); (case side1 => repeat (first | exact (Kd.C_below HR0.out HB.out) | (with_reducible refine Kd.C_alloc ?_ _) | (with_reducible refine Kd.C_drewN ?_ _) | (with_reducible refine Kd.C_drew ?_))); (case side2 => exact HC0.out); rintro e w8 ⟨v557, rfl, ho0, hb⟩; refine ⟨_, rfl, ?_⟩; have n0_ := Aside0.mk (Kd.R_lower ho0 (below_size (by repeat (first | (with_reducible first | exact HB.out | apply below_alloc | apply pw_below_drewN | apply below_drew1) | exact HB.out)))); have n1_ := Aside0.mk (below_step (by repeat (first | (with_reducible first | exact HB.out | apply below_alloc | apply pw_below_drewN | apply below_drew1) | exact HB.out)) hb); clear HB; have HO558 := n0_; have HB := n1_; clear n0_ n1_; (try clear hb); (try clear hb2); (try clear hk); (try clear hi); (try clear ho0)))
    (try simp only [Act.put, List.setIfInBounds_toArray, List.set_cons_zero, List.set_cons_succ])
    go_cut [27] (fun v27 wc => ∃ (kq : Nat) (x27_5 : Bool), v27 = .bool x27_5 ∧ Aside0 (skiarealaw29_JournalTorn.j0 kq l0 a1 t555 x27_5 = some r) ∧ Aside0 (kq ≤ k) ∧ Aside0 (Kd.R (Kd.int .u8) 5 wc w.heap.size (fun _ => True) v557 t555) ∧ Aside0 (Below w.heap.size w wc))
    case first =>
      have H := HC6.out
      clear HC6
      by_cases c9 : (l0.length : Int) > 30
      · rw [if_pos c9] at H
        have c9b0 : decide (30 < (l0.length : Int)) = true := decide_eq_true c9
        have c9b1 : decide (30 < l0.length) = true := decide_eq_true (by omega)
        clear c9
        (first | rw [c9b0] | (simp only [i64_w, i32_w, IntKind.wrap_u8, IntKind.wrap_u32]; rw [c9b0]) | skip)
        have H' := Aside0.mk H
        clear H
        go_wp2
        go_meet
        case rel => exact ⟨_, (true), (by first | rfl | (simp; done) | (simp [*]; done)), H', ⟨by first | omega | exact Nat.le_refl _⟩, ⟨by (with_reducible repeat (first | apply Kd.R_alloc | apply Kd.R_drewN | apply Kd.R_drew)); exact HO558.out⟩, ⟨by repeat (first | (with_reducible first | exact HB.out | apply below_alloc | apply pw_below_drewN | apply below_drew1) | exact HB.out)⟩⟩
      · rw [if_neg c9] at H
        have c9b0 : decide (30 < (l0.length : Int)) = false := decide_eq_false c9
        have c9b1 : decide (30 < l0.length) = false := decide_eq_false (by omega)
        clear c9
        (first | rw [c9b0] | (simp only [i64_w, i32_w, IntKind.wrap_u8, IntKind.wrap_u32]; rw [c9b0]) | skip)
        have H' := Aside0.mk H
        clear H
        go_wp2
        go_meet
        case rel => exact ⟨_, ((t556 != 0)), (by first | rfl | (simp; done) | (simp [*]; done)), H', ⟨by first | omega | exact Nat.le_refl _⟩, ⟨by (with_reducible repeat (first | apply Kd.R_alloc | apply Kd.R_drewN | apply Kd.R_drew)); exact HO558.out⟩, ⟨by repeat (first | (with_reducible first | exact HB.out | apply below_alloc | apply pw_below_drewN | apply below_drew1) | exact HB.out)⟩⟩
    case rest =>
      clear HC6
      try clear c1
      try clear p2
      try clear c4
      try clear c9
      try clear c9b0
      try clear c9b1
      obtain ⟨kq, x27_5, rfl, HA, HJ5, HO_5, HB⟩ := hcut
      cases kq with
      | zero => exact absurd HA.out (by simp [skiarealaw29_JournalTorn.j0])
      | succ kj5 =>
        have H := HA.out
        clear HA
        simp only [skiarealaw29_JournalTorn.j0] at H
        by_cases c10 : x27_5 = true
        · subst c10
          have H1 : (some true) = some r := by rw [if_pos rfl] at H; exact H
          clear H
          have H := H1
          clear H1
          obtain rfl := Option.some.inj H
          go_wp2
          go_ret
          exact ⟨by first | rfl | (simp [errW_none, errW_some] <;> rfl) | (simp [*, errW_none, errW_some] <;> rfl), by repeat (first | (with_reducible first | exact HB.out | apply below_alloc | apply pw_below_drewN | apply below_drew1) | exact HB.out)⟩
        · replace c10 := Bool.eq_false_iff.mpr c10
          subst c10
          have H1 : (if (wrap64 ((t555.length : Int) + 1)) = 0 then (none) else (if 0 ≤ (Int.tmod (wrap64 (a1)) (wrap64 ((t555.length : Int) + 1))) then (if (Int.tmod (wrap64 (a1)) (wrap64 ((t555.length : Int) + 1))) ≤ (t555.length : Int) then ((journal_Read.f kj5 (t555.take ((Int.tmod (wrap64 (a1)) (wrap64 ((t555.length : Int) + 1))) : Int).toNat)).bind fun bt563 => (if (bt563.1.length : Int) > (l0.length : Int) then (skiarealaw29_JournalTorn.j1 kj5 l0 (Int.tmod (wrap64 (a1)) (wrap64 ((t555.length : Int) + 1))) bt563.1 bt563.2 true) else (if 0 ≤ (bt563.1.length : Int) then (if (bt563.1.length : Int) ≤ (l0.length : Int) then ((skiarearef29_Same.f kj5 bt563.1 (l0.take ((bt563.1.length : Int) : Int).toNat)).bind fun t571 => (skiarealaw29_JournalTorn.j1 kj5 l0 (Int.tmod (wrap64 (a1)) (wrap64 ((t555.length : Int) + 1))) bt563.1 bt563.2 (!t571))) else (none)) else (none)))) else (none)) else (none))) = some r := by rw [if_neg (show ¬ (false = true) by decide)] at H; exact H
          clear H
          have H := H1
          clear H1
          by_cases c11 : (wrap64 ((t555.length : Int) + 1)) = 0
          · rw [if_pos c11] at H
            exact absurd H (by simp)
          · rw [if_neg c11] at H
            have c11b0 : ((wrap64 ((t555.length : Int) + 1)) == 0) = false := beq_eq_false_iff_ne.mpr c11
            have c11b1 : ((wrap64 ((t555.length : Int) + 1)) != 0) = true := bne_iff_ne.mpr c11
            obtain ⟨ji12, hji12⟩ : ∃ j_ : Int, (Int.tmod (wrap64 (a1)) (wrap64 ((t555.length : Int) + 1))) = j_ := ⟨_, rfl⟩
            replace H : (if 0 ≤ (ji12) then (if (ji12) ≤ (t555.length : Int) then ((journal_Read.f kj5 (t555.take ((ji12) : Int).toNat)).bind fun bt563 => (if (bt563.1.length : Int) > (l0.length : Int) then (skiarealaw29_JournalTorn.j1 kj5 l0 ji12 bt563.1 bt563.2 true) else (if 0 ≤ (bt563.1.length : Int) then (if (bt563.1.length : Int) ≤ (l0.length : Int) then ((skiarearef29_Same.f kj5 bt563.1 (l0.take ((bt563.1.length : Int) : Int).toNat)).bind fun t571 => (skiarealaw29_JournalTorn.j1 kj5 l0 ji12 bt563.1 bt563.2 (!t571))) else (none)) else (none)))) else (none)) else (none)) = some r := by first | (rw [hji12] at H; exact H) | (simp only [hji12] at H ⊢; exact H)
            by_cases c13 : 0 ≤ (ji12)
            · rw [if_pos c13] at H
              have c13b0 := eq_true c13
              have c13b1 : decide (0 ≤ (ji12)) = true := decide_eq_true c13
              clear c13
              by_cases c14 : (ji12) ≤ (t555.length : Int)
              · rw [if_pos c14] at H
                have c14b0 := eq_true c14
                have c14b1 : decide ((ji12) ≤ (t555.length : Int)) = true := decide_eq_true c14
                clear c14
                obtain ⟨y559, hy559⟩ : ∃ y_ : List Int, y_ = (t555.take ((ji12) : Int).toNat) := ⟨_, rfl⟩
                replace H : ((journal_Read.f kj5 y559).bind fun bt563 => (if (bt563.1.length : Int) > (l0.length : Int) then (skiarealaw29_JournalTorn.j1 kj5 l0 ji12 bt563.1 bt563.2 true) else (if 0 ≤ (bt563.1.length : Int) then (if (bt563.1.length : Int) ≤ (l0.length : Int) then ((skiarearef29_Same.f kj5 bt563.1 (l0.take ((bt563.1.length : Int) : Int).toNat)).bind fun t571 => (skiarealaw29_JournalTorn.j1 kj5 l0 ji12 bt563.1 bt563.2 (!t571))) else (none)) else (none)))) = some r := by first | (rw [hy559]; with_reducible exact H) | (have H2_ := (Option.bind_some _ _).symm.trans H; rw [hy559]; with_reducible exact H2_) | (have H2_ := (Option.bind_some _ _).symm.trans H; with_reducible exact H2_) | with_reducible exact H | (rw [hy559]; exact H) | exact H
                have Ny559 := Aside0.mk hy559
                clear hy559
                replace H := Option.bind_eq_some_iff.mp H
                obtain ⟨⟨t563, t564⟩, A150, H⟩ := H
                replace H : (if (t563.length : Int) > (l0.length : Int) then (skiarealaw29_JournalTorn.j1 kj5 l0 ji12 t563 t564 true) else (if 0 ≤ (t563.length : Int) then (if (t563.length : Int) ≤ (l0.length : Int) then ((skiarearef29_Same.f kj5 t563 (l0.take ((t563.length : Int) : Int).toNat)).bind fun t571 => (skiarealaw29_JournalTorn.j1 kj5 l0 ji12 t563 t564 (!t571))) else (none)) else (none))) = some r := H
                have A15 := Aside0.mk A150
                clear A150
                have HC16 := Aside0.mk H
                clear H
                obtain ⟨Ao17, co17, eo17⟩ := Kd.R_slice HO_5.out
                subst eo17
                have q18 : ((ji12) : Int) ≤ ((t555.length : Int) : Int) := of_decide_eq_true (by first | (with_reducible assumption) | assumption)
                obtain ⟨i018, hi018, _, hsz18, _⟩ := info_parts info5
                have hroom18 : t555.length ≤ co17 := (Kd.R_reads' HO_5.out).2.1
                have hC18 : Kd.C (Kd.int .u8) _ Ao17 t555.length t555 := (Kd.R_reads' HO_5.out).2.2
                have hcut18 := cut_to (P := Try.prog) 24 5 .i64 Try.underlying24 hi018 Ao17 t555.length co17 (ji12) (of_decide_eq_true (by first | (with_reducible assumption) | assumption)) q18 hroom18
                have hr18 := Kd.C_take (m := ((ji12) : Int).toNat) hC18 (by omega)
                have hy18 : y559.length = ((ji12) : Int).toNat := (by rw [Ny559.out, List.length_take]; omega)
                rw [← Ny559.out] at hr18
                rw [← hy18] at hcut18
                have HR562 := Aside0.mk hr18
                have HC562 := Aside0.mk (show y559.length ≤ co17 from by omega)
                clear hr18 hC18 hroom18 hi018 hsz18
                have KY18 := Aside0.mk hy18
                clear hy18
                have KL18 := Aside0.mk (show ((ji12) : Int).toNat ≤ t555.length from by omega)
                replace q18 := eq_true q18
                go_upto_region 8 with (first | ((with_reducible refine gate_callee (f := 13) rfl ?_); refine goesL_ (some 38) rfl rfl Try.func13 (by kernel_rfl) rfl #[.slice Ao17 y559.length co17] rfl (by (try simp only [List.map_toArray, List.map_cons, List.map_nil]); first | done | rfl | (simp only [List.length_drop, List.length_take]; rfl)) ?_; (with_reducible refine (journal_Read.calls kj5 _ _ y559 t563 t564 _ ?side1 ?side2 A15.out).mono ?_); (case side1 => repeat (first | exact (by repeat (first | (with_reducible exact HR562.out) | (with_reducible refine Kd.C_alloc ?_ _) | (with_reducible refine Kd.C_drewN ?_ _) | (with_reducible refine Kd.C_drew ?_) | exact HR562.out)) | (with_reducible refine Kd.C_alloc ?_ _) | (with_reducible refine Kd.C_drewN ?_ _) | (with_reducible refine Kd.C_drew ?_))); (case side2 => exact HC562.out); rintro e w19 ⟨v565, rfl, ho0, hb⟩; refine ⟨_, rfl, ?_⟩; have n0_ := Aside0.mk (Kd.R_below (by (with_reducible repeat (first | apply Kd.R_alloc | apply Kd.R_drewN | apply Kd.R_drew)); exact HO_5.out) hb); have n1_ := Aside0.mk (Kd.R_lower ho0 (below_size (by repeat (first | (with_reducible first | exact HB.out | apply below_alloc | apply pw_below_drewN | apply below_drew1) | exact HB.out)))); have n2_ := Aside0.mk (Kd.C_below (by repeat (first | (with_reducible exact HR562.out) | (with_reducible refine Kd.C_alloc ?_ _) | (with_reducible refine Kd.C_drewN ?_ _) | (with_reducible refine Kd.C_drew ?_) | exact HR562.out)) hb); have n3_ := Aside0.mk (below_step (by repeat (first | (with_reducible first | exact HB.out | apply below_alloc | apply pw_below_drewN | apply below_drew1) | exact HB.out)) hb); clear HO_5; clear HR562; clear HB; have HO_5 := n0_; have HO566 := n1_; have HR562 := n2_; have HB := n3_; clear n0_ n1_ n2_ n3_; (try clear hb); (try clear hb2); (try clear hk); (try clear hi); (try clear ho0)))
                (try simp only [Act.put, List.setIfInBounds_toArray, List.set_cons_zero, List.set_cons_succ])
                go_cut [54] (fun v54 wc => ∃ (kq : Nat) (x54_15 : Bool), v54 = .bool x54_15 ∧ Aside0 (skiarealaw29_JournalTorn.j1 kq l0 ji12 t563 t564 x54_15 = some r) ∧ Aside0 (kq ≤ kj5) ∧ Aside0 (Kd.R k39 39 wc w.heap.size (fun _ => True) v565 t563) ∧ Aside0 (Kd.C (Kd.int .u8) wc Ao17 y559.length y559) ∧ Aside0 (Below w.heap.size w wc))
                case first =>
                  have H := HC16.out
                  clear HC16
                  by_cases c20 : (t563.length : Int) > (l0.length : Int)
                  · rw [if_pos c20] at H
                    have c20b0 : decide ((l0.length : Int) < (t563.length : Int)) = true := decide_eq_true c20
                    have c20b1 : decide (l0.length < t563.length) = true := decide_eq_true (Int.ofNat_lt.mp c20)
                    clear c20
                    (first | rw [c20b0] | (simp only [i64_w, i32_w, IntKind.wrap_u8, IntKind.wrap_u32]; rw [c20b0]) | skip)
                    have H' := Aside0.mk H
                    clear H
                    obtain ⟨Ao21, co21, eo21⟩ := Kd.R_slice HO566.out
                    subst eo21
                    go_wp2
                    go_meet
                    case rel => exact ⟨_, (true), (by first | rfl | (simp; done) | (simp [*]; done)), H', ⟨by have := HJ5.out; first | omega | exact Nat.le_refl _⟩, ⟨by (with_reducible repeat (first | apply Kd.R_alloc | apply Kd.R_drewN | apply Kd.R_drew)); exact HO566.out⟩, ⟨by repeat (first | (with_reducible exact HR562.out) | (with_reducible refine Kd.C_alloc ?_ _) | (with_reducible refine Kd.C_drewN ?_ _) | (with_reducible refine Kd.C_drew ?_) | exact HR562.out)⟩, ⟨by repeat (first | (with_reducible first | exact HB.out | apply below_alloc | apply pw_below_drewN | apply below_drew1) | exact HB.out)⟩⟩
                  · rw [if_neg c20] at H
                    have c20b0 : decide ((l0.length : Int) < (t563.length : Int)) = false := decide_eq_false c20
                    have c20b1 : decide (l0.length < t563.length) = false := decide_eq_false (fun h => c20 (Int.ofNat_lt.mpr h))
                    clear c20
                    (first | rw [c20b0] | (simp only [i64_w, i32_w, IntKind.wrap_u8, IntKind.wrap_u32]; rw [c20b0]) | skip)
                    by_cases c22 : 0 ≤ (t563.length : Int)
                    · rw [if_pos c22] at H
                      have c22b0 := eq_true c22
                      have c22b1 : decide (0 ≤ (t563.length : Int)) = true := decide_eq_true c22
                      clear c22
                      by_cases c23 : (t563.length : Int) ≤ (l0.length : Int)
                      · rw [if_pos c23] at H
                        have c23b0 := eq_true c23
                        have c23b1 : decide ((t563.length : Int) ≤ (l0.length : Int)) = true := decide_eq_true c23
                        clear c23
                        obtain ⟨y567, hy567⟩ : ∃ y_ : List (S39), y_ = (l0.take ((t563.length : Int) : Int).toNat) := ⟨_, rfl⟩
                        replace H : ((skiarearef29_Same.f kj5 t563 y567).bind fun t571 => (skiarealaw29_JournalTorn.j1 kj5 l0 ji12 t563 t564 (!t571))) = some r := by first | (rw [hy567]; with_reducible exact H) | (have H2_ := (Option.bind_some _ _).symm.trans H; rw [hy567]; with_reducible exact H2_) | (have H2_ := (Option.bind_some _ _).symm.trans H; with_reducible exact H2_) | with_reducible exact H | (rw [hy567]; exact H) | exact H
                        have Ny567 := Aside0.mk hy567
                        clear hy567
                        replace H := Option.bind_eq_some_iff.mp H
                        obtain ⟨t571, A240, H⟩ := H
                        replace H : (skiarealaw29_JournalTorn.j1 kj5 l0 ji12 t563 t564 (!t571)) = some r := H
                        have A24 := Aside0.mk A240
                        clear A240
                        have H' := Aside0.mk H
                        clear H
                        obtain ⟨Ao25, co25, eo25⟩ := Kd.R_slice HO566.out
                        subst eo25
                        have q26 : ((t563.length : Int) : Int) ≤ ((l0.length : Int) : Int) := of_decide_eq_true (by first | (with_reducible assumption) | assumption)
                        obtain ⟨i026, hi026, _, hsz26, _⟩ := info_parts info39
                        have hroom26 : l0.length ≤ c0 := HC0.out
                        have hC26 : Kd.C k39 _ A0 l0.length l0 := HR0.out
                        have hcut26 := cut_to (P := Try.prog) 22 39 .i64 Try.underlying22 hi026 A0 l0.length c0 (t563.length : Int) (of_decide_eq_true (by first | (with_reducible assumption) | assumption)) q26 hroom26
                        have hr26 := Kd.C_take (m := ((t563.length : Int) : Int).toNat) hC26 (by omega)
                        have hy26 : y567.length = ((t563.length : Int) : Int).toNat := (by rw [Ny567.out, List.length_take]; omega)
                        rw [← Ny567.out] at hr26
                        rw [← hy26] at hcut26
                        have HR570 := Aside0.mk hr26
                        have HC570 := Aside0.mk (show y567.length ≤ c0 from by omega)
                        clear hr26 hC26 hroom26 hi026 hsz26
                        have KY26 := Aside0.mk hy26
                        clear hy26
                        replace q26 := eq_true q26
                        go_wp2_with (first | (go_at_call 14; (with_reducible refine (skiarearef29_Same.calls kj5 _ _ t563 _ _ y567 t571 _ ?side1 ?side2 ?side3 ?side4 A24.out).mono ?_); (case side1 => repeat (first | exact (Kd.R_reads' HO566.out).2.2 | (with_reducible refine Kd.C_alloc ?_ _) | (with_reducible refine Kd.C_drewN ?_ _) | (with_reducible refine Kd.C_drew ?_))); (case side2 => exact (Kd.R_reads' HO566.out).2.1); (case side3 => repeat (first | exact (Kd.C_below HR570.out HB.out) | (with_reducible refine Kd.C_alloc ?_ _) | (with_reducible refine Kd.C_drewN ?_ _) | (with_reducible refine Kd.C_drew ?_))); (case side4 => exact HC570.out); rintro e w' ⟨rfl, ⟨nd, rfl⟩⟩))
                        go_meet
                        case rel => exact ⟨_, (!t571), (by first | rfl | (simp; done) | (simp [*]; done)), H', ⟨by have := HJ5.out; first | omega | exact Nat.le_refl _⟩, ⟨by (with_reducible repeat (first | apply Kd.R_alloc | apply Kd.R_drewN | apply Kd.R_drew)); exact HO566.out⟩, ⟨by repeat (first | (with_reducible exact HR562.out) | (with_reducible refine Kd.C_alloc ?_ _) | (with_reducible refine Kd.C_drewN ?_ _) | (with_reducible refine Kd.C_drew ?_) | exact HR562.out)⟩, ⟨by repeat (first | (with_reducible first | exact HB.out | apply below_alloc | apply pw_below_drewN | apply below_drew1) | exact HB.out)⟩⟩
                      · rw [if_neg c23] at H
                        exact absurd H (by simp)
                    · rw [if_neg c22] at H
                      exact absurd H (by simp)
                case rest =>
                  clear HC16
                  try clear c1
                  try clear q1
                  try clear c2
                  try clear p2
                  try clear q2
                  try clear c4
                  try clear p6
                  try clear c9
                  try clear c9b0
                  try clear c9b1
                  try clear c10
                  try clear c11
                  try clear c11b0
                  try clear c11b1
                  try clear c13
                  try clear c13b0
                  try clear c13b1
                  try clear c14
                  try clear c14b0
                  try clear c14b1
                  try clear q18
                  try clear c20
                  try clear c20b0
                  try clear c20b1
                  try clear c22
                  try clear c22b0
                  try clear c22b1
                  try clear c23
                  try clear c23b0
                  try clear c23b1
                  try clear q26
                  try clear p2
                  try clear q18
                  try clear q26
                  obtain ⟨kq, x54_15, rfl, HA, HJ15, HO_8, HR562, HB⟩ := hcut
                  cases kq with
                  | zero => exact absurd HA.out (by simp [skiarealaw29_JournalTorn.j1])
                  | succ kj15 =>
                    have H := HA.out
                    clear HA
                    simp only [skiarealaw29_JournalTorn.j1] at H
                    by_cases c27 : x54_15 = true
                    · subst c27
                      have H1 : (some false) = some r := by rw [if_pos rfl] at H; exact H
                      clear H
                      have H := H1
                      clear H1
                      obtain rfl := Option.some.inj H
                      go_wp2
                      go_ret
                      exact ⟨by first | rfl | (simp [errW_none, errW_some] <;> rfl) | (simp only [← hji12]; first | rfl | (simp [errW_none, errW_some] <;> rfl)) | (simp [*, errW_none, errW_some] <;> rfl), by repeat (first | (with_reducible first | exact HB.out | apply below_alloc | apply pw_below_drewN | apply below_drew1) | exact HB.out)⟩
                    · replace c27 := Bool.eq_false_iff.mpr c27
                      subst c27
                      have H1 : (if 0 ≤ (t563.length : Int) then (if (t563.length : Int) ≤ (l0.length : Int) then ((journal_Write.f kj15 (l0.take ((t563.length : Int) : Int).toNat)).bind fun bt576 => (if bt576.2 = 0 then (if (bt576.1.length : Int) = t564 then (skiarealaw29_JournalTorn.j2 kj15 l0 ji12 t563 (decide (t564 > ji12))) else (skiarealaw29_JournalTorn.j2 kj15 l0 ji12 t563 true)) else (skiarealaw29_JournalTorn.j2 kj15 l0 ji12 t563 true))) else (none)) else (none)) = some r := by rw [if_neg (show ¬ (false = true) by decide)] at H; exact H
                      clear H
                      have H := H1
                      clear H1
                      by_cases c28 : 0 ≤ (t563.length : Int)
                      · rw [if_pos c28] at H
                        have c28b0 := eq_true c28
                        have c28b1 : decide (0 ≤ (t563.length : Int)) = true := decide_eq_true c28
                        clear c28
                        by_cases c29 : (t563.length : Int) ≤ (l0.length : Int)
                        · rw [if_pos c29] at H
                          have c29b0 := eq_true c29
                          have c29b1 : decide ((t563.length : Int) ≤ (l0.length : Int)) = true := decide_eq_true c29
                          clear c29
                          obtain ⟨y572, hy572⟩ : ∃ y_ : List (S39), y_ = (l0.take ((t563.length : Int) : Int).toNat) := ⟨_, rfl⟩
                          replace H : ((journal_Write.f kj15 y572).bind fun bt576 => (if bt576.2 = 0 then (if (bt576.1.length : Int) = t564 then (skiarealaw29_JournalTorn.j2 kj15 l0 ji12 t563 (decide (t564 > ji12))) else (skiarealaw29_JournalTorn.j2 kj15 l0 ji12 t563 true)) else (skiarealaw29_JournalTorn.j2 kj15 l0 ji12 t563 true))) = some r := by first | (rw [hy572]; with_reducible exact H) | (have H2_ := (Option.bind_some _ _).symm.trans H; rw [hy572]; with_reducible exact H2_) | (have H2_ := (Option.bind_some _ _).symm.trans H; with_reducible exact H2_) | with_reducible exact H | (rw [hy572]; exact H) | exact H
                          have Ny572 := Aside0.mk hy572
                          clear hy572
                          replace H := Option.bind_eq_some_iff.mp H
                          obtain ⟨⟨t576, t577⟩, A300, H⟩ := H
                          replace H : (if t577 = 0 then (if (t576.length : Int) = t564 then (skiarealaw29_JournalTorn.j2 kj15 l0 ji12 t563 (decide (t564 > ji12))) else (skiarealaw29_JournalTorn.j2 kj15 l0 ji12 t563 true)) else (skiarealaw29_JournalTorn.j2 kj15 l0 ji12 t563 true)) = some r := H
                          have A30 := Aside0.mk A300
                          clear A300
                          have HC31 := Aside0.mk H
                          clear H
                          obtain ⟨Ao32, co32, eo32⟩ := Kd.R_slice HO_8.out
                          subst eo32
                          have q33 : ((t563.length : Int) : Int) ≤ ((l0.length : Int) : Int) := of_decide_eq_true (by first | (with_reducible assumption) | assumption)
                          obtain ⟨i033, hi033, _, hsz33, _⟩ := info_parts info39
                          have hroom33 : l0.length ≤ c0 := HC0.out
                          have hC33 : Kd.C k39 _ A0 l0.length l0 := HR0.out
                          have hcut33 := cut_to (P := Try.prog) 22 39 .i64 Try.underlying22 hi033 A0 l0.length c0 (t563.length : Int) (of_decide_eq_true (by first | (with_reducible assumption) | assumption)) q33 hroom33
                          have hr33 := Kd.C_take (m := ((t563.length : Int) : Int).toNat) hC33 (by omega)
                          have hy33 : y572.length = ((t563.length : Int) : Int).toNat := (by rw [Ny572.out, List.length_take]; omega)
                          rw [← Ny572.out] at hr33
                          rw [← hy33] at hcut33
                          have HR575 := Aside0.mk hr33
                          have HC575 := Aside0.mk (show y572.length ≤ c0 from by omega)
                          clear hr33 hC33 hroom33 hi033 hsz33
                          have KY33 := Aside0.mk hy33
                          clear hy33
                          replace q33 := eq_true q33
                          go_upto_region 11 with (first | ((with_reducible refine gate_callee (f := 11) rfl ?_); refine goesL_ (some 60) rfl rfl Try.func11 (by kernel_rfl) rfl #[.slice A0 y572.length c0] rfl (by (try simp only [List.map_toArray, List.map_cons, List.map_nil]); first | done | rfl | (simp only [List.length_drop, List.length_take]; rfl)) ?_; (with_reducible refine (journal_Write.calls kj15 _ _ y572 t576 t577 _ ?side1 ?side2 A30.out).mono ?_); (case side1 => repeat (first | exact (Kd.C_below HR575.out HB.out) | (with_reducible refine Kd.C_alloc ?_ _) | (with_reducible refine Kd.C_drewN ?_ _) | (with_reducible refine Kd.C_drew ?_))); (case side2 => exact HC575.out); rintro e w34 ⟨v578, rfl, ho0, hb⟩; refine ⟨_, rfl, ?_⟩; have n0_ := Aside0.mk (Kd.R_below (by (with_reducible repeat (first | apply Kd.R_alloc | apply Kd.R_drewN | apply Kd.R_drew)); exact HO_8.out) hb); have n1_ := Aside0.mk (Kd.R_lower ho0 (below_size (by repeat (first | (with_reducible first | exact HB.out | apply below_alloc | apply pw_below_drewN | apply below_drew1) | exact HB.out)))); have n2_ := Aside0.mk (Kd.C_below (by repeat (first | (with_reducible exact HR562.out) | (with_reducible refine Kd.C_alloc ?_ _) | (with_reducible refine Kd.C_drewN ?_ _) | (with_reducible refine Kd.C_drew ?_) | exact HR562.out)) hb); have n3_ := Aside0.mk (below_step (by repeat (first | (with_reducible first | exact HB.out | apply below_alloc | apply pw_below_drewN | apply below_drew1) | exact HB.out)) hb); clear HO_8; clear HR562; clear HB; have HO_8 := n0_; have HO579 := n1_; have HR562 := n2_; have HB := n3_; clear n0_ n1_ n2_ n3_; (try clear hb); (try clear hb2); (try clear hk); (try clear hi); (try clear ho0)))
                          (try simp only [Act.put, List.setIfInBounds_toArray, List.set_cons_zero, List.set_cons_succ])
                          go_cut [75] (fun v75 wc => ∃ (kq : Nat) (x75_30 : Bool), v75 = .bool x75_30 ∧ Aside0 (skiarealaw29_JournalTorn.j2 kq l0 ji12 t563 x75_30 = some r) ∧ Aside0 (kq ≤ kj15) ∧ Aside0 (Kd.R k39 39 wc w.heap.size (fun _ => True) (.slice Ao32 t563.length co32) t563) ∧ Aside0 (Kd.C (Kd.int .u8) wc Ao17 y559.length y559) ∧ Aside0 (Below w.heap.size w wc))
                          case first =>
                            have H := HC31.out
                            clear HC31
                            by_cases c35 : t577 = 0
                            · rw [if_pos c35] at H
                              have c35b0 : (t577 == 0) = true := beq_iff_eq.mpr c35
                              have c35b1 : (t577 != 0) = false := bne_eq_false_iff_eq.mpr c35
                              clear c35
                              (first | rw [c35b0] | (simp only [i64_w, i32_w, IntKind.wrap_u8, IntKind.wrap_u32]; rw [c35b0]) | skip)
                              by_cases c36 : (t576.length : Int) = t564
                              · rw [if_pos c36] at H
                                have c36b0 : ((t576.length : Int) == t564) = true := beq_iff_eq.mpr c36
                                have c36b1 : ((t576.length : Int) != t564) = false := bne_eq_false_iff_eq.mpr c36
                                clear c36
                                have H' := Aside0.mk H
                                clear H
                                obtain ⟨Ao37, co37, eo37⟩ := Kd.R_slice HO579.out
                                subst eo37
                                go_wp2
                                go_meet
                                case rel => exact ⟨_, (decide (t564 > ji12)), (by first | rfl | (simp; done) | (simp only [← hji12] <;> (first | rfl | simp)) | (simp [*]; done)), H', ⟨by have := HJ5.out; have := HJ15.out; first | omega | exact Nat.le_refl _⟩, ⟨by (with_reducible repeat (first | apply Kd.R_alloc | apply Kd.R_drewN | apply Kd.R_drew)); exact HO_8.out⟩, ⟨by repeat (first | (with_reducible exact HR562.out) | (with_reducible refine Kd.C_alloc ?_ _) | (with_reducible refine Kd.C_drewN ?_ _) | (with_reducible refine Kd.C_drew ?_) | exact HR562.out)⟩, ⟨by repeat (first | (with_reducible first | exact HB.out | apply below_alloc | apply pw_below_drewN | apply below_drew1) | exact HB.out)⟩⟩
                              · rw [if_neg c36] at H
                                have c36b0 : ((t576.length : Int) == t564) = false := beq_eq_false_iff_ne.mpr c36
                                have c36b1 : ((t576.length : Int) != t564) = true := bne_iff_ne.mpr c36
                                have H' := Aside0.mk H
                                clear H
                                obtain ⟨Ao38, co38, eo38⟩ := Kd.R_slice HO579.out
                                subst eo38
                                go_wp2
                                go_meet
                                case rel => exact ⟨_, (true), (by first | rfl | (simp; done) | (simp [*]; done)), H', ⟨by have := HJ5.out; have := HJ15.out; first | omega | exact Nat.le_refl _⟩, ⟨by (with_reducible repeat (first | apply Kd.R_alloc | apply Kd.R_drewN | apply Kd.R_drew)); exact HO_8.out⟩, ⟨by repeat (first | (with_reducible exact HR562.out) | (with_reducible refine Kd.C_alloc ?_ _) | (with_reducible refine Kd.C_drewN ?_ _) | (with_reducible refine Kd.C_drew ?_) | exact HR562.out)⟩, ⟨by repeat (first | (with_reducible first | exact HB.out | apply below_alloc | apply pw_below_drewN | apply below_drew1) | exact HB.out)⟩⟩
                            · rw [if_neg c35] at H
                              have c35b0 : (t577 == 0) = false := beq_eq_false_iff_ne.mpr c35
                              have c35b1 : (t577 != 0) = true := bne_iff_ne.mpr c35
                              (first | rw [c35b0] | (simp only [i64_w, i32_w, IntKind.wrap_u8, IntKind.wrap_u32]; rw [c35b0]) | skip)
                              have H' := Aside0.mk H
                              clear H
                              go_wp2
                              go_meet
                              case rel => exact ⟨_, (true), (by first | rfl | (simp; done) | (simp [*]; done)), H', ⟨by have := HJ5.out; have := HJ15.out; first | omega | exact Nat.le_refl _⟩, ⟨by (with_reducible repeat (first | apply Kd.R_alloc | apply Kd.R_drewN | apply Kd.R_drew)); exact HO_8.out⟩, ⟨by repeat (first | (with_reducible exact HR562.out) | (with_reducible refine Kd.C_alloc ?_ _) | (with_reducible refine Kd.C_drewN ?_ _) | (with_reducible refine Kd.C_drew ?_) | exact HR562.out)⟩, ⟨by repeat (first | (with_reducible first | exact HB.out | apply below_alloc | apply pw_below_drewN | apply below_drew1) | exact HB.out)⟩⟩
                          case rest =>
                            clear HC31
                            try clear c1
                            try clear q1
                            try clear c2
                            try clear p2
                            try clear q2
                            try clear c3
                            try clear q3
                            try clear c4
                            try clear p6
                            try clear c9
                            try clear c9b0
                            try clear c9b1
                            try clear c10
                            try clear c11
                            try clear c11b0
                            try clear c11b1
                            try clear c13
                            try clear c13b0
                            try clear c13b1
                            try clear c14
                            try clear c14b0
                            try clear c14b1
                            try clear q18
                            try clear c20
                            try clear c20b0
                            try clear c20b1
                            try clear c22
                            try clear c22b0
                            try clear c22b1
                            try clear c23
                            try clear c23b0
                            try clear c23b1
                            try clear q26
                            try clear c27
                            try clear c28
                            try clear c28b0
                            try clear c28b1
                            try clear c29
                            try clear c29b0
                            try clear c29b1
                            try clear q33
                            try clear c35
                            try clear c35b0
                            try clear c35b1
                            try clear c36
                            try clear c36b0
                            try clear c36b1
                            try clear p2
                            try clear p6
                            try clear q1
                            try clear q18
                            try clear q2
                            try clear q26
                            try clear q33
                            obtain ⟨kq, x75_30, rfl, HA, HJ30, HO_8, HR562, HB⟩ := hcut
                            cases kq with
                            | zero => exact absurd HA.out (by simp [skiarealaw29_JournalTorn.j2])
                            | succ kj30 =>
                              have H := HA.out
                              clear HA
                              simp only [skiarealaw29_JournalTorn.j2] at H
                              by_cases c39 : x75_30 = true
                              · subst c39
                                have H1 : (some false) = some r := by rw [if_pos rfl] at H; exact H
                                clear H
                                have H := H1
                                clear H1
                                obtain rfl := Option.some.inj H
                                go_wp2
                                go_ret
                                exact ⟨by first | rfl | (simp [errW_none, errW_some] <;> rfl) | (simp only [← hji12]; first | rfl | (simp [errW_none, errW_some] <;> rfl)) | (simp [*, errW_none, errW_some] <;> rfl), by repeat (first | (with_reducible first | exact HB.out | apply below_alloc | apply pw_below_drewN | apply below_drew1) | exact HB.out)⟩
                              · replace c39 := Bool.eq_false_iff.mpr c39
                                subst c39
                                have H1 : (if (t563.length : Int) = (l0.length : Int) then (some true) else (if 0 ≤ (wrap64 ((t563.length : Int) + 1)) then (if (wrap64 ((t563.length : Int) + 1)) ≤ (l0.length : Int) then ((journal_Write.f kj30 (l0.take ((wrap64 ((t563.length : Int) + 1)) : Int).toNat)).bind fun bt584 => (if bt584.2 = 0 then (some (decide ((bt584.1.length : Int) > ji12))) else (some false))) else (none)) else (none))) = some r := by rw [if_neg (show ¬ (false = true) by decide)] at H; exact H
                                clear H
                                have H := H1
                                clear H1
                                by_cases c40 : (t563.length : Int) = (l0.length : Int)
                                · rw [if_pos c40] at H
                                  have c40b0 : ((t563.length : Int) == (l0.length : Int)) = true := beq_iff_eq.mpr c40
                                  have c40b1 : ((t563.length : Int) != (l0.length : Int)) = false := bne_eq_false_iff_eq.mpr c40
                                  have c40b2 : (t563.length == l0.length) = true := by first | simpa using c40 | (simp at c40 ⊢; omega)
                                  clear c40
                                  obtain rfl := Option.some.inj H
                                  go_wp2
                                  go_ret
                                  exact ⟨by first | rfl | (simp [errW_none, errW_some] <;> rfl) | (simp only [← hji12]; first | rfl | (simp [errW_none, errW_some] <;> rfl)) | (simp [*, errW_none, errW_some] <;> rfl), by repeat (first | (with_reducible first | exact HB.out | apply below_alloc | apply pw_below_drewN | apply below_drew1) | exact HB.out)⟩
                                · rw [if_neg c40] at H
                                  have c40b0 : ((t563.length : Int) == (l0.length : Int)) = false := beq_eq_false_iff_ne.mpr c40
                                  have c40b1 : ((t563.length : Int) != (l0.length : Int)) = true := bne_iff_ne.mpr c40
                                  have c40b2 : (t563.length == l0.length) = false := by first | simpa using c40 | (simp at c40 ⊢; omega)
                                  obtain ⟨ji41, hji41⟩ : ∃ j_ : Int, (wrap64 ((t563.length : Int) + 1)) = j_ := ⟨_, rfl⟩
                                  replace H : (if 0 ≤ (ji41) then (if (ji41) ≤ (l0.length : Int) then ((journal_Write.f kj30 (l0.take ((ji41) : Int).toNat)).bind fun bt584 => (if bt584.2 = 0 then (some (decide ((bt584.1.length : Int) > ji12))) else (some false))) else (none)) else (none)) = some r := by first | (rw [hji41] at H; exact H) | (simp only [hji41] at H ⊢; exact H)
                                  have hji41w : (IntKind.i64.wrap ((t563.length : Int) + 1)) = ji41 := (i64_w _).trans hji41
                                  by_cases c42 : 0 ≤ (ji41)
                                  · rw [if_pos c42] at H
                                    have c42b0 := eq_true c42
                                    have c42b1 : decide (0 ≤ (ji41)) = true := decide_eq_true c42
                                    clear c42
                                    by_cases c43 : (ji41) ≤ (l0.length : Int)
                                    · rw [if_pos c43] at H
                                      have c43b0 := eq_true c43
                                      have c43b1 : decide ((ji41) ≤ (l0.length : Int)) = true := decide_eq_true c43
                                      clear c43
                                      obtain ⟨y580, hy580⟩ : ∃ y_ : List (S39), y_ = (l0.take ((ji41) : Int).toNat) := ⟨_, rfl⟩
                                      replace H : ((journal_Write.f kj30 y580).bind fun bt584 => (if bt584.2 = 0 then (some (decide ((bt584.1.length : Int) > ji12))) else (some false))) = some r := by first | (rw [hy580]; with_reducible exact H) | (have H2_ := (Option.bind_some _ _).symm.trans H; rw [hy580]; with_reducible exact H2_) | (have H2_ := (Option.bind_some _ _).symm.trans H; with_reducible exact H2_) | with_reducible exact H | (rw [hy580]; exact H) | exact H
                                      have Ny580 := Aside0.mk hy580
                                      clear hy580
                                      replace H := Option.bind_eq_some_iff.mp H
                                      obtain ⟨⟨t584, t585⟩, A440, H⟩ := H
                                      replace H : (if t585 = 0 then (some (decide ((t584.length : Int) > ji12))) else (some false)) = some r := H
                                      have A44 := Aside0.mk A440
                                      clear A440
                                      by_cases c45 : t585 = 0
                                      · rw [if_pos c45] at H
                                        have c45b0 : (t585 == 0) = true := beq_iff_eq.mpr c45
                                        have c45b1 : (t585 != 0) = false := bne_eq_false_iff_eq.mpr c45
                                        clear c45
                                        obtain rfl := Option.some.inj H
                                        have q46 : ((ji41) : Int) ≤ ((l0.length : Int) : Int) := of_decide_eq_true (by first | (with_reducible assumption) | assumption)
                                        obtain ⟨i046, hi046, _, hsz46, _⟩ := info_parts info39
                                        have hroom46 : l0.length ≤ c0 := HC0.out
                                        have hC46 : Kd.C k39 _ A0 l0.length l0 := HR0.out
                                        have hcut46 := cut_to (P := Try.prog) 22 39 .i64 Try.underlying22 hi046 A0 l0.length c0 (ji41) (of_decide_eq_true (by first | (with_reducible assumption) | assumption)) q46 hroom46
                                        have hr46 := Kd.C_take (m := ((ji41) : Int).toNat) hC46 (by omega)
                                        have hy46 : y580.length = ((ji41) : Int).toNat := (by rw [Ny580.out, List.length_take]; omega)
                                        rw [← Ny580.out] at hr46
                                        rw [← hy46] at hcut46
                                        have HR583 := Aside0.mk hr46
                                        have HC583 := Aside0.mk (show y580.length ≤ c0 from by omega)
                                        clear hr46 hC46 hroom46 hi046 hsz46
                                        have KY46 := Aside0.mk hy46
                                        clear hy46
                                        replace q46 := eq_true q46
                                        go_wp2_with (first | ((with_reducible refine gate_callee (f := 11) rfl ?_); refine goesL_ (some 87) rfl rfl Try.func11 (by kernel_rfl) rfl #[.slice A0 y580.length c0] rfl (by (try simp only [List.map_toArray, List.map_cons, List.map_nil]); first | done | rfl | (simp only [List.length_drop, List.length_take]; rfl)) ?_; (with_reducible refine (journal_Write.calls kj30 _ _ y580 t584 t585 _ ?side1 ?side2 A44.out).mono ?_); (case side1 => repeat (first | exact (Kd.C_below HR583.out HB.out) | (with_reducible refine Kd.C_alloc ?_ _) | (with_reducible refine Kd.C_drewN ?_ _) | (with_reducible refine Kd.C_drew ?_))); (case side2 => exact HC583.out); rintro e w47 ⟨v586, rfl, ho0, hb⟩; refine ⟨_, rfl, ?_⟩; have n0_ := Aside0.mk (Kd.R_below (by (with_reducible repeat (first | apply Kd.R_alloc | apply Kd.R_drewN | apply Kd.R_drew)); exact HO_8.out) hb); have n1_ := Aside0.mk (Kd.R_lower ho0 (below_size (by repeat (first | (with_reducible first | exact HB.out | apply below_alloc | apply pw_below_drewN | apply below_drew1) | exact HB.out)))); have n2_ := Aside0.mk (Kd.C_below (by repeat (first | (with_reducible exact HR562.out) | (with_reducible refine Kd.C_alloc ?_ _) | (with_reducible refine Kd.C_drewN ?_ _) | (with_reducible refine Kd.C_drew ?_) | exact HR562.out)) hb); have n3_ := Aside0.mk (below_step (by repeat (first | (with_reducible first | exact HB.out | apply below_alloc | apply pw_below_drewN | apply below_drew1) | exact HB.out)) hb); clear HO_8; clear HR562; clear HB; have HO_8 := n0_; have HO587 := n1_; have HR562 := n2_; have HB := n3_; clear n0_ n1_ n2_ n3_; (try clear hb); (try clear hb2); (try clear hk); (try clear hi); (try clear ho0); obtain ⟨Ao48, co48, eo48⟩ := Kd.R_slice HO587.out; subst eo48))
                                        go_ret
                                        exact ⟨by first | rfl | (simp [errW_none, errW_some] <;> rfl) | (simp only [← hji12, ← hji41]; first | rfl | (simp [errW_none, errW_some] <;> rfl)) | (simp [*, errW_none, errW_some] <;> rfl), by repeat (first | (with_reducible first | exact HB.out | apply below_alloc | apply pw_below_drewN | apply below_drew1) | exact HB.out)⟩
                                      · rw [if_neg c45] at H
                                        have c45b0 : (t585 == 0) = false := beq_eq_false_iff_ne.mpr c45
                                        have c45b1 : (t585 != 0) = true := bne_iff_ne.mpr c45
                                        obtain rfl := Option.some.inj H
                                        have q49 : ((ji41) : Int) ≤ ((l0.length : Int) : Int) := of_decide_eq_true (by first | (with_reducible assumption) | assumption)
                                        obtain ⟨i049, hi049, _, hsz49, _⟩ := info_parts info39
                                        have hroom49 : l0.length ≤ c0 := HC0.out
                                        have hC49 : Kd.C k39 _ A0 l0.length l0 := HR0.out
                                        have hcut49 := cut_to (P := Try.prog) 22 39 .i64 Try.underlying22 hi049 A0 l0.length c0 (ji41) (of_decide_eq_true (by first | (with_reducible assumption) | assumption)) q49 hroom49
                                        have hr49 := Kd.C_take (m := ((ji41) : Int).toNat) hC49 (by omega)
                                        have hy49 : y580.length = ((ji41) : Int).toNat := (by rw [Ny580.out, List.length_take]; omega)
                                        rw [← Ny580.out] at hr49
                                        rw [← hy49] at hcut49
                                        have HR583 := Aside0.mk hr49
                                        have HC583 := Aside0.mk (show y580.length ≤ c0 from by omega)
                                        clear hr49 hC49 hroom49 hi049 hsz49
                                        have KY49 := Aside0.mk hy49
                                        clear hy49
                                        replace q49 := eq_true q49
                                        go_wp2_with (first | ((with_reducible refine gate_callee (f := 11) rfl ?_); refine goesL_ (some 87) rfl rfl Try.func11 (by kernel_rfl) rfl #[.slice A0 y580.length c0] rfl (by (try simp only [List.map_toArray, List.map_cons, List.map_nil]); first | done | rfl | (simp only [List.length_drop, List.length_take]; rfl)) ?_; (with_reducible refine (journal_Write.calls kj30 _ _ y580 t584 t585 _ ?side1 ?side2 A44.out).mono ?_); (case side1 => repeat (first | exact (Kd.C_below HR583.out HB.out) | (with_reducible refine Kd.C_alloc ?_ _) | (with_reducible refine Kd.C_drewN ?_ _) | (with_reducible refine Kd.C_drew ?_))); (case side2 => exact HC583.out); rintro e w50 ⟨v586, rfl, ho0, hb⟩; refine ⟨_, rfl, ?_⟩; have n0_ := Aside0.mk (Kd.R_below (by (with_reducible repeat (first | apply Kd.R_alloc | apply Kd.R_drewN | apply Kd.R_drew)); exact HO_8.out) hb); have n1_ := Aside0.mk (Kd.R_lower ho0 (below_size (by repeat (first | (with_reducible first | exact HB.out | apply below_alloc | apply pw_below_drewN | apply below_drew1) | exact HB.out)))); have n2_ := Aside0.mk (Kd.C_below (by repeat (first | (with_reducible exact HR562.out) | (with_reducible refine Kd.C_alloc ?_ _) | (with_reducible refine Kd.C_drewN ?_ _) | (with_reducible refine Kd.C_drew ?_) | exact HR562.out)) hb); have n3_ := Aside0.mk (below_step (by repeat (first | (with_reducible first | exact HB.out | apply below_alloc | apply pw_below_drewN | apply below_drew1) | exact HB.out)) hb); clear HO_8; clear HR562; clear HB; have HO_8 := n0_; have HO587 := n1_; have HR562 := n2_; have HB := n3_; clear n0_ n1_ n2_ n3_; (try clear hb); (try clear hb2); (try clear hk); (try clear hi); (try clear ho0)))
                                        go_ret
                                        exact ⟨by first | rfl | (simp [errW_none, errW_some] <;> rfl) | (simp only [← hji12, ← hji41]; first | rfl | (simp [errW_none, errW_some] <;> rfl)) | (simp [*, errW_none, errW_some] <;> rfl), by repeat (first | (with_reducible first | exact HB.out | apply below_alloc | apply pw_below_drewN | apply below_drew1) | exact HB.out)⟩
                                    · rw [if_neg c43] at H
                                      exact absurd H (by simp)
                                  · rw [if_neg c42] at H
                                    exact absurd H (by simp)
                        · rw [if_neg c29] at H
                          exact absurd H (by simp)
                      · rw [if_neg c28] at H
                        exact absurd H (by simp)
              · rw [if_neg c14] at H
                exact absurd H (by simp)
            · rw [if_neg c13] at H
              exact absurd H (by simp)
  · replace c4 := Bool.eq_false_iff.mpr c4
    subst c4
    have H1 : (some false) = some r := by rw [if_neg (show ¬ (false = true) by decide)] at H; exact H
    clear H
    have H := H1
    clear H1
    obtain rfl := Option.some.inj H
    go_enter Try.func9, Try.ntmps9
    go_wp2_with (first | ((with_reducible refine gate_callee (f := 10) rfl ?_); refine goesL_ (some 14) rfl rfl Try.func10 (by kernel_rfl) rfl #[] rfl (by (try simp only [List.map_toArray, List.map_cons, List.map_nil]); first | done | rfl | (simp only [List.length_drop, List.length_take]; rfl)) ?_; (with_reducible refine (skiarealaw29_alive.calls k  false _ A3.out).mono ?_); rintro e w51 ⟨rfl, hb⟩; refine ⟨_, rfl, ?_⟩; have n0_ := Aside0.mk (below_step (by repeat (first | (with_reducible first | exact HB.out | apply below_alloc | apply pw_below_drewN | apply below_drew1) | exact HB.out)) hb); clear HB; have HB := n0_; clear n0_; (try clear hb); (try clear hb2); (try clear hk); (try clear hi)))
    go_ret
    exact ⟨by first | rfl | (simp [errW_none, errW_some] <;> rfl) | (simp [*, errW_none, errW_some] <;> rfl), by repeat (first | (with_reducible first | exact HB.out | apply below_alloc | apply pw_below_drewN | apply below_drew1) | exact HB.out)⟩

end Go.Proofs.Ytohjkgboehnamaa.Q
