-- Printed by a program of this session (wip/pp), out of Lean's print of the loaded functions. Lean checks it.
import Derived.Test.YtohjkgboehnamaaQx0
import Derived.Test.YtohjkgboehnamaaQx6
namespace Go.Proofs.Ytohjkgboehnamaa.Q
open Go.RowKit Go.Proofs.YtohjkgboehnamaaW.PrintWords Go.Proofs.YtohjkgboehnamaaW.PrintLast Go.Proofs.YtohjkgboehnamaaW.PrintMore
attribute [local go_sem] max2_int min2_int max_two min_two max_three min_three max_four min_four   -- for this text's walks alone
set_option linter.unusedVariables false
set_option linter.unusedSimpArgs false

attribute [local irreducible] Calls seal_Mix.f
/-! ### seal_Tag: function 31 -/
mutual
def seal_Tag.l0 : Nat → List Int → Int → Int → Option (Int)
  | 0, _, _, _ => none
  | k + 1, x1, x5, x6 => if (x1.length : Int) > 0 then (if 0 ≤ (mn 8 (x1.length : Int)) then (if (mn 8 (x1.length : Int)) ≤ (x1.length : Int) then ((some (x1.take ((mn 8 (x1.length : Int)) : Int).toNat : List Int)).bind fun y117 => (seal_Tag.l1 k x1 x5 x6 (mn 8 (x1.length : Int)) 0 y117 (y117.length : Int) 0)) else (none)) else (none)) else ((seal_Mix.f (Go.bits .xor .u64 x5 x6)).bind fun t116 => (some t116))
def seal_Tag.l1 : Nat → List Int → Int → Int → Int → Int → List Int → Int → Int → Option (Int)
  | 0, _, _, _, _, _, _, _, _ => none
  | k + 1, x1, x5, x6, x7, x8, x24, x25, x26 => if x26 < x25 then (if 0 ≤ x26 then (if x26 < (x24.length : Int) then (if 0 ≤ (wrap64 (8 * x26)) then (seal_Tag.l1 k x1 x5 x6 x7 (Go.bits .or .u64 x8 (shl .u64 (IntKind.u64.wrap (rd x24 x26)) (wrap64 (8 * x26)))) x24 x25 (wrap64 (x26 + 1))) else (none)) else (none)) else (none)) else ((seal_Mix.f (Go.bits .xor .u64 x5 x8)).bind fun t123 => (if 0 ≤ x7 then (if x7 ≤ (x1.length : Int) then (seal_Tag.l0 k (x1.drop (x7 : Int).toNat) t123 x6) else (none)) else (none)))
end
def seal_Tag.f (k : Nat) (a0 : Int) (l1 : List Int) : Option (Int) := (seal_Mix.f a0).bind fun t115 => (seal_Tag.l0 k l1 t115 (IntKind.u64.wrap ((l1.length : Int))))
theorem seal_Tag.mono_l : ∀ k, (∀ y0 y1 y2, LeO (seal_Tag.l0 k y0 y1 y2) (seal_Tag.l0 (k + 1) y0 y1 y2)) ∧ (∀ y0 y1 y2 y3 y4 y5 y6 y7, LeO (seal_Tag.l1 k y0 y1 y2 y3 y4 y5 y6 y7) (seal_Tag.l1 (k + 1) y0 y1 y2 y3 y4 y5 y6 y7))
  | 0 => ⟨fun _ _ _ r h => by simp [seal_Tag.l0] at h, fun _ _ _ _ _ _ _ _ r h => by simp [seal_Tag.l1] at h⟩
  | k + 1 => by
    obtain ⟨ih0, ih1⟩ := seal_Tag.mono_l k
    refine ⟨?_, ?_⟩
    · intro y0 y1 y2
      unfold seal_Tag.l0
      repeat' first
      | (with_reducible exact ih0 _ _ _)
      | (with_reducible exact ih1 _ _ _ _ _ _ _ _)
      | (with_reducible exact LeO.refl _)
      | (with_reducible exact LeO.none _)
      | (with_reducible refine LeO.ite ?_ ?_)
      | (with_reducible refine LeO.bind ?_ (fun _ => ?_))
      | exact ih0 _ _ _
      | exact ih1 _ _ _ _ _ _ _ _
      | exact LeO.none _
      | refine LeO.ite ?_ ?_
      | refine LeO.bind ?_ (fun _ => ?_)
    · intro y0 y1 y2 y3 y4 y5 y6 y7
      unfold seal_Tag.l1
      repeat' first
      | (with_reducible exact ih0 _ _ _)
      | (with_reducible exact ih1 _ _ _ _ _ _ _ _)
      | (with_reducible exact LeO.refl _)
      | (with_reducible exact LeO.none _)
      | (with_reducible refine LeO.ite ?_ ?_)
      | (with_reducible refine LeO.bind ?_ (fun _ => ?_))
      | exact ih0 _ _ _
      | exact ih1 _ _ _ _ _ _ _ _
      | exact LeO.none _
      | refine LeO.ite ?_ ?_
      | refine LeO.bind ?_ (fun _ => ?_)
theorem seal_Tag.mono : ∀ a0 a1 k, LeO (seal_Tag.f k a0 a1) (seal_Tag.f (k + 1) a0 a1) := by
  intro a0 a1 k
  obtain ⟨ih0, ih1⟩ := seal_Tag.mono_l k
  unfold seal_Tag.f
  repeat' first
      | (with_reducible exact ih0 _ _ _)
      | (with_reducible exact ih1 _ _ _ _ _ _ _ _)
      | (with_reducible exact LeO.refl _)
      | (with_reducible exact LeO.none _)
      | (with_reducible refine LeO.ite ?_ ?_)
      | (with_reducible refine LeO.bind ?_ (fun _ => ?_))
      | exact ih0 _ _ _
      | exact ih1 _ _ _ _ _ _ _ _
      | exact LeO.none _
      | refine LeO.ite ?_ ?_
      | refine LeO.bind ?_ (fun _ => ?_)
set_option maxHeartbeats 8000000 in
set_option maxRecDepth 100000 in
theorem seal_Tag.calls (k : Nat) (a0 : Int) (P1_ : Nat → Prop) (A1 : Option Addr) (c1 : Nat) (l1 : List Int) (r : Int) (w : World) (hs1 : Kd.V (Kd.int .u8) 5 w w.heap.size (fun k_ => P1_ k_) (.slice A1 l1.length c1) l1) (h : seal_Tag.f k a0 l1 = some r) :
    Calls Try.prog 31 #[.int .u64 a0, .slice A1 l1.length c1] w fun e w' => e = .returned (.int .u64 r) ∧ Below w.heap.size w w' := by
  have HO1 := Aside0.mk (show Kd.V (Kd.int .u8) 5 w w.heap.size (fun k_ => (P1_ k_ ∨ w.heap.size ≤ k_)) (.slice A1 l1.length c1) l1 from Kd.V_mono hs1 (fun k_ hk => .inl hk))
  have HB := Aside0.mk (Below.refl w.heap.size w)
  have H : ((seal_Mix.f a0).bind fun t115 => (seal_Tag.l0 k l1 t115 (IntKind.u64.wrap ((l1.length : Int))))) = some r := h
  clear h
  replace H := Option.bind_eq_some_iff.mp H
  obtain ⟨t115, A30, H⟩ := H
  replace H : (seal_Tag.l0 k l1 t115 (IntKind.u64.wrap ((l1.length : Int)))) = some r := H
  have A3 := Aside0.mk A30
  clear A30
  have H' := Aside0.mk H
  clear H
  go_enter Try.func31, Try.ntmps31
  go_wp2_with (first | ((with_reducible refine gate_callee (f := 45) rfl ?_); refine goesL_ (some 12) rfl rfl Try.func45 (by kernel_rfl) rfl #[.int .u64 a0] rfl (by (try simp only [List.map_toArray, List.map_cons, List.map_nil]); first | done | rfl | (simp only [List.length_drop, List.length_take]; rfl)) ?_; (with_reducible refine (seal_Mix.calls a0 t115 _ A3.out).mono ?_); rintro e w' ⟨rfl, ⟨nd, rfl⟩⟩; refine ⟨_, rfl, ?_⟩))
  go_loopg [1, 5] k (fun kq v1 v5 w' => ∃ (x1_1 : List Int) (x5_1 : Int), v5 = .int .u64 x5_1 ∧ Aside0 (seal_Tag.l0 kq x1_1 x5_1 (IntKind.u64.wrap ((l1.length : Int))) = some r) ∧ Aside0 (kq ≤ k) ∧ Aside0 (Kd.V (Kd.int .u8) 5 w' w.heap.size (fun k_ => (P1_ k_ ∨ w.heap.size ≤ k_)) v1 x1_1) ∧ Aside0 (Below w.heap.size w w'))
  case atStart => exact ⟨(l1), (t115), (by first | rfl | (simp; done) | (simp [*]; done)), H', ⟨Nat.le_refl _⟩, ⟨by (with_reducible repeat (first | apply Kd.V_alloc | apply Kd.V_drewN | apply Kd.V_drew)); exact HO1.out⟩, ⟨by repeat (first | (with_reducible first | exact HB.out | apply below_alloc | apply pw_below_drewN | apply below_drew1) | exact HB.out)⟩⟩
  case round =>
    clear H'
    try clear c1
    try clear p2
    try clear c3
    obtain ⟨x1_1, x5_1, rfl, HA, HK1, HO_1, HB⟩ := hrel
    cases gk with
    | zero => exact absurd HA.out (by simp [seal_Tag.l0])
    | succ k1 =>
      have H := HA.out
      clear HA
      simp only [seal_Tag.l0] at H
      by_cases c4 : (x1_1.length : Int) > 0
      · rw [if_pos c4] at H
        have c4b0 : decide (0 < (x1_1.length : Int)) = true := decide_eq_true c4
        have c4b1 : decide (0 < x1_1.length) = true := decide_eq_true (by omega)
        clear c4
        obtain ⟨ji5, hji5⟩ : ∃ j_ : Int, (mn 8 (x1_1.length : Int)) = j_ := ⟨_, rfl⟩
        replace H : (if 0 ≤ (ji5) then (if (ji5) ≤ (x1_1.length : Int) then ((some (x1_1.take ((ji5) : Int).toNat : List Int)).bind fun y117 => (seal_Tag.l1 k1 x1_1 x5_1 (IntKind.u64.wrap ((l1.length : Int))) ji5 0 y117 (y117.length : Int) 0)) else (none)) else (none)) = some r := by first | (rw [hji5] at H; exact H) | (simp only [hji5] at H ⊢; exact H)
        have hji5_ : (if (x1_1.length : Int) < 8 then (x1_1.length : Int) else 8) = ji5 := hji5
        by_cases c6 : 0 ≤ (ji5)
        · rw [if_pos c6] at H
          have c6b0 := eq_true c6
          have c6b1 : decide (0 ≤ (ji5)) = true := decide_eq_true c6
          clear c6
          by_cases c7 : (ji5) ≤ (x1_1.length : Int)
          · rw [if_pos c7] at H
            have c7b0 := eq_true c7
            have c7b1 : decide ((ji5) ≤ (x1_1.length : Int)) = true := decide_eq_true c7
            clear c7
            obtain ⟨y117, hy117⟩ : ∃ y_ : List Int, y_ = (x1_1.take ((ji5) : Int).toNat) := ⟨_, rfl⟩
            replace H : (seal_Tag.l1 k1 x1_1 x5_1 (IntKind.u64.wrap ((l1.length : Int))) ji5 0 y117 (y117.length : Int) 0) = some r := by first | (rw [hy117]; with_reducible exact H) | (have H2_ := (Option.bind_some _ _).symm.trans H; rw [hy117]; with_reducible exact H2_) | (have H2_ := (Option.bind_some _ _).symm.trans H; with_reducible exact H2_) | with_reducible exact H | (rw [hy117]; exact H) | exact H
            have Ny117 := Aside0.mk hy117
            clear hy117
            have H' := Aside0.mk H
            clear H
            obtain ⟨Ao8, co8, eo8⟩ := Kd.V_slice HO_1.out
            subst eo8
            have q9 : ((ji5) : Int) ≤ ((x1_1.length : Int) : Int) := of_decide_eq_true (by first | (with_reducible assumption) | assumption)
            obtain ⟨i09, hi09, _, hsz9, _⟩ := info_parts info5
            have hroom9 : x1_1.length ≤ co8 := (Kd.V_reads' HO_1.out).2.1
            have hC9 : Kd.F (Kd.int .u8) _ _ Ao8 x1_1.length x1_1 := (Kd.V_at (base := w.heap.size) HO_1.out).2.2
            have hcut9 := cut_to (P := Try.prog) 24 5 .i64 Try.underlying24 hi09 Ao8 x1_1.length co8 (ji5) (of_decide_eq_true (by first | (with_reducible assumption) | assumption)) q9 hroom9
            have hr9 := Kd.F_take (m := ((ji5) : Int).toNat) hC9 (by omega)
            have hy9 : y117.length = ((ji5) : Int).toNat := (by rw [Ny117.out, List.length_take]; omega)
            rw [← Ny117.out] at hr9
            rw [← hy9] at hcut9
            have HO121 := Aside0.mk (show Kd.V (Kd.int .u8) 5 _ w.heap.size _ (.slice Ao8 y117.length co8) y117 from Kd.V_mk (by omega) hr9)
            have HC121 := Aside0.mk (show y117.length ≤ co8 from by omega)
            clear hr9 hC9 hroom9 hi09 hsz9
            have KY9 := Aside0.mk hy9
            clear hy9
            replace q9 := eq_true q9
            go_wp2
            go_loopg [8, 26] k1 (fun kq v8 v26 w' => ∃ (x8_2 : Int) (x26_2 : Int), v8 = .int .u64 x8_2 ∧ v26 = .int .i64 x26_2 ∧ Aside0 (seal_Tag.l1 kq x1_1 x5_1 (IntKind.u64.wrap ((l1.length : Int))) ji5 x8_2 y117 (y117.length : Int) x26_2 = some r) ∧ Aside0 (kq ≤ k1) ∧ Aside0 (Kd.V (Kd.int .u8) 5 w' w.heap.size (fun k_ => (P1_ k_ ∨ w.heap.size ≤ k_)) (.slice Ao8 x1_1.length co8) x1_1) ∧ Aside0 (Kd.V (Kd.int .u8) 5 w' w.heap.size (fun k_ => (P1_ k_ ∨ w.heap.size ≤ k_)) (.slice Ao8 y117.length co8) y117) ∧ Aside0 (Below w.heap.size w w'))
            case atStart => exact ⟨(0), (0), (by first | rfl | (simp; done) | (simp [*]; done)), (by first | rfl | (simp; done) | (simp [*]; done)), H', ⟨Nat.le_refl _⟩, ⟨by (with_reducible repeat (first | apply Kd.V_alloc | apply Kd.V_drewN | apply Kd.V_drew)); exact HO_1.out⟩, ⟨by (with_reducible repeat (first | apply Kd.V_alloc | apply Kd.V_drewN | apply Kd.V_drew)); exact HO121.out⟩, ⟨by repeat (first | (with_reducible first | exact HB.out | apply below_alloc | apply pw_below_drewN | apply below_drew1) | exact HB.out)⟩⟩
            case round =>
              clear H'
              try clear c1
              try clear p2
              try clear c3
              try clear c4
              try clear c4b0
              try clear c4b1
              try clear c6
              try clear c6b0
              try clear c6b1
              try clear c7
              try clear c7b0
              try clear c7b1
              try clear q9
              try clear p2
              try clear q9
              obtain ⟨x8_2, x26_2, rfl, rfl, HA, HK2, HO_1, HO_24, HB⟩ := hrel
              cases gk with
              | zero => exact absurd HA.out (by simp [seal_Tag.l1])
              | succ k2 =>
                have H := HA.out
                clear HA
                simp only [seal_Tag.l1] at H
                by_cases c10 : x26_2 < (y117.length : Int)
                · rw [if_pos c10] at H
                  have c10b0 : decide (x26_2 < (y117.length : Int)) = true := decide_eq_true c10
                  clear c10
                  by_cases c11 : 0 ≤ x26_2
                  · rw [if_pos c11] at H
                    have c11b0 : decide (0 ≤ x26_2) = true := decide_eq_true c11
                    clear c11
                    by_cases c12 : x26_2 < (y117.length : Int)
                    · rw [if_pos c12] at H
                      have c12b0 : decide (x26_2 < (y117.length : Int)) = true := decide_eq_true c12
                      clear c12
                      obtain ⟨ji13, hji13⟩ : ∃ j_ : Int, (wrap64 (8 * x26_2)) = j_ := ⟨_, rfl⟩
                      replace H : (if 0 ≤ (ji13) then (seal_Tag.l1 k2 x1_1 x5_1 (IntKind.u64.wrap ((l1.length : Int))) ji5 (Go.bits .or .u64 x8_2 (shl .u64 (IntKind.u64.wrap (rd y117 x26_2)) (ji13))) y117 (y117.length : Int) (wrap64 (x26_2 + 1))) else (none)) = some r := by first | (rw [hji13] at H; exact H) | (simp only [hji13] at H ⊢; exact H)
                      have hji13w : (IntKind.i64.wrap (8 * x26_2)) = ji13 := (i64_w _).trans hji13
                      by_cases c14 : 0 ≤ (ji13)
                      · rw [if_pos c14] at H
                        have c14b0 := eq_true c14
                        have c14b1 : decide (0 ≤ (ji13)) = true := decide_eq_true c14
                        clear c14
                        obtain ⟨ji15, hji15⟩ : ∃ j_ : Int, (shl .u64 (IntKind.u64.wrap (rd y117 x26_2)) (ji13)) = j_ := ⟨_, rfl⟩
                        replace H : (seal_Tag.l1 k2 x1_1 x5_1 (IntKind.u64.wrap ((l1.length : Int))) ji5 (Go.bits .or .u64 x8_2 (ji15)) y117 (y117.length : Int) (wrap64 (x26_2 + 1))) = some r := by first | (rw [hji15] at H; exact H) | (simp only [hji15] at H ⊢; exact H)
                        have hji15_ : (IntKind.u64.wrap ((IntKind.u64.wrap (rd y117 x26_2)) * 2 ^ min (ji13).toNat 64)) = ji15 := hji15
                        have hji15z : (ji13) ≤ 64 → (IntKind.u64.wrap ((IntKind.u64.wrap (rd y117 x26_2)) * 2 ^ (ji13).toNat)) = ji15 := shl_small hji15
                        have H' := Aside0.mk H
                        clear H
                        have p122 : 0 ≤ (x26_2 : Int) := of_decide_eq_true (by first | (with_reducible assumption) | assumption)
                        have q122 : x26_2 < (y117.length : Int) := of_decide_eq_true (by first | (with_reducible assumption) | assumption)
                        obtain ⟨ad122, e122, hx122_0⟩ := Kd.at_int (Kd.V_reads' HO_24.out).2.2 x26_2 p122 q122
                        cases e122
                        replace p122 := eq_true p122
                        replace q122 := eq_true q122
                        go_wp2
                        go_roundg k2
                        case measure => have := HK1.out; have := HK2.out; omega
                        case rel => exact ⟨(Go.bits .or .u64 x8_2 (ji15)), (wrap64 (x26_2 + 1)), (by first | rfl | (simp; done) | (simp only [← hji15] <;> (first | rfl | simp)) | (simp [*]; done)), (by first | rfl | (simp; done) | (simp [*]; done)), H', ⟨by have := HK1.out; have := HK2.out; omega⟩, ⟨by (with_reducible repeat (first | apply Kd.V_alloc | apply Kd.V_drewN | apply Kd.V_drew)); exact HO_1.out⟩, ⟨by (with_reducible repeat (first | apply Kd.V_alloc | apply Kd.V_drewN | apply Kd.V_drew)); exact HO_24.out⟩, ⟨by repeat (first | (with_reducible first | exact HB.out | apply below_alloc | apply pw_below_drewN | apply below_drew1) | exact HB.out)⟩⟩
                      · rw [if_neg c14] at H
                        exact absurd H (by simp)
                    · rw [if_neg c12] at H
                      exact absurd H (by simp)
                  · rw [if_neg c11] at H
                    exact absurd H (by simp)
                · rw [if_neg c10] at H
                  have c10b0 : decide (x26_2 < (y117.length : Int)) = false := decide_eq_false c10
                  clear c10
                  replace H := Option.bind_eq_some_iff.mp H
                  obtain ⟨t123, A160, H⟩ := H
                  replace H : (if 0 ≤ ji5 then (if ji5 ≤ (x1_1.length : Int) then (seal_Tag.l0 k2 (x1_1.drop (ji5 : Int).toNat) t123 (IntKind.u64.wrap ((l1.length : Int)))) else (none)) else (none)) = some r := H
                  have A16 := Aside0.mk A160
                  clear A160
                  by_cases c17 : 0 ≤ ji5
                  · rw [if_pos c17] at H
                    have c17b0 := eq_true c17
                    have c17b1 : decide (0 ≤ ji5) = true := decide_eq_true c17
                    clear c17
                    by_cases c18 : ji5 ≤ (x1_1.length : Int)
                    · rw [if_pos c18] at H
                      have c18b0 := eq_true c18
                      have c18b1 : decide (ji5 ≤ (x1_1.length : Int)) = true := decide_eq_true c18
                      clear c18
                      obtain ⟨y124, hy124⟩ : ∃ y_ : List Int, y_ = (x1_1.drop (ji5 : Int).toNat) := ⟨_, rfl⟩
                      replace H : (seal_Tag.l0 k2 y124 t123 (IntKind.u64.wrap ((l1.length : Int)))) = some r := by first | (rw [hy124]; with_reducible exact H) | (have H2_ := (Option.bind_some _ _).symm.trans H; rw [hy124]; with_reducible exact H2_) | (have H2_ := (Option.bind_some _ _).symm.trans H; with_reducible exact H2_) | with_reducible exact H | (rw [hy124]; exact H) | exact H
                      have Ny124 := Aside0.mk hy124
                      clear hy124
                      have H' := Aside0.mk H
                      clear H
                      go_wp2_with (first | ((with_reducible refine gate_callee (f := 45) rfl ?_); refine goesL_ (some 42) rfl rfl Try.func45 (by kernel_rfl) rfl #[.int .u64 (Go.bits .xor .u64 x5_1 x8_2)] rfl (by (try simp only [List.map_toArray, List.map_cons, List.map_nil]); first | done | rfl | (simp only [List.length_drop, List.length_take]; rfl)) ?_; (with_reducible refine (seal_Mix.calls (Go.bits .xor .u64 x5_1 x8_2) t123 _ A16.out).mono ?_); rintro e w' ⟨rfl, ⟨nd, rfl⟩⟩; refine ⟨_, rfl, ?_⟩; have q19 : (ji5 : Int) ≤ ((x1_1.length : Int) : Int) := of_decide_eq_true (by first | (with_reducible assumption) | assumption); obtain ⟨i019, hi019, _, hsz19, _⟩ := info_parts info5; have hroom19 : x1_1.length ≤ co8 := (Kd.V_reads' HO_1.out).2.1; have hC19 : Kd.F (Kd.int .u8) _ _ Ao8 x1_1.length x1_1 := (Kd.V_at (base := w.heap.size) HO_1.out).2.2; have q019 : (0 : Int) ≤ (ji5 : Int) := of_decide_eq_true (by first | (with_reducible assumption) | assumption); have hcut19 := cut_from (P := Try.prog) 24 5 .i64 Try.underlying24 hi019 1 hsz19 Ao8 x1_1.length co8 ji5 q019 q19; have hr19 := Kd.F_cut (m := (ji5 : Int).toNat) (c := co8) hC19 (by omega) hroom19; obtain ⟨A19, hA19⟩ : ∃ A1, A1 = (if co8 = (ji5 : Int).toNat then Ao8 else (Ao8 : Option Addr).map (·.add ((ji5 : Int).toNat * 1))) := ⟨_, rfl⟩; obtain ⟨c19, hc19⟩ : ∃ c1, c1 = co8 - (ji5 : Int).toNat := ⟨_, rfl⟩; have hy19 : y124.length = x1_1.length - (ji5 : Int).toNat := (by rw [Ny124.out, List.length_drop] <;> omega); rw [show (x1_1).drop (ji5 : Int).toNat = y124 from Ny124.out.symm] at hr19; replace hr19 : Kd.F (Kd.int .u8) _ _ A19 y124.length y124 := (by rw [hA19]; exact hr19); rw [← hy19, ← hA19, ← hc19] at hcut19; have HO128 := Aside0.mk (show Kd.V (Kd.int .u8) 5 _ w.heap.size _ (.slice A19 y124.length c19) y124 from Kd.V_mk (by rw [hy19, hc19]; exact Nat.sub_le_sub_right hroom19 _) hr19); have HC128 := Aside0.mk (show y124.length ≤ c19 from by rw [hy19, hc19]; exact Nat.sub_le_sub_right hroom19 _); clear hr19 hC19 hroom19 hi019 hsz19 hc19; have KY19 := Aside0.mk hy19; have KA19 := Aside0.mk hA19; clear hy19 hA19; replace q19 := eq_true q19))
                      go_roundg k2
                      case measure => have := HK1.out; have := HK2.out; omega
                      case rel => exact ⟨(y124), (t123), (by first | rfl | (simp; done) | (simp [*]; done)), H', ⟨by have := HK1.out; have := HK2.out; omega⟩, ⟨by (with_reducible repeat (first | apply Kd.V_alloc | apply Kd.V_drewN | apply Kd.V_drew)); exact HO128.out⟩, ⟨by repeat (first | (with_reducible first | exact HB.out | apply below_alloc | apply pw_below_drewN | apply below_drew1) | exact HB.out)⟩⟩
                    · rw [if_neg c18] at H
                      exact absurd H (by simp)
                  · rw [if_neg c17] at H
                    exact absurd H (by simp)
          · rw [if_neg c7] at H
            exact absurd H (by simp)
        · rw [if_neg c6] at H
          exact absurd H (by simp)
      · rw [if_neg c4] at H
        have c4b0 : decide (0 < (x1_1.length : Int)) = false := decide_eq_false c4
        have c4b1 : decide (0 < x1_1.length) = false := decide_eq_false (by omega)
        clear c4
        replace H := Option.bind_eq_some_iff.mp H
        obtain ⟨t116, A200, H⟩ := H
        replace H : (some t116) = some r := H
        have A20 := Aside0.mk A200
        clear A200
        obtain rfl := Option.some.inj H
        obtain ⟨Ao21, co21, eo21⟩ := Kd.V_slice HO_1.out
        subst eo21
        go_wp2_with (first | ((with_reducible refine gate_callee (f := 45) rfl ?_); refine goesL_ (some 49) rfl rfl Try.func45 (by kernel_rfl) rfl #[.int .u64 (Go.bits .xor .u64 x5_1 (IntKind.u64.wrap ((l1.length : Int))))] rfl (by (try simp only [List.map_toArray, List.map_cons, List.map_nil]); first | done | rfl | (simp only [List.length_drop, List.length_take]; rfl)) ?_; (with_reducible refine (seal_Mix.calls (Go.bits .xor .u64 x5_1 (IntKind.u64.wrap ((l1.length : Int)))) t116 _ A20.out).mono ?_); rintro e w' ⟨rfl, ⟨nd, rfl⟩⟩; refine ⟨_, rfl, ?_⟩))
        go_ret
        exact ⟨by first | rfl | (simp [errW_none, errW_some] <;> rfl) | (simp [*, errW_none, errW_some] <;> rfl), by repeat (first | (with_reducible first | exact HB.out | apply below_alloc | apply pw_below_drewN | apply below_drew1) | exact HB.out)⟩

end Go.Proofs.Ytohjkgboehnamaa.Q
