-- Printed by a program of this session (wip/pp), out of Lean's print of the loaded functions, and joined by another. Lean checks it.
import Derived.Test.YtdlinojgmllkoaaQma2
namespace Go.Proofs.Ytdlinojgmllkoaa.Q
open Go.RowKit Go.Proofs.YtdlinojgmllkoaaW.PrintWords Go.Proofs.YtdlinojgmllkoaaW.PrintLast Go.Proofs.YtdlinojgmllkoaaW.PrintMore
attribute [local go_sem] max2_int min2_int max_two min_two max_three min_three max_four min_four   -- for this text's walks alone
set_option linter.unusedVariables false
set_option linter.unusedSimpArgs false

mutual
def skiarealaw25_block.l0 : Nat → List Int → List Int → Int → Int → Option (Int)
  | 0, _, _, _, _ => none
  | k + 1, x0, x1, x5, x6 => if x6 < (x0.length : Int) then (if 0 ≤ x6 then (if x6 < (x1.length : Int) then (if (rd x0 x6) = (rd x1 x6) then (skiarealaw25_block.j1 k x0 x1 x5 x6 true) else (skiarealaw25_block.j1 k x0 x1 x5 x6 (x5 == (wrap64 (Int.tdiv x6 8))))) else (none)) else (none)) else (some x5)
def skiarealaw25_block.j1 : Nat → List Int → List Int → Int → Int → Bool → Option (Int)
  | 0, _, _, _, _, _ => none
  | k + 1, x0, x1, x5, x6, x32 => if x32 = true then (skiarealaw25_block.l0 k x0 x1 x5 (wrap64 (x6 + 1))) else (if x5 ≥ 0 then (some (-1)) else (skiarealaw25_block.l0 k x0 x1 (wrap64 (Int.tdiv x6 8)) (wrap64 (x6 + 1))))
end
def skiarealaw25_block.f (k : Nat) (l0 : List Int) (l1 : List Int) : Option (Int) := if (l0.length : Int) = (l1.length : Int) then (skiarealaw25_block.l0 k l0 l1 (-1) 0) else (some (-1))
theorem skiarealaw25_block.mono_l : ∀ k, (∀ y0 y1 y2 y3, LeO (skiarealaw25_block.l0 k y0 y1 y2 y3) (skiarealaw25_block.l0 (k + 1) y0 y1 y2 y3)) ∧ (∀ y0 y1 y2 y3 y4, LeO (skiarealaw25_block.j1 k y0 y1 y2 y3 y4) (skiarealaw25_block.j1 (k + 1) y0 y1 y2 y3 y4))
  | 0 => ⟨fun _ _ _ _ r h => by simp [skiarealaw25_block.l0] at h, fun _ _ _ _ _ r h => by simp [skiarealaw25_block.j1] at h⟩
  | k + 1 => by
    obtain ⟨ih0, ih1⟩ := skiarealaw25_block.mono_l k
    refine ⟨?_, ?_⟩
    · intro y0 y1 y2 y3
      unfold skiarealaw25_block.l0
      repeat' first
      | (with_reducible exact ih0 _ _ _ _)
      | (with_reducible exact ih1 _ _ _ _ _)
      | (with_reducible exact LeO.refl _)
      | (with_reducible exact LeO.none _)
      | (with_reducible refine LeO.ite ?_ ?_)
      | (with_reducible refine LeO.bind ?_ (fun _ => ?_))
      | exact ih0 _ _ _ _
      | exact ih1 _ _ _ _ _
      | exact LeO.none _
      | refine LeO.ite ?_ ?_
      | refine LeO.bind ?_ (fun _ => ?_)
    · intro y0 y1 y2 y3 y4
      unfold skiarealaw25_block.j1
      repeat' first
      | (with_reducible exact ih0 _ _ _ _)
      | (with_reducible exact ih1 _ _ _ _ _)
      | (with_reducible exact LeO.refl _)
      | (with_reducible exact LeO.none _)
      | (with_reducible refine LeO.ite ?_ ?_)
      | (with_reducible refine LeO.bind ?_ (fun _ => ?_))
      | exact ih0 _ _ _ _
      | exact ih1 _ _ _ _ _
      | exact LeO.none _
      | refine LeO.ite ?_ ?_
      | refine LeO.bind ?_ (fun _ => ?_)
theorem skiarealaw25_block.mono : ∀ a0 a1 k, LeO (skiarealaw25_block.f k a0 a1) (skiarealaw25_block.f (k + 1) a0 a1) := by
  intro a0 a1 k
  obtain ⟨ih0, ih1⟩ := skiarealaw25_block.mono_l k
  unfold skiarealaw25_block.f
  repeat' first
      | (with_reducible exact ih0 _ _ _ _)
      | (with_reducible exact ih1 _ _ _ _ _)
      | (with_reducible exact LeO.refl _)
      | (with_reducible exact LeO.none _)
      | (with_reducible refine LeO.ite ?_ ?_)
      | (with_reducible refine LeO.bind ?_ (fun _ => ?_))
      | exact ih0 _ _ _ _
      | exact ih1 _ _ _ _ _
      | exact LeO.none _
      | refine LeO.ite ?_ ?_
      | refine LeO.bind ?_ (fun _ => ?_)
set_option maxHeartbeats 8000000 in
set_option maxRecDepth 100000 in
theorem skiarealaw25_block.calls (k : Nat) (A0 : Option Addr) (c0 : Nat) (l0 : List Int) (A1 : Option Addr) (c1 : Nat) (l1 : List Int) (r : Int) (w : World) (hr0 : Kd.C (Kd.int .u8) w A0 l0.length l0) (hc0 : l0.length ≤ c0) (hr1 : Kd.C (Kd.int .u8) w A1 l1.length l1) (hc1 : l1.length ≤ c1) (h : skiarealaw25_block.f k l0 l1 = some r) :
    Calls Try.prog 26 #[.slice A0 l0.length c0, .slice A1 l1.length c1] w fun e w' => e = .returned (.int .i64 r) ∧ Drawn0 w w' := by
  have HR0 := Aside0.mk hr0
  have HC0 := Aside0.mk hc0
  clear hr0 hc0
  have HR1 := Aside0.mk hr1
  have HC1 := Aside0.mk hc1
  clear hr1 hc1
  have H : (if (l0.length : Int) = (l1.length : Int) then (skiarealaw25_block.l0 k l0 l1 (-1) 0) else (some (-1))) = some r := h
  clear h
  by_cases c3 : (l0.length : Int) = (l1.length : Int)
  · rw [if_pos c3] at H
    have c3b0 : ((l0.length : Int) == (l1.length : Int)) = true := beq_iff_eq.mpr c3
    have c3b1 : ((l0.length : Int) != (l1.length : Int)) = false := bne_eq_false_iff_eq.mpr c3
    have c3b2 : (l0.length == l1.length) = true := by first | simpa using c3 | (simp at c3 ⊢; omega)
    clear c3
    have H' := Aside0.mk H
    clear H
    go_enter Try.func26, Try.ntmps26
    go_wp2
    repeat (go_quiet (fail); try go_wp2)
    go_loopg [5, 6] k (fun kq v5 v6 w' => ∃ (x5_1 : Int) (x6_1 : Int), v5 = .int .i64 x5_1 ∧ v6 = .int .i64 x6_1 ∧ Aside0 (skiarealaw25_block.l0 kq l0 l1 x5_1 x6_1 = some r) ∧ Aside0 (kq ≤ k) ∧ Drawn0 w w')
    case atStart => exact ⟨((-1)), (0), (by first | rfl | (simp; done) | (simp [*]; done)), (by first | rfl | (simp; done) | (simp [*]; done)), H', ⟨Nat.le_refl _⟩, by repeat (first | exact Drawn0.refl _ | apply Drawn0.step)⟩
    case round =>
      clear H'
      try clear c1
      try clear c2
      try clear p2
      try clear c3
      try clear c3b0
      try clear c3b1
      try clear c3b2
      obtain ⟨x5_1, x6_1, rfl, rfl, HA, HK1, ⟨m1, rfl⟩⟩ := hrel
      cases gk with
      | zero => exact absurd HA.out (by simp [skiarealaw25_block.l0])
      | succ k1 =>
        have H := HA.out
        clear HA
        simp only [skiarealaw25_block.l0] at H
        by_cases c4 : x6_1 < (l0.length : Int)
        · rw [if_pos c4] at H
          have c4b0 : decide (x6_1 < (l0.length : Int)) = true := decide_eq_true c4
          clear c4
          have HC5 := Aside0.mk H
          clear H
          go_upto_region 7 with (fail)
          repeat (go_quiet (fail); go_upto_region 7 with (fail))
          go_cut [32] (fun v32 wc => ∃ (kq : Nat) (x32_4 : Bool), v32 = .bool x32_4 ∧ Aside0 (skiarealaw25_block.j1 kq l0 l1 x5_1 x6_1 x32_4 = some r) ∧ Aside0 (kq ≤ k1) ∧ Drawn0 w wc)
          case first =>
            have H := HC5.out
            clear HC5
            by_cases c6 : 0 ≤ x6_1
            · rw [if_pos c6] at H
              have c6b0 : decide (0 ≤ x6_1) = true := decide_eq_true c6
              clear c6
              (first | rw [c6b0] | (simp only [i64_w, i32_w, IntKind.wrap_u8, IntKind.wrap_u32]; rw [c6b0]) | skip)
              by_cases c7 : x6_1 < (l1.length : Int)
              · rw [if_pos c7] at H
                have c7b0 : decide (x6_1 < (l1.length : Int)) = true := decide_eq_true c7
                clear c7
                by_cases c8 : (rd l0 x6_1) = (rd l1 x6_1)
                · rw [if_pos c8] at H
                  have c8b0 : ((rd l0 x6_1) == (rd l1 x6_1)) = true := beq_iff_eq.mpr c8
                  have c8b1 : ((rd l0 x6_1) != (rd l1 x6_1)) = false := bne_eq_false_iff_eq.mpr c8
                  clear c8
                  have H' := Aside0.mk H
                  clear H
                  have p505 : 0 ≤ (x6_1 : Int) := of_decide_eq_true (by first | (with_reducible assumption) | assumption)
                  have q505 : x6_1 < (l0.length : Int) := of_decide_eq_true (by first | (with_reducible assumption) | assumption)
                  obtain ⟨ad505, e505, hx505_0⟩ := Kd.at_int HR0.out x6_1 p505 q505
                  cases e505
                  replace p505 := eq_true p505
                  replace q505 := eq_true q505
                  have p506 : 0 ≤ (x6_1 : Int) := of_decide_eq_true (by first | (with_reducible assumption) | assumption)
                  have q506 : x6_1 < (l1.length : Int) := of_decide_eq_true (by first | (with_reducible assumption) | assumption)
                  obtain ⟨ad506, e506, hx506_0⟩ := Kd.at_int HR1.out x6_1 p506 q506
                  cases e506
                  replace p506 := eq_true p506
                  replace q506 := eq_true q506
                  go_wp2
                  repeat (go_quiet (fail); try go_wp2)
                  go_meet
                  case rel => exact ⟨_, (true), (by first | rfl | (simp; done) | (simp [*]; done)), H', ⟨by have := HK1.out; first | omega | exact Nat.le_refl _⟩, by repeat (first | exact Drawn0.refl _ | apply Drawn0.step)⟩
                · rw [if_neg c8] at H
                  have c8b0 : ((rd l0 x6_1) == (rd l1 x6_1)) = false := beq_eq_false_iff_ne.mpr c8
                  have c8b1 : ((rd l0 x6_1) != (rd l1 x6_1)) = true := bne_iff_ne.mpr c8
                  have H' := Aside0.mk H
                  clear H
                  have p505 : 0 ≤ (x6_1 : Int) := of_decide_eq_true (by first | (with_reducible assumption) | assumption)
                  have q505 : x6_1 < (l0.length : Int) := of_decide_eq_true (by first | (with_reducible assumption) | assumption)
                  obtain ⟨ad505, e505, hx505_0⟩ := Kd.at_int HR0.out x6_1 p505 q505
                  cases e505
                  replace p505 := eq_true p505
                  replace q505 := eq_true q505
                  have p506 : 0 ≤ (x6_1 : Int) := of_decide_eq_true (by first | (with_reducible assumption) | assumption)
                  have q506 : x6_1 < (l1.length : Int) := of_decide_eq_true (by first | (with_reducible assumption) | assumption)
                  obtain ⟨ad506, e506, hx506_0⟩ := Kd.at_int HR1.out x6_1 p506 q506
                  cases e506
                  replace p506 := eq_true p506
                  replace q506 := eq_true q506
                  go_wp2
                  repeat (go_quiet (fail); try go_wp2)
                  go_meet
                  case rel => exact ⟨_, ((x5_1 == (wrap64 (Int.tdiv x6_1 8)))), (by first | rfl | (simp; done) | (simp [*]; done)), H', ⟨by have := HK1.out; first | omega | exact Nat.le_refl _⟩, by repeat (first | exact Drawn0.refl _ | apply Drawn0.step)⟩
              · rw [if_neg c7] at H
                exact absurd H (by simp)
            · rw [if_neg c6] at H
              exact absurd H (by simp)
          case rest =>
            clear HC5
            try clear c1
            try clear c2
            try clear p2
            try clear c3
            try clear c3b0
            try clear c3b1
            try clear c3b2
            try clear c4
            try clear c4b0
            try clear p5
            try clear q5
            try clear hx5
            try clear c6
            try clear c6b0
            try clear p6
            try clear c7
            try clear c7b0
            try clear c8
            try clear c8b0
            try clear c8b1
            try clear hx505_0
            try clear hx506_0
            try clear p2
            try clear p505
            try clear p506
            try clear q505
            try clear q506
            obtain ⟨kq, x32_4, rfl, HA, HJ4, ⟨mc4, rfl⟩⟩ := hcut
            cases kq with
            | zero => exact absurd HA.out (by simp [skiarealaw25_block.j1])
            | succ kj4 =>
              have H := HA.out
              clear HA
              simp only [skiarealaw25_block.j1] at H
              by_cases c9 : x32_4 = true
              · subst c9
                have H1 : (skiarealaw25_block.l0 kj4 l0 l1 x5_1 (wrap64 (x6_1 + 1))) = some r := by rw [if_pos rfl] at H; exact H
                clear H
                have H := H1
                clear H1
                have H' := Aside0.mk H
                clear H
                go_wp2
                repeat (go_quiet (fail); try go_wp2)
                go_roundg kj4
                case measure => have := HK1.out; have := HJ4.out; omega
                case rel => exact ⟨(x5_1), (wrap64 (x6_1 + 1)), (by first | rfl | (simp; done) | (simp [*]; done)), (by first | rfl | (simp; done) | (simp [*]; done)), H', ⟨by have := HK1.out; have := HJ4.out; omega⟩, by repeat (first | exact Drawn0.refl _ | apply Drawn0.step)⟩
              · replace c9 := Bool.eq_false_iff.mpr c9
                subst c9
                have H1 : (if x5_1 ≥ 0 then (some (-1)) else (skiarealaw25_block.l0 kj4 l0 l1 (wrap64 (Int.tdiv x6_1 8)) (wrap64 (x6_1 + 1)))) = some r := by rw [if_neg (show ¬ (false = true) by decide)] at H; exact H
                clear H
                have H := H1
                clear H1
                by_cases c10 : x5_1 ≥ 0
                · rw [if_pos c10] at H
                  have c10b0 : decide (0 ≤ x5_1) = true := decide_eq_true c10
                  clear c10
                  obtain rfl := Option.some.inj H
                  go_wp2
                  repeat (go_quiet (fail); try go_wp2)
                  go_ret
                  exact ⟨by first | rfl | (simp; done) | (simp [*]; done), by repeat (first | exact Drawn0.refl _ | apply Drawn0.step)⟩
                · rw [if_neg c10] at H
                  have c10b0 : decide (0 ≤ x5_1) = false := decide_eq_false c10
                  clear c10
                  have H' := Aside0.mk H
                  clear H
                  go_wp2
                  repeat (go_quiet (fail); try go_wp2)
                  go_roundg kj4
                  case measure => have := HK1.out; have := HJ4.out; omega
                  case rel => exact ⟨(wrap64 (Int.tdiv x6_1 8)), (wrap64 (x6_1 + 1)), (by first | rfl | (simp; done) | (simp [*]; done)), (by first | rfl | (simp; done) | (simp [*]; done)), H', ⟨by have := HK1.out; have := HJ4.out; omega⟩, by repeat (first | exact Drawn0.refl _ | apply Drawn0.step)⟩
        · rw [if_neg c4] at H
          have c4b0 : decide (x6_1 < (l0.length : Int)) = false := decide_eq_false c4
          clear c4
          obtain rfl := Option.some.inj H
          go_wp2
          repeat (go_quiet (fail); try go_wp2)
          go_ret
          exact ⟨by first | rfl | (simp; done) | (simp [*]; done), by repeat (first | exact Drawn0.refl _ | apply Drawn0.step)⟩
  · rw [if_neg c3] at H
    have c3b0 : ((l0.length : Int) == (l1.length : Int)) = false := beq_eq_false_iff_ne.mpr c3
    have c3b1 : ((l0.length : Int) != (l1.length : Int)) = true := bne_iff_ne.mpr c3
    have c3b2 : (l0.length == l1.length) = false := by first | simpa using c3 | (simp at c3 ⊢; omega)
    obtain rfl := Option.some.inj H
    go_enter Try.func26, Try.ntmps26
    go_wp2
    repeat (go_quiet (fail); try go_wp2)
    go_ret
    exact ⟨by first | rfl | (simp; done) | (simp [*]; done), by repeat (first | exact Drawn0.refl _ | apply Drawn0.step)⟩

end Go.Proofs.Ytdlinojgmllkoaa.Q

namespace Go.Proofs.Ytdlinojgmllkoaa.Q
open Go.RowKit Go.Proofs.YtdlinojgmllkoaaW.PrintWords Go.Proofs.YtdlinojgmllkoaaW.PrintLast Go.Proofs.YtdlinojgmllkoaaW.PrintMore
attribute [local go_sem] max2_int min2_int max_two min_two max_three min_three max_four min_four   -- for this text's walks alone
set_option linter.unusedVariables false
set_option linter.unusedSimpArgs false

attribute [local irreducible] Calls media_Body.f media_Check.f media_Decode.f media_Encode.f media_Right.f media_Sign.f skiarealaw25_alive.f skiarealaw25_block.f
attribute [local go_sem high] eqA24
def skiarealaw25_MediaBack.j0 : Nat → Int → Bool → Int → Int → Int → Int → Int → Int → Int → Int → Int → Int → Int → Int → Int → Int → Int → Int → Int → Int → Option (Bool)
  | 0, _, _, _, _, _, _, _, _, _, _, _, _, _, _, _, _, _, _, _, _ => none
  | k + 1, x0, x30, x509000, x509001, x509002, x509003, x509004, x509005, x509006, x509007, x509008, x521000, x521001, x521002, x521003, x521004, x521005, x521006, x521007, x521008 => if x30 = true then (some false) else ((media_Right.f k x521000 x509001 x509002 x509003 x509004 x509005 x509006 x509007 x521008).bind fun t535 => (if t535 = 0 then ((media_Body.f k x521000 x521001 x521002 x521003 x521004 x521005 x521006 x521007 x521008).bind fun t536 => ((media_Body.f k x521000 x509001 x509002 x509003 x509004 x509005 x509006 x509007 x521008).bind fun t539 => ((skiarealaw25_block.f k t536 t539).bind fun t542 => (if t542 < 0 then (some true) else ((media_Check.f k x0 x521000 x509001 x509002 x509003 x509004 x509005 x509006 x509007 x521008).bind fun t543 => (some (!t543))))))) else (some true)))
def skiarealaw25_MediaBack.f (k : Nat) (a0 : Int) (a1_0 : Int) (a1_1 : Int) (a1_2 : Int) (a1_3 : Int) (a1_4 : Int) (a1_5 : Int) (a1_6 : Int) (a1_7 : Int) (a1_8 : Int) (a2_0 : Int) (a2_1 : Int) (a2_2 : Int) (a2_3 : Int) (a2_4 : Int) (a2_5 : Int) (a2_6 : Int) (a2_7 : Int) (a2_8 : Int) : Option (Bool) := (skiarealaw25_alive.f k).bind fun t509 => (if t509 = true then ((media_Right.f k a1_0 a1_1 a1_2 a1_3 a1_4 a1_5 a1_6 a1_7 a1_8).bind fun t510 => (if t510 = 0 then ((media_Sign.f k a0 a1_0 a1_1 a1_2 a1_3 a1_4 a1_5 a1_6 a1_7 a1_8).bind fun bt511 => ((media_Encode.f k bt511.1 bt511.2.1 bt511.2.2.1 bt511.2.2.2.1 bt511.2.2.2.2.1 bt511.2.2.2.2.2.1 bt511.2.2.2.2.2.2.1 bt511.2.2.2.2.2.2.2.1 bt511.2.2.2.2.2.2.2.2).bind fun t521 => ((media_Decode.f k t521).bind fun bt524 => (if bt524.2.2.2.2.2.2.2.2.2 = 0 then (skiarealaw25_MediaBack.j0 k a0 (!(bt524.1 == bt511.1) || (!(bt524.2.1 == bt511.2.1) || (!(bt524.2.2.1 == bt511.2.2.1) || (!(bt524.2.2.2.1 == bt511.2.2.2.1) || (!(bt524.2.2.2.2.1 == bt511.2.2.2.2.1) || (!(bt524.2.2.2.2.2.1 == bt511.2.2.2.2.2.1) || (!(bt524.2.2.2.2.2.2.1 == bt511.2.2.2.2.2.2.1) || (!(bt524.2.2.2.2.2.2.2.1 == bt511.2.2.2.2.2.2.2.1) || (!(bt524.2.2.2.2.2.2.2.2.1 == bt511.2.2.2.2.2.2.2.2)))))))))) a2_0 a2_1 a2_2 a2_3 a2_4 a2_5 a2_6 a2_7 a2_8 bt511.1 bt511.2.1 bt511.2.2.1 bt511.2.2.2.1 bt511.2.2.2.2.1 bt511.2.2.2.2.2.1 bt511.2.2.2.2.2.2.1 bt511.2.2.2.2.2.2.2.1 bt511.2.2.2.2.2.2.2.2) else (skiarealaw25_MediaBack.j0 k a0 true a2_0 a2_1 a2_2 a2_3 a2_4 a2_5 a2_6 a2_7 a2_8 bt511.1 bt511.2.1 bt511.2.2.1 bt511.2.2.2.1 bt511.2.2.2.2.1 bt511.2.2.2.2.2.1 bt511.2.2.2.2.2.2.1 bt511.2.2.2.2.2.2.2.1 bt511.2.2.2.2.2.2.2.2))))) else (some true))) else (some false))
theorem skiarealaw25_MediaBack.mono_l : ∀ k, (∀ y0 y1 y2 y3 y4 y5 y6 y7 y8 y9 y10 y11 y12 y13 y14 y15 y16 y17 y18 y19, LeO (skiarealaw25_MediaBack.j0 k y0 y1 y2 y3 y4 y5 y6 y7 y8 y9 y10 y11 y12 y13 y14 y15 y16 y17 y18 y19) (skiarealaw25_MediaBack.j0 (k + 1) y0 y1 y2 y3 y4 y5 y6 y7 y8 y9 y10 y11 y12 y13 y14 y15 y16 y17 y18 y19))
  | 0 => fun _ _ _ _ _ _ _ _ _ _ _ _ _ _ _ _ _ _ _ _ r h => by simp [skiarealaw25_MediaBack.j0] at h
  | k + 1 => by
    have ih0 := skiarealaw25_MediaBack.mono_l k
    · intro y0 y1 y2 y3 y4 y5 y6 y7 y8 y9 y10 y11 y12 y13 y14 y15 y16 y17 y18 y19
      unfold skiarealaw25_MediaBack.j0
      repeat' first
      | (with_reducible exact ih0 _ _ _ _ _ _ _ _ _ _ _ _ _ _ _ _ _ _ _ _)
      | (with_reducible exact media_Body.mono _ _ _ _ _ _ _ _ _ _)
      | (with_reducible exact media_Check.mono _ _ _ _ _ _ _ _ _ _ _)
      | (with_reducible exact media_Decode.mono _ _)
      | (with_reducible exact media_Encode.mono _ _ _ _ _ _ _ _ _ _)
      | (with_reducible exact media_Right.mono _ _ _ _ _ _ _ _ _ _)
      | (with_reducible exact media_Sign.mono _ _ _ _ _ _ _ _ _ _ _)
      | (with_reducible exact skiarealaw25_alive.mono _)
      | (with_reducible exact skiarealaw25_block.mono _ _ _)
      | (with_reducible exact LeO.refl _)
      | (with_reducible exact LeO.none _)
      | (with_reducible refine LeO.ite ?_ ?_)
      | (with_reducible refine LeO.bind ?_ (fun _ => ?_))
      | exact ih0 _ _ _ _ _ _ _ _ _ _ _ _ _ _ _ _ _ _ _ _
      | exact media_Body.mono _ _ _ _ _ _ _ _ _ _
      | exact media_Check.mono _ _ _ _ _ _ _ _ _ _ _
      | exact media_Decode.mono _ _
      | exact media_Encode.mono _ _ _ _ _ _ _ _ _ _
      | exact media_Right.mono _ _ _ _ _ _ _ _ _ _
      | exact media_Sign.mono _ _ _ _ _ _ _ _ _ _ _
      | exact skiarealaw25_alive.mono _
      | exact skiarealaw25_block.mono _ _ _
      | exact LeO.none _
      | refine LeO.ite ?_ ?_
      | refine LeO.bind ?_ (fun _ => ?_)
theorem skiarealaw25_MediaBack.mono : ∀ a0 a1 a2 a3 a4 a5 a6 a7 a8 a9 a10 a11 a12 a13 a14 a15 a16 a17 a18 k, LeO (skiarealaw25_MediaBack.f k a0 a1 a2 a3 a4 a5 a6 a7 a8 a9 a10 a11 a12 a13 a14 a15 a16 a17 a18) (skiarealaw25_MediaBack.f (k + 1) a0 a1 a2 a3 a4 a5 a6 a7 a8 a9 a10 a11 a12 a13 a14 a15 a16 a17 a18) := by
  intro a0 a1 a2 a3 a4 a5 a6 a7 a8 a9 a10 a11 a12 a13 a14 a15 a16 a17 a18 k
  have ih0 := skiarealaw25_MediaBack.mono_l k
  unfold skiarealaw25_MediaBack.f
  repeat' first
      | (with_reducible exact ih0 _ _ _ _ _ _ _ _ _ _ _ _ _ _ _ _ _ _ _ _)
      | (with_reducible exact media_Body.mono _ _ _ _ _ _ _ _ _ _)
      | (with_reducible exact media_Check.mono _ _ _ _ _ _ _ _ _ _ _)
      | (with_reducible exact media_Decode.mono _ _)
      | (with_reducible exact media_Encode.mono _ _ _ _ _ _ _ _ _ _)
      | (with_reducible exact media_Right.mono _ _ _ _ _ _ _ _ _ _)
      | (with_reducible exact media_Sign.mono _ _ _ _ _ _ _ _ _ _ _)
      | (with_reducible exact skiarealaw25_alive.mono _)
      | (with_reducible exact skiarealaw25_block.mono _ _ _)
      | (with_reducible exact LeO.refl _)
      | (with_reducible exact LeO.none _)
      | (with_reducible refine LeO.ite ?_ ?_)
      | (with_reducible refine LeO.bind ?_ (fun _ => ?_))
      | exact ih0 _ _ _ _ _ _ _ _ _ _ _ _ _ _ _ _ _ _ _ _
      | exact media_Body.mono _ _ _ _ _ _ _ _ _ _
      | exact media_Check.mono _ _ _ _ _ _ _ _ _ _ _
      | exact media_Decode.mono _ _
      | exact media_Encode.mono _ _ _ _ _ _ _ _ _ _
      | exact media_Right.mono _ _ _ _ _ _ _ _ _ _
      | exact media_Sign.mono _ _ _ _ _ _ _ _ _ _ _
      | exact skiarealaw25_alive.mono _
      | exact skiarealaw25_block.mono _ _ _
      | exact LeO.none _
      | refine LeO.ite ?_ ?_
      | refine LeO.bind ?_ (fun _ => ?_)
def skiarealaw25_MediaBack.T9 : Bool × List (List Nat × List Nat) := (true, [([], []), ([0], [0]), ([], []), ([2], [2]), ([0, 1], []), ([4, 1, 0, 1], [1, 4]), ([0, 1, 2, 3, 4, 5], []), ([6, 3, 5, 0, 1, 2, 3, 4, 5], [3, 6])])
def skiarealaw25_MediaBack.B9 : List Nat := [0, 1, 0, 4, 3, 19, 63, 127]
theorem skiarealaw25_MediaBack.tab9 : rtab .any (opsOf Try.f8 9) = skiarealaw25_MediaBack.T9 := by kernel_rfl
theorem skiarealaw25_MediaBack.bits9 : waitsOk skiarealaw25_MediaBack.T9.2 skiarealaw25_MediaBack.B9 = true := by kernel_rfl
def skiarealaw25_MediaBack.T10 : Bool × List (List Nat × List Nat) := (true, [([], []), ([0], [0]), ([1], [1]), ([2, 1], [2]), ([3], [3]), ([4, 3, 3], [3, 4]), ([3], [3]), ([6, 5, 3], [3, 6]), ([5, 7, 7, 3], [3, 5, 7]), ([8, 3], [3, 8]), ([3, 9], [3, 9])])
def skiarealaw25_MediaBack.B10 : List Nat := [0, 1, 3, 7, 15, 31, 15, 127, 255, 511, 1023]
theorem skiarealaw25_MediaBack.tab10 : rtab .any (opsOf Try.f8 10) = skiarealaw25_MediaBack.T10 := by kernel_rfl
theorem skiarealaw25_MediaBack.bits10 : waitsOk skiarealaw25_MediaBack.T10.2 skiarealaw25_MediaBack.B10 = true := by kernel_rfl
set_option maxHeartbeats 8000000 in
set_option maxRecDepth 100000 in
theorem skiarealaw25_MediaBack.calls (k : Nat) (a0 : Int) (a1_0 : Int) (a1_1 : Int) (a1_2 : Int) (a1_3 : Int) (a1_4 : Int) (a1_5 : Int) (a1_6 : Int) (a1_7 : Int) (a1_8 : Int) (a2_0 : Int) (a2_1 : Int) (a2_2 : Int) (a2_3 : Int) (a2_4 : Int) (a2_5 : Int) (a2_6 : Int) (a2_7 : Int) (a2_8 : Int) (r : Bool) (w : World) (h : skiarealaw25_MediaBack.f k a0 a1_0 a1_1 a1_2 a1_3 a1_4 a1_5 a1_6 a1_7 a1_8 a2_0 a2_1 a2_2 a2_3 a2_4 a2_5 a2_6 a2_7 a2_8 = some r) :
    Calls Try.prog 8 #[.int .u64 a0, .agg #[.int .i64 a1_0, .int .i64 a1_1, .int .i64 a1_2, .int .i64 a1_3, .int .i64 a1_4, .int .i64 a1_5, .int .i64 a1_6, .int .i64 a1_7, .int .u64 a1_8], .agg #[.int .i64 a2_0, .int .i64 a2_1, .int .i64 a2_2, .int .i64 a2_3, .int .i64 a2_4, .int .i64 a2_5, .int .i64 a2_6, .int .i64 a2_7, .int .u64 a2_8]] w fun e w' => e = .returned (.bool r) ∧ Below w.heap.size w w' := by
  have hu24 := Try.underlying24
  have HB := Aside0.mk (Below.refl w.heap.size w)
  have H : ((skiarealaw25_alive.f k).bind fun t509 => (if t509 = true then ((media_Right.f k a1_0 a1_1 a1_2 a1_3 a1_4 a1_5 a1_6 a1_7 a1_8).bind fun t510 => (if t510 = 0 then ((media_Sign.f k a0 a1_0 a1_1 a1_2 a1_3 a1_4 a1_5 a1_6 a1_7 a1_8).bind fun bt511 => ((media_Encode.f k bt511.1 bt511.2.1 bt511.2.2.1 bt511.2.2.2.1 bt511.2.2.2.2.1 bt511.2.2.2.2.2.1 bt511.2.2.2.2.2.2.1 bt511.2.2.2.2.2.2.2.1 bt511.2.2.2.2.2.2.2.2).bind fun t521 => ((media_Decode.f k t521).bind fun bt524 => (if bt524.2.2.2.2.2.2.2.2.2 = 0 then (skiarealaw25_MediaBack.j0 k a0 (!(bt524.1 == bt511.1) || (!(bt524.2.1 == bt511.2.1) || (!(bt524.2.2.1 == bt511.2.2.1) || (!(bt524.2.2.2.1 == bt511.2.2.2.1) || (!(bt524.2.2.2.2.1 == bt511.2.2.2.2.1) || (!(bt524.2.2.2.2.2.1 == bt511.2.2.2.2.2.1) || (!(bt524.2.2.2.2.2.2.1 == bt511.2.2.2.2.2.2.1) || (!(bt524.2.2.2.2.2.2.2.1 == bt511.2.2.2.2.2.2.2.1) || (!(bt524.2.2.2.2.2.2.2.2.1 == bt511.2.2.2.2.2.2.2.2)))))))))) a2_0 a2_1 a2_2 a2_3 a2_4 a2_5 a2_6 a2_7 a2_8 bt511.1 bt511.2.1 bt511.2.2.1 bt511.2.2.2.1 bt511.2.2.2.2.1 bt511.2.2.2.2.2.1 bt511.2.2.2.2.2.2.1 bt511.2.2.2.2.2.2.2.1 bt511.2.2.2.2.2.2.2.2) else (skiarealaw25_MediaBack.j0 k a0 true a2_0 a2_1 a2_2 a2_3 a2_4 a2_5 a2_6 a2_7 a2_8 bt511.1 bt511.2.1 bt511.2.2.1 bt511.2.2.2.1 bt511.2.2.2.2.1 bt511.2.2.2.2.2.1 bt511.2.2.2.2.2.2.1 bt511.2.2.2.2.2.2.2.1 bt511.2.2.2.2.2.2.2.2))))) else (some true))) else (some false))) = some r := h
  clear h
  replace H := Option.bind_eq_some_iff.mp H
  obtain ⟨t509, A40, H⟩ := H
  replace H : (if t509 = true then ((media_Right.f k a1_0 a1_1 a1_2 a1_3 a1_4 a1_5 a1_6 a1_7 a1_8).bind fun t510 => (if t510 = 0 then ((media_Sign.f k a0 a1_0 a1_1 a1_2 a1_3 a1_4 a1_5 a1_6 a1_7 a1_8).bind fun bt511 => ((media_Encode.f k bt511.1 bt511.2.1 bt511.2.2.1 bt511.2.2.2.1 bt511.2.2.2.2.1 bt511.2.2.2.2.2.1 bt511.2.2.2.2.2.2.1 bt511.2.2.2.2.2.2.2.1 bt511.2.2.2.2.2.2.2.2).bind fun t521 => ((media_Decode.f k t521).bind fun bt524 => (if bt524.2.2.2.2.2.2.2.2.2 = 0 then (skiarealaw25_MediaBack.j0 k a0 (!(bt524.1 == bt511.1) || (!(bt524.2.1 == bt511.2.1) || (!(bt524.2.2.1 == bt511.2.2.1) || (!(bt524.2.2.2.1 == bt511.2.2.2.1) || (!(bt524.2.2.2.2.1 == bt511.2.2.2.2.1) || (!(bt524.2.2.2.2.2.1 == bt511.2.2.2.2.2.1) || (!(bt524.2.2.2.2.2.2.1 == bt511.2.2.2.2.2.2.1) || (!(bt524.2.2.2.2.2.2.2.1 == bt511.2.2.2.2.2.2.2.1) || (!(bt524.2.2.2.2.2.2.2.2.1 == bt511.2.2.2.2.2.2.2.2)))))))))) a2_0 a2_1 a2_2 a2_3 a2_4 a2_5 a2_6 a2_7 a2_8 bt511.1 bt511.2.1 bt511.2.2.1 bt511.2.2.2.1 bt511.2.2.2.2.1 bt511.2.2.2.2.2.1 bt511.2.2.2.2.2.2.1 bt511.2.2.2.2.2.2.2.1 bt511.2.2.2.2.2.2.2.2) else (skiarealaw25_MediaBack.j0 k a0 true a2_0 a2_1 a2_2 a2_3 a2_4 a2_5 a2_6 a2_7 a2_8 bt511.1 bt511.2.1 bt511.2.2.1 bt511.2.2.2.1 bt511.2.2.2.2.1 bt511.2.2.2.2.2.1 bt511.2.2.2.2.2.2.1 bt511.2.2.2.2.2.2.2.1 bt511.2.2.2.2.2.2.2.2))))) else (some true))) else (some false)) = some r := H
  have A4 := Aside0.mk A40
  clear A40
  by_cases c5 : t509 = true
  · subst c5
    have H1 : ((media_Right.f k a1_0 a1_1 a1_2 a1_3 a1_4 a1_5 a1_6 a1_7 a1_8).bind fun t510 => (if t510 = 0 then ((media_Sign.f k a0 a1_0 a1_1 a1_2 a1_3 a1_4 a1_5 a1_6 a1_7 a1_8).bind fun bt511 => ((media_Encode.f k bt511.1 bt511.2.1 bt511.2.2.1 bt511.2.2.2.1 bt511.2.2.2.2.1 bt511.2.2.2.2.2.1 bt511.2.2.2.2.2.2.1 bt511.2.2.2.2.2.2.2.1 bt511.2.2.2.2.2.2.2.2).bind fun t521 => ((media_Decode.f k t521).bind fun bt524 => (if bt524.2.2.2.2.2.2.2.2.2 = 0 then (skiarealaw25_MediaBack.j0 k a0 (!(bt524.1 == bt511.1) || (!(bt524.2.1 == bt511.2.1) || (!(bt524.2.2.1 == bt511.2.2.1) || (!(bt524.2.2.2.1 == bt511.2.2.2.1) || (!(bt524.2.2.2.2.1 == bt511.2.2.2.2.1) || (!(bt524.2.2.2.2.2.1 == bt511.2.2.2.2.2.1) || (!(bt524.2.2.2.2.2.2.1 == bt511.2.2.2.2.2.2.1) || (!(bt524.2.2.2.2.2.2.2.1 == bt511.2.2.2.2.2.2.2.1) || (!(bt524.2.2.2.2.2.2.2.2.1 == bt511.2.2.2.2.2.2.2.2)))))))))) a2_0 a2_1 a2_2 a2_3 a2_4 a2_5 a2_6 a2_7 a2_8 bt511.1 bt511.2.1 bt511.2.2.1 bt511.2.2.2.1 bt511.2.2.2.2.1 bt511.2.2.2.2.2.1 bt511.2.2.2.2.2.2.1 bt511.2.2.2.2.2.2.2.1 bt511.2.2.2.2.2.2.2.2) else (skiarealaw25_MediaBack.j0 k a0 true a2_0 a2_1 a2_2 a2_3 a2_4 a2_5 a2_6 a2_7 a2_8 bt511.1 bt511.2.1 bt511.2.2.1 bt511.2.2.2.1 bt511.2.2.2.2.1 bt511.2.2.2.2.2.1 bt511.2.2.2.2.2.2.1 bt511.2.2.2.2.2.2.2.1 bt511.2.2.2.2.2.2.2.2))))) else (some true))) = some r := by rw [if_pos rfl] at H; exact H
    clear H
    have H := H1
    clear H1
    replace H := Option.bind_eq_some_iff.mp H
    obtain ⟨t510, A60, H⟩ := H
    replace H : (if t510 = 0 then ((media_Sign.f k a0 a1_0 a1_1 a1_2 a1_3 a1_4 a1_5 a1_6 a1_7 a1_8).bind fun bt511 => ((media_Encode.f k bt511.1 bt511.2.1 bt511.2.2.1 bt511.2.2.2.1 bt511.2.2.2.2.1 bt511.2.2.2.2.2.1 bt511.2.2.2.2.2.2.1 bt511.2.2.2.2.2.2.2.1 bt511.2.2.2.2.2.2.2.2).bind fun t521 => ((media_Decode.f k t521).bind fun bt524 => (if bt524.2.2.2.2.2.2.2.2.2 = 0 then (skiarealaw25_MediaBack.j0 k a0 (!(bt524.1 == bt511.1) || (!(bt524.2.1 == bt511.2.1) || (!(bt524.2.2.1 == bt511.2.2.1) || (!(bt524.2.2.2.1 == bt511.2.2.2.1) || (!(bt524.2.2.2.2.1 == bt511.2.2.2.2.1) || (!(bt524.2.2.2.2.2.1 == bt511.2.2.2.2.2.1) || (!(bt524.2.2.2.2.2.2.1 == bt511.2.2.2.2.2.2.1) || (!(bt524.2.2.2.2.2.2.2.1 == bt511.2.2.2.2.2.2.2.1) || (!(bt524.2.2.2.2.2.2.2.2.1 == bt511.2.2.2.2.2.2.2.2)))))))))) a2_0 a2_1 a2_2 a2_3 a2_4 a2_5 a2_6 a2_7 a2_8 bt511.1 bt511.2.1 bt511.2.2.1 bt511.2.2.2.1 bt511.2.2.2.2.1 bt511.2.2.2.2.2.1 bt511.2.2.2.2.2.2.1 bt511.2.2.2.2.2.2.2.1 bt511.2.2.2.2.2.2.2.2) else (skiarealaw25_MediaBack.j0 k a0 true a2_0 a2_1 a2_2 a2_3 a2_4 a2_5 a2_6 a2_7 a2_8 bt511.1 bt511.2.1 bt511.2.2.1 bt511.2.2.2.1 bt511.2.2.2.2.1 bt511.2.2.2.2.2.1 bt511.2.2.2.2.2.2.1 bt511.2.2.2.2.2.2.2.1 bt511.2.2.2.2.2.2.2.2))))) else (some true)) = some r := H
    have A6 := Aside0.mk A60
    clear A60
    by_cases c7 : t510 = 0
    · rw [if_pos c7] at H
      have c7b0 : (t510 == 0) = true := beq_iff_eq.mpr c7
      have c7b1 : (t510 != 0) = false := bne_eq_false_iff_eq.mpr c7
      clear c7
      replace H := Option.bind_eq_some_iff.mp H
      obtain ⟨⟨t511, t512, t513, t514, t515, t516, t517, t518, t519⟩, A80, H⟩ := H
      replace H : ((media_Encode.f k t511 t512 t513 t514 t515 t516 t517 t518 t519).bind fun t521 => ((media_Decode.f k t521).bind fun bt524 => (if bt524.2.2.2.2.2.2.2.2.2 = 0 then (skiarealaw25_MediaBack.j0 k a0 (!(bt524.1 == t511) || (!(bt524.2.1 == t512) || (!(bt524.2.2.1 == t513) || (!(bt524.2.2.2.1 == t514) || (!(bt524.2.2.2.2.1 == t515) || (!(bt524.2.2.2.2.2.1 == t516) || (!(bt524.2.2.2.2.2.2.1 == t517) || (!(bt524.2.2.2.2.2.2.2.1 == t518) || (!(bt524.2.2.2.2.2.2.2.2.1 == t519)))))))))) a2_0 a2_1 a2_2 a2_3 a2_4 a2_5 a2_6 a2_7 a2_8 t511 t512 t513 t514 t515 t516 t517 t518 t519) else (skiarealaw25_MediaBack.j0 k a0 true a2_0 a2_1 a2_2 a2_3 a2_4 a2_5 a2_6 a2_7 a2_8 t511 t512 t513 t514 t515 t516 t517 t518 t519)))) = some r := H
      have A8 := Aside0.mk A80
      clear A80
      replace H := Option.bind_eq_some_iff.mp H
      obtain ⟨t521, A90, H⟩ := H
      replace H : ((media_Decode.f k t521).bind fun bt524 => (if bt524.2.2.2.2.2.2.2.2.2 = 0 then (skiarealaw25_MediaBack.j0 k a0 (!(bt524.1 == t511) || (!(bt524.2.1 == t512) || (!(bt524.2.2.1 == t513) || (!(bt524.2.2.2.1 == t514) || (!(bt524.2.2.2.2.1 == t515) || (!(bt524.2.2.2.2.2.1 == t516) || (!(bt524.2.2.2.2.2.2.1 == t517) || (!(bt524.2.2.2.2.2.2.2.1 == t518) || (!(bt524.2.2.2.2.2.2.2.2.1 == t519)))))))))) a2_0 a2_1 a2_2 a2_3 a2_4 a2_5 a2_6 a2_7 a2_8 t511 t512 t513 t514 t515 t516 t517 t518 t519) else (skiarealaw25_MediaBack.j0 k a0 true a2_0 a2_1 a2_2 a2_3 a2_4 a2_5 a2_6 a2_7 a2_8 t511 t512 t513 t514 t515 t516 t517 t518 t519))) = some r := H
      have A9 := Aside0.mk A90
      clear A90
      replace H := Option.bind_eq_some_iff.mp H
      obtain ⟨⟨t524, t525, t526, t527, t528, t529, t530, t531, t532, t533⟩, A100, H⟩ := H
      replace H : (if t533 = 0 then (skiarealaw25_MediaBack.j0 k a0 (!(t524 == t511) || (!(t525 == t512) || (!(t526 == t513) || (!(t527 == t514) || (!(t528 == t515) || (!(t529 == t516) || (!(t530 == t517) || (!(t531 == t518) || (!(t532 == t519)))))))))) a2_0 a2_1 a2_2 a2_3 a2_4 a2_5 a2_6 a2_7 a2_8 t511 t512 t513 t514 t515 t516 t517 t518 t519) else (skiarealaw25_MediaBack.j0 k a0 true a2_0 a2_1 a2_2 a2_3 a2_4 a2_5 a2_6 a2_7 a2_8 t511 t512 t513 t514 t515 t516 t517 t518 t519)) = some r := H
      have A10 := Aside0.mk A100
      clear A100
      have HC11 := Aside0.mk H
      clear H
      go_enter Try.func8, Try.ntmps8
      go_upto_region 7 with (first | ((with_reducible refine gate_dst (N := 4) rfl ?_); refine box_event ?hg (N := 4) ?hd (cs := #[.int .i64 a1_0, .int .i64 a1_1, .int .i64 a1_2, .int .i64 a1_3, .int .i64 a1_4, .int .i64 a1_5, .int .i64 a1_6, .int .i64 a1_7, .int .u64 a1_8]) (t := 24) ?hr ?_; (case hd => rfl); (case hg => rfl); (case hr => first | (go_simp; done) | (go_simp; rfl)); intro gb507 hg w12 hbox hb; have n0_ := Aside0.mk (below_step (by repeat (first | (with_reducible first | exact HB.out | apply below_alloc | apply pw_below_drewN | apply below_drew1) | exact HB.out)) hb); have n1_ := Aside0.mk (hbox); have n2_ := Aside0.mk ((by rw [hg]; exact (below_size (by repeat (first | (with_reducible first | exact HB.out | apply below_alloc | apply pw_below_drewN | apply below_drew1) | exact HB.out))) : w.heap.size ≤ gb507)); have n3_ := Aside0.mk ((by rw [hg]; exact (below_size (by repeat (first | (with_reducible first | exact HB.out | apply below_alloc | apply pw_below_drewN | apply below_drew1) | exact HB.out))) : w.heap.size ≤ gb507)); clear HB; have HB := n0_; have BK507 := n1_; have GW507 := n2_; have GE507 := n3_; clear n0_ n1_ n2_ n3_; clear hb hbox hg) | ((with_reducible refine gate_dst (N := 5) rfl ?_); refine box_event ?hg (N := 5) ?hd (cs := #[.int .i64 a2_0, .int .i64 a2_1, .int .i64 a2_2, .int .i64 a2_3, .int .i64 a2_4, .int .i64 a2_5, .int .i64 a2_6, .int .i64 a2_7, .int .u64 a2_8]) (t := 24) ?hr ?_; (case hd => rfl); (case hg => rfl); (case hr => first | (go_simp; done) | (go_simp; rfl)); intro gb508 hg w13 hbox hb; have n0_ := Aside0.mk (blk_below (g := gb507) (o := .cells #[.int .i64 a1_0, .int .i64 a1_1, .int .i64 a1_2, .int .i64 a1_3, .int .i64 a1_4, .int .i64 a1_5, .int .i64 a1_6, .int .i64 a1_7, .int .u64 a1_8] 24 (0, 0)) (by (with_reducible repeat (first | refine blk_drewN ?_ _ | refine blk_drew ?_ | refine blk_alloc ?_ _)); exact BK507.out) hb); have n1_ := Aside0.mk (below_step (by repeat (first | (with_reducible first | exact HB.out | apply below_alloc | apply pw_below_drewN | apply below_drew1 | refine below_set ?_ GE507.out) | exact HB.out)) hb); have n2_ := Aside0.mk (hbox); have n3_ := Aside0.mk ((by rw [hg]; exact (below_size (by repeat (first | (with_reducible first | exact HB.out | apply below_alloc | apply pw_below_drewN | apply below_drew1 | refine below_set ?_ GE507.out) | exact HB.out))) : w.heap.size ≤ gb508)); have n4_ := Aside0.mk ((by rw [hg]; exact (below_size (by repeat (first | (with_reducible first | exact HB.out | apply below_alloc | apply pw_below_drewN | apply below_drew1 | refine below_set ?_ GE507.out) | exact HB.out))) : w.heap.size ≤ gb508)); have n5_ := Aside0.mk ((by rw [hg]; exact Nat.ne_of_lt (blk_lt (g := gb507) (o := .cells #[.int .i64 a1_0, .int .i64 a1_1, .int .i64 a1_2, .int .i64 a1_3, .int .i64 a1_4, .int .i64 a1_5, .int .i64 a1_6, .int .i64 a1_7, .int .u64 a1_8] 24 (0, 0)) (by (with_reducible repeat (first | refine blk_drewN ?_ _ | refine blk_drew ?_ | refine blk_alloc ?_ _)); exact BK507.out)) : gb507 ≠ gb508)); have n6_ := Aside0.mk ((by rw [hg]; exact Nat.ne_of_gt (blk_lt (g := gb507) (o := .cells #[.int .i64 a1_0, .int .i64 a1_1, .int .i64 a1_2, .int .i64 a1_3, .int .i64 a1_4, .int .i64 a1_5, .int .i64 a1_6, .int .i64 a1_7, .int .u64 a1_8] 24 (0, 0)) (by (with_reducible repeat (first | refine blk_drewN ?_ _ | refine blk_drew ?_ | refine blk_alloc ?_ _)); exact BK507.out)) : gb508 ≠ gb507)); clear BK507; clear HB; have BK507 := n0_; have HB := n1_; have BK508 := n2_; have GW508 := n3_; have GE508 := n4_; have NB507_508 := n5_; have NB508_507 := n6_; clear n0_ n1_ n2_ n3_ n4_ n5_ n6_; clear hb hbox hg) | ((with_reducible refine gate_callee (f := 10) rfl ?_); refine goesL_ (some 10) rfl rfl Try.func10 (by kernel_rfl) rfl #[] rfl (by (try simp only [List.map_toArray, List.map_cons, List.map_nil]); first | done | rfl | (simp only [List.length_drop, List.length_take]; rfl)) ?_; (with_reducible refine (skiarealaw25_alive.calls k  true _ A4.out).mono ?_); rintro e w14 ⟨rfl, hb⟩; refine ⟨_, rfl, ?_⟩; have n0_ := Aside0.mk (blk_below (g := gb507) (o := .cells #[.int .i64 a1_0, .int .i64 a1_1, .int .i64 a1_2, .int .i64 a1_3, .int .i64 a1_4, .int .i64 a1_5, .int .i64 a1_6, .int .i64 a1_7, .int .u64 a1_8] 24 (0, 0)) (by (with_reducible repeat (first | refine blk_drewN ?_ _ | refine blk_drew ?_ | refine blk_alloc ?_ _)); exact BK507.out) hb); have n1_ := Aside0.mk (blk_below (g := gb508) (o := .cells #[.int .i64 a2_0, .int .i64 a2_1, .int .i64 a2_2, .int .i64 a2_3, .int .i64 a2_4, .int .i64 a2_5, .int .i64 a2_6, .int .i64 a2_7, .int .u64 a2_8] 24 (0, 0)) (by (with_reducible repeat (first | refine blk_drewN ?_ _ | refine blk_drew ?_ | refine blk_alloc ?_ _)); exact BK508.out) hb); have n2_ := Aside0.mk (below_step (by repeat (first | (with_reducible first | exact HB.out | apply below_alloc | apply pw_below_drewN | apply below_drew1 | refine below_set ?_ GE507.out | refine below_set ?_ GE508.out) | exact HB.out)) hb); clear BK507; clear BK508; clear HB; have BK507 := n0_; have BK508 := n1_; have HB := n2_; clear n0_ n1_ n2_; (try clear hb); (try clear hb2); (try clear hk); (try clear hi); have hnb15 := NB507_508.out; have hnc15 := NB508_507.out; have hcz16_0 : w14.cell? ⟨gb507, 0, none⟩ = some (.int .i64 a1_0) := (blk_cell BK507.out 0).trans rfl; have hcz16_1 : w14.cell? ⟨gb507, 1, none⟩ = some (.int .i64 a1_1) := (blk_cell BK507.out 1).trans rfl; have hcz16_2 : w14.cell? ⟨gb507, 2, none⟩ = some (.int .i64 a1_2) := (blk_cell BK507.out 2).trans rfl; have hcz16_3 : w14.cell? ⟨gb507, 3, none⟩ = some (.int .i64 a1_3) := (blk_cell BK507.out 3).trans rfl; have hcz16_4 : w14.cell? ⟨gb507, 4, none⟩ = some (.int .i64 a1_4) := (blk_cell BK507.out 4).trans rfl; have hcz16_5 : w14.cell? ⟨gb507, 5, none⟩ = some (.int .i64 a1_5) := (blk_cell BK507.out 5).trans rfl; have hcz16_6 : w14.cell? ⟨gb507, 6, none⟩ = some (.int .i64 a1_6) := (blk_cell BK507.out 6).trans rfl; have hcz16_7 : w14.cell? ⟨gb507, 7, none⟩ = some (.int .i64 a1_7) := (blk_cell BK507.out 7).trans rfl; have hcz16_8 : w14.cell? ⟨gb507, 8, none⟩ = some (.int .u64 a1_8) := (blk_cell BK507.out 8).trans rfl; have hfz16_0 := blk_frozen BK507.out 0; have hfz16_1 := blk_frozen BK507.out 1; have hfz16_2 := blk_frozen BK507.out 2; have hfz16_3 := blk_frozen BK507.out 3; have hfz16_4 := blk_frozen BK507.out 4; have hfz16_5 := blk_frozen BK507.out 5; have hfz16_6 := blk_frozen BK507.out 6; have hfz16_7 := blk_frozen BK507.out 7; have hfz16_8 := blk_frozen BK507.out 8) | ((with_reducible refine gate_callee (f := 11) rfl ?_); refine goesL_ (some 13) rfl rfl Try.func11 (by kernel_rfl) rfl #[.agg #[.int .i64 a1_0, .int .i64 a1_1, .int .i64 a1_2, .int .i64 a1_3, .int .i64 a1_4, .int .i64 a1_5, .int .i64 a1_6, .int .i64 a1_7, .int .u64 a1_8]] rfl (by (try simp only [List.map_toArray, List.map_cons, List.map_nil]); first | done | rfl | (simp only [List.length_drop, List.length_take]; rfl)) ?_; (with_reducible refine (media_Right.calls k a1_0 a1_1 a1_2 a1_3 a1_4 a1_5 a1_6 a1_7 a1_8 t510 _ A6.out).mono ?_); rintro e w17 ⟨rfl, hb⟩; refine ⟨_, rfl, ?_⟩; have n0_ := Aside0.mk (blk_below (g := gb507) (o := .cells #[.int .i64 a1_0, .int .i64 a1_1, .int .i64 a1_2, .int .i64 a1_3, .int .i64 a1_4, .int .i64 a1_5, .int .i64 a1_6, .int .i64 a1_7, .int .u64 a1_8] 24 (0, 0)) (by (with_reducible repeat (first | refine blk_drewN ?_ _ | refine blk_drew ?_ | refine blk_alloc ?_ _)); exact BK507.out) hb); have n1_ := Aside0.mk (blk_below (g := gb508) (o := .cells #[.int .i64 a2_0, .int .i64 a2_1, .int .i64 a2_2, .int .i64 a2_3, .int .i64 a2_4, .int .i64 a2_5, .int .i64 a2_6, .int .i64 a2_7, .int .u64 a2_8] 24 (0, 0)) (by (with_reducible repeat (first | refine blk_drewN ?_ _ | refine blk_drew ?_ | refine blk_alloc ?_ _)); exact BK508.out) hb); have n2_ := Aside0.mk (below_step (by repeat (first | (with_reducible first | exact HB.out | apply below_alloc | apply pw_below_drewN | apply below_drew1 | refine below_set ?_ GE507.out | refine below_set ?_ GE508.out) | exact HB.out)) hb); clear BK507; clear BK508; clear HB; have BK507 := n0_; have BK508 := n1_; have HB := n2_; clear n0_ n1_ n2_; (try clear hb); (try clear hb2); (try clear hk); (try clear hi); have hcz18_0 : w17.cell? ⟨gb507, 0, none⟩ = some (.int .i64 a1_0) := (blk_cell BK507.out 0).trans rfl; have hcz18_1 : w17.cell? ⟨gb507, 1, none⟩ = some (.int .i64 a1_1) := (blk_cell BK507.out 1).trans rfl; have hcz18_2 : w17.cell? ⟨gb507, 2, none⟩ = some (.int .i64 a1_2) := (blk_cell BK507.out 2).trans rfl; have hcz18_3 : w17.cell? ⟨gb507, 3, none⟩ = some (.int .i64 a1_3) := (blk_cell BK507.out 3).trans rfl; have hcz18_4 : w17.cell? ⟨gb507, 4, none⟩ = some (.int .i64 a1_4) := (blk_cell BK507.out 4).trans rfl; have hcz18_5 : w17.cell? ⟨gb507, 5, none⟩ = some (.int .i64 a1_5) := (blk_cell BK507.out 5).trans rfl; have hcz18_6 : w17.cell? ⟨gb507, 6, none⟩ = some (.int .i64 a1_6) := (blk_cell BK507.out 6).trans rfl; have hcz18_7 : w17.cell? ⟨gb507, 7, none⟩ = some (.int .i64 a1_7) := (blk_cell BK507.out 7).trans rfl; have hcz18_8 : w17.cell? ⟨gb507, 8, none⟩ = some (.int .u64 a1_8) := (blk_cell BK507.out 8).trans rfl; have hfz18_0 := blk_frozen BK507.out 0; have hfz18_1 := blk_frozen BK507.out 1; have hfz18_2 := blk_frozen BK507.out 2; have hfz18_3 := blk_frozen BK507.out 3; have hfz18_4 := blk_frozen BK507.out 4; have hfz18_5 := blk_frozen BK507.out 5; have hfz18_6 := blk_frozen BK507.out 6; have hfz18_7 := blk_frozen BK507.out 7; have hfz18_8 := blk_frozen BK507.out 8) | ((with_reducible refine gate_callee (f := 17) rfl ?_); refine goesL_ (some 17) rfl rfl Try.func17 (by kernel_rfl) rfl #[.int .u64 a0, .agg #[.int .i64 a1_0, .int .i64 a1_1, .int .i64 a1_2, .int .i64 a1_3, .int .i64 a1_4, .int .i64 a1_5, .int .i64 a1_6, .int .i64 a1_7, .int .u64 a1_8]] rfl (by (try simp only [List.map_toArray, List.map_cons, List.map_nil]); first | done | rfl | (simp only [List.length_drop, List.length_take]; rfl)) ?_; (with_reducible refine (media_Sign.calls k a0 a1_0 a1_1 a1_2 a1_3 a1_4 a1_5 a1_6 a1_7 a1_8 t511 t512 t513 t514 t515 t516 t517 t518 t519 _ A8.out).mono ?_); rintro e w19 ⟨rfl, hb⟩; refine ⟨_, rfl, ?_⟩; have n0_ := Aside0.mk (blk_below (g := gb507) (o := .cells #[.int .i64 a1_0, .int .i64 a1_1, .int .i64 a1_2, .int .i64 a1_3, .int .i64 a1_4, .int .i64 a1_5, .int .i64 a1_6, .int .i64 a1_7, .int .u64 a1_8] 24 (0, 0)) (by (with_reducible repeat (first | refine blk_drewN ?_ _ | refine blk_drew ?_ | refine blk_alloc ?_ _)); exact BK507.out) hb); have n1_ := Aside0.mk (blk_below (g := gb508) (o := .cells #[.int .i64 a2_0, .int .i64 a2_1, .int .i64 a2_2, .int .i64 a2_3, .int .i64 a2_4, .int .i64 a2_5, .int .i64 a2_6, .int .i64 a2_7, .int .u64 a2_8] 24 (0, 0)) (by (with_reducible repeat (first | refine blk_drewN ?_ _ | refine blk_drew ?_ | refine blk_alloc ?_ _)); exact BK508.out) hb); have n2_ := Aside0.mk (below_step (by repeat (first | (with_reducible first | exact HB.out | apply below_alloc | apply pw_below_drewN | apply below_drew1 | refine below_set ?_ GE507.out | refine below_set ?_ GE508.out) | exact HB.out)) hb); clear BK507; clear BK508; clear HB; have BK507 := n0_; have BK508 := n1_; have HB := n2_; clear n0_ n1_ n2_; (try clear hb); (try clear hb2); (try clear hk); (try clear hi)) | ((with_reducible refine gate_dst (N := 7) rfl ?_); refine box_event ?hg (N := 7) ?hd (cs := #[.int .i64 0, .int .i64 0, .int .i64 0, .int .i64 0, .int .i64 0, .int .i64 0, .int .i64 0, .int .i64 0, .int .u64 0]) (t := 24) ?hr ?_; (case hd => rfl); (case hg => rfl); (case hr => first | (go_simp; done) | (go_simp; rfl)); intro gb520 hg w20 hbox hb; have n0_ := Aside0.mk (blk_below (g := gb507) (o := .cells #[.int .i64 a1_0, .int .i64 a1_1, .int .i64 a1_2, .int .i64 a1_3, .int .i64 a1_4, .int .i64 a1_5, .int .i64 a1_6, .int .i64 a1_7, .int .u64 a1_8] 24 (0, 0)) (by (with_reducible repeat (first | refine blk_drewN ?_ _ | refine blk_drew ?_ | refine blk_alloc ?_ _)); exact BK507.out) hb); have n1_ := Aside0.mk (blk_below (g := gb508) (o := .cells #[.int .i64 a2_0, .int .i64 a2_1, .int .i64 a2_2, .int .i64 a2_3, .int .i64 a2_4, .int .i64 a2_5, .int .i64 a2_6, .int .i64 a2_7, .int .u64 a2_8] 24 (0, 0)) (by (with_reducible repeat (first | refine blk_drewN ?_ _ | refine blk_drew ?_ | refine blk_alloc ?_ _)); exact BK508.out) hb); have n2_ := Aside0.mk (below_step (by repeat (first | (with_reducible first | exact HB.out | apply below_alloc | apply pw_below_drewN | apply below_drew1 | refine below_set ?_ GE507.out | refine below_set ?_ GE508.out) | exact HB.out)) hb); have n3_ := Aside0.mk (hbox); have n4_ := Aside0.mk ((by rw [hg]; exact (below_size (by repeat (first | (with_reducible first | exact HB.out | apply below_alloc | apply pw_below_drewN | apply below_drew1 | refine below_set ?_ GE507.out | refine below_set ?_ GE508.out) | exact HB.out))) : w.heap.size ≤ gb520)); have n5_ := Aside0.mk ((by rw [hg]; exact (below_size (by repeat (first | (with_reducible first | exact HB.out | apply below_alloc | apply pw_below_drewN | apply below_drew1 | refine below_set ?_ GE507.out | refine below_set ?_ GE508.out) | exact HB.out))) : w.heap.size ≤ gb520)); have n6_ := Aside0.mk ((by rw [hg]; exact Nat.ne_of_lt (blk_lt (g := gb507) (o := .cells #[.int .i64 a1_0, .int .i64 a1_1, .int .i64 a1_2, .int .i64 a1_3, .int .i64 a1_4, .int .i64 a1_5, .int .i64 a1_6, .int .i64 a1_7, .int .u64 a1_8] 24 (0, 0)) (by (with_reducible repeat (first | refine blk_drewN ?_ _ | refine blk_drew ?_ | refine blk_alloc ?_ _)); exact BK507.out)) : gb507 ≠ gb520)); have n7_ := Aside0.mk ((by rw [hg]; exact Nat.ne_of_gt (blk_lt (g := gb507) (o := .cells #[.int .i64 a1_0, .int .i64 a1_1, .int .i64 a1_2, .int .i64 a1_3, .int .i64 a1_4, .int .i64 a1_5, .int .i64 a1_6, .int .i64 a1_7, .int .u64 a1_8] 24 (0, 0)) (by (with_reducible repeat (first | refine blk_drewN ?_ _ | refine blk_drew ?_ | refine blk_alloc ?_ _)); exact BK507.out)) : gb520 ≠ gb507)); have n8_ := Aside0.mk ((by rw [hg]; exact Nat.ne_of_lt (blk_lt (g := gb508) (o := .cells #[.int .i64 a2_0, .int .i64 a2_1, .int .i64 a2_2, .int .i64 a2_3, .int .i64 a2_4, .int .i64 a2_5, .int .i64 a2_6, .int .i64 a2_7, .int .u64 a2_8] 24 (0, 0)) (by (with_reducible repeat (first | refine blk_drewN ?_ _ | refine blk_drew ?_ | refine blk_alloc ?_ _)); exact BK508.out)) : gb508 ≠ gb520)); have n9_ := Aside0.mk ((by rw [hg]; exact Nat.ne_of_gt (blk_lt (g := gb508) (o := .cells #[.int .i64 a2_0, .int .i64 a2_1, .int .i64 a2_2, .int .i64 a2_3, .int .i64 a2_4, .int .i64 a2_5, .int .i64 a2_6, .int .i64 a2_7, .int .u64 a2_8] 24 (0, 0)) (by (with_reducible repeat (first | refine blk_drewN ?_ _ | refine blk_drew ?_ | refine blk_alloc ?_ _)); exact BK508.out)) : gb520 ≠ gb508)); clear BK507; clear BK508; clear HB; have BK507 := n0_; have BK508 := n1_; have HB := n2_; have BK520 := n3_; have GW520 := n4_; have GE520 := n5_; have NB507_520 := n6_; have NB520_507 := n7_; have NB508_520 := n8_; have NB520_508 := n9_; clear n0_ n1_ n2_ n3_ n4_ n5_ n6_ n7_ n8_ n9_; clear hb hbox hg; have hnb21 := NB520_507.out; have hnc21 := NB507_520.out; have hnb22 := NB520_508.out; have hnc22 := NB508_520.out; have hcz23_0 : w20.cell? ⟨gb520, 0, none⟩ = some (.int .i64 0) := (blk_cell BK520.out 0).trans rfl; have hcz23_1 : w20.cell? ⟨gb520, 1, none⟩ = some (.int .i64 0) := (blk_cell BK520.out 1).trans rfl; have hcz23_2 : w20.cell? ⟨gb520, 2, none⟩ = some (.int .i64 0) := (blk_cell BK520.out 2).trans rfl; have hcz23_3 : w20.cell? ⟨gb520, 3, none⟩ = some (.int .i64 0) := (blk_cell BK520.out 3).trans rfl; have hcz23_4 : w20.cell? ⟨gb520, 4, none⟩ = some (.int .i64 0) := (blk_cell BK520.out 4).trans rfl; have hcz23_5 : w20.cell? ⟨gb520, 5, none⟩ = some (.int .i64 0) := (blk_cell BK520.out 5).trans rfl; have hcz23_6 : w20.cell? ⟨gb520, 6, none⟩ = some (.int .i64 0) := (blk_cell BK520.out 6).trans rfl; have hcz23_7 : w20.cell? ⟨gb520, 7, none⟩ = some (.int .i64 0) := (blk_cell BK520.out 7).trans rfl; have hcz23_8 : w20.cell? ⟨gb520, 8, none⟩ = some (.int .u64 0) := (blk_cell BK520.out 8).trans rfl; have hfz23_0 := blk_frozen BK520.out 0; have hfz23_1 := blk_frozen BK520.out 1; have hfz23_2 := blk_frozen BK520.out 2; have hfz23_3 := blk_frozen BK520.out 3; have hfz23_4 := blk_frozen BK520.out 4; have hfz23_5 := blk_frozen BK520.out 5; have hfz23_6 := blk_frozen BK520.out 6; have hfz23_7 := blk_frozen BK520.out 7; have hfz23_8 := blk_frozen BK520.out 8) | ((with_reducible refine gate_callee (f := 22) rfl ?_); refine goesL_ (some 20) rfl rfl Try.func22 (by kernel_rfl) rfl #[.agg #[.int .i64 t511, .int .i64 t512, .int .i64 t513, .int .i64 t514, .int .i64 t515, .int .i64 t516, .int .i64 t517, .int .i64 t518, .int .u64 t519]] rfl (by (try simp only [List.map_toArray, List.map_cons, List.map_nil]); first | done | rfl | (simp only [List.length_drop, List.length_take]; rfl)) ?_; (with_reducible refine (media_Encode.calls k t511 t512 t513 t514 t515 t516 t517 t518 t519 t521 _ A9.out).mono ?_); rintro e w24 ⟨v522, rfl, ho0, hb⟩; refine ⟨_, rfl, ?_⟩; have n0_ := Aside0.mk (Kd.R_lower ho0 (below_size (by repeat (first | (with_reducible first | exact HB.out | apply below_alloc | apply pw_below_drewN | apply below_drew1 | refine below_set ?_ GE507.out | refine below_set ?_ GE508.out | refine below_set ?_ GE520.out) | exact HB.out)))); have n1_ := Aside0.mk (blk_below (g := gb507) (o := .cells #[.int .i64 a1_0, .int .i64 a1_1, .int .i64 a1_2, .int .i64 a1_3, .int .i64 a1_4, .int .i64 a1_5, .int .i64 a1_6, .int .i64 a1_7, .int .u64 a1_8] 24 (0, 0)) (by (with_reducible repeat (first | refine blk_drewN ?_ _ | refine blk_drew ?_ | refine blk_alloc ?_ _)); refine blk_far ?_ NB507_520.out _; refine blk_far ?_ NB507_520.out _; refine blk_far ?_ NB507_520.out _; refine blk_far ?_ NB507_520.out _; refine blk_far ?_ NB507_520.out _; refine blk_far ?_ NB507_520.out _; refine blk_far ?_ NB507_520.out _; refine blk_far ?_ NB507_520.out _; refine blk_far ?_ NB507_520.out _; (with_reducible repeat (first | refine blk_drewN ?_ _ | refine blk_drew ?_ | refine blk_alloc ?_ _)); exact BK507.out) hb); have n2_ := Aside0.mk (blk_below (g := gb508) (o := .cells #[.int .i64 a2_0, .int .i64 a2_1, .int .i64 a2_2, .int .i64 a2_3, .int .i64 a2_4, .int .i64 a2_5, .int .i64 a2_6, .int .i64 a2_7, .int .u64 a2_8] 24 (0, 0)) (by (with_reducible repeat (first | refine blk_drewN ?_ _ | refine blk_drew ?_ | refine blk_alloc ?_ _)); refine blk_far ?_ NB508_520.out _; refine blk_far ?_ NB508_520.out _; refine blk_far ?_ NB508_520.out _; refine blk_far ?_ NB508_520.out _; refine blk_far ?_ NB508_520.out _; refine blk_far ?_ NB508_520.out _; refine blk_far ?_ NB508_520.out _; refine blk_far ?_ NB508_520.out _; refine blk_far ?_ NB508_520.out _; (with_reducible repeat (first | refine blk_drewN ?_ _ | refine blk_drew ?_ | refine blk_alloc ?_ _)); exact BK508.out) hb); have n3_ := Aside0.mk (blk_below (g := gb520) (o := .cells #[.int .i64 t511, .int .i64 t512, .int .i64 t513, .int .i64 t514, .int .i64 t515, .int .i64 t516, .int .i64 t517, .int .i64 t518, .int .u64 t519] 24 (0, 0)) (by (with_reducible repeat (first | refine blk_drewN ?_ _ | refine blk_drew ?_ | refine blk_alloc ?_ _)); refine blk_put (cs := #[.int .i64 t511, .int .i64 t512, .int .i64 t513, .int .i64 t514, .int .i64 t515, .int .i64 t516, .int .i64 t517, .int .i64 t518, .int .u64 0]) ?_ 8 _ rfl; refine blk_put (cs := #[.int .i64 t511, .int .i64 t512, .int .i64 t513, .int .i64 t514, .int .i64 t515, .int .i64 t516, .int .i64 t517, .int .i64 0, .int .u64 0]) ?_ 7 _ rfl; refine blk_put (cs := #[.int .i64 t511, .int .i64 t512, .int .i64 t513, .int .i64 t514, .int .i64 t515, .int .i64 t516, .int .i64 0, .int .i64 0, .int .u64 0]) ?_ 6 _ rfl; refine blk_put (cs := #[.int .i64 t511, .int .i64 t512, .int .i64 t513, .int .i64 t514, .int .i64 t515, .int .i64 0, .int .i64 0, .int .i64 0, .int .u64 0]) ?_ 5 _ rfl; refine blk_put (cs := #[.int .i64 t511, .int .i64 t512, .int .i64 t513, .int .i64 t514, .int .i64 0, .int .i64 0, .int .i64 0, .int .i64 0, .int .u64 0]) ?_ 4 _ rfl; refine blk_put (cs := #[.int .i64 t511, .int .i64 t512, .int .i64 t513, .int .i64 0, .int .i64 0, .int .i64 0, .int .i64 0, .int .i64 0, .int .u64 0]) ?_ 3 _ rfl; refine blk_put (cs := #[.int .i64 t511, .int .i64 t512, .int .i64 0, .int .i64 0, .int .i64 0, .int .i64 0, .int .i64 0, .int .i64 0, .int .u64 0]) ?_ 2 _ rfl; refine blk_put (cs := #[.int .i64 t511, .int .i64 0, .int .i64 0, .int .i64 0, .int .i64 0, .int .i64 0, .int .i64 0, .int .i64 0, .int .u64 0]) ?_ 1 _ rfl; refine blk_put (cs := #[.int .i64 0, .int .i64 0, .int .i64 0, .int .i64 0, .int .i64 0, .int .i64 0, .int .i64 0, .int .i64 0, .int .u64 0]) ?_ 0 _ rfl; (with_reducible repeat (first | refine blk_drewN ?_ _ | refine blk_drew ?_ | refine blk_alloc ?_ _)); exact BK520.out) hb); have n4_ := Aside0.mk (below_step (by repeat (first | (with_reducible first | exact HB.out | apply below_alloc | apply pw_below_drewN | apply below_drew1 | refine below_set ?_ GE507.out | refine below_set ?_ GE508.out | refine below_set ?_ GE520.out) | exact HB.out)) hb); clear BK507; clear BK508; clear BK520; clear HB; have HO523 := n0_; have BK507 := n1_; have BK508 := n2_; have BK520 := n3_; have HB := n4_; clear n0_ n1_ n2_ n3_ n4_; (try clear hb); (try clear hb2); (try clear hk); (try clear hi); (try clear ho0); obtain ⟨Ao25, co25, eo25⟩ := Kd.R_slice HO523.out; subst eo25) | ((with_reducible refine gate_callee (f := 24) rfl ?_); refine goesL_ (some 21) rfl rfl Try.func24 (by kernel_rfl) rfl #[.slice Ao25 t521.length co25] rfl (by (try simp only [List.map_toArray, List.map_cons, List.map_nil]); first | done | rfl | (simp only [List.length_drop, List.length_take]; rfl)) ?_; (with_reducible refine (media_Decode.calls k _ _ t521 t524 t525 t526 t527 t528 t529 t530 t531 t532 t533 _ ?side1 ?side2 A10.out).mono ?_); (case side1 => repeat (first | exact (Kd.R_reads' HO523.out).2.2 | (with_reducible refine Kd.C_alloc ?_ _) | (with_reducible refine Kd.C_drewN ?_ _) | (with_reducible refine Kd.C_drew ?_))); (case side2 => exact (Kd.R_reads' HO523.out).2.1); rintro e w26 ⟨rfl, hb⟩; refine ⟨_, rfl, ?_⟩; have n0_ := Aside0.mk (Kd.R_below (by (with_reducible repeat (first | apply Kd.R_alloc | apply Kd.R_drewN | apply Kd.R_drew)); exact HO523.out) hb); have n1_ := Aside0.mk (blk_below (g := gb507) (o := .cells #[.int .i64 a1_0, .int .i64 a1_1, .int .i64 a1_2, .int .i64 a1_3, .int .i64 a1_4, .int .i64 a1_5, .int .i64 a1_6, .int .i64 a1_7, .int .u64 a1_8] 24 (0, 0)) (by (with_reducible repeat (first | refine blk_drewN ?_ _ | refine blk_drew ?_ | refine blk_alloc ?_ _)); exact BK507.out) hb); have n2_ := Aside0.mk (blk_below (g := gb508) (o := .cells #[.int .i64 a2_0, .int .i64 a2_1, .int .i64 a2_2, .int .i64 a2_3, .int .i64 a2_4, .int .i64 a2_5, .int .i64 a2_6, .int .i64 a2_7, .int .u64 a2_8] 24 (0, 0)) (by (with_reducible repeat (first | refine blk_drewN ?_ _ | refine blk_drew ?_ | refine blk_alloc ?_ _)); exact BK508.out) hb); have n3_ := Aside0.mk (blk_below (g := gb520) (o := .cells #[.int .i64 t511, .int .i64 t512, .int .i64 t513, .int .i64 t514, .int .i64 t515, .int .i64 t516, .int .i64 t517, .int .i64 t518, .int .u64 t519] 24 (0, 0)) (by (with_reducible repeat (first | refine blk_drewN ?_ _ | refine blk_drew ?_ | refine blk_alloc ?_ _)); exact BK520.out) hb); have n4_ := Aside0.mk (below_step (by repeat (first | (with_reducible first | exact HB.out | apply below_alloc | apply pw_below_drewN | apply below_drew1 | refine below_set ?_ GE507.out | refine below_set ?_ GE508.out | refine below_set ?_ GE520.out) | exact HB.out)) hb); clear HO523; clear BK507; clear BK508; clear BK520; clear HB; have HO523 := n0_; have BK507 := n1_; have BK508 := n2_; have BK520 := n3_; have HB := n4_; clear n0_ n1_ n2_ n3_ n4_; (try clear hb); (try clear hb2); (try clear hk); (try clear hi)) | ((with_reducible refine gate_dst (N := 8) rfl ?_); refine box_event ?hg (N := 8) ?hd (cs := #[.int .i64 0, .int .i64 0, .int .i64 0, .int .i64 0, .int .i64 0, .int .i64 0, .int .i64 0, .int .i64 0, .int .u64 0]) (t := 24) ?hr ?_; (case hd => rfl); (case hg => rfl); (case hr => first | (go_simp; done) | (go_simp; rfl)); intro gb534 hg w27 hbox hb; have n0_ := Aside0.mk (Kd.R_below (by (with_reducible repeat (first | apply Kd.R_alloc | apply Kd.R_drewN | apply Kd.R_drew)); exact HO523.out) hb); have n1_ := Aside0.mk (blk_below (g := gb507) (o := .cells #[.int .i64 a1_0, .int .i64 a1_1, .int .i64 a1_2, .int .i64 a1_3, .int .i64 a1_4, .int .i64 a1_5, .int .i64 a1_6, .int .i64 a1_7, .int .u64 a1_8] 24 (0, 0)) (by (with_reducible repeat (first | refine blk_drewN ?_ _ | refine blk_drew ?_ | refine blk_alloc ?_ _)); exact BK507.out) hb); have n2_ := Aside0.mk (blk_below (g := gb508) (o := .cells #[.int .i64 a2_0, .int .i64 a2_1, .int .i64 a2_2, .int .i64 a2_3, .int .i64 a2_4, .int .i64 a2_5, .int .i64 a2_6, .int .i64 a2_7, .int .u64 a2_8] 24 (0, 0)) (by (with_reducible repeat (first | refine blk_drewN ?_ _ | refine blk_drew ?_ | refine blk_alloc ?_ _)); exact BK508.out) hb); have n3_ := Aside0.mk (blk_below (g := gb520) (o := .cells #[.int .i64 t511, .int .i64 t512, .int .i64 t513, .int .i64 t514, .int .i64 t515, .int .i64 t516, .int .i64 t517, .int .i64 t518, .int .u64 t519] 24 (0, 0)) (by (with_reducible repeat (first | refine blk_drewN ?_ _ | refine blk_drew ?_ | refine blk_alloc ?_ _)); exact BK520.out) hb); have n4_ := Aside0.mk (below_step (by repeat (first | (with_reducible first | exact HB.out | apply below_alloc | apply pw_below_drewN | apply below_drew1 | refine below_set ?_ GE507.out | refine below_set ?_ GE508.out | refine below_set ?_ GE520.out) | exact HB.out)) hb); have n5_ := Aside0.mk (hbox); have n6_ := Aside0.mk ((by rw [hg]; exact (below_size (by repeat (first | (with_reducible first | exact HB.out | apply below_alloc | apply pw_below_drewN | apply below_drew1 | refine below_set ?_ GE507.out | refine below_set ?_ GE508.out | refine below_set ?_ GE520.out) | exact HB.out))) : w.heap.size ≤ gb534)); have n7_ := Aside0.mk ((by rw [hg]; exact (below_size (by repeat (first | (with_reducible first | exact HB.out | apply below_alloc | apply pw_below_drewN | apply below_drew1 | refine below_set ?_ GE507.out | refine below_set ?_ GE508.out | refine below_set ?_ GE520.out) | exact HB.out))) : w.heap.size ≤ gb534)); have n8_ := Aside0.mk ((by rw [hg]; exact Nat.ne_of_lt (blk_lt (g := gb507) (o := .cells #[.int .i64 a1_0, .int .i64 a1_1, .int .i64 a1_2, .int .i64 a1_3, .int .i64 a1_4, .int .i64 a1_5, .int .i64 a1_6, .int .i64 a1_7, .int .u64 a1_8] 24 (0, 0)) (by (with_reducible repeat (first | refine blk_drewN ?_ _ | refine blk_drew ?_ | refine blk_alloc ?_ _)); exact BK507.out)) : gb507 ≠ gb534)); have n9_ := Aside0.mk ((by rw [hg]; exact Nat.ne_of_gt (blk_lt (g := gb507) (o := .cells #[.int .i64 a1_0, .int .i64 a1_1, .int .i64 a1_2, .int .i64 a1_3, .int .i64 a1_4, .int .i64 a1_5, .int .i64 a1_6, .int .i64 a1_7, .int .u64 a1_8] 24 (0, 0)) (by (with_reducible repeat (first | refine blk_drewN ?_ _ | refine blk_drew ?_ | refine blk_alloc ?_ _)); exact BK507.out)) : gb534 ≠ gb507)); have n10_ := Aside0.mk ((by rw [hg]; exact Nat.ne_of_lt (blk_lt (g := gb508) (o := .cells #[.int .i64 a2_0, .int .i64 a2_1, .int .i64 a2_2, .int .i64 a2_3, .int .i64 a2_4, .int .i64 a2_5, .int .i64 a2_6, .int .i64 a2_7, .int .u64 a2_8] 24 (0, 0)) (by (with_reducible repeat (first | refine blk_drewN ?_ _ | refine blk_drew ?_ | refine blk_alloc ?_ _)); exact BK508.out)) : gb508 ≠ gb534)); have n11_ := Aside0.mk ((by rw [hg]; exact Nat.ne_of_gt (blk_lt (g := gb508) (o := .cells #[.int .i64 a2_0, .int .i64 a2_1, .int .i64 a2_2, .int .i64 a2_3, .int .i64 a2_4, .int .i64 a2_5, .int .i64 a2_6, .int .i64 a2_7, .int .u64 a2_8] 24 (0, 0)) (by (with_reducible repeat (first | refine blk_drewN ?_ _ | refine blk_drew ?_ | refine blk_alloc ?_ _)); exact BK508.out)) : gb534 ≠ gb508)); have n12_ := Aside0.mk ((by rw [hg]; exact Nat.ne_of_lt (blk_lt (g := gb520) (o := .cells #[.int .i64 t511, .int .i64 t512, .int .i64 t513, .int .i64 t514, .int .i64 t515, .int .i64 t516, .int .i64 t517, .int .i64 t518, .int .u64 t519] 24 (0, 0)) (by (with_reducible repeat (first | refine blk_drewN ?_ _ | refine blk_drew ?_ | refine blk_alloc ?_ _)); exact BK520.out)) : gb520 ≠ gb534)); have n13_ := Aside0.mk ((by rw [hg]; exact Nat.ne_of_gt (blk_lt (g := gb520) (o := .cells #[.int .i64 t511, .int .i64 t512, .int .i64 t513, .int .i64 t514, .int .i64 t515, .int .i64 t516, .int .i64 t517, .int .i64 t518, .int .u64 t519] 24 (0, 0)) (by (with_reducible repeat (first | refine blk_drewN ?_ _ | refine blk_drew ?_ | refine blk_alloc ?_ _)); exact BK520.out)) : gb534 ≠ gb520)); clear HO523; clear BK507; clear BK508; clear BK520; clear HB; have HO523 := n0_; have BK507 := n1_; have BK508 := n2_; have BK520 := n3_; have HB := n4_; have BK534 := n5_; have GW534 := n6_; have GE534 := n7_; have NB507_534 := n8_; have NB534_507 := n9_; have NB508_534 := n10_; have NB534_508 := n11_; have NB520_534 := n12_; have NB534_520 := n13_; clear n0_ n1_ n2_ n3_ n4_ n5_ n6_ n7_ n8_ n9_ n10_ n11_ n12_ n13_; clear hb hbox hg; have hnb28 := NB534_507.out; have hnc28 := NB507_534.out; have hnb29 := NB534_508.out; have hnc29 := NB508_534.out; have hnb30 := NB534_520.out; have hnc30 := NB520_534.out; have hcz31_0 : w27.cell? ⟨gb534, 0, none⟩ = some (.int .i64 0) := (blk_cell BK534.out 0).trans rfl; have hcz31_1 : w27.cell? ⟨gb534, 1, none⟩ = some (.int .i64 0) := (blk_cell BK534.out 1).trans rfl; have hcz31_2 : w27.cell? ⟨gb534, 2, none⟩ = some (.int .i64 0) := (blk_cell BK534.out 2).trans rfl; have hcz31_3 : w27.cell? ⟨gb534, 3, none⟩ = some (.int .i64 0) := (blk_cell BK534.out 3).trans rfl; have hcz31_4 : w27.cell? ⟨gb534, 4, none⟩ = some (.int .i64 0) := (blk_cell BK534.out 4).trans rfl; have hcz31_5 : w27.cell? ⟨gb534, 5, none⟩ = some (.int .i64 0) := (blk_cell BK534.out 5).trans rfl; have hcz31_6 : w27.cell? ⟨gb534, 6, none⟩ = some (.int .i64 0) := (blk_cell BK534.out 6).trans rfl; have hcz31_7 : w27.cell? ⟨gb534, 7, none⟩ = some (.int .i64 0) := (blk_cell BK534.out 7).trans rfl; have hcz31_8 : w27.cell? ⟨gb534, 8, none⟩ = some (.int .u64 0) := (blk_cell BK534.out 8).trans rfl; have hfz31_0 := blk_frozen BK534.out 0; have hfz31_1 := blk_frozen BK534.out 1; have hfz31_2 := blk_frozen BK534.out 2; have hfz31_3 := blk_frozen BK534.out 3; have hfz31_4 := blk_frozen BK534.out 4; have hfz31_5 := blk_frozen BK534.out 5; have hfz31_6 := blk_frozen BK534.out 6; have hfz31_7 := blk_frozen BK534.out 7; have hfz31_8 := blk_frozen BK534.out 8))
      (try simp only [Act.put, List.setIfInBounds_toArray, List.set_cons_zero, List.set_cons_succ])
      go_cut [30] (fun v30 wc => ∃ (kq : Nat) (x30_10 : Bool), v30 = .bool x30_10 ∧ Aside0 (skiarealaw25_MediaBack.j0 kq a0 x30_10 a2_0 a2_1 a2_2 a2_3 a2_4 a2_5 a2_6 a2_7 a2_8 t511 t512 t513 t514 t515 t516 t517 t518 t519 = some r) ∧ Aside0 (kq ≤ k) ∧ Aside0 (wc.heap[gb507]? = some (.cells #[.int .i64 a1_0, .int .i64 a1_1, .int .i64 a1_2, .int .i64 a1_3, .int .i64 a1_4, .int .i64 a1_5, .int .i64 a1_6, .int .i64 a1_7, .int .u64 a1_8] 24 (0, 0))) ∧ Aside0 (wc.heap[gb508]? = some (.cells #[.int .i64 a2_0, .int .i64 a2_1, .int .i64 a2_2, .int .i64 a2_3, .int .i64 a2_4, .int .i64 a2_5, .int .i64 a2_6, .int .i64 a2_7, .int .u64 a2_8] 24 (0, 0))) ∧ Aside0 (wc.heap[gb520]? = some (.cells #[.int .i64 t511, .int .i64 t512, .int .i64 t513, .int .i64 t514, .int .i64 t515, .int .i64 t516, .int .i64 t517, .int .i64 t518, .int .u64 t519] 24 (0, 0))) ∧ Aside0 (wc.heap[gb534]? = some (.cells #[.int .i64 t524, .int .i64 t525, .int .i64 t526, .int .i64 t527, .int .i64 t528, .int .i64 t529, .int .i64 t530, .int .i64 t531, .int .u64 t532] 24 (0, 0))) ∧ Aside0 (Below w.heap.size w wc))
      case first =>
        have H := HC11.out
        clear HC11
        by_cases c32 : t533 = 0
        · rw [if_pos c32] at H
          have c32b0 : (t533 == 0) = true := beq_iff_eq.mpr c32
          have c32b1 : (t533 != 0) = false := bne_eq_false_iff_eq.mpr c32
          clear c32
          (first | rw [c32b0] | (simp only [i64_w, i32_w, IntKind.wrap_u8, IntKind.wrap_u32]; rw [c32b0]) | skip)
          have H' := Aside0.mk H
          clear H
          have hnb33 := NB534_507.out
          have hnc33 := NB507_534.out
          have hnb34 := NB534_508.out
          have hnc34 := NB508_534.out
          have hnb35 := NB534_520.out
          have hnc35 := NB520_534.out
          have hcz36_0 : w27.cell? ⟨gb534, 0, none⟩ = some (.int .i64 0) := (blk_cell BK534.out 0).trans rfl
          have hcz36_1 : w27.cell? ⟨gb534, 1, none⟩ = some (.int .i64 0) := (blk_cell BK534.out 1).trans rfl
          have hcz36_2 : w27.cell? ⟨gb534, 2, none⟩ = some (.int .i64 0) := (blk_cell BK534.out 2).trans rfl
          have hcz36_3 : w27.cell? ⟨gb534, 3, none⟩ = some (.int .i64 0) := (blk_cell BK534.out 3).trans rfl
          have hcz36_4 : w27.cell? ⟨gb534, 4, none⟩ = some (.int .i64 0) := (blk_cell BK534.out 4).trans rfl
          have hcz36_5 : w27.cell? ⟨gb534, 5, none⟩ = some (.int .i64 0) := (blk_cell BK534.out 5).trans rfl
          have hcz36_6 : w27.cell? ⟨gb534, 6, none⟩ = some (.int .i64 0) := (blk_cell BK534.out 6).trans rfl
          have hcz36_7 : w27.cell? ⟨gb534, 7, none⟩ = some (.int .i64 0) := (blk_cell BK534.out 7).trans rfl
          have hcz36_8 : w27.cell? ⟨gb534, 8, none⟩ = some (.int .u64 0) := (blk_cell BK534.out 8).trans rfl
          have hfz36_0 := blk_frozen BK534.out 0
          have hfz36_1 := blk_frozen BK534.out 1
          have hfz36_2 := blk_frozen BK534.out 2
          have hfz36_3 := blk_frozen BK534.out 3
          have hfz36_4 := blk_frozen BK534.out 4
          have hfz36_5 := blk_frozen BK534.out 5
          have hfz36_6 := blk_frozen BK534.out 6
          have hfz36_7 := blk_frozen BK534.out 7
          have hfz36_8 := blk_frozen BK534.out 8
          have hnb37 := NB520_507.out
          have hnc37 := NB507_520.out
          have hnb38 := NB520_508.out
          have hnc38 := NB508_520.out
          have hcz39_0 : w27.cell? ⟨gb520, 0, none⟩ = some (.int .i64 t511) := (blk_cell BK520.out 0).trans rfl
          have hcz39_1 : w27.cell? ⟨gb520, 1, none⟩ = some (.int .i64 t512) := (blk_cell BK520.out 1).trans rfl
          have hcz39_2 : w27.cell? ⟨gb520, 2, none⟩ = some (.int .i64 t513) := (blk_cell BK520.out 2).trans rfl
          have hcz39_3 : w27.cell? ⟨gb520, 3, none⟩ = some (.int .i64 t514) := (blk_cell BK520.out 3).trans rfl
          have hcz39_4 : w27.cell? ⟨gb520, 4, none⟩ = some (.int .i64 t515) := (blk_cell BK520.out 4).trans rfl
          have hcz39_5 : w27.cell? ⟨gb520, 5, none⟩ = some (.int .i64 t516) := (blk_cell BK520.out 5).trans rfl
          have hcz39_6 : w27.cell? ⟨gb520, 6, none⟩ = some (.int .i64 t517) := (blk_cell BK520.out 6).trans rfl
          have hcz39_7 : w27.cell? ⟨gb520, 7, none⟩ = some (.int .i64 t518) := (blk_cell BK520.out 7).trans rfl
          have hcz39_8 : w27.cell? ⟨gb520, 8, none⟩ = some (.int .u64 t519) := (blk_cell BK520.out 8).trans rfl
          have hfz39_0 := blk_frozen BK520.out 0
          have hfz39_1 := blk_frozen BK520.out 1
          have hfz39_2 := blk_frozen BK520.out 2
          have hfz39_3 := blk_frozen BK520.out 3
          have hfz39_4 := blk_frozen BK520.out 4
          have hfz39_5 := blk_frozen BK520.out 5
          have hfz39_6 := blk_frozen BK520.out 6
          have hfz39_7 := blk_frozen BK520.out 7
          have hfz39_8 := blk_frozen BK520.out 8
          go_wp2
          go_meet
          case rel => exact ⟨_, ((!(t524 == t511) || (!(t525 == t512) || (!(t526 == t513) || (!(t527 == t514) || (!(t528 == t515) || (!(t529 == t516) || (!(t530 == t517) || (!(t531 == t518) || (!(t532 == t519))))))))))), (by first | rfl | (simp; done) | (simp [*]; done)), H', ⟨by first | omega | exact Nat.le_refl _⟩, ⟨by (with_reducible repeat (first | refine blk_drewN ?_ _ | refine blk_drew ?_ | refine blk_alloc ?_ _)); refine blk_far ?_ NB507_534.out _; refine blk_far ?_ NB507_534.out _; refine blk_far ?_ NB507_534.out _; refine blk_far ?_ NB507_534.out _; refine blk_far ?_ NB507_534.out _; refine blk_far ?_ NB507_534.out _; refine blk_far ?_ NB507_534.out _; refine blk_far ?_ NB507_534.out _; refine blk_far ?_ NB507_534.out _; (with_reducible repeat (first | refine blk_drewN ?_ _ | refine blk_drew ?_ | refine blk_alloc ?_ _)); exact BK507.out⟩, ⟨by (with_reducible repeat (first | refine blk_drewN ?_ _ | refine blk_drew ?_ | refine blk_alloc ?_ _)); refine blk_far ?_ NB508_534.out _; refine blk_far ?_ NB508_534.out _; refine blk_far ?_ NB508_534.out _; refine blk_far ?_ NB508_534.out _; refine blk_far ?_ NB508_534.out _; refine blk_far ?_ NB508_534.out _; refine blk_far ?_ NB508_534.out _; refine blk_far ?_ NB508_534.out _; refine blk_far ?_ NB508_534.out _; (with_reducible repeat (first | refine blk_drewN ?_ _ | refine blk_drew ?_ | refine blk_alloc ?_ _)); exact BK508.out⟩, ⟨by (with_reducible repeat (first | refine blk_drewN ?_ _ | refine blk_drew ?_ | refine blk_alloc ?_ _)); refine blk_far ?_ NB520_534.out _; refine blk_far ?_ NB520_534.out _; refine blk_far ?_ NB520_534.out _; refine blk_far ?_ NB520_534.out _; refine blk_far ?_ NB520_534.out _; refine blk_far ?_ NB520_534.out _; refine blk_far ?_ NB520_534.out _; refine blk_far ?_ NB520_534.out _; refine blk_far ?_ NB520_534.out _; (with_reducible repeat (first | refine blk_drewN ?_ _ | refine blk_drew ?_ | refine blk_alloc ?_ _)); exact BK520.out⟩, ⟨by (with_reducible repeat (first | refine blk_drewN ?_ _ | refine blk_drew ?_ | refine blk_alloc ?_ _)); refine blk_put (cs := #[.int .i64 t524, .int .i64 t525, .int .i64 t526, .int .i64 t527, .int .i64 t528, .int .i64 t529, .int .i64 t530, .int .i64 t531, .int .u64 0]) ?_ 8 _ rfl; refine blk_put (cs := #[.int .i64 t524, .int .i64 t525, .int .i64 t526, .int .i64 t527, .int .i64 t528, .int .i64 t529, .int .i64 t530, .int .i64 0, .int .u64 0]) ?_ 7 _ rfl; refine blk_put (cs := #[.int .i64 t524, .int .i64 t525, .int .i64 t526, .int .i64 t527, .int .i64 t528, .int .i64 t529, .int .i64 0, .int .i64 0, .int .u64 0]) ?_ 6 _ rfl; refine blk_put (cs := #[.int .i64 t524, .int .i64 t525, .int .i64 t526, .int .i64 t527, .int .i64 t528, .int .i64 0, .int .i64 0, .int .i64 0, .int .u64 0]) ?_ 5 _ rfl; refine blk_put (cs := #[.int .i64 t524, .int .i64 t525, .int .i64 t526, .int .i64 t527, .int .i64 0, .int .i64 0, .int .i64 0, .int .i64 0, .int .u64 0]) ?_ 4 _ rfl; refine blk_put (cs := #[.int .i64 t524, .int .i64 t525, .int .i64 t526, .int .i64 0, .int .i64 0, .int .i64 0, .int .i64 0, .int .i64 0, .int .u64 0]) ?_ 3 _ rfl; refine blk_put (cs := #[.int .i64 t524, .int .i64 t525, .int .i64 0, .int .i64 0, .int .i64 0, .int .i64 0, .int .i64 0, .int .i64 0, .int .u64 0]) ?_ 2 _ rfl; refine blk_put (cs := #[.int .i64 t524, .int .i64 0, .int .i64 0, .int .i64 0, .int .i64 0, .int .i64 0, .int .i64 0, .int .i64 0, .int .u64 0]) ?_ 1 _ rfl; refine blk_put (cs := #[.int .i64 0, .int .i64 0, .int .i64 0, .int .i64 0, .int .i64 0, .int .i64 0, .int .i64 0, .int .i64 0, .int .u64 0]) ?_ 0 _ rfl; (with_reducible repeat (first | refine blk_drewN ?_ _ | refine blk_drew ?_ | refine blk_alloc ?_ _)); exact BK534.out⟩, ⟨by repeat (first | (with_reducible first | exact HB.out | apply below_alloc | apply pw_below_drewN | apply below_drew1 | refine below_set ?_ GE507.out | refine below_set ?_ GE508.out | refine below_set ?_ GE520.out | refine below_set ?_ GE534.out) | exact HB.out)⟩⟩
        · rw [if_neg c32] at H
          have c32b0 : (t533 == 0) = false := beq_eq_false_iff_ne.mpr c32
          have c32b1 : (t533 != 0) = true := bne_iff_ne.mpr c32
          (first | rw [c32b0] | (simp only [i64_w, i32_w, IntKind.wrap_u8, IntKind.wrap_u32]; rw [c32b0]) | skip)
          have H' := Aside0.mk H
          clear H
          go_wp2
          go_meet
          case rel => exact ⟨_, (true), (by first | rfl | (simp; done) | (simp [*]; done)), H', ⟨by first | omega | exact Nat.le_refl _⟩, ⟨by (with_reducible repeat (first | refine blk_drewN ?_ _ | refine blk_drew ?_ | refine blk_alloc ?_ _)); refine blk_far ?_ NB507_534.out _; refine blk_far ?_ NB507_534.out _; refine blk_far ?_ NB507_534.out _; refine blk_far ?_ NB507_534.out _; refine blk_far ?_ NB507_534.out _; refine blk_far ?_ NB507_534.out _; refine blk_far ?_ NB507_534.out _; refine blk_far ?_ NB507_534.out _; refine blk_far ?_ NB507_534.out _; (with_reducible repeat (first | refine blk_drewN ?_ _ | refine blk_drew ?_ | refine blk_alloc ?_ _)); exact BK507.out⟩, ⟨by (with_reducible repeat (first | refine blk_drewN ?_ _ | refine blk_drew ?_ | refine blk_alloc ?_ _)); refine blk_far ?_ NB508_534.out _; refine blk_far ?_ NB508_534.out _; refine blk_far ?_ NB508_534.out _; refine blk_far ?_ NB508_534.out _; refine blk_far ?_ NB508_534.out _; refine blk_far ?_ NB508_534.out _; refine blk_far ?_ NB508_534.out _; refine blk_far ?_ NB508_534.out _; refine blk_far ?_ NB508_534.out _; (with_reducible repeat (first | refine blk_drewN ?_ _ | refine blk_drew ?_ | refine blk_alloc ?_ _)); exact BK508.out⟩, ⟨by (with_reducible repeat (first | refine blk_drewN ?_ _ | refine blk_drew ?_ | refine blk_alloc ?_ _)); refine blk_far ?_ NB520_534.out _; refine blk_far ?_ NB520_534.out _; refine blk_far ?_ NB520_534.out _; refine blk_far ?_ NB520_534.out _; refine blk_far ?_ NB520_534.out _; refine blk_far ?_ NB520_534.out _; refine blk_far ?_ NB520_534.out _; refine blk_far ?_ NB520_534.out _; refine blk_far ?_ NB520_534.out _; (with_reducible repeat (first | refine blk_drewN ?_ _ | refine blk_drew ?_ | refine blk_alloc ?_ _)); exact BK520.out⟩, ⟨by (with_reducible repeat (first | refine blk_drewN ?_ _ | refine blk_drew ?_ | refine blk_alloc ?_ _)); refine blk_put (cs := #[.int .i64 t524, .int .i64 t525, .int .i64 t526, .int .i64 t527, .int .i64 t528, .int .i64 t529, .int .i64 t530, .int .i64 t531, .int .u64 0]) ?_ 8 _ rfl; refine blk_put (cs := #[.int .i64 t524, .int .i64 t525, .int .i64 t526, .int .i64 t527, .int .i64 t528, .int .i64 t529, .int .i64 t530, .int .i64 0, .int .u64 0]) ?_ 7 _ rfl; refine blk_put (cs := #[.int .i64 t524, .int .i64 t525, .int .i64 t526, .int .i64 t527, .int .i64 t528, .int .i64 t529, .int .i64 0, .int .i64 0, .int .u64 0]) ?_ 6 _ rfl; refine blk_put (cs := #[.int .i64 t524, .int .i64 t525, .int .i64 t526, .int .i64 t527, .int .i64 t528, .int .i64 0, .int .i64 0, .int .i64 0, .int .u64 0]) ?_ 5 _ rfl; refine blk_put (cs := #[.int .i64 t524, .int .i64 t525, .int .i64 t526, .int .i64 t527, .int .i64 0, .int .i64 0, .int .i64 0, .int .i64 0, .int .u64 0]) ?_ 4 _ rfl; refine blk_put (cs := #[.int .i64 t524, .int .i64 t525, .int .i64 t526, .int .i64 0, .int .i64 0, .int .i64 0, .int .i64 0, .int .i64 0, .int .u64 0]) ?_ 3 _ rfl; refine blk_put (cs := #[.int .i64 t524, .int .i64 t525, .int .i64 0, .int .i64 0, .int .i64 0, .int .i64 0, .int .i64 0, .int .i64 0, .int .u64 0]) ?_ 2 _ rfl; refine blk_put (cs := #[.int .i64 t524, .int .i64 0, .int .i64 0, .int .i64 0, .int .i64 0, .int .i64 0, .int .i64 0, .int .i64 0, .int .u64 0]) ?_ 1 _ rfl; refine blk_put (cs := #[.int .i64 0, .int .i64 0, .int .i64 0, .int .i64 0, .int .i64 0, .int .i64 0, .int .i64 0, .int .i64 0, .int .u64 0]) ?_ 0 _ rfl; (with_reducible repeat (first | refine blk_drewN ?_ _ | refine blk_drew ?_ | refine blk_alloc ?_ _)); exact BK534.out⟩, ⟨by repeat (first | (with_reducible first | exact HB.out | apply below_alloc | apply pw_below_drewN | apply below_drew1 | refine below_set ?_ GE507.out | refine below_set ?_ GE508.out | refine below_set ?_ GE520.out | refine below_set ?_ GE534.out) | exact HB.out)⟩⟩
      case rest =>
        clear HC11
        try clear c1
        try clear c2
        try clear p2
        try clear c3
        try clear c5
        try clear c7
        try clear c7b0
        try clear c7b1
        try clear c8
        try clear c10
        try clear c11
        try clear c15
        try clear c17
        try clear c21
        try clear c22
        try clear c24
        try clear c28
        try clear c29
        try clear c30
        try clear c32
        try clear c32b0
        try clear c32b1
        try clear c33
        try clear c34
        try clear c35
        try clear c37
        try clear c38
        try clear hcz16_0
        try clear hcz16_1
        try clear hcz16_2
        try clear hcz16_3
        try clear hcz16_4
        try clear hcz16_5
        try clear hcz16_6
        try clear hcz16_7
        try clear hcz16_8
        try clear hcz18_0
        try clear hcz18_1
        try clear hcz18_2
        try clear hcz18_3
        try clear hcz18_4
        try clear hcz18_5
        try clear hcz18_6
        try clear hcz18_7
        try clear hcz18_8
        try clear hcz23_0
        try clear hcz23_1
        try clear hcz23_2
        try clear hcz23_3
        try clear hcz23_4
        try clear hcz23_5
        try clear hcz23_6
        try clear hcz23_7
        try clear hcz23_8
        try clear hcz31_0
        try clear hcz31_1
        try clear hcz31_2
        try clear hcz31_3
        try clear hcz31_4
        try clear hcz31_5
        try clear hcz31_6
        try clear hcz31_7
        try clear hcz31_8
        try clear hcz36_0
        try clear hcz36_1
        try clear hcz36_2
        try clear hcz36_3
        try clear hcz36_4
        try clear hcz36_5
        try clear hcz36_6
        try clear hcz36_7
        try clear hcz36_8
        try clear hcz39_0
        try clear hcz39_1
        try clear hcz39_2
        try clear hcz39_3
        try clear hcz39_4
        try clear hcz39_5
        try clear hcz39_6
        try clear hcz39_7
        try clear hcz39_8
        try clear hfz16_0
        try clear hfz16_1
        try clear hfz16_2
        try clear hfz16_3
        try clear hfz16_4
        try clear hfz16_5
        try clear hfz16_6
        try clear hfz16_7
        try clear hfz16_8
        try clear hfz18_0
        try clear hfz18_1
        try clear hfz18_2
        try clear hfz18_3
        try clear hfz18_4
        try clear hfz18_5
        try clear hfz18_6
        try clear hfz18_7
        try clear hfz18_8
        try clear hfz23_0
        try clear hfz23_1
        try clear hfz23_2
        try clear hfz23_3
        try clear hfz23_4
        try clear hfz23_5
        try clear hfz23_6
        try clear hfz23_7
        try clear hfz23_8
        try clear hfz31_0
        try clear hfz31_1
        try clear hfz31_2
        try clear hfz31_3
        try clear hfz31_4
        try clear hfz31_5
        try clear hfz31_6
        try clear hfz31_7
        try clear hfz31_8
        try clear hfz36_0
        try clear hfz36_1
        try clear hfz36_2
        try clear hfz36_3
        try clear hfz36_4
        try clear hfz36_5
        try clear hfz36_6
        try clear hfz36_7
        try clear hfz36_8
        try clear hfz39_0
        try clear hfz39_1
        try clear hfz39_2
        try clear hfz39_3
        try clear hfz39_4
        try clear hfz39_5
        try clear hfz39_6
        try clear hfz39_7
        try clear hfz39_8
        obtain ⟨kq, x30_10, rfl, HA, HJ10, BK507, BK508, BK520, BK534, HB⟩ := hcut
        cases kq with
        | zero => exact absurd HA.out (by simp [skiarealaw25_MediaBack.j0])
        | succ kj10 =>
          have H := HA.out
          clear HA
          simp only [skiarealaw25_MediaBack.j0] at H
          by_cases c40 : x30_10 = true
          · subst c40
            have H1 : (some false) = some r := by rw [if_pos rfl] at H; exact H
            clear H
            have H := H1
            clear H1
            obtain rfl := Option.some.inj H
            go_wp2
            go_ret
            exact ⟨by first | rfl | (simp [errW_none, errW_some] <;> rfl) | (simp [*, errW_none, errW_some] <;> rfl), by repeat (first | (with_reducible first | exact HB.out | apply below_alloc | apply pw_below_drewN | apply below_drew1 | refine below_set ?_ GE507.out | refine below_set ?_ GE508.out | refine below_set ?_ GE520.out | refine below_set ?_ GE534.out) | exact HB.out)⟩
          · replace c40 := Bool.eq_false_iff.mpr c40
            subst c40
            have H1 : ((media_Right.f kj10 t511 a2_1 a2_2 a2_3 a2_4 a2_5 a2_6 a2_7 t519).bind fun t535 => (if t535 = 0 then ((media_Body.f kj10 t511 t512 t513 t514 t515 t516 t517 t518 t519).bind fun t536 => ((media_Body.f kj10 t511 a2_1 a2_2 a2_3 a2_4 a2_5 a2_6 a2_7 t519).bind fun t539 => ((skiarealaw25_block.f kj10 t536 t539).bind fun t542 => (if t542 < 0 then (some true) else ((media_Check.f kj10 a0 t511 a2_1 a2_2 a2_3 a2_4 a2_5 a2_6 a2_7 t519).bind fun t543 => (some (!t543))))))) else (some true))) = some r := by rw [if_neg (show ¬ (false = true) by decide)] at H; exact H
            clear H
            have H := H1
            clear H1
            replace H := Option.bind_eq_some_iff.mp H
            obtain ⟨t535, A410, H⟩ := H
            replace H : (if t535 = 0 then ((media_Body.f kj10 t511 t512 t513 t514 t515 t516 t517 t518 t519).bind fun t536 => ((media_Body.f kj10 t511 a2_1 a2_2 a2_3 a2_4 a2_5 a2_6 a2_7 t519).bind fun t539 => ((skiarealaw25_block.f kj10 t536 t539).bind fun t542 => (if t542 < 0 then (some true) else ((media_Check.f kj10 a0 t511 a2_1 a2_2 a2_3 a2_4 a2_5 a2_6 a2_7 t519).bind fun t543 => (some (!t543))))))) else (some true)) = some r := H
            have A41 := Aside0.mk A410
            clear A410
            by_cases c42 : t535 = 0
            · rw [if_pos c42] at H
              have c42b0 : (t535 == 0) = true := beq_iff_eq.mpr c42
              have c42b1 : (t535 != 0) = false := bne_eq_false_iff_eq.mpr c42
              clear c42
              replace H := Option.bind_eq_some_iff.mp H
              obtain ⟨t536, A430, H⟩ := H
              replace H : ((media_Body.f kj10 t511 a2_1 a2_2 a2_3 a2_4 a2_5 a2_6 a2_7 t519).bind fun t539 => ((skiarealaw25_block.f kj10 t536 t539).bind fun t542 => (if t542 < 0 then (some true) else ((media_Check.f kj10 a0 t511 a2_1 a2_2 a2_3 a2_4 a2_5 a2_6 a2_7 t519).bind fun t543 => (some (!t543)))))) = some r := H
              have A43 := Aside0.mk A430
              clear A430
              replace H := Option.bind_eq_some_iff.mp H
              obtain ⟨t539, A440, H⟩ := H
              replace H : ((skiarealaw25_block.f kj10 t536 t539).bind fun t542 => (if t542 < 0 then (some true) else ((media_Check.f kj10 a0 t511 a2_1 a2_2 a2_3 a2_4 a2_5 a2_6 a2_7 t519).bind fun t543 => (some (!t543))))) = some r := H
              have A44 := Aside0.mk A440
              clear A440
              replace H := Option.bind_eq_some_iff.mp H
              obtain ⟨t542, A450, H⟩ := H
              replace H : (if t542 < 0 then (some true) else ((media_Check.f kj10 a0 t511 a2_1 a2_2 a2_3 a2_4 a2_5 a2_6 a2_7 t519).bind fun t543 => (some (!t543)))) = some r := H
              have A45 := Aside0.mk A450
              clear A450
              by_cases c46 : t542 < 0
              · rw [if_pos c46] at H
                have c46b0 : decide (t542 < 0) = true := decide_eq_true c46
                clear c46
                obtain rfl := Option.some.inj H
                try go_wp2
                have n0_ := Aside0.mk (blk_drew BK507.out)
                have n1_ := Aside0.mk (blk_drew BK508.out)
                have n2_ := Aside0.mk (blk_drew BK520.out)
                have n3_ := Aside0.mk (blk_drew BK534.out)
                have n4_ := Aside0.mk (below_drew1 HB.out)
                clear BK507
                clear BK508
                clear BK520
                clear BK534
                clear HB
                have BK507 := n0_
                have BK508 := n1_
                have BK520 := n2_
                have BK534 := n3_
                have HB := n4_
                clear n0_ n1_ n2_ n3_ n4_
                refine start_ (n := 8) (S := fun w' => w'.cell? ⟨gb520, 0, none⟩ = some (.int .i64 t511) ∧ w'.cell? ⟨gb520, 1, none⟩ = some (.int .i64 t512) ∧ w'.cell? ⟨gb520, 2, none⟩ = some (.int .i64 t513) ∧ w'.cell? ⟨gb520, 3, none⟩ = some (.int .i64 t514) ∧ w'.cell? ⟨gb520, 4, none⟩ = some (.int .i64 t515) ∧ w'.cell? ⟨gb520, 5, none⟩ = some (.int .i64 t516) ∧ w'.cell? ⟨gb520, 6, none⟩ = some (.int .i64 t517) ∧ w'.cell? ⟨gb520, 7, none⟩ = some (.int .i64 t518) ∧ w'.cell? ⟨gb520, 8, none⟩ = some (.int .u64 t519)) (ds := []) #[false, false, false, false, false, false, false, false] (by kernel_rfl) rfl rfl ⟨(blk_cell BK520.out 0).trans rfl, (blk_cell BK520.out 1).trans rfl, (blk_cell BK520.out 2).trans rfl, (blk_cell BK520.out 3).trans rfl, (blk_cell BK520.out 4).trans rfl, (blk_cell BK520.out 5).trans rfl, (blk_cell BK520.out 6).trans rfl, (blk_cell BK520.out 7).trans rfl, (blk_cell BK520.out 8).trans rfl⟩ (fun hHeld => ?_); refine with_tabW skiarealaw25_MediaBack.tab9 skiarealaw25_MediaBack.bits9 (fun HT_ HW_ => ?_)
                generalize wc.drew = w47 at BK507 BK508 BK520 BK534 HB hHeld ⊢
                refine pure_ (i := 0) (N := some 31) (v := ?_) (a' := ?_) #[true, false, false, false, false, false, false, false] rfl rfl (any_of HT_.out (by kernel_rfl)) (fun _ _ _ h => h) (Or.inl ⟨by rfl, ?_⟩) ?_ ?_
                rotate_left
                · intro w'
                  go_simp
                  with_reducible rfl
                rotate_left
                · simp only [Act.put, List.setIfInBounds_toArray, List.set_cons_zero, List.set_cons_succ, i64_w, i32_w, IntKind.wrap_u8, IntKind.wrap_u32]
                  rfl
                refine pure_ (i := 2) (N := some 33) (v := ?_) (a' := ?_) #[true, false, true, false, false, false, false, false] rfl rfl (any_of HT_.out (by kernel_rfl)) (fun _ _ _ h => h) (Or.inl ⟨by rfl, ?_⟩) ?_ ?_
                rotate_left
                · intro w'
                  go_simp
                  with_reducible rfl
                rotate_left
                · simp only [Act.put, List.setIfInBounds_toArray, List.set_cons_zero, List.set_cons_succ, i64_w, i32_w, IntKind.wrap_u8, IntKind.wrap_u32]
                  rfl
                refine take_ (i := 1) (N := some 32) (v := ?_) (a' := ?_) #[true, true, true, false, false, false, false, false] rfl rfl (take_ofW HT_.out HW_.out (by kernel_rfl)) (fun _ _ _ h => h) (Or.inl ⟨by rfl, ?_⟩) hHeld ?_ ?_
                rotate_left
                · rintro w' ⟨s0, s1, s2, s3, s4, s5, s6, s7, s8⟩
                  go_simp
                  with_reducible rfl
                rotate_left
                · simp only [Act.put, List.setIfInBounds_toArray, List.set_cons_zero, List.set_cons_succ, i64_w, i32_w, IntKind.wrap_u8, IntKind.wrap_u32]
                  rfl
                refine pure_ (i := 4) (N := some 35) (v := ?_) (a' := ?_) #[true, true, true, false, true, false, false, false] rfl rfl (any_of HT_.out (by kernel_rfl)) (fun _ _ _ h => h) (Or.inl ⟨by rfl, ?_⟩) ?_ ?_
                rotate_left
                · intro w'
                  go_simp
                  with_reducible rfl
                rotate_left
                · simp only [Act.put, List.setIfInBounds_toArray, List.set_cons_zero, List.set_cons_succ, i64_w, i32_w, IntKind.wrap_u8, IntKind.wrap_u32]
                  rfl
                refine take_ (i := 3) (N := some 34) (v := ?_) (a' := ?_) #[true, true, true, true, true, false, false, false] rfl rfl (take_ofW HT_.out HW_.out (by kernel_rfl)) (fun _ _ _ h => h) (Or.inl ⟨by rfl, ?_⟩) hHeld ?_ ?_
                rotate_left
                · rintro w' ⟨s0, s1, s2, s3, s4, s5, s6, s7, s8⟩
                  go_simp
                  with_reducible rfl
                rotate_left
                · simp only [Act.put, List.setIfInBounds_toArray, List.set_cons_zero, List.set_cons_succ, i64_w, i32_w, IntKind.wrap_u8, IntKind.wrap_u32]
                  rfl
                refine one_ (i := 5) (N := none) #[true, true, true, true, true, true, false, false] rfl rfl (one_of HT_.out (by kernel_rfl)) (by decide) (fun K hK => ?_)
                have hs48 : w47.cell? ⟨gb508, 0, none⟩ = some (.int .i64 a2_0) := (blk_cell BK508.out 0).trans rfl
                have hfs48 := blk_frozen BK508.out 0
                have hns48_0 := NB507_508.out
                have hns48_2 := NB520_508.out
                have hns48_3 := NB534_508.out
                have hms48_0 := NB508_507.out
                have hms48_2 := NB508_520.out
                have hms48_3 := NB508_534.out
                refine skip_ (w1 := ?_) (by rfl) rfl ?_ ?_
                rotate_left
                · go_simp
                  rfl
                refine hK.out _ _ ⟨((cell_far (p := ⟨gb508, _, none⟩) NB520_508.out _).trans (hHeld.1)), ((cell_far (p := ⟨gb508, _, none⟩) NB520_508.out _).trans (hHeld.2.1)), ((cell_far (p := ⟨gb508, _, none⟩) NB520_508.out _).trans (hHeld.2.2.1)), ((cell_far (p := ⟨gb508, _, none⟩) NB520_508.out _).trans (hHeld.2.2.2.1)), ((cell_far (p := ⟨gb508, _, none⟩) NB520_508.out _).trans (hHeld.2.2.2.2.1)), ((cell_far (p := ⟨gb508, _, none⟩) NB520_508.out _).trans (hHeld.2.2.2.2.2.1)), ((cell_far (p := ⟨gb508, _, none⟩) NB520_508.out _).trans (hHeld.2.2.2.2.2.2.1)), ((cell_far (p := ⟨gb508, _, none⟩) NB520_508.out _).trans (hHeld.2.2.2.2.2.2.2.1)), ((cell_far (p := ⟨gb508, _, none⟩) NB520_508.out _).trans (hHeld.2.2.2.2.2.2.2.2))⟩ (fun hHeld => ?_)
                clear hK K
                refine pure_ (i := 6) (N := some 36) (v := ?_) (a' := ?_) #[true, true, true, true, true, true, true, false] rfl rfl (any_of HT_.out (by kernel_rfl)) (fun _ _ _ h => h) (Or.inl ⟨by rfl, ?_⟩) ?_ ?_
                rotate_left
                · intro w'
                  go_simp
                  with_reducible rfl
                rotate_left
                · simp only [Act.put, List.setIfInBounds_toArray, List.set_cons_zero, List.set_cons_succ, i64_w, i32_w, IntKind.wrap_u8, IntKind.wrap_u32]
                  rfl
                refine one_ (i := 7) (N := none) #[true, true, true, true, true, true, true, true] rfl rfl (one_of HT_.out (by kernel_rfl)) (by decide) (fun K hK => ?_)
                have hs49 : w47.cell? ⟨gb508, 8, none⟩ = some (.int .u64 a2_8) := (blk_cell BK508.out 8).trans rfl
                have hfs49 := blk_frozen BK508.out 8
                have hns49_0 := NB507_508.out
                have hns49_2 := NB520_508.out
                have hns49_3 := NB534_508.out
                have hms49_0 := NB508_507.out
                have hms49_2 := NB508_520.out
                have hms49_3 := NB508_534.out
                refine skip_ (w1 := ?_) (by rfl) rfl ?_ ?_
                rotate_left
                · go_simp
                  rfl
                refine hK.out _ _ ⟨((cell_far (p := ⟨gb508, _, none⟩) NB520_508.out _).trans (hHeld.1)), ((cell_far (p := ⟨gb508, _, none⟩) NB520_508.out _).trans (hHeld.2.1)), ((cell_far (p := ⟨gb508, _, none⟩) NB520_508.out _).trans (hHeld.2.2.1)), ((cell_far (p := ⟨gb508, _, none⟩) NB520_508.out _).trans (hHeld.2.2.2.1)), ((cell_far (p := ⟨gb508, _, none⟩) NB520_508.out _).trans (hHeld.2.2.2.2.1)), ((cell_far (p := ⟨gb508, _, none⟩) NB520_508.out _).trans (hHeld.2.2.2.2.2.1)), ((cell_far (p := ⟨gb508, _, none⟩) NB520_508.out _).trans (hHeld.2.2.2.2.2.2.1)), ((cell_far (p := ⟨gb508, _, none⟩) NB520_508.out _).trans (hHeld.2.2.2.2.2.2.2.1)), ((cell_far (p := ⟨gb508, _, none⟩) NB520_508.out _).trans (hHeld.2.2.2.2.2.2.2.2))⟩ (fun hHeld => ?_)
                clear hK K
                refine done_ (done_of HT_.out (by kernel_rfl)) ?_
                try go_wp2
                have n0_ : Aside0 (((w47.setCell ⟨gb508, 0, none⟩ (.int .i64 t511)).setCell ⟨gb508, 8, none⟩ (.int .u64 t519)).heap[gb507]? = some (.cells #[.int .i64 a1_0, .int .i64 a1_1, .int .i64 a1_2, .int .i64 a1_3, .int .i64 a1_4, .int .i64 a1_5, .int .i64 a1_6, .int .i64 a1_7, .int .u64 a1_8] 24 (0, 0))) := ⟨by (with_reducible repeat (first | refine blk_drewN ?_ _ | refine blk_drew ?_ | refine blk_alloc ?_ _)); refine blk_far ?_ NB507_508.out _; refine blk_far ?_ NB507_508.out _; (with_reducible repeat (first | refine blk_drewN ?_ _ | refine blk_drew ?_ | refine blk_alloc ?_ _)); exact BK507.out⟩
                have n1_ : Aside0 (((w47.setCell ⟨gb508, 0, none⟩ (.int .i64 t511)).setCell ⟨gb508, 8, none⟩ (.int .u64 t519)).heap[gb508]? = some (.cells #[.int .i64 t511, .int .i64 a2_1, .int .i64 a2_2, .int .i64 a2_3, .int .i64 a2_4, .int .i64 a2_5, .int .i64 a2_6, .int .i64 a2_7, .int .u64 t519] 24 (0, 0))) := ⟨by (with_reducible repeat (first | refine blk_drewN ?_ _ | refine blk_drew ?_ | refine blk_alloc ?_ _)); refine blk_put (cs := #[.int .i64 t511, .int .i64 a2_1, .int .i64 a2_2, .int .i64 a2_3, .int .i64 a2_4, .int .i64 a2_5, .int .i64 a2_6, .int .i64 a2_7, .int .u64 a2_8]) ?_ 8 _ rfl; refine blk_put (cs := #[.int .i64 a2_0, .int .i64 a2_1, .int .i64 a2_2, .int .i64 a2_3, .int .i64 a2_4, .int .i64 a2_5, .int .i64 a2_6, .int .i64 a2_7, .int .u64 a2_8]) ?_ 0 _ rfl; (with_reducible repeat (first | refine blk_drewN ?_ _ | refine blk_drew ?_ | refine blk_alloc ?_ _)); exact BK508.out⟩
                have n2_ : Aside0 (((w47.setCell ⟨gb508, 0, none⟩ (.int .i64 t511)).setCell ⟨gb508, 8, none⟩ (.int .u64 t519)).heap[gb520]? = some (.cells #[.int .i64 t511, .int .i64 t512, .int .i64 t513, .int .i64 t514, .int .i64 t515, .int .i64 t516, .int .i64 t517, .int .i64 t518, .int .u64 t519] 24 (0, 0))) := ⟨by (with_reducible repeat (first | refine blk_drewN ?_ _ | refine blk_drew ?_ | refine blk_alloc ?_ _)); refine blk_far ?_ NB520_508.out _; refine blk_far ?_ NB520_508.out _; (with_reducible repeat (first | refine blk_drewN ?_ _ | refine blk_drew ?_ | refine blk_alloc ?_ _)); exact BK520.out⟩
                have n3_ : Aside0 (((w47.setCell ⟨gb508, 0, none⟩ (.int .i64 t511)).setCell ⟨gb508, 8, none⟩ (.int .u64 t519)).heap[gb534]? = some (.cells #[.int .i64 t524, .int .i64 t525, .int .i64 t526, .int .i64 t527, .int .i64 t528, .int .i64 t529, .int .i64 t530, .int .i64 t531, .int .u64 t532] 24 (0, 0))) := ⟨by (with_reducible repeat (first | refine blk_drewN ?_ _ | refine blk_drew ?_ | refine blk_alloc ?_ _)); refine blk_far ?_ NB534_508.out _; refine blk_far ?_ NB534_508.out _; (with_reducible repeat (first | refine blk_drewN ?_ _ | refine blk_drew ?_ | refine blk_alloc ?_ _)); exact BK534.out⟩
                have n4_ : Aside0 (Below w.heap.size w ((w47.setCell ⟨gb508, 0, none⟩ (.int .i64 t511)).setCell ⟨gb508, 8, none⟩ (.int .u64 t519))) := ⟨by repeat (first | (with_reducible first | exact HB.out | apply below_alloc | apply pw_below_drewN | apply below_drew1 | refine below_set ?_ GE507.out | refine below_set ?_ GE508.out | refine below_set ?_ GE520.out | refine below_set ?_ GE534.out) | exact HB.out)⟩
                (try clear BK507)
                (try clear BK508)
                (try clear BK520)
                (try clear BK534)
                (try clear HB)
                generalize ((w47.setCell ⟨gb508, 0, none⟩ (.int .i64 t511)).setCell ⟨gb508, 8, none⟩ (.int .u64 t519)) = w50 at n0_ n1_ n2_ n3_ n4_ ⊢
                have BK507 := n0_
                have BK508 := n1_
                have BK520 := n2_
                have BK534 := n3_
                have HB := n4_
                clear n0_ n1_ n2_ n3_ n4_
                have n0_ := Aside0.mk (blk_drew BK507.out)
                have n1_ := Aside0.mk (blk_drew BK508.out)
                have n2_ := Aside0.mk (blk_drew BK520.out)
                have n3_ := Aside0.mk (blk_drew BK534.out)
                have n4_ := Aside0.mk (below_drew1 HB.out)
                clear BK507
                clear BK508
                clear BK520
                clear BK534
                clear HB
                have BK507 := n0_
                have BK508 := n1_
                have BK520 := n2_
                have BK534 := n3_
                have HB := n4_
                clear n0_ n1_ n2_ n3_ n4_
                refine start_ (n := 11) (S := fun w' => w'.cell? ⟨gb508, 0, none⟩ = some (.int .i64 t511) ∧ w'.cell? ⟨gb508, 1, none⟩ = some (.int .i64 a2_1) ∧ w'.cell? ⟨gb508, 2, none⟩ = some (.int .i64 a2_2) ∧ w'.cell? ⟨gb508, 3, none⟩ = some (.int .i64 a2_3) ∧ w'.cell? ⟨gb508, 4, none⟩ = some (.int .i64 a2_4) ∧ w'.cell? ⟨gb508, 5, none⟩ = some (.int .i64 a2_5) ∧ w'.cell? ⟨gb508, 6, none⟩ = some (.int .i64 a2_6) ∧ w'.cell? ⟨gb508, 7, none⟩ = some (.int .i64 a2_7) ∧ w'.cell? ⟨gb508, 8, none⟩ = some (.int .u64 t519) ∧ w'.cell? ⟨gb520, 0, none⟩ = some (.int .i64 t511) ∧ w'.cell? ⟨gb520, 1, none⟩ = some (.int .i64 t512) ∧ w'.cell? ⟨gb520, 2, none⟩ = some (.int .i64 t513) ∧ w'.cell? ⟨gb520, 3, none⟩ = some (.int .i64 t514) ∧ w'.cell? ⟨gb520, 4, none⟩ = some (.int .i64 t515) ∧ w'.cell? ⟨gb520, 5, none⟩ = some (.int .i64 t516) ∧ w'.cell? ⟨gb520, 6, none⟩ = some (.int .i64 t517) ∧ w'.cell? ⟨gb520, 7, none⟩ = some (.int .i64 t518) ∧ w'.cell? ⟨gb520, 8, none⟩ = some (.int .u64 t519)) (ds := []) #[false, false, false, false, false, false, false, false, false, false, false] (by kernel_rfl) rfl rfl ⟨(blk_cell BK508.out 0).trans rfl, (blk_cell BK508.out 1).trans rfl, (blk_cell BK508.out 2).trans rfl, (blk_cell BK508.out 3).trans rfl, (blk_cell BK508.out 4).trans rfl, (blk_cell BK508.out 5).trans rfl, (blk_cell BK508.out 6).trans rfl, (blk_cell BK508.out 7).trans rfl, (blk_cell BK508.out 8).trans rfl, (blk_cell BK520.out 0).trans rfl, (blk_cell BK520.out 1).trans rfl, (blk_cell BK520.out 2).trans rfl, (blk_cell BK520.out 3).trans rfl, (blk_cell BK520.out 4).trans rfl, (blk_cell BK520.out 5).trans rfl, (blk_cell BK520.out 6).trans rfl, (blk_cell BK520.out 7).trans rfl, (blk_cell BK520.out 8).trans rfl⟩ (fun hHeld => ?_); refine with_tabW skiarealaw25_MediaBack.tab10 skiarealaw25_MediaBack.bits10 (fun HT_ HW_ => ?_)
                generalize w50.drew = w51 at BK507 BK508 BK520 BK534 HB hHeld ⊢
                refine take_ (i := 0) (N := some 37) (v := ?_) (a' := ?_) #[true, false, false, false, false, false, false, false, false, false, false] rfl rfl (take_ofW HT_.out HW_.out (by kernel_rfl)) (fun _ _ _ h => h) (Or.inl ⟨by rfl, ?_⟩) hHeld ?_ ?_
                rotate_left
                · rintro w' ⟨s0, s1, s2, s3, s4, s5, s6, s7, s8, s9, s10, s11, s12, s13, s14, s15, s16, s17⟩
                  go_simp
                  with_reducible rfl
                rotate_left
                · simp only [Act.put, List.setIfInBounds_toArray, List.set_cons_zero, List.set_cons_succ, i64_w, i32_w, IntKind.wrap_u8, IntKind.wrap_u32]
                  rfl
                refine one_ (i := 1) (N := some 38) #[true, true, false, false, false, false, false, false, false, false, false] rfl rfl (one_of HT_.out (by kernel_rfl)) (by decide) (fun K hK => ?_)
                refine goes_ Try.func11 (by kernel_rfl) rfl #[.agg #[.int .i64 t511, .int .i64 a2_1, .int .i64 a2_2, .int .i64 a2_3, .int .i64 a2_4, .int .i64 a2_5, .int .i64 a2_6, .int .i64 a2_7, .int .u64 t519]] (by rfl) rfl rfl (by (try simp only [List.map_toArray, List.map_cons, List.map_nil]); first | done | rfl | (simp only [List.length_drop, List.length_take]; rfl)) ?_
                with_reducible refine (media_Right.calls kj10 t511 a2_1 a2_2 a2_3 a2_4 a2_5 a2_6 a2_7 t519 t535 _ A41.out).mono ?_
                rintro e w52 ⟨rfl, hb⟩
                refine ⟨_, rfl, ?_⟩
                have n0_ := Aside0.mk (blk_below (g := gb507) (o := .cells #[.int .i64 a1_0, .int .i64 a1_1, .int .i64 a1_2, .int .i64 a1_3, .int .i64 a1_4, .int .i64 a1_5, .int .i64 a1_6, .int .i64 a1_7, .int .u64 a1_8] 24 (0, 0)) (by (with_reducible repeat (first | refine blk_drewN ?_ _ | refine blk_drew ?_ | refine blk_alloc ?_ _)); exact BK507.out) hb)
                have n1_ := Aside0.mk (blk_below (g := gb508) (o := .cells #[.int .i64 t511, .int .i64 a2_1, .int .i64 a2_2, .int .i64 a2_3, .int .i64 a2_4, .int .i64 a2_5, .int .i64 a2_6, .int .i64 a2_7, .int .u64 t519] 24 (0, 0)) (by (with_reducible repeat (first | refine blk_drewN ?_ _ | refine blk_drew ?_ | refine blk_alloc ?_ _)); exact BK508.out) hb)
                have n2_ := Aside0.mk (blk_below (g := gb520) (o := .cells #[.int .i64 t511, .int .i64 t512, .int .i64 t513, .int .i64 t514, .int .i64 t515, .int .i64 t516, .int .i64 t517, .int .i64 t518, .int .u64 t519] 24 (0, 0)) (by (with_reducible repeat (first | refine blk_drewN ?_ _ | refine blk_drew ?_ | refine blk_alloc ?_ _)); exact BK520.out) hb)
                have n3_ := Aside0.mk (blk_below (g := gb534) (o := .cells #[.int .i64 t524, .int .i64 t525, .int .i64 t526, .int .i64 t527, .int .i64 t528, .int .i64 t529, .int .i64 t530, .int .i64 t531, .int .u64 t532] 24 (0, 0)) (by (with_reducible repeat (first | refine blk_drewN ?_ _ | refine blk_drew ?_ | refine blk_alloc ?_ _)); exact BK534.out) hb)
                have n4_ := Aside0.mk (below_step (by repeat (first | (with_reducible first | exact HB.out | apply below_alloc | apply pw_below_drewN | apply below_drew1 | refine below_set ?_ GE507.out | refine below_set ?_ GE508.out | refine below_set ?_ GE520.out | refine below_set ?_ GE534.out) | exact HB.out)) hb)
                clear BK507
                clear BK508
                clear BK520
                clear BK534
                clear HB
                have BK507 := n0_
                have BK508 := n1_
                have BK520 := n2_
                have BK534 := n3_
                have HB := n4_
                clear n0_ n1_ n2_ n3_ n4_
                (try clear hb)
                (try clear hb2)
                (try clear hk)
                (try clear hi)
                refine hK.out _ _ ⟨(blk_cell BK508.out 0).trans rfl, (blk_cell BK508.out 1).trans rfl, (blk_cell BK508.out 2).trans rfl, (blk_cell BK508.out 3).trans rfl, (blk_cell BK508.out 4).trans rfl, (blk_cell BK508.out 5).trans rfl, (blk_cell BK508.out 6).trans rfl, (blk_cell BK508.out 7).trans rfl, (blk_cell BK508.out 8).trans rfl, (blk_cell BK520.out 0).trans rfl, (blk_cell BK520.out 1).trans rfl, (blk_cell BK520.out 2).trans rfl, (blk_cell BK520.out 3).trans rfl, (blk_cell BK520.out 4).trans rfl, (blk_cell BK520.out 5).trans rfl, (blk_cell BK520.out 6).trans rfl, (blk_cell BK520.out 7).trans rfl, (blk_cell BK520.out 8).trans rfl⟩ (fun hHeld => ?_)
                clear hK K
                refine norm_ (a' := ?_) ?_ ?_
                rotate_left
                · show Act.put _ (some 38) _ = _
                  simp only [Act.put, List.setIfInBounds_toArray, List.set_cons_zero, List.set_cons_succ, i64_w, i32_w, IntKind.wrap_u8, IntKind.wrap_u32]
                  rfl
                refine pure_ (i := 2) (N := some 39) (v := ?_) (a' := ?_) #[true, true, true, false, false, false, false, false, false, false, false] rfl rfl (any_of HT_.out (by kernel_rfl)) (fun _ _ _ h => h) (Or.inl ⟨by rfl, ?_⟩) ?_ ?_
                rotate_left
                · intro w'
                  go_simp
                  with_reducible rfl
                rotate_left
                · simp only [Act.put, List.setIfInBounds_toArray, List.set_cons_zero, List.set_cons_succ, i64_w, i32_w, IntKind.wrap_u8, IntKind.wrap_u32]
                  rfl
                refine pure_ (i := 3) (N := some 40) (v := ?_) (a' := ?_) #[true, true, true, true, false, false, false, false, false, false, false] rfl rfl (any_of HT_.out (by kernel_rfl)) (fun _ _ _ h => h) (Or.inl ⟨by rfl, ?_⟩) ?_ ?_
                rotate_left
                · intro w'
                  go_simp
                  with_reducible rfl
                rotate_left
                · simp only [Act.put, List.setIfInBounds_toArray, List.set_cons_zero, List.set_cons_succ, i64_w, i32_w, IntKind.wrap_u8, IntKind.wrap_u32]
                  rfl
                refine take_ (i := 4) (N := some 41) (v := ?_) (a' := ?_) #[true, true, true, true, true, false, false, false, false, false, false] rfl rfl (take_ofW HT_.out HW_.out (by kernel_rfl)) (fun _ _ _ h => h) (Or.inl ⟨by rfl, ?_⟩) hHeld ?_ ?_
                rotate_left
                · rintro w' ⟨s0, s1, s2, s3, s4, s5, s6, s7, s8, s9, s10, s11, s12, s13, s14, s15, s16, s17⟩
                  go_simp
                  with_reducible rfl
                rotate_left
                · simp only [Act.put, List.setIfInBounds_toArray, List.set_cons_zero, List.set_cons_succ, i64_w, i32_w, IntKind.wrap_u8, IntKind.wrap_u32]
                  rfl
                refine take_ (i := 6) (N := some 43) (v := ?_) (a' := ?_) #[true, true, true, true, true, false, true, false, false, false, false] rfl rfl (take_ofW HT_.out HW_.out (by kernel_rfl)) (fun _ _ _ h => h) (Or.inl ⟨by rfl, ?_⟩) hHeld ?_ ?_
                rotate_left
                · rintro w' ⟨s0, s1, s2, s3, s4, s5, s6, s7, s8, s9, s10, s11, s12, s13, s14, s15, s16, s17⟩
                  go_simp
                  with_reducible rfl
                rotate_left
                · simp only [Act.put, List.setIfInBounds_toArray, List.set_cons_zero, List.set_cons_succ, i64_w, i32_w, IntKind.wrap_u8, IntKind.wrap_u32]
                  rfl
                refine one_ (i := 5) (N := some 42) #[true, true, true, true, true, true, true, false, false, false, false] rfl rfl (one_of HT_.out (by kernel_rfl)) (by decide) (fun K hK => ?_)
                refine goes_ Try.func19 (by kernel_rfl) rfl #[.agg #[.int .i64 t511, .int .i64 t512, .int .i64 t513, .int .i64 t514, .int .i64 t515, .int .i64 t516, .int .i64 t517, .int .i64 t518, .int .u64 t519]] (by rfl) rfl rfl (by (try simp only [List.map_toArray, List.map_cons, List.map_nil]); first | done | rfl | (simp only [List.length_drop, List.length_take]; rfl)) ?_
                with_reducible refine (media_Body.calls kj10 t511 t512 t513 t514 t515 t516 t517 t518 t519 t536 _ A43.out).mono ?_
                rintro e w53 ⟨v537, rfl, ho0, hb⟩
                refine ⟨_, rfl, ?_⟩
                have n0_ := Aside0.mk (Kd.R_lower ho0 (below_size (by repeat (first | (with_reducible first | exact HB.out | apply below_alloc | apply pw_below_drewN | apply below_drew1 | refine below_set ?_ GE507.out | refine below_set ?_ GE508.out | refine below_set ?_ GE520.out | refine below_set ?_ GE534.out) | exact HB.out))))
                have n1_ := Aside0.mk (blk_below (g := gb507) (o := .cells #[.int .i64 a1_0, .int .i64 a1_1, .int .i64 a1_2, .int .i64 a1_3, .int .i64 a1_4, .int .i64 a1_5, .int .i64 a1_6, .int .i64 a1_7, .int .u64 a1_8] 24 (0, 0)) (by (with_reducible repeat (first | refine blk_drewN ?_ _ | refine blk_drew ?_ | refine blk_alloc ?_ _)); exact BK507.out) hb)
                have n2_ := Aside0.mk (blk_below (g := gb508) (o := .cells #[.int .i64 t511, .int .i64 a2_1, .int .i64 a2_2, .int .i64 a2_3, .int .i64 a2_4, .int .i64 a2_5, .int .i64 a2_6, .int .i64 a2_7, .int .u64 t519] 24 (0, 0)) (by (with_reducible repeat (first | refine blk_drewN ?_ _ | refine blk_drew ?_ | refine blk_alloc ?_ _)); exact BK508.out) hb)
                have n3_ := Aside0.mk (blk_below (g := gb520) (o := .cells #[.int .i64 t511, .int .i64 t512, .int .i64 t513, .int .i64 t514, .int .i64 t515, .int .i64 t516, .int .i64 t517, .int .i64 t518, .int .u64 t519] 24 (0, 0)) (by (with_reducible repeat (first | refine blk_drewN ?_ _ | refine blk_drew ?_ | refine blk_alloc ?_ _)); exact BK520.out) hb)
                have n4_ := Aside0.mk (blk_below (g := gb534) (o := .cells #[.int .i64 t524, .int .i64 t525, .int .i64 t526, .int .i64 t527, .int .i64 t528, .int .i64 t529, .int .i64 t530, .int .i64 t531, .int .u64 t532] 24 (0, 0)) (by (with_reducible repeat (first | refine blk_drewN ?_ _ | refine blk_drew ?_ | refine blk_alloc ?_ _)); exact BK534.out) hb)
                have n5_ := Aside0.mk (below_step (by repeat (first | (with_reducible first | exact HB.out | apply below_alloc | apply pw_below_drewN | apply below_drew1 | refine below_set ?_ GE507.out | refine below_set ?_ GE508.out | refine below_set ?_ GE520.out | refine below_set ?_ GE534.out) | exact HB.out)) hb)
                clear BK507
                clear BK508
                clear BK520
                clear BK534
                clear HB
                have HO538 := n0_
                have BK507 := n1_
                have BK508 := n2_
                have BK520 := n3_
                have BK534 := n4_
                have HB := n5_
                clear n0_ n1_ n2_ n3_ n4_ n5_
                (try clear hb)
                (try clear hb2)
                (try clear hk)
                (try clear hi)
                (try clear ho0)
                refine hK.out _ _ ⟨(blk_cell BK508.out 0).trans rfl, (blk_cell BK508.out 1).trans rfl, (blk_cell BK508.out 2).trans rfl, (blk_cell BK508.out 3).trans rfl, (blk_cell BK508.out 4).trans rfl, (blk_cell BK508.out 5).trans rfl, (blk_cell BK508.out 6).trans rfl, (blk_cell BK508.out 7).trans rfl, (blk_cell BK508.out 8).trans rfl, (blk_cell BK520.out 0).trans rfl, (blk_cell BK520.out 1).trans rfl, (blk_cell BK520.out 2).trans rfl, (blk_cell BK520.out 3).trans rfl, (blk_cell BK520.out 4).trans rfl, (blk_cell BK520.out 5).trans rfl, (blk_cell BK520.out 6).trans rfl, (blk_cell BK520.out 7).trans rfl, (blk_cell BK520.out 8).trans rfl⟩ (fun hHeld => ?_)
                clear hK K
                refine norm_ (a' := ?_) ?_ ?_
                rotate_left
                · show Act.put _ (some 42) _ = _
                  simp only [Act.put, List.setIfInBounds_toArray, List.set_cons_zero, List.set_cons_succ, i64_w, i32_w, IntKind.wrap_u8, IntKind.wrap_u32]
                  rfl
                refine one_ (i := 7) (N := some 44) #[true, true, true, true, true, true, true, true, false, false, false] rfl rfl (one_of HT_.out (by kernel_rfl)) (by decide) (fun K hK => ?_)
                refine goes_ Try.func19 (by kernel_rfl) rfl #[.agg #[.int .i64 t511, .int .i64 a2_1, .int .i64 a2_2, .int .i64 a2_3, .int .i64 a2_4, .int .i64 a2_5, .int .i64 a2_6, .int .i64 a2_7, .int .u64 t519]] (by rfl) rfl rfl (by (try simp only [List.map_toArray, List.map_cons, List.map_nil]); first | done | rfl | (simp only [List.length_drop, List.length_take]; rfl)) ?_
                with_reducible refine (media_Body.calls kj10 t511 a2_1 a2_2 a2_3 a2_4 a2_5 a2_6 a2_7 t519 t539 _ A44.out).mono ?_
                rintro e w54 ⟨v540, rfl, ho0, hb⟩
                refine ⟨_, rfl, ?_⟩
                have n0_ := Aside0.mk (Kd.R_elder' (by (with_reducible repeat (first | apply Kd.R_alloc | apply Kd.R_drewN | apply Kd.R_drew)); exact HO538.out) (Kd.R_base ho0) hb)
                have n1_ := Aside0.mk (Kd.R_lower (Kd.R_new' ho0 (Kd.R_lt (by (with_reducible repeat (first | apply Kd.R_alloc | apply Kd.R_drewN | apply Kd.R_drew)); exact HO538.out))) (below_size (by repeat (first | (with_reducible first | exact HB.out | apply below_alloc | apply pw_below_drewN | apply below_drew1 | refine below_set ?_ GE507.out | refine below_set ?_ GE508.out | refine below_set ?_ GE520.out | refine below_set ?_ GE534.out) | exact HB.out))))
                have n2_ := Aside0.mk (blk_below (g := gb507) (o := .cells #[.int .i64 a1_0, .int .i64 a1_1, .int .i64 a1_2, .int .i64 a1_3, .int .i64 a1_4, .int .i64 a1_5, .int .i64 a1_6, .int .i64 a1_7, .int .u64 a1_8] 24 (0, 0)) (by (with_reducible repeat (first | refine blk_drewN ?_ _ | refine blk_drew ?_ | refine blk_alloc ?_ _)); exact BK507.out) hb)
                have n3_ := Aside0.mk (blk_below (g := gb508) (o := .cells #[.int .i64 t511, .int .i64 a2_1, .int .i64 a2_2, .int .i64 a2_3, .int .i64 a2_4, .int .i64 a2_5, .int .i64 a2_6, .int .i64 a2_7, .int .u64 t519] 24 (0, 0)) (by (with_reducible repeat (first | refine blk_drewN ?_ _ | refine blk_drew ?_ | refine blk_alloc ?_ _)); exact BK508.out) hb)
                have n4_ := Aside0.mk (blk_below (g := gb520) (o := .cells #[.int .i64 t511, .int .i64 t512, .int .i64 t513, .int .i64 t514, .int .i64 t515, .int .i64 t516, .int .i64 t517, .int .i64 t518, .int .u64 t519] 24 (0, 0)) (by (with_reducible repeat (first | refine blk_drewN ?_ _ | refine blk_drew ?_ | refine blk_alloc ?_ _)); exact BK520.out) hb)
                have n5_ := Aside0.mk (blk_below (g := gb534) (o := .cells #[.int .i64 t524, .int .i64 t525, .int .i64 t526, .int .i64 t527, .int .i64 t528, .int .i64 t529, .int .i64 t530, .int .i64 t531, .int .u64 t532] 24 (0, 0)) (by (with_reducible repeat (first | refine blk_drewN ?_ _ | refine blk_drew ?_ | refine blk_alloc ?_ _)); exact BK534.out) hb)
                have n6_ := Aside0.mk (below_step (by repeat (first | (with_reducible first | exact HB.out | apply below_alloc | apply pw_below_drewN | apply below_drew1 | refine below_set ?_ GE507.out | refine below_set ?_ GE508.out | refine below_set ?_ GE520.out | refine below_set ?_ GE534.out) | exact HB.out)) hb)
                clear HO538
                clear BK507
                clear BK508
                clear BK520
                clear BK534
                clear HB
                have HO538 := n0_
                have HO541 := n1_
                have BK507 := n2_
                have BK508 := n3_
                have BK520 := n4_
                have BK534 := n5_
                have HB := n6_
                clear n0_ n1_ n2_ n3_ n4_ n5_ n6_
                (try clear hb)
                (try clear hb2)
                (try clear hk)
                (try clear hi)
                (try clear ho0)
                obtain ⟨Ao55, co55, eo55⟩ := Kd.R_slice HO538.out
                (first | subst eo55 | (injection eo55 with f1_ f2_ f3_; have f4_ := f1_.symm; have f5_ := f3_.symm; clear f1_ f2_ f3_; subst f4_; subst f5_))
                obtain ⟨Ao56, co56, eo56⟩ := Kd.R_slice HO541.out
                (first | subst eo56 | (injection eo56 with f1_ f2_ f3_; have f4_ := f1_.symm; have f5_ := f3_.symm; clear f1_ f2_ f3_; subst f4_; subst f5_))
                refine hK.out _ _ ⟨(blk_cell BK508.out 0).trans rfl, (blk_cell BK508.out 1).trans rfl, (blk_cell BK508.out 2).trans rfl, (blk_cell BK508.out 3).trans rfl, (blk_cell BK508.out 4).trans rfl, (blk_cell BK508.out 5).trans rfl, (blk_cell BK508.out 6).trans rfl, (blk_cell BK508.out 7).trans rfl, (blk_cell BK508.out 8).trans rfl, (blk_cell BK520.out 0).trans rfl, (blk_cell BK520.out 1).trans rfl, (blk_cell BK520.out 2).trans rfl, (blk_cell BK520.out 3).trans rfl, (blk_cell BK520.out 4).trans rfl, (blk_cell BK520.out 5).trans rfl, (blk_cell BK520.out 6).trans rfl, (blk_cell BK520.out 7).trans rfl, (blk_cell BK520.out 8).trans rfl⟩ (fun hHeld => ?_)
                clear hK K
                refine norm_ (a' := ?_) ?_ ?_
                rotate_left
                · show Act.put _ (some 44) _ = _
                  simp only [Act.put, List.setIfInBounds_toArray, List.set_cons_zero, List.set_cons_succ, i64_w, i32_w, IntKind.wrap_u8, IntKind.wrap_u32]
                  rfl
                refine one_ (i := 8) (N := some 45) #[true, true, true, true, true, true, true, true, true, false, false] rfl rfl (one_of HT_.out (by kernel_rfl)) (by decide) (fun K hK => ?_)
                refine goes_ Try.func26 (by kernel_rfl) rfl #[.slice Ao55 t536.length co55, .slice Ao56 t539.length co56] (by rfl) rfl rfl (by (try simp only [List.map_toArray, List.map_cons, List.map_nil]); first | done | rfl | (simp only [List.length_drop, List.length_take]; rfl)) ?_
                with_reducible refine (skiarealaw25_block.calls kj10 _ _ t536 _ _ t539 t542 _ ?side1 ?side2 ?side3 ?side4 A45.out).mono ?_
                (case side1 => repeat (first | exact (Kd.R_reads' HO538.out).2.2 | (with_reducible refine Kd.C_alloc ?_ _) | (with_reducible refine Kd.C_drewN ?_ _) | (with_reducible refine Kd.C_drew ?_)))
                (case side2 => exact (Kd.R_reads' HO538.out).2.1)
                (case side3 => repeat (first | exact (Kd.R_reads' HO541.out).2.2 | (with_reducible refine Kd.C_alloc ?_ _) | (with_reducible refine Kd.C_drewN ?_ _) | (with_reducible refine Kd.C_drew ?_)))
                (case side4 => exact (Kd.R_reads' HO541.out).2.1)
                rintro e w' ⟨rfl, ⟨nd, rfl⟩⟩
                refine ⟨_, rfl, ?_⟩
                refine hK.out _ _ ⟨(blk_cell BK508.out 0).trans rfl, (blk_cell BK508.out 1).trans rfl, (blk_cell BK508.out 2).trans rfl, (blk_cell BK508.out 3).trans rfl, (blk_cell BK508.out 4).trans rfl, (blk_cell BK508.out 5).trans rfl, (blk_cell BK508.out 6).trans rfl, (blk_cell BK508.out 7).trans rfl, (blk_cell BK508.out 8).trans rfl, (blk_cell BK520.out 0).trans rfl, (blk_cell BK520.out 1).trans rfl, (blk_cell BK520.out 2).trans rfl, (blk_cell BK520.out 3).trans rfl, (blk_cell BK520.out 4).trans rfl, (blk_cell BK520.out 5).trans rfl, (blk_cell BK520.out 6).trans rfl, (blk_cell BK520.out 7).trans rfl, (blk_cell BK520.out 8).trans rfl⟩ (fun hHeld => ?_)
                clear hK K
                refine norm_ (a' := ?_) ?_ ?_
                rotate_left
                · show Act.put _ (some 45) _ = _
                  simp only [Act.put, List.setIfInBounds_toArray, List.set_cons_zero, List.set_cons_succ, i64_w, i32_w, IntKind.wrap_u8, IntKind.wrap_u32]
                  rfl
                refine pure_ (i := 9) (N := some 46) (v := ?_) (a' := ?_) #[true, true, true, true, true, true, true, true, true, true, false] rfl rfl (any_of HT_.out (by kernel_rfl)) (fun _ _ _ h => h) (Or.inl ⟨by rfl, ?_⟩) ?_ ?_
                rotate_left
                · intro w'
                  go_simp
                  with_reducible rfl
                rotate_left
                · simp only [Act.put, List.setIfInBounds_toArray, List.set_cons_zero, List.set_cons_succ, i64_w, i32_w, IntKind.wrap_u8, IntKind.wrap_u32]
                  rfl
                refine pure_ (i := 10) (N := some 47) (v := ?_) (a' := ?_) #[true, true, true, true, true, true, true, true, true, true, true] rfl rfl (any_of HT_.out (by kernel_rfl)) (fun _ _ _ h => h) (Or.inl ⟨by rfl, ?_⟩) ?_ ?_
                rotate_left
                · intro w'
                  go_simp
                  with_reducible rfl
                rotate_left
                · simp only [Act.put, List.setIfInBounds_toArray, List.set_cons_zero, List.set_cons_succ, i64_w, i32_w, IntKind.wrap_u8, IntKind.wrap_u32]
                  rfl
                refine done_ (done_of HT_.out (by kernel_rfl)) ?_
                try go_wp2
                go_ret
                exact ⟨by first | rfl | (simp [errW_none, errW_some] <;> rfl) | (simp [*, errW_none, errW_some] <;> rfl), by repeat (first | (with_reducible first | exact HB.out | apply below_alloc | apply pw_below_drewN | apply below_drew1 | refine below_set ?_ GE507.out | refine below_set ?_ GE508.out | refine below_set ?_ GE520.out | refine below_set ?_ GE534.out) | exact HB.out)⟩
              · rw [if_neg c46] at H
                have c46b0 : decide (t542 < 0) = false := decide_eq_false c46
                clear c46
                replace H := Option.bind_eq_some_iff.mp H
                obtain ⟨t543, A570, H⟩ := H
                replace H : (some (!t543)) = some r := H
                have A57 := Aside0.mk A570
                clear A570
                obtain rfl := Option.some.inj H
                try go_wp2
                have n0_ := Aside0.mk (blk_drew BK507.out)
                have n1_ := Aside0.mk (blk_drew BK508.out)
                have n2_ := Aside0.mk (blk_drew BK520.out)
                have n3_ := Aside0.mk (blk_drew BK534.out)
                have n4_ := Aside0.mk (below_drew1 HB.out)
                clear BK507
                clear BK508
                clear BK520
                clear BK534
                clear HB
                have BK507 := n0_
                have BK508 := n1_
                have BK520 := n2_
                have BK534 := n3_
                have HB := n4_
                clear n0_ n1_ n2_ n3_ n4_
                refine start_ (n := 8) (S := fun w' => w'.cell? ⟨gb520, 0, none⟩ = some (.int .i64 t511) ∧ w'.cell? ⟨gb520, 1, none⟩ = some (.int .i64 t512) ∧ w'.cell? ⟨gb520, 2, none⟩ = some (.int .i64 t513) ∧ w'.cell? ⟨gb520, 3, none⟩ = some (.int .i64 t514) ∧ w'.cell? ⟨gb520, 4, none⟩ = some (.int .i64 t515) ∧ w'.cell? ⟨gb520, 5, none⟩ = some (.int .i64 t516) ∧ w'.cell? ⟨gb520, 6, none⟩ = some (.int .i64 t517) ∧ w'.cell? ⟨gb520, 7, none⟩ = some (.int .i64 t518) ∧ w'.cell? ⟨gb520, 8, none⟩ = some (.int .u64 t519)) (ds := []) #[false, false, false, false, false, false, false, false] (by kernel_rfl) rfl rfl ⟨(blk_cell BK520.out 0).trans rfl, (blk_cell BK520.out 1).trans rfl, (blk_cell BK520.out 2).trans rfl, (blk_cell BK520.out 3).trans rfl, (blk_cell BK520.out 4).trans rfl, (blk_cell BK520.out 5).trans rfl, (blk_cell BK520.out 6).trans rfl, (blk_cell BK520.out 7).trans rfl, (blk_cell BK520.out 8).trans rfl⟩ (fun hHeld => ?_); refine with_tabW skiarealaw25_MediaBack.tab9 skiarealaw25_MediaBack.bits9 (fun HT_ HW_ => ?_)
                generalize wc.drew = w58 at BK507 BK508 BK520 BK534 HB hHeld ⊢
                refine pure_ (i := 0) (N := some 31) (v := ?_) (a' := ?_) #[true, false, false, false, false, false, false, false] rfl rfl (any_of HT_.out (by kernel_rfl)) (fun _ _ _ h => h) (Or.inl ⟨by rfl, ?_⟩) ?_ ?_
                rotate_left
                · intro w'
                  go_simp
                  with_reducible rfl
                rotate_left
                · simp only [Act.put, List.setIfInBounds_toArray, List.set_cons_zero, List.set_cons_succ, i64_w, i32_w, IntKind.wrap_u8, IntKind.wrap_u32]
                  rfl
                refine pure_ (i := 2) (N := some 33) (v := ?_) (a' := ?_) #[true, false, true, false, false, false, false, false] rfl rfl (any_of HT_.out (by kernel_rfl)) (fun _ _ _ h => h) (Or.inl ⟨by rfl, ?_⟩) ?_ ?_
                rotate_left
                · intro w'
                  go_simp
                  with_reducible rfl
                rotate_left
                · simp only [Act.put, List.setIfInBounds_toArray, List.set_cons_zero, List.set_cons_succ, i64_w, i32_w, IntKind.wrap_u8, IntKind.wrap_u32]
                  rfl
                refine take_ (i := 1) (N := some 32) (v := ?_) (a' := ?_) #[true, true, true, false, false, false, false, false] rfl rfl (take_ofW HT_.out HW_.out (by kernel_rfl)) (fun _ _ _ h => h) (Or.inl ⟨by rfl, ?_⟩) hHeld ?_ ?_
                rotate_left
                · rintro w' ⟨s0, s1, s2, s3, s4, s5, s6, s7, s8⟩
                  go_simp
                  with_reducible rfl
                rotate_left
                · simp only [Act.put, List.setIfInBounds_toArray, List.set_cons_zero, List.set_cons_succ, i64_w, i32_w, IntKind.wrap_u8, IntKind.wrap_u32]
                  rfl
                refine pure_ (i := 4) (N := some 35) (v := ?_) (a' := ?_) #[true, true, true, false, true, false, false, false] rfl rfl (any_of HT_.out (by kernel_rfl)) (fun _ _ _ h => h) (Or.inl ⟨by rfl, ?_⟩) ?_ ?_
                rotate_left
                · intro w'
                  go_simp
                  with_reducible rfl
                rotate_left
                · simp only [Act.put, List.setIfInBounds_toArray, List.set_cons_zero, List.set_cons_succ, i64_w, i32_w, IntKind.wrap_u8, IntKind.wrap_u32]
                  rfl
                refine take_ (i := 3) (N := some 34) (v := ?_) (a' := ?_) #[true, true, true, true, true, false, false, false] rfl rfl (take_ofW HT_.out HW_.out (by kernel_rfl)) (fun _ _ _ h => h) (Or.inl ⟨by rfl, ?_⟩) hHeld ?_ ?_
                rotate_left
                · rintro w' ⟨s0, s1, s2, s3, s4, s5, s6, s7, s8⟩
                  go_simp
                  with_reducible rfl
                rotate_left
                · simp only [Act.put, List.setIfInBounds_toArray, List.set_cons_zero, List.set_cons_succ, i64_w, i32_w, IntKind.wrap_u8, IntKind.wrap_u32]
                  rfl
                refine one_ (i := 5) (N := none) #[true, true, true, true, true, true, false, false] rfl rfl (one_of HT_.out (by kernel_rfl)) (by decide) (fun K hK => ?_)
                have hs59 : w58.cell? ⟨gb508, 0, none⟩ = some (.int .i64 a2_0) := (blk_cell BK508.out 0).trans rfl
                have hfs59 := blk_frozen BK508.out 0
                have hns59_0 := NB507_508.out
                have hns59_2 := NB520_508.out
                have hns59_3 := NB534_508.out
                have hms59_0 := NB508_507.out
                have hms59_2 := NB508_520.out
                have hms59_3 := NB508_534.out
                refine skip_ (w1 := ?_) (by rfl) rfl ?_ ?_
                rotate_left
                · go_simp
                  rfl
                refine hK.out _ _ ⟨((cell_far (p := ⟨gb508, _, none⟩) NB520_508.out _).trans (hHeld.1)), ((cell_far (p := ⟨gb508, _, none⟩) NB520_508.out _).trans (hHeld.2.1)), ((cell_far (p := ⟨gb508, _, none⟩) NB520_508.out _).trans (hHeld.2.2.1)), ((cell_far (p := ⟨gb508, _, none⟩) NB520_508.out _).trans (hHeld.2.2.2.1)), ((cell_far (p := ⟨gb508, _, none⟩) NB520_508.out _).trans (hHeld.2.2.2.2.1)), ((cell_far (p := ⟨gb508, _, none⟩) NB520_508.out _).trans (hHeld.2.2.2.2.2.1)), ((cell_far (p := ⟨gb508, _, none⟩) NB520_508.out _).trans (hHeld.2.2.2.2.2.2.1)), ((cell_far (p := ⟨gb508, _, none⟩) NB520_508.out _).trans (hHeld.2.2.2.2.2.2.2.1)), ((cell_far (p := ⟨gb508, _, none⟩) NB520_508.out _).trans (hHeld.2.2.2.2.2.2.2.2))⟩ (fun hHeld => ?_)
                clear hK K
                refine pure_ (i := 6) (N := some 36) (v := ?_) (a' := ?_) #[true, true, true, true, true, true, true, false] rfl rfl (any_of HT_.out (by kernel_rfl)) (fun _ _ _ h => h) (Or.inl ⟨by rfl, ?_⟩) ?_ ?_
                rotate_left
                · intro w'
                  go_simp
                  with_reducible rfl
                rotate_left
                · simp only [Act.put, List.setIfInBounds_toArray, List.set_cons_zero, List.set_cons_succ, i64_w, i32_w, IntKind.wrap_u8, IntKind.wrap_u32]
                  rfl
                refine one_ (i := 7) (N := none) #[true, true, true, true, true, true, true, true] rfl rfl (one_of HT_.out (by kernel_rfl)) (by decide) (fun K hK => ?_)
                have hs60 : w58.cell? ⟨gb508, 8, none⟩ = some (.int .u64 a2_8) := (blk_cell BK508.out 8).trans rfl
                have hfs60 := blk_frozen BK508.out 8
                have hns60_0 := NB507_508.out
                have hns60_2 := NB520_508.out
                have hns60_3 := NB534_508.out
                have hms60_0 := NB508_507.out
                have hms60_2 := NB508_520.out
                have hms60_3 := NB508_534.out
                refine skip_ (w1 := ?_) (by rfl) rfl ?_ ?_
                rotate_left
                · go_simp
                  rfl
                refine hK.out _ _ ⟨((cell_far (p := ⟨gb508, _, none⟩) NB520_508.out _).trans (hHeld.1)), ((cell_far (p := ⟨gb508, _, none⟩) NB520_508.out _).trans (hHeld.2.1)), ((cell_far (p := ⟨gb508, _, none⟩) NB520_508.out _).trans (hHeld.2.2.1)), ((cell_far (p := ⟨gb508, _, none⟩) NB520_508.out _).trans (hHeld.2.2.2.1)), ((cell_far (p := ⟨gb508, _, none⟩) NB520_508.out _).trans (hHeld.2.2.2.2.1)), ((cell_far (p := ⟨gb508, _, none⟩) NB520_508.out _).trans (hHeld.2.2.2.2.2.1)), ((cell_far (p := ⟨gb508, _, none⟩) NB520_508.out _).trans (hHeld.2.2.2.2.2.2.1)), ((cell_far (p := ⟨gb508, _, none⟩) NB520_508.out _).trans (hHeld.2.2.2.2.2.2.2.1)), ((cell_far (p := ⟨gb508, _, none⟩) NB520_508.out _).trans (hHeld.2.2.2.2.2.2.2.2))⟩ (fun hHeld => ?_)
                clear hK K
                refine done_ (done_of HT_.out (by kernel_rfl)) ?_
                try go_wp2
                have n0_ : Aside0 (((w58.setCell ⟨gb508, 0, none⟩ (.int .i64 t511)).setCell ⟨gb508, 8, none⟩ (.int .u64 t519)).heap[gb507]? = some (.cells #[.int .i64 a1_0, .int .i64 a1_1, .int .i64 a1_2, .int .i64 a1_3, .int .i64 a1_4, .int .i64 a1_5, .int .i64 a1_6, .int .i64 a1_7, .int .u64 a1_8] 24 (0, 0))) := ⟨by (with_reducible repeat (first | refine blk_drewN ?_ _ | refine blk_drew ?_ | refine blk_alloc ?_ _)); refine blk_far ?_ NB507_508.out _; refine blk_far ?_ NB507_508.out _; (with_reducible repeat (first | refine blk_drewN ?_ _ | refine blk_drew ?_ | refine blk_alloc ?_ _)); exact BK507.out⟩
                have n1_ : Aside0 (((w58.setCell ⟨gb508, 0, none⟩ (.int .i64 t511)).setCell ⟨gb508, 8, none⟩ (.int .u64 t519)).heap[gb508]? = some (.cells #[.int .i64 t511, .int .i64 a2_1, .int .i64 a2_2, .int .i64 a2_3, .int .i64 a2_4, .int .i64 a2_5, .int .i64 a2_6, .int .i64 a2_7, .int .u64 t519] 24 (0, 0))) := ⟨by (with_reducible repeat (first | refine blk_drewN ?_ _ | refine blk_drew ?_ | refine blk_alloc ?_ _)); refine blk_put (cs := #[.int .i64 t511, .int .i64 a2_1, .int .i64 a2_2, .int .i64 a2_3, .int .i64 a2_4, .int .i64 a2_5, .int .i64 a2_6, .int .i64 a2_7, .int .u64 a2_8]) ?_ 8 _ rfl; refine blk_put (cs := #[.int .i64 a2_0, .int .i64 a2_1, .int .i64 a2_2, .int .i64 a2_3, .int .i64 a2_4, .int .i64 a2_5, .int .i64 a2_6, .int .i64 a2_7, .int .u64 a2_8]) ?_ 0 _ rfl; (with_reducible repeat (first | refine blk_drewN ?_ _ | refine blk_drew ?_ | refine blk_alloc ?_ _)); exact BK508.out⟩
                have n2_ : Aside0 (((w58.setCell ⟨gb508, 0, none⟩ (.int .i64 t511)).setCell ⟨gb508, 8, none⟩ (.int .u64 t519)).heap[gb520]? = some (.cells #[.int .i64 t511, .int .i64 t512, .int .i64 t513, .int .i64 t514, .int .i64 t515, .int .i64 t516, .int .i64 t517, .int .i64 t518, .int .u64 t519] 24 (0, 0))) := ⟨by (with_reducible repeat (first | refine blk_drewN ?_ _ | refine blk_drew ?_ | refine blk_alloc ?_ _)); refine blk_far ?_ NB520_508.out _; refine blk_far ?_ NB520_508.out _; (with_reducible repeat (first | refine blk_drewN ?_ _ | refine blk_drew ?_ | refine blk_alloc ?_ _)); exact BK520.out⟩
                have n3_ : Aside0 (((w58.setCell ⟨gb508, 0, none⟩ (.int .i64 t511)).setCell ⟨gb508, 8, none⟩ (.int .u64 t519)).heap[gb534]? = some (.cells #[.int .i64 t524, .int .i64 t525, .int .i64 t526, .int .i64 t527, .int .i64 t528, .int .i64 t529, .int .i64 t530, .int .i64 t531, .int .u64 t532] 24 (0, 0))) := ⟨by (with_reducible repeat (first | refine blk_drewN ?_ _ | refine blk_drew ?_ | refine blk_alloc ?_ _)); refine blk_far ?_ NB534_508.out _; refine blk_far ?_ NB534_508.out _; (with_reducible repeat (first | refine blk_drewN ?_ _ | refine blk_drew ?_ | refine blk_alloc ?_ _)); exact BK534.out⟩
                have n4_ : Aside0 (Below w.heap.size w ((w58.setCell ⟨gb508, 0, none⟩ (.int .i64 t511)).setCell ⟨gb508, 8, none⟩ (.int .u64 t519))) := ⟨by repeat (first | (with_reducible first | exact HB.out | apply below_alloc | apply pw_below_drewN | apply below_drew1 | refine below_set ?_ GE507.out | refine below_set ?_ GE508.out | refine below_set ?_ GE520.out | refine below_set ?_ GE534.out) | exact HB.out)⟩
                (try clear BK507)
                (try clear BK508)
                (try clear BK520)
                (try clear BK534)
                (try clear HB)
                generalize ((w58.setCell ⟨gb508, 0, none⟩ (.int .i64 t511)).setCell ⟨gb508, 8, none⟩ (.int .u64 t519)) = w61 at n0_ n1_ n2_ n3_ n4_ ⊢
                have BK507 := n0_
                have BK508 := n1_
                have BK520 := n2_
                have BK534 := n3_
                have HB := n4_
                clear n0_ n1_ n2_ n3_ n4_
                have n0_ := Aside0.mk (blk_drew BK507.out)
                have n1_ := Aside0.mk (blk_drew BK508.out)
                have n2_ := Aside0.mk (blk_drew BK520.out)
                have n3_ := Aside0.mk (blk_drew BK534.out)
                have n4_ := Aside0.mk (below_drew1 HB.out)
                clear BK507
                clear BK508
                clear BK520
                clear BK534
                clear HB
                have BK507 := n0_
                have BK508 := n1_
                have BK520 := n2_
                have BK534 := n3_
                have HB := n4_
                clear n0_ n1_ n2_ n3_ n4_
                refine start_ (n := 11) (S := fun w' => w'.cell? ⟨gb508, 0, none⟩ = some (.int .i64 t511) ∧ w'.cell? ⟨gb508, 1, none⟩ = some (.int .i64 a2_1) ∧ w'.cell? ⟨gb508, 2, none⟩ = some (.int .i64 a2_2) ∧ w'.cell? ⟨gb508, 3, none⟩ = some (.int .i64 a2_3) ∧ w'.cell? ⟨gb508, 4, none⟩ = some (.int .i64 a2_4) ∧ w'.cell? ⟨gb508, 5, none⟩ = some (.int .i64 a2_5) ∧ w'.cell? ⟨gb508, 6, none⟩ = some (.int .i64 a2_6) ∧ w'.cell? ⟨gb508, 7, none⟩ = some (.int .i64 a2_7) ∧ w'.cell? ⟨gb508, 8, none⟩ = some (.int .u64 t519) ∧ w'.cell? ⟨gb520, 0, none⟩ = some (.int .i64 t511) ∧ w'.cell? ⟨gb520, 1, none⟩ = some (.int .i64 t512) ∧ w'.cell? ⟨gb520, 2, none⟩ = some (.int .i64 t513) ∧ w'.cell? ⟨gb520, 3, none⟩ = some (.int .i64 t514) ∧ w'.cell? ⟨gb520, 4, none⟩ = some (.int .i64 t515) ∧ w'.cell? ⟨gb520, 5, none⟩ = some (.int .i64 t516) ∧ w'.cell? ⟨gb520, 6, none⟩ = some (.int .i64 t517) ∧ w'.cell? ⟨gb520, 7, none⟩ = some (.int .i64 t518) ∧ w'.cell? ⟨gb520, 8, none⟩ = some (.int .u64 t519)) (ds := []) #[false, false, false, false, false, false, false, false, false, false, false] (by kernel_rfl) rfl rfl ⟨(blk_cell BK508.out 0).trans rfl, (blk_cell BK508.out 1).trans rfl, (blk_cell BK508.out 2).trans rfl, (blk_cell BK508.out 3).trans rfl, (blk_cell BK508.out 4).trans rfl, (blk_cell BK508.out 5).trans rfl, (blk_cell BK508.out 6).trans rfl, (blk_cell BK508.out 7).trans rfl, (blk_cell BK508.out 8).trans rfl, (blk_cell BK520.out 0).trans rfl, (blk_cell BK520.out 1).trans rfl, (blk_cell BK520.out 2).trans rfl, (blk_cell BK520.out 3).trans rfl, (blk_cell BK520.out 4).trans rfl, (blk_cell BK520.out 5).trans rfl, (blk_cell BK520.out 6).trans rfl, (blk_cell BK520.out 7).trans rfl, (blk_cell BK520.out 8).trans rfl⟩ (fun hHeld => ?_); refine with_tabW skiarealaw25_MediaBack.tab10 skiarealaw25_MediaBack.bits10 (fun HT_ HW_ => ?_)
                generalize w61.drew = w62 at BK507 BK508 BK520 BK534 HB hHeld ⊢
                refine take_ (i := 0) (N := some 37) (v := ?_) (a' := ?_) #[true, false, false, false, false, false, false, false, false, false, false] rfl rfl (take_ofW HT_.out HW_.out (by kernel_rfl)) (fun _ _ _ h => h) (Or.inl ⟨by rfl, ?_⟩) hHeld ?_ ?_
                rotate_left
                · rintro w' ⟨s0, s1, s2, s3, s4, s5, s6, s7, s8, s9, s10, s11, s12, s13, s14, s15, s16, s17⟩
                  go_simp
                  with_reducible rfl
                rotate_left
                · simp only [Act.put, List.setIfInBounds_toArray, List.set_cons_zero, List.set_cons_succ, i64_w, i32_w, IntKind.wrap_u8, IntKind.wrap_u32]
                  rfl
                refine one_ (i := 1) (N := some 38) #[true, true, false, false, false, false, false, false, false, false, false] rfl rfl (one_of HT_.out (by kernel_rfl)) (by decide) (fun K hK => ?_)
                refine goes_ Try.func11 (by kernel_rfl) rfl #[.agg #[.int .i64 t511, .int .i64 a2_1, .int .i64 a2_2, .int .i64 a2_3, .int .i64 a2_4, .int .i64 a2_5, .int .i64 a2_6, .int .i64 a2_7, .int .u64 t519]] (by rfl) rfl rfl (by (try simp only [List.map_toArray, List.map_cons, List.map_nil]); first | done | rfl | (simp only [List.length_drop, List.length_take]; rfl)) ?_
                with_reducible refine (media_Right.calls kj10 t511 a2_1 a2_2 a2_3 a2_4 a2_5 a2_6 a2_7 t519 t535 _ A41.out).mono ?_
                rintro e w63 ⟨rfl, hb⟩
                refine ⟨_, rfl, ?_⟩
                have n0_ := Aside0.mk (blk_below (g := gb507) (o := .cells #[.int .i64 a1_0, .int .i64 a1_1, .int .i64 a1_2, .int .i64 a1_3, .int .i64 a1_4, .int .i64 a1_5, .int .i64 a1_6, .int .i64 a1_7, .int .u64 a1_8] 24 (0, 0)) (by (with_reducible repeat (first | refine blk_drewN ?_ _ | refine blk_drew ?_ | refine blk_alloc ?_ _)); exact BK507.out) hb)
                have n1_ := Aside0.mk (blk_below (g := gb508) (o := .cells #[.int .i64 t511, .int .i64 a2_1, .int .i64 a2_2, .int .i64 a2_3, .int .i64 a2_4, .int .i64 a2_5, .int .i64 a2_6, .int .i64 a2_7, .int .u64 t519] 24 (0, 0)) (by (with_reducible repeat (first | refine blk_drewN ?_ _ | refine blk_drew ?_ | refine blk_alloc ?_ _)); exact BK508.out) hb)
                have n2_ := Aside0.mk (blk_below (g := gb520) (o := .cells #[.int .i64 t511, .int .i64 t512, .int .i64 t513, .int .i64 t514, .int .i64 t515, .int .i64 t516, .int .i64 t517, .int .i64 t518, .int .u64 t519] 24 (0, 0)) (by (with_reducible repeat (first | refine blk_drewN ?_ _ | refine blk_drew ?_ | refine blk_alloc ?_ _)); exact BK520.out) hb)
                have n3_ := Aside0.mk (blk_below (g := gb534) (o := .cells #[.int .i64 t524, .int .i64 t525, .int .i64 t526, .int .i64 t527, .int .i64 t528, .int .i64 t529, .int .i64 t530, .int .i64 t531, .int .u64 t532] 24 (0, 0)) (by (with_reducible repeat (first | refine blk_drewN ?_ _ | refine blk_drew ?_ | refine blk_alloc ?_ _)); exact BK534.out) hb)
                have n4_ := Aside0.mk (below_step (by repeat (first | (with_reducible first | exact HB.out | apply below_alloc | apply pw_below_drewN | apply below_drew1 | refine below_set ?_ GE507.out | refine below_set ?_ GE508.out | refine below_set ?_ GE520.out | refine below_set ?_ GE534.out) | exact HB.out)) hb)
                clear BK507
                clear BK508
                clear BK520
                clear BK534
                clear HB
                have BK507 := n0_
                have BK508 := n1_
                have BK520 := n2_
                have BK534 := n3_
                have HB := n4_
                clear n0_ n1_ n2_ n3_ n4_
                (try clear hb)
                (try clear hb2)
                (try clear hk)
                (try clear hi)
                refine hK.out _ _ ⟨(blk_cell BK508.out 0).trans rfl, (blk_cell BK508.out 1).trans rfl, (blk_cell BK508.out 2).trans rfl, (blk_cell BK508.out 3).trans rfl, (blk_cell BK508.out 4).trans rfl, (blk_cell BK508.out 5).trans rfl, (blk_cell BK508.out 6).trans rfl, (blk_cell BK508.out 7).trans rfl, (blk_cell BK508.out 8).trans rfl, (blk_cell BK520.out 0).trans rfl, (blk_cell BK520.out 1).trans rfl, (blk_cell BK520.out 2).trans rfl, (blk_cell BK520.out 3).trans rfl, (blk_cell BK520.out 4).trans rfl, (blk_cell BK520.out 5).trans rfl, (blk_cell BK520.out 6).trans rfl, (blk_cell BK520.out 7).trans rfl, (blk_cell BK520.out 8).trans rfl⟩ (fun hHeld => ?_)
                clear hK K
                refine norm_ (a' := ?_) ?_ ?_
                rotate_left
                · show Act.put _ (some 38) _ = _
                  simp only [Act.put, List.setIfInBounds_toArray, List.set_cons_zero, List.set_cons_succ, i64_w, i32_w, IntKind.wrap_u8, IntKind.wrap_u32]
                  rfl
                refine pure_ (i := 2) (N := some 39) (v := ?_) (a' := ?_) #[true, true, true, false, false, false, false, false, false, false, false] rfl rfl (any_of HT_.out (by kernel_rfl)) (fun _ _ _ h => h) (Or.inl ⟨by rfl, ?_⟩) ?_ ?_
                rotate_left
                · intro w'
                  go_simp
                  with_reducible rfl
                rotate_left
                · simp only [Act.put, List.setIfInBounds_toArray, List.set_cons_zero, List.set_cons_succ, i64_w, i32_w, IntKind.wrap_u8, IntKind.wrap_u32]
                  rfl
                refine pure_ (i := 3) (N := some 40) (v := ?_) (a' := ?_) #[true, true, true, true, false, false, false, false, false, false, false] rfl rfl (any_of HT_.out (by kernel_rfl)) (fun _ _ _ h => h) (Or.inl ⟨by rfl, ?_⟩) ?_ ?_
                rotate_left
                · intro w'
                  go_simp
                  with_reducible rfl
                rotate_left
                · simp only [Act.put, List.setIfInBounds_toArray, List.set_cons_zero, List.set_cons_succ, i64_w, i32_w, IntKind.wrap_u8, IntKind.wrap_u32]
                  rfl
                refine take_ (i := 4) (N := some 41) (v := ?_) (a' := ?_) #[true, true, true, true, true, false, false, false, false, false, false] rfl rfl (take_ofW HT_.out HW_.out (by kernel_rfl)) (fun _ _ _ h => h) (Or.inl ⟨by rfl, ?_⟩) hHeld ?_ ?_
                rotate_left
                · rintro w' ⟨s0, s1, s2, s3, s4, s5, s6, s7, s8, s9, s10, s11, s12, s13, s14, s15, s16, s17⟩
                  go_simp
                  with_reducible rfl
                rotate_left
                · simp only [Act.put, List.setIfInBounds_toArray, List.set_cons_zero, List.set_cons_succ, i64_w, i32_w, IntKind.wrap_u8, IntKind.wrap_u32]
                  rfl
                refine take_ (i := 6) (N := some 43) (v := ?_) (a' := ?_) #[true, true, true, true, true, false, true, false, false, false, false] rfl rfl (take_ofW HT_.out HW_.out (by kernel_rfl)) (fun _ _ _ h => h) (Or.inl ⟨by rfl, ?_⟩) hHeld ?_ ?_
                rotate_left
                · rintro w' ⟨s0, s1, s2, s3, s4, s5, s6, s7, s8, s9, s10, s11, s12, s13, s14, s15, s16, s17⟩
                  go_simp
                  with_reducible rfl
                rotate_left
                · simp only [Act.put, List.setIfInBounds_toArray, List.set_cons_zero, List.set_cons_succ, i64_w, i32_w, IntKind.wrap_u8, IntKind.wrap_u32]
                  rfl
                refine one_ (i := 5) (N := some 42) #[true, true, true, true, true, true, true, false, false, false, false] rfl rfl (one_of HT_.out (by kernel_rfl)) (by decide) (fun K hK => ?_)
                refine goes_ Try.func19 (by kernel_rfl) rfl #[.agg #[.int .i64 t511, .int .i64 t512, .int .i64 t513, .int .i64 t514, .int .i64 t515, .int .i64 t516, .int .i64 t517, .int .i64 t518, .int .u64 t519]] (by rfl) rfl rfl (by (try simp only [List.map_toArray, List.map_cons, List.map_nil]); first | done | rfl | (simp only [List.length_drop, List.length_take]; rfl)) ?_
                with_reducible refine (media_Body.calls kj10 t511 t512 t513 t514 t515 t516 t517 t518 t519 t536 _ A43.out).mono ?_
                rintro e w64 ⟨v537, rfl, ho0, hb⟩
                refine ⟨_, rfl, ?_⟩
                have n0_ := Aside0.mk (Kd.R_lower ho0 (below_size (by repeat (first | (with_reducible first | exact HB.out | apply below_alloc | apply pw_below_drewN | apply below_drew1 | refine below_set ?_ GE507.out | refine below_set ?_ GE508.out | refine below_set ?_ GE520.out | refine below_set ?_ GE534.out) | exact HB.out))))
                have n1_ := Aside0.mk (blk_below (g := gb507) (o := .cells #[.int .i64 a1_0, .int .i64 a1_1, .int .i64 a1_2, .int .i64 a1_3, .int .i64 a1_4, .int .i64 a1_5, .int .i64 a1_6, .int .i64 a1_7, .int .u64 a1_8] 24 (0, 0)) (by (with_reducible repeat (first | refine blk_drewN ?_ _ | refine blk_drew ?_ | refine blk_alloc ?_ _)); exact BK507.out) hb)
                have n2_ := Aside0.mk (blk_below (g := gb508) (o := .cells #[.int .i64 t511, .int .i64 a2_1, .int .i64 a2_2, .int .i64 a2_3, .int .i64 a2_4, .int .i64 a2_5, .int .i64 a2_6, .int .i64 a2_7, .int .u64 t519] 24 (0, 0)) (by (with_reducible repeat (first | refine blk_drewN ?_ _ | refine blk_drew ?_ | refine blk_alloc ?_ _)); exact BK508.out) hb)
                have n3_ := Aside0.mk (blk_below (g := gb520) (o := .cells #[.int .i64 t511, .int .i64 t512, .int .i64 t513, .int .i64 t514, .int .i64 t515, .int .i64 t516, .int .i64 t517, .int .i64 t518, .int .u64 t519] 24 (0, 0)) (by (with_reducible repeat (first | refine blk_drewN ?_ _ | refine blk_drew ?_ | refine blk_alloc ?_ _)); exact BK520.out) hb)
                have n4_ := Aside0.mk (blk_below (g := gb534) (o := .cells #[.int .i64 t524, .int .i64 t525, .int .i64 t526, .int .i64 t527, .int .i64 t528, .int .i64 t529, .int .i64 t530, .int .i64 t531, .int .u64 t532] 24 (0, 0)) (by (with_reducible repeat (first | refine blk_drewN ?_ _ | refine blk_drew ?_ | refine blk_alloc ?_ _)); exact BK534.out) hb)
                have n5_ := Aside0.mk (below_step (by repeat (first | (with_reducible first | exact HB.out | apply below_alloc | apply pw_below_drewN | apply below_drew1 | refine below_set ?_ GE507.out | refine below_set ?_ GE508.out | refine below_set ?_ GE520.out | refine below_set ?_ GE534.out) | exact HB.out)) hb)
                clear BK507
                clear BK508
                clear BK520
                clear BK534
                clear HB
                have HO538 := n0_
                have BK507 := n1_
                have BK508 := n2_
                have BK520 := n3_
                have BK534 := n4_
                have HB := n5_
                clear n0_ n1_ n2_ n3_ n4_ n5_
                (try clear hb)
                (try clear hb2)
                (try clear hk)
                (try clear hi)
                (try clear ho0)
                refine hK.out _ _ ⟨(blk_cell BK508.out 0).trans rfl, (blk_cell BK508.out 1).trans rfl, (blk_cell BK508.out 2).trans rfl, (blk_cell BK508.out 3).trans rfl, (blk_cell BK508.out 4).trans rfl, (blk_cell BK508.out 5).trans rfl, (blk_cell BK508.out 6).trans rfl, (blk_cell BK508.out 7).trans rfl, (blk_cell BK508.out 8).trans rfl, (blk_cell BK520.out 0).trans rfl, (blk_cell BK520.out 1).trans rfl, (blk_cell BK520.out 2).trans rfl, (blk_cell BK520.out 3).trans rfl, (blk_cell BK520.out 4).trans rfl, (blk_cell BK520.out 5).trans rfl, (blk_cell BK520.out 6).trans rfl, (blk_cell BK520.out 7).trans rfl, (blk_cell BK520.out 8).trans rfl⟩ (fun hHeld => ?_)
                clear hK K
                refine norm_ (a' := ?_) ?_ ?_
                rotate_left
                · show Act.put _ (some 42) _ = _
                  simp only [Act.put, List.setIfInBounds_toArray, List.set_cons_zero, List.set_cons_succ, i64_w, i32_w, IntKind.wrap_u8, IntKind.wrap_u32]
                  rfl
                refine one_ (i := 7) (N := some 44) #[true, true, true, true, true, true, true, true, false, false, false] rfl rfl (one_of HT_.out (by kernel_rfl)) (by decide) (fun K hK => ?_)
                refine goes_ Try.func19 (by kernel_rfl) rfl #[.agg #[.int .i64 t511, .int .i64 a2_1, .int .i64 a2_2, .int .i64 a2_3, .int .i64 a2_4, .int .i64 a2_5, .int .i64 a2_6, .int .i64 a2_7, .int .u64 t519]] (by rfl) rfl rfl (by (try simp only [List.map_toArray, List.map_cons, List.map_nil]); first | done | rfl | (simp only [List.length_drop, List.length_take]; rfl)) ?_
                with_reducible refine (media_Body.calls kj10 t511 a2_1 a2_2 a2_3 a2_4 a2_5 a2_6 a2_7 t519 t539 _ A44.out).mono ?_
                rintro e w65 ⟨v540, rfl, ho0, hb⟩
                refine ⟨_, rfl, ?_⟩
                have n0_ := Aside0.mk (Kd.R_elder' (by (with_reducible repeat (first | apply Kd.R_alloc | apply Kd.R_drewN | apply Kd.R_drew)); exact HO538.out) (Kd.R_base ho0) hb)
                have n1_ := Aside0.mk (Kd.R_lower (Kd.R_new' ho0 (Kd.R_lt (by (with_reducible repeat (first | apply Kd.R_alloc | apply Kd.R_drewN | apply Kd.R_drew)); exact HO538.out))) (below_size (by repeat (first | (with_reducible first | exact HB.out | apply below_alloc | apply pw_below_drewN | apply below_drew1 | refine below_set ?_ GE507.out | refine below_set ?_ GE508.out | refine below_set ?_ GE520.out | refine below_set ?_ GE534.out) | exact HB.out))))
                have n2_ := Aside0.mk (blk_below (g := gb507) (o := .cells #[.int .i64 a1_0, .int .i64 a1_1, .int .i64 a1_2, .int .i64 a1_3, .int .i64 a1_4, .int .i64 a1_5, .int .i64 a1_6, .int .i64 a1_7, .int .u64 a1_8] 24 (0, 0)) (by (with_reducible repeat (first | refine blk_drewN ?_ _ | refine blk_drew ?_ | refine blk_alloc ?_ _)); exact BK507.out) hb)
                have n3_ := Aside0.mk (blk_below (g := gb508) (o := .cells #[.int .i64 t511, .int .i64 a2_1, .int .i64 a2_2, .int .i64 a2_3, .int .i64 a2_4, .int .i64 a2_5, .int .i64 a2_6, .int .i64 a2_7, .int .u64 t519] 24 (0, 0)) (by (with_reducible repeat (first | refine blk_drewN ?_ _ | refine blk_drew ?_ | refine blk_alloc ?_ _)); exact BK508.out) hb)
                have n4_ := Aside0.mk (blk_below (g := gb520) (o := .cells #[.int .i64 t511, .int .i64 t512, .int .i64 t513, .int .i64 t514, .int .i64 t515, .int .i64 t516, .int .i64 t517, .int .i64 t518, .int .u64 t519] 24 (0, 0)) (by (with_reducible repeat (first | refine blk_drewN ?_ _ | refine blk_drew ?_ | refine blk_alloc ?_ _)); exact BK520.out) hb)
                have n5_ := Aside0.mk (blk_below (g := gb534) (o := .cells #[.int .i64 t524, .int .i64 t525, .int .i64 t526, .int .i64 t527, .int .i64 t528, .int .i64 t529, .int .i64 t530, .int .i64 t531, .int .u64 t532] 24 (0, 0)) (by (with_reducible repeat (first | refine blk_drewN ?_ _ | refine blk_drew ?_ | refine blk_alloc ?_ _)); exact BK534.out) hb)
                have n6_ := Aside0.mk (below_step (by repeat (first | (with_reducible first | exact HB.out | apply below_alloc | apply pw_below_drewN | apply below_drew1 | refine below_set ?_ GE507.out | refine below_set ?_ GE508.out | refine below_set ?_ GE520.out | refine below_set ?_ GE534.out) | exact HB.out)) hb)
                clear HO538
                clear BK507
                clear BK508
                clear BK520
                clear BK534
                clear HB
                have HO538 := n0_
                have HO541 := n1_
                have BK507 := n2_
                have BK508 := n3_
                have BK520 := n4_
                have BK534 := n5_
                have HB := n6_
                clear n0_ n1_ n2_ n3_ n4_ n5_ n6_
                (try clear hb)
                (try clear hb2)
                (try clear hk)
                (try clear hi)
                (try clear ho0)
                obtain ⟨Ao66, co66, eo66⟩ := Kd.R_slice HO538.out
                (first | subst eo66 | (injection eo66 with f1_ f2_ f3_; have f4_ := f1_.symm; have f5_ := f3_.symm; clear f1_ f2_ f3_; subst f4_; subst f5_))
                obtain ⟨Ao67, co67, eo67⟩ := Kd.R_slice HO541.out
                (first | subst eo67 | (injection eo67 with f1_ f2_ f3_; have f4_ := f1_.symm; have f5_ := f3_.symm; clear f1_ f2_ f3_; subst f4_; subst f5_))
                refine hK.out _ _ ⟨(blk_cell BK508.out 0).trans rfl, (blk_cell BK508.out 1).trans rfl, (blk_cell BK508.out 2).trans rfl, (blk_cell BK508.out 3).trans rfl, (blk_cell BK508.out 4).trans rfl, (blk_cell BK508.out 5).trans rfl, (blk_cell BK508.out 6).trans rfl, (blk_cell BK508.out 7).trans rfl, (blk_cell BK508.out 8).trans rfl, (blk_cell BK520.out 0).trans rfl, (blk_cell BK520.out 1).trans rfl, (blk_cell BK520.out 2).trans rfl, (blk_cell BK520.out 3).trans rfl, (blk_cell BK520.out 4).trans rfl, (blk_cell BK520.out 5).trans rfl, (blk_cell BK520.out 6).trans rfl, (blk_cell BK520.out 7).trans rfl, (blk_cell BK520.out 8).trans rfl⟩ (fun hHeld => ?_)
                clear hK K
                refine norm_ (a' := ?_) ?_ ?_
                rotate_left
                · show Act.put _ (some 44) _ = _
                  simp only [Act.put, List.setIfInBounds_toArray, List.set_cons_zero, List.set_cons_succ, i64_w, i32_w, IntKind.wrap_u8, IntKind.wrap_u32]
                  rfl
                refine one_ (i := 8) (N := some 45) #[true, true, true, true, true, true, true, true, true, false, false] rfl rfl (one_of HT_.out (by kernel_rfl)) (by decide) (fun K hK => ?_)
                refine goes_ Try.func26 (by kernel_rfl) rfl #[.slice Ao66 t536.length co66, .slice Ao67 t539.length co67] (by rfl) rfl rfl (by (try simp only [List.map_toArray, List.map_cons, List.map_nil]); first | done | rfl | (simp only [List.length_drop, List.length_take]; rfl)) ?_
                with_reducible refine (skiarealaw25_block.calls kj10 _ _ t536 _ _ t539 t542 _ ?side1 ?side2 ?side3 ?side4 A45.out).mono ?_
                (case side1 => repeat (first | exact (Kd.R_reads' HO538.out).2.2 | (with_reducible refine Kd.C_alloc ?_ _) | (with_reducible refine Kd.C_drewN ?_ _) | (with_reducible refine Kd.C_drew ?_)))
                (case side2 => exact (Kd.R_reads' HO538.out).2.1)
                (case side3 => repeat (first | exact (Kd.R_reads' HO541.out).2.2 | (with_reducible refine Kd.C_alloc ?_ _) | (with_reducible refine Kd.C_drewN ?_ _) | (with_reducible refine Kd.C_drew ?_)))
                (case side4 => exact (Kd.R_reads' HO541.out).2.1)
                rintro e w' ⟨rfl, ⟨nd, rfl⟩⟩
                refine ⟨_, rfl, ?_⟩
                refine hK.out _ _ ⟨(blk_cell BK508.out 0).trans rfl, (blk_cell BK508.out 1).trans rfl, (blk_cell BK508.out 2).trans rfl, (blk_cell BK508.out 3).trans rfl, (blk_cell BK508.out 4).trans rfl, (blk_cell BK508.out 5).trans rfl, (blk_cell BK508.out 6).trans rfl, (blk_cell BK508.out 7).trans rfl, (blk_cell BK508.out 8).trans rfl, (blk_cell BK520.out 0).trans rfl, (blk_cell BK520.out 1).trans rfl, (blk_cell BK520.out 2).trans rfl, (blk_cell BK520.out 3).trans rfl, (blk_cell BK520.out 4).trans rfl, (blk_cell BK520.out 5).trans rfl, (blk_cell BK520.out 6).trans rfl, (blk_cell BK520.out 7).trans rfl, (blk_cell BK520.out 8).trans rfl⟩ (fun hHeld => ?_)
                clear hK K
                refine norm_ (a' := ?_) ?_ ?_
                rotate_left
                · show Act.put _ (some 45) _ = _
                  simp only [Act.put, List.setIfInBounds_toArray, List.set_cons_zero, List.set_cons_succ, i64_w, i32_w, IntKind.wrap_u8, IntKind.wrap_u32]
                  rfl
                refine pure_ (i := 9) (N := some 46) (v := ?_) (a' := ?_) #[true, true, true, true, true, true, true, true, true, true, false] rfl rfl (any_of HT_.out (by kernel_rfl)) (fun _ _ _ h => h) (Or.inl ⟨by rfl, ?_⟩) ?_ ?_
                rotate_left
                · intro w'
                  go_simp
                  with_reducible rfl
                rotate_left
                · simp only [Act.put, List.setIfInBounds_toArray, List.set_cons_zero, List.set_cons_succ, i64_w, i32_w, IntKind.wrap_u8, IntKind.wrap_u32]
                  rfl
                refine pure_ (i := 10) (N := some 47) (v := ?_) (a' := ?_) #[true, true, true, true, true, true, true, true, true, true, true] rfl rfl (any_of HT_.out (by kernel_rfl)) (fun _ _ _ h => h) (Or.inl ⟨by rfl, ?_⟩) ?_ ?_
                rotate_left
                · intro w'
                  go_simp
                  with_reducible rfl
                rotate_left
                · simp only [Act.put, List.setIfInBounds_toArray, List.set_cons_zero, List.set_cons_succ, i64_w, i32_w, IntKind.wrap_u8, IntKind.wrap_u32]
                  rfl
                refine done_ (done_of HT_.out (by kernel_rfl)) ?_
                have hnb68 := NB508_507.out
                have hnc68 := NB507_508.out
                have hnb69 := NB508_520.out
                have hnc69 := NB520_508.out
                have hnb70 := NB508_534.out
                have hnc70 := NB534_508.out
                have hcz71_0 : w65.cell? ⟨gb508, 0, none⟩ = some (.int .i64 t511) := (blk_cell BK508.out 0).trans rfl
                have hcz71_1 : w65.cell? ⟨gb508, 1, none⟩ = some (.int .i64 a2_1) := (blk_cell BK508.out 1).trans rfl
                have hcz71_2 : w65.cell? ⟨gb508, 2, none⟩ = some (.int .i64 a2_2) := (blk_cell BK508.out 2).trans rfl
                have hcz71_3 : w65.cell? ⟨gb508, 3, none⟩ = some (.int .i64 a2_3) := (blk_cell BK508.out 3).trans rfl
                have hcz71_4 : w65.cell? ⟨gb508, 4, none⟩ = some (.int .i64 a2_4) := (blk_cell BK508.out 4).trans rfl
                have hcz71_5 : w65.cell? ⟨gb508, 5, none⟩ = some (.int .i64 a2_5) := (blk_cell BK508.out 5).trans rfl
                have hcz71_6 : w65.cell? ⟨gb508, 6, none⟩ = some (.int .i64 a2_6) := (blk_cell BK508.out 6).trans rfl
                have hcz71_7 : w65.cell? ⟨gb508, 7, none⟩ = some (.int .i64 a2_7) := (blk_cell BK508.out 7).trans rfl
                have hcz71_8 : w65.cell? ⟨gb508, 8, none⟩ = some (.int .u64 t519) := (blk_cell BK508.out 8).trans rfl
                have hfz71_0 := blk_frozen BK508.out 0
                have hfz71_1 := blk_frozen BK508.out 1
                have hfz71_2 := blk_frozen BK508.out 2
                have hfz71_3 := blk_frozen BK508.out 3
                have hfz71_4 := blk_frozen BK508.out 4
                have hfz71_5 := blk_frozen BK508.out 5
                have hfz71_6 := blk_frozen BK508.out 6
                have hfz71_7 := blk_frozen BK508.out 7
                have hfz71_8 := blk_frozen BK508.out 8
                try go_wp2_with (first | ((with_reducible refine gate_callee (f := 15) rfl ?_); refine goesL_ (some 50) rfl rfl Try.func15 (by kernel_rfl) rfl #[.int .u64 a0, .agg #[.int .i64 t511, .int .i64 a2_1, .int .i64 a2_2, .int .i64 a2_3, .int .i64 a2_4, .int .i64 a2_5, .int .i64 a2_6, .int .i64 a2_7, .int .u64 t519]] rfl (by (try simp only [List.map_toArray, List.map_cons, List.map_nil]); first | done | rfl | (simp only [List.length_drop, List.length_take]; rfl)) ?_; (with_reducible refine (media_Check.calls kj10 a0 t511 a2_1 a2_2 a2_3 a2_4 a2_5 a2_6 a2_7 t519 t543 _ A57.out).mono ?_); rintro e w72 ⟨rfl, hb⟩; refine ⟨_, rfl, ?_⟩; have n0_ := Aside0.mk (Kd.R_below (by (with_reducible repeat (first | apply Kd.R_alloc | apply Kd.R_drewN | apply Kd.R_drew)); exact HO538.out) hb); have n1_ := Aside0.mk (Kd.R_below (by (with_reducible repeat (first | apply Kd.R_alloc | apply Kd.R_drewN | apply Kd.R_drew)); exact HO541.out) hb); have n2_ := Aside0.mk (blk_below (g := gb507) (o := .cells #[.int .i64 a1_0, .int .i64 a1_1, .int .i64 a1_2, .int .i64 a1_3, .int .i64 a1_4, .int .i64 a1_5, .int .i64 a1_6, .int .i64 a1_7, .int .u64 a1_8] 24 (0, 0)) (by (with_reducible repeat (first | refine blk_drewN ?_ _ | refine blk_drew ?_ | refine blk_alloc ?_ _)); exact BK507.out) hb); have n3_ := Aside0.mk (blk_below (g := gb508) (o := .cells #[.int .i64 t511, .int .i64 a2_1, .int .i64 a2_2, .int .i64 a2_3, .int .i64 a2_4, .int .i64 a2_5, .int .i64 a2_6, .int .i64 a2_7, .int .u64 t519] 24 (0, 0)) (by (with_reducible repeat (first | refine blk_drewN ?_ _ | refine blk_drew ?_ | refine blk_alloc ?_ _)); exact BK508.out) hb); have n4_ := Aside0.mk (blk_below (g := gb520) (o := .cells #[.int .i64 t511, .int .i64 t512, .int .i64 t513, .int .i64 t514, .int .i64 t515, .int .i64 t516, .int .i64 t517, .int .i64 t518, .int .u64 t519] 24 (0, 0)) (by (with_reducible repeat (first | refine blk_drewN ?_ _ | refine blk_drew ?_ | refine blk_alloc ?_ _)); exact BK520.out) hb); have n5_ := Aside0.mk (blk_below (g := gb534) (o := .cells #[.int .i64 t524, .int .i64 t525, .int .i64 t526, .int .i64 t527, .int .i64 t528, .int .i64 t529, .int .i64 t530, .int .i64 t531, .int .u64 t532] 24 (0, 0)) (by (with_reducible repeat (first | refine blk_drewN ?_ _ | refine blk_drew ?_ | refine blk_alloc ?_ _)); exact BK534.out) hb); have n6_ := Aside0.mk (below_step (by repeat (first | (with_reducible first | exact HB.out | apply below_alloc | apply pw_below_drewN | apply below_drew1 | refine below_set ?_ GE507.out | refine below_set ?_ GE508.out | refine below_set ?_ GE520.out | refine below_set ?_ GE534.out) | exact HB.out)) hb); clear HO538; clear HO541; clear BK507; clear BK508; clear BK520; clear BK534; clear HB; have HO538 := n0_; have HO541 := n1_; have BK507 := n2_; have BK508 := n3_; have BK520 := n4_; have BK534 := n5_; have HB := n6_; clear n0_ n1_ n2_ n3_ n4_ n5_ n6_; (try clear hb); (try clear hb2); (try clear hk); (try clear hi)))
                go_ret
                exact ⟨by first | rfl | (simp [errW_none, errW_some] <;> rfl) | (simp [*, errW_none, errW_some] <;> rfl), by repeat (first | (with_reducible first | exact HB.out | apply below_alloc | apply pw_below_drewN | apply below_drew1 | refine below_set ?_ GE507.out | refine below_set ?_ GE508.out | refine below_set ?_ GE520.out | refine below_set ?_ GE534.out) | exact HB.out)⟩
            · rw [if_neg c42] at H
              have c42b0 : (t535 == 0) = false := beq_eq_false_iff_ne.mpr c42
              have c42b1 : (t535 != 0) = true := bne_iff_ne.mpr c42
              obtain rfl := Option.some.inj H
              try go_wp2
              have n0_ := Aside0.mk (blk_drew BK507.out)
              have n1_ := Aside0.mk (blk_drew BK508.out)
              have n2_ := Aside0.mk (blk_drew BK520.out)
              have n3_ := Aside0.mk (blk_drew BK534.out)
              have n4_ := Aside0.mk (below_drew1 HB.out)
              clear BK507
              clear BK508
              clear BK520
              clear BK534
              clear HB
              have BK507 := n0_
              have BK508 := n1_
              have BK520 := n2_
              have BK534 := n3_
              have HB := n4_
              clear n0_ n1_ n2_ n3_ n4_
              refine start_ (n := 8) (S := fun w' => w'.cell? ⟨gb520, 0, none⟩ = some (.int .i64 t511) ∧ w'.cell? ⟨gb520, 1, none⟩ = some (.int .i64 t512) ∧ w'.cell? ⟨gb520, 2, none⟩ = some (.int .i64 t513) ∧ w'.cell? ⟨gb520, 3, none⟩ = some (.int .i64 t514) ∧ w'.cell? ⟨gb520, 4, none⟩ = some (.int .i64 t515) ∧ w'.cell? ⟨gb520, 5, none⟩ = some (.int .i64 t516) ∧ w'.cell? ⟨gb520, 6, none⟩ = some (.int .i64 t517) ∧ w'.cell? ⟨gb520, 7, none⟩ = some (.int .i64 t518) ∧ w'.cell? ⟨gb520, 8, none⟩ = some (.int .u64 t519)) (ds := []) #[false, false, false, false, false, false, false, false] (by kernel_rfl) rfl rfl ⟨(blk_cell BK520.out 0).trans rfl, (blk_cell BK520.out 1).trans rfl, (blk_cell BK520.out 2).trans rfl, (blk_cell BK520.out 3).trans rfl, (blk_cell BK520.out 4).trans rfl, (blk_cell BK520.out 5).trans rfl, (blk_cell BK520.out 6).trans rfl, (blk_cell BK520.out 7).trans rfl, (blk_cell BK520.out 8).trans rfl⟩ (fun hHeld => ?_); refine with_tabW skiarealaw25_MediaBack.tab9 skiarealaw25_MediaBack.bits9 (fun HT_ HW_ => ?_)
              generalize wc.drew = w73 at BK507 BK508 BK520 BK534 HB hHeld ⊢
              refine pure_ (i := 0) (N := some 31) (v := ?_) (a' := ?_) #[true, false, false, false, false, false, false, false] rfl rfl (any_of HT_.out (by kernel_rfl)) (fun _ _ _ h => h) (Or.inl ⟨by rfl, ?_⟩) ?_ ?_
              rotate_left
              · intro w'
                go_simp
                with_reducible rfl
              rotate_left
              · simp only [Act.put, List.setIfInBounds_toArray, List.set_cons_zero, List.set_cons_succ, i64_w, i32_w, IntKind.wrap_u8, IntKind.wrap_u32]
                rfl
              refine pure_ (i := 2) (N := some 33) (v := ?_) (a' := ?_) #[true, false, true, false, false, false, false, false] rfl rfl (any_of HT_.out (by kernel_rfl)) (fun _ _ _ h => h) (Or.inl ⟨by rfl, ?_⟩) ?_ ?_
              rotate_left
              · intro w'
                go_simp
                with_reducible rfl
              rotate_left
              · simp only [Act.put, List.setIfInBounds_toArray, List.set_cons_zero, List.set_cons_succ, i64_w, i32_w, IntKind.wrap_u8, IntKind.wrap_u32]
                rfl
              refine take_ (i := 1) (N := some 32) (v := ?_) (a' := ?_) #[true, true, true, false, false, false, false, false] rfl rfl (take_ofW HT_.out HW_.out (by kernel_rfl)) (fun _ _ _ h => h) (Or.inl ⟨by rfl, ?_⟩) hHeld ?_ ?_
              rotate_left
              · rintro w' ⟨s0, s1, s2, s3, s4, s5, s6, s7, s8⟩
                go_simp
                with_reducible rfl
              rotate_left
              · simp only [Act.put, List.setIfInBounds_toArray, List.set_cons_zero, List.set_cons_succ, i64_w, i32_w, IntKind.wrap_u8, IntKind.wrap_u32]
                rfl
              refine pure_ (i := 4) (N := some 35) (v := ?_) (a' := ?_) #[true, true, true, false, true, false, false, false] rfl rfl (any_of HT_.out (by kernel_rfl)) (fun _ _ _ h => h) (Or.inl ⟨by rfl, ?_⟩) ?_ ?_
              rotate_left
              · intro w'
                go_simp
                with_reducible rfl
              rotate_left
              · simp only [Act.put, List.setIfInBounds_toArray, List.set_cons_zero, List.set_cons_succ, i64_w, i32_w, IntKind.wrap_u8, IntKind.wrap_u32]
                rfl
              refine take_ (i := 3) (N := some 34) (v := ?_) (a' := ?_) #[true, true, true, true, true, false, false, false] rfl rfl (take_ofW HT_.out HW_.out (by kernel_rfl)) (fun _ _ _ h => h) (Or.inl ⟨by rfl, ?_⟩) hHeld ?_ ?_
              rotate_left
              · rintro w' ⟨s0, s1, s2, s3, s4, s5, s6, s7, s8⟩
                go_simp
                with_reducible rfl
              rotate_left
              · simp only [Act.put, List.setIfInBounds_toArray, List.set_cons_zero, List.set_cons_succ, i64_w, i32_w, IntKind.wrap_u8, IntKind.wrap_u32]
                rfl
              refine one_ (i := 5) (N := none) #[true, true, true, true, true, true, false, false] rfl rfl (one_of HT_.out (by kernel_rfl)) (by decide) (fun K hK => ?_)
              have hs74 : w73.cell? ⟨gb508, 0, none⟩ = some (.int .i64 a2_0) := (blk_cell BK508.out 0).trans rfl
              have hfs74 := blk_frozen BK508.out 0
              have hns74_0 := NB507_508.out
              have hns74_2 := NB520_508.out
              have hns74_3 := NB534_508.out
              have hms74_0 := NB508_507.out
              have hms74_2 := NB508_520.out
              have hms74_3 := NB508_534.out
              refine skip_ (w1 := ?_) (by rfl) rfl ?_ ?_
              rotate_left
              · go_simp
                rfl
              refine hK.out _ _ ⟨((cell_far (p := ⟨gb508, _, none⟩) NB520_508.out _).trans (hHeld.1)), ((cell_far (p := ⟨gb508, _, none⟩) NB520_508.out _).trans (hHeld.2.1)), ((cell_far (p := ⟨gb508, _, none⟩) NB520_508.out _).trans (hHeld.2.2.1)), ((cell_far (p := ⟨gb508, _, none⟩) NB520_508.out _).trans (hHeld.2.2.2.1)), ((cell_far (p := ⟨gb508, _, none⟩) NB520_508.out _).trans (hHeld.2.2.2.2.1)), ((cell_far (p := ⟨gb508, _, none⟩) NB520_508.out _).trans (hHeld.2.2.2.2.2.1)), ((cell_far (p := ⟨gb508, _, none⟩) NB520_508.out _).trans (hHeld.2.2.2.2.2.2.1)), ((cell_far (p := ⟨gb508, _, none⟩) NB520_508.out _).trans (hHeld.2.2.2.2.2.2.2.1)), ((cell_far (p := ⟨gb508, _, none⟩) NB520_508.out _).trans (hHeld.2.2.2.2.2.2.2.2))⟩ (fun hHeld => ?_)
              clear hK K
              refine pure_ (i := 6) (N := some 36) (v := ?_) (a' := ?_) #[true, true, true, true, true, true, true, false] rfl rfl (any_of HT_.out (by kernel_rfl)) (fun _ _ _ h => h) (Or.inl ⟨by rfl, ?_⟩) ?_ ?_
              rotate_left
              · intro w'
                go_simp
                with_reducible rfl
              rotate_left
              · simp only [Act.put, List.setIfInBounds_toArray, List.set_cons_zero, List.set_cons_succ, i64_w, i32_w, IntKind.wrap_u8, IntKind.wrap_u32]
                rfl
              refine one_ (i := 7) (N := none) #[true, true, true, true, true, true, true, true] rfl rfl (one_of HT_.out (by kernel_rfl)) (by decide) (fun K hK => ?_)
              have hs75 : w73.cell? ⟨gb508, 8, none⟩ = some (.int .u64 a2_8) := (blk_cell BK508.out 8).trans rfl
              have hfs75 := blk_frozen BK508.out 8
              have hns75_0 := NB507_508.out
              have hns75_2 := NB520_508.out
              have hns75_3 := NB534_508.out
              have hms75_0 := NB508_507.out
              have hms75_2 := NB508_520.out
              have hms75_3 := NB508_534.out
              refine skip_ (w1 := ?_) (by rfl) rfl ?_ ?_
              rotate_left
              · go_simp
                rfl
              refine hK.out _ _ ⟨((cell_far (p := ⟨gb508, _, none⟩) NB520_508.out _).trans (hHeld.1)), ((cell_far (p := ⟨gb508, _, none⟩) NB520_508.out _).trans (hHeld.2.1)), ((cell_far (p := ⟨gb508, _, none⟩) NB520_508.out _).trans (hHeld.2.2.1)), ((cell_far (p := ⟨gb508, _, none⟩) NB520_508.out _).trans (hHeld.2.2.2.1)), ((cell_far (p := ⟨gb508, _, none⟩) NB520_508.out _).trans (hHeld.2.2.2.2.1)), ((cell_far (p := ⟨gb508, _, none⟩) NB520_508.out _).trans (hHeld.2.2.2.2.2.1)), ((cell_far (p := ⟨gb508, _, none⟩) NB520_508.out _).trans (hHeld.2.2.2.2.2.2.1)), ((cell_far (p := ⟨gb508, _, none⟩) NB520_508.out _).trans (hHeld.2.2.2.2.2.2.2.1)), ((cell_far (p := ⟨gb508, _, none⟩) NB520_508.out _).trans (hHeld.2.2.2.2.2.2.2.2))⟩ (fun hHeld => ?_)
              clear hK K
              refine done_ (done_of HT_.out (by kernel_rfl)) ?_
              try go_wp2
              have n0_ : Aside0 (((w73.setCell ⟨gb508, 0, none⟩ (.int .i64 t511)).setCell ⟨gb508, 8, none⟩ (.int .u64 t519)).heap[gb507]? = some (.cells #[.int .i64 a1_0, .int .i64 a1_1, .int .i64 a1_2, .int .i64 a1_3, .int .i64 a1_4, .int .i64 a1_5, .int .i64 a1_6, .int .i64 a1_7, .int .u64 a1_8] 24 (0, 0))) := ⟨by (with_reducible repeat (first | refine blk_drewN ?_ _ | refine blk_drew ?_ | refine blk_alloc ?_ _)); refine blk_far ?_ NB507_508.out _; refine blk_far ?_ NB507_508.out _; (with_reducible repeat (first | refine blk_drewN ?_ _ | refine blk_drew ?_ | refine blk_alloc ?_ _)); exact BK507.out⟩
              have n1_ : Aside0 (((w73.setCell ⟨gb508, 0, none⟩ (.int .i64 t511)).setCell ⟨gb508, 8, none⟩ (.int .u64 t519)).heap[gb508]? = some (.cells #[.int .i64 t511, .int .i64 a2_1, .int .i64 a2_2, .int .i64 a2_3, .int .i64 a2_4, .int .i64 a2_5, .int .i64 a2_6, .int .i64 a2_7, .int .u64 t519] 24 (0, 0))) := ⟨by (with_reducible repeat (first | refine blk_drewN ?_ _ | refine blk_drew ?_ | refine blk_alloc ?_ _)); refine blk_put (cs := #[.int .i64 t511, .int .i64 a2_1, .int .i64 a2_2, .int .i64 a2_3, .int .i64 a2_4, .int .i64 a2_5, .int .i64 a2_6, .int .i64 a2_7, .int .u64 a2_8]) ?_ 8 _ rfl; refine blk_put (cs := #[.int .i64 a2_0, .int .i64 a2_1, .int .i64 a2_2, .int .i64 a2_3, .int .i64 a2_4, .int .i64 a2_5, .int .i64 a2_6, .int .i64 a2_7, .int .u64 a2_8]) ?_ 0 _ rfl; (with_reducible repeat (first | refine blk_drewN ?_ _ | refine blk_drew ?_ | refine blk_alloc ?_ _)); exact BK508.out⟩
              have n2_ : Aside0 (((w73.setCell ⟨gb508, 0, none⟩ (.int .i64 t511)).setCell ⟨gb508, 8, none⟩ (.int .u64 t519)).heap[gb520]? = some (.cells #[.int .i64 t511, .int .i64 t512, .int .i64 t513, .int .i64 t514, .int .i64 t515, .int .i64 t516, .int .i64 t517, .int .i64 t518, .int .u64 t519] 24 (0, 0))) := ⟨by (with_reducible repeat (first | refine blk_drewN ?_ _ | refine blk_drew ?_ | refine blk_alloc ?_ _)); refine blk_far ?_ NB520_508.out _; refine blk_far ?_ NB520_508.out _; (with_reducible repeat (first | refine blk_drewN ?_ _ | refine blk_drew ?_ | refine blk_alloc ?_ _)); exact BK520.out⟩
              have n3_ : Aside0 (((w73.setCell ⟨gb508, 0, none⟩ (.int .i64 t511)).setCell ⟨gb508, 8, none⟩ (.int .u64 t519)).heap[gb534]? = some (.cells #[.int .i64 t524, .int .i64 t525, .int .i64 t526, .int .i64 t527, .int .i64 t528, .int .i64 t529, .int .i64 t530, .int .i64 t531, .int .u64 t532] 24 (0, 0))) := ⟨by (with_reducible repeat (first | refine blk_drewN ?_ _ | refine blk_drew ?_ | refine blk_alloc ?_ _)); refine blk_far ?_ NB534_508.out _; refine blk_far ?_ NB534_508.out _; (with_reducible repeat (first | refine blk_drewN ?_ _ | refine blk_drew ?_ | refine blk_alloc ?_ _)); exact BK534.out⟩
              have n4_ : Aside0 (Below w.heap.size w ((w73.setCell ⟨gb508, 0, none⟩ (.int .i64 t511)).setCell ⟨gb508, 8, none⟩ (.int .u64 t519))) := ⟨by repeat (first | (with_reducible first | exact HB.out | apply below_alloc | apply pw_below_drewN | apply below_drew1 | refine below_set ?_ GE507.out | refine below_set ?_ GE508.out | refine below_set ?_ GE520.out | refine below_set ?_ GE534.out) | exact HB.out)⟩
              (try clear BK507)
              (try clear BK508)
              (try clear BK520)
              (try clear BK534)
              (try clear HB)
              generalize ((w73.setCell ⟨gb508, 0, none⟩ (.int .i64 t511)).setCell ⟨gb508, 8, none⟩ (.int .u64 t519)) = w76 at n0_ n1_ n2_ n3_ n4_ ⊢
              have BK507 := n0_
              have BK508 := n1_
              have BK520 := n2_
              have BK534 := n3_
              have HB := n4_
              clear n0_ n1_ n2_ n3_ n4_
              have n0_ := Aside0.mk (blk_drew BK507.out)
              have n1_ := Aside0.mk (blk_drew BK508.out)
              have n2_ := Aside0.mk (blk_drew BK520.out)
              have n3_ := Aside0.mk (blk_drew BK534.out)
              have n4_ := Aside0.mk (below_drew1 HB.out)
              clear BK507
              clear BK508
              clear BK520
              clear BK534
              clear HB
              have BK507 := n0_
              have BK508 := n1_
              have BK520 := n2_
              have BK534 := n3_
              have HB := n4_
              clear n0_ n1_ n2_ n3_ n4_
              refine start_ (n := 11) (S := fun w' => w'.cell? ⟨gb508, 0, none⟩ = some (.int .i64 t511) ∧ w'.cell? ⟨gb508, 1, none⟩ = some (.int .i64 a2_1) ∧ w'.cell? ⟨gb508, 2, none⟩ = some (.int .i64 a2_2) ∧ w'.cell? ⟨gb508, 3, none⟩ = some (.int .i64 a2_3) ∧ w'.cell? ⟨gb508, 4, none⟩ = some (.int .i64 a2_4) ∧ w'.cell? ⟨gb508, 5, none⟩ = some (.int .i64 a2_5) ∧ w'.cell? ⟨gb508, 6, none⟩ = some (.int .i64 a2_6) ∧ w'.cell? ⟨gb508, 7, none⟩ = some (.int .i64 a2_7) ∧ w'.cell? ⟨gb508, 8, none⟩ = some (.int .u64 t519)) (ds := []) #[false, false, false, false, false, false, false, false, false, false, false] (by kernel_rfl) rfl rfl ⟨(blk_cell BK508.out 0).trans rfl, (blk_cell BK508.out 1).trans rfl, (blk_cell BK508.out 2).trans rfl, (blk_cell BK508.out 3).trans rfl, (blk_cell BK508.out 4).trans rfl, (blk_cell BK508.out 5).trans rfl, (blk_cell BK508.out 6).trans rfl, (blk_cell BK508.out 7).trans rfl, (blk_cell BK508.out 8).trans rfl⟩ (fun hHeld => ?_); refine with_tabW skiarealaw25_MediaBack.tab10 skiarealaw25_MediaBack.bits10 (fun HT_ HW_ => ?_)
              generalize w76.drew = w77 at BK507 BK508 BK520 BK534 HB hHeld ⊢
              refine take_ (i := 0) (N := some 37) (v := ?_) (a' := ?_) #[true, false, false, false, false, false, false, false, false, false, false] rfl rfl (take_ofW HT_.out HW_.out (by kernel_rfl)) (fun _ _ _ h => h) (Or.inl ⟨by rfl, ?_⟩) hHeld ?_ ?_
              rotate_left
              · rintro w' ⟨s0, s1, s2, s3, s4, s5, s6, s7, s8⟩
                go_simp
                with_reducible rfl
              rotate_left
              · simp only [Act.put, List.setIfInBounds_toArray, List.set_cons_zero, List.set_cons_succ, i64_w, i32_w, IntKind.wrap_u8, IntKind.wrap_u32]
                rfl
              refine one_ (i := 1) (N := some 38) #[true, true, false, false, false, false, false, false, false, false, false] rfl rfl (one_of HT_.out (by kernel_rfl)) (by decide) (fun K hK => ?_)
              refine goes_ Try.func11 (by kernel_rfl) rfl #[.agg #[.int .i64 t511, .int .i64 a2_1, .int .i64 a2_2, .int .i64 a2_3, .int .i64 a2_4, .int .i64 a2_5, .int .i64 a2_6, .int .i64 a2_7, .int .u64 t519]] (by rfl) rfl rfl (by (try simp only [List.map_toArray, List.map_cons, List.map_nil]); first | done | rfl | (simp only [List.length_drop, List.length_take]; rfl)) ?_
              with_reducible refine (media_Right.calls kj10 t511 a2_1 a2_2 a2_3 a2_4 a2_5 a2_6 a2_7 t519 t535 _ A41.out).mono ?_
              rintro e w78 ⟨rfl, hb⟩
              refine ⟨_, rfl, ?_⟩
              have n0_ := Aside0.mk (blk_below (g := gb507) (o := .cells #[.int .i64 a1_0, .int .i64 a1_1, .int .i64 a1_2, .int .i64 a1_3, .int .i64 a1_4, .int .i64 a1_5, .int .i64 a1_6, .int .i64 a1_7, .int .u64 a1_8] 24 (0, 0)) (by (with_reducible repeat (first | refine blk_drewN ?_ _ | refine blk_drew ?_ | refine blk_alloc ?_ _)); exact BK507.out) hb)
              have n1_ := Aside0.mk (blk_below (g := gb508) (o := .cells #[.int .i64 t511, .int .i64 a2_1, .int .i64 a2_2, .int .i64 a2_3, .int .i64 a2_4, .int .i64 a2_5, .int .i64 a2_6, .int .i64 a2_7, .int .u64 t519] 24 (0, 0)) (by (with_reducible repeat (first | refine blk_drewN ?_ _ | refine blk_drew ?_ | refine blk_alloc ?_ _)); exact BK508.out) hb)
              have n2_ := Aside0.mk (blk_below (g := gb520) (o := .cells #[.int .i64 t511, .int .i64 t512, .int .i64 t513, .int .i64 t514, .int .i64 t515, .int .i64 t516, .int .i64 t517, .int .i64 t518, .int .u64 t519] 24 (0, 0)) (by (with_reducible repeat (first | refine blk_drewN ?_ _ | refine blk_drew ?_ | refine blk_alloc ?_ _)); exact BK520.out) hb)
              have n3_ := Aside0.mk (blk_below (g := gb534) (o := .cells #[.int .i64 t524, .int .i64 t525, .int .i64 t526, .int .i64 t527, .int .i64 t528, .int .i64 t529, .int .i64 t530, .int .i64 t531, .int .u64 t532] 24 (0, 0)) (by (with_reducible repeat (first | refine blk_drewN ?_ _ | refine blk_drew ?_ | refine blk_alloc ?_ _)); exact BK534.out) hb)
              have n4_ := Aside0.mk (below_step (by repeat (first | (with_reducible first | exact HB.out | apply below_alloc | apply pw_below_drewN | apply below_drew1 | refine below_set ?_ GE507.out | refine below_set ?_ GE508.out | refine below_set ?_ GE520.out | refine below_set ?_ GE534.out) | exact HB.out)) hb)
              clear BK507
              clear BK508
              clear BK520
              clear BK534
              clear HB
              have BK507 := n0_
              have BK508 := n1_
              have BK520 := n2_
              have BK534 := n3_
              have HB := n4_
              clear n0_ n1_ n2_ n3_ n4_
              (try clear hb)
              (try clear hb2)
              (try clear hk)
              (try clear hi)
              refine hK.out _ _ ⟨(blk_cell BK508.out 0).trans rfl, (blk_cell BK508.out 1).trans rfl, (blk_cell BK508.out 2).trans rfl, (blk_cell BK508.out 3).trans rfl, (blk_cell BK508.out 4).trans rfl, (blk_cell BK508.out 5).trans rfl, (blk_cell BK508.out 6).trans rfl, (blk_cell BK508.out 7).trans rfl, (blk_cell BK508.out 8).trans rfl⟩ (fun hHeld => ?_)
              clear hK K
              refine norm_ (a' := ?_) ?_ ?_
              rotate_left
              · show Act.put _ (some 38) _ = _
                simp only [Act.put, List.setIfInBounds_toArray, List.set_cons_zero, List.set_cons_succ, i64_w, i32_w, IntKind.wrap_u8, IntKind.wrap_u32]
                rfl
              refine pure_ (i := 2) (N := some 39) (v := ?_) (a' := ?_) #[true, true, true, false, false, false, false, false, false, false, false] rfl rfl (any_of HT_.out (by kernel_rfl)) (fun _ _ _ h => h) (Or.inl ⟨by rfl, ?_⟩) ?_ ?_
              rotate_left
              · intro w'
                go_simp
                with_reducible rfl
              rotate_left
              · simp only [Act.put, List.setIfInBounds_toArray, List.set_cons_zero, List.set_cons_succ, i64_w, i32_w, IntKind.wrap_u8, IntKind.wrap_u32]
                rfl
              refine pure_ (i := 3) (N := some 40) (v := ?_) (a' := ?_) #[true, true, true, true, false, false, false, false, false, false, false] rfl rfl (any_of HT_.out (by kernel_rfl)) (fun _ _ _ h => h) (Or.inl ⟨by rfl, ?_⟩) ?_ ?_
              rotate_left
              · intro w'
                go_simp
                with_reducible rfl
              rotate_left
              · simp only [Act.put, List.setIfInBounds_toArray, List.set_cons_zero, List.set_cons_succ, i64_w, i32_w, IntKind.wrap_u8, IntKind.wrap_u32]
                rfl
              refine pure_ (i := 4) (N := some 41) (v := undef) (a' := ?_) #[true, true, true, true, true, false, false, false, false, false, false] rfl rfl (any_of HT_.out (by kernel_rfl)) (fun _ _ _ h => h) (Or.inr ⟨by rfl, rfl⟩) ?_ ?_
              rotate_left
              · simp only [Act.put, List.setIfInBounds_toArray, List.set_cons_zero, List.set_cons_succ, i64_w, i32_w, IntKind.wrap_u8, IntKind.wrap_u32]
                rfl
              refine pure_ (i := 5) (N := some 42) (v := undef) (a' := ?_) #[true, true, true, true, true, true, false, false, false, false, false] rfl rfl (any_of HT_.out (by kernel_rfl)) (fun _ _ _ h => h) (Or.inr ⟨by rfl, rfl⟩) ?_ ?_
              rotate_left
              · simp only [Act.put, List.setIfInBounds_toArray, List.set_cons_zero, List.set_cons_succ, i64_w, i32_w, IntKind.wrap_u8, IntKind.wrap_u32]
                rfl
              refine pure_ (i := 6) (N := some 43) (v := undef) (a' := ?_) #[true, true, true, true, true, true, true, false, false, false, false] rfl rfl (any_of HT_.out (by kernel_rfl)) (fun _ _ _ h => h) (Or.inr ⟨by rfl, rfl⟩) ?_ ?_
              rotate_left
              · simp only [Act.put, List.setIfInBounds_toArray, List.set_cons_zero, List.set_cons_succ, i64_w, i32_w, IntKind.wrap_u8, IntKind.wrap_u32]
                rfl
              refine pure_ (i := 7) (N := some 44) (v := undef) (a' := ?_) #[true, true, true, true, true, true, true, true, false, false, false] rfl rfl (any_of HT_.out (by kernel_rfl)) (fun _ _ _ h => h) (Or.inr ⟨by rfl, rfl⟩) ?_ ?_
              rotate_left
              · simp only [Act.put, List.setIfInBounds_toArray, List.set_cons_zero, List.set_cons_succ, i64_w, i32_w, IntKind.wrap_u8, IntKind.wrap_u32]
                rfl
              refine pure_ (i := 8) (N := some 45) (v := undef) (a' := ?_) #[true, true, true, true, true, true, true, true, true, false, false] rfl rfl (any_of HT_.out (by kernel_rfl)) (fun _ _ _ h => h) (Or.inr ⟨by rfl, rfl⟩) ?_ ?_
              rotate_left
              · simp only [Act.put, List.setIfInBounds_toArray, List.set_cons_zero, List.set_cons_succ, i64_w, i32_w, IntKind.wrap_u8, IntKind.wrap_u32]
                rfl
              refine pure_ (i := 9) (N := some 46) (v := undef) (a' := ?_) #[true, true, true, true, true, true, true, true, true, true, false] rfl rfl (any_of HT_.out (by kernel_rfl)) (fun _ _ _ h => h) (Or.inr ⟨by rfl, rfl⟩) ?_ ?_
              rotate_left
              · simp only [Act.put, List.setIfInBounds_toArray, List.set_cons_zero, List.set_cons_succ, i64_w, i32_w, IntKind.wrap_u8, IntKind.wrap_u32]
                rfl
              refine pure_ (i := 10) (N := some 47) (v := ?_) (a' := ?_) #[true, true, true, true, true, true, true, true, true, true, true] rfl rfl (any_of HT_.out (by kernel_rfl)) (fun _ _ _ h => h) (Or.inl ⟨by rfl, ?_⟩) ?_ ?_
              rotate_left
              · intro w'
                go_simp
                with_reducible rfl
              rotate_left
              · simp only [Act.put, List.setIfInBounds_toArray, List.set_cons_zero, List.set_cons_succ, i64_w, i32_w, IntKind.wrap_u8, IntKind.wrap_u32]
                rfl
              refine done_ (done_of HT_.out (by kernel_rfl)) ?_
              try go_wp2
              go_ret
              exact ⟨by first | rfl | (simp [errW_none, errW_some] <;> rfl) | (simp [*, errW_none, errW_some] <;> rfl), by repeat (first | (with_reducible first | exact HB.out | apply below_alloc | apply pw_below_drewN | apply below_drew1 | refine below_set ?_ GE507.out | refine below_set ?_ GE508.out | refine below_set ?_ GE520.out | refine below_set ?_ GE534.out) | exact HB.out)⟩
    · rw [if_neg c7] at H
      have c7b0 : (t510 == 0) = false := beq_eq_false_iff_ne.mpr c7
      have c7b1 : (t510 != 0) = true := bne_iff_ne.mpr c7
      obtain rfl := Option.some.inj H
      go_enter Try.func8, Try.ntmps8
      go_wp2_with (first | ((with_reducible refine gate_dst (N := 4) rfl ?_); refine box_event ?hg (N := 4) ?hd (cs := #[.int .i64 a1_0, .int .i64 a1_1, .int .i64 a1_2, .int .i64 a1_3, .int .i64 a1_4, .int .i64 a1_5, .int .i64 a1_6, .int .i64 a1_7, .int .u64 a1_8]) (t := 24) ?hr ?_; (case hd => rfl); (case hg => rfl); (case hr => first | (go_simp; done) | (go_simp; rfl)); intro gb507 hg w79 hbox hb; have n0_ := Aside0.mk (below_step (by repeat (first | (with_reducible first | exact HB.out | apply below_alloc | apply pw_below_drewN | apply below_drew1) | exact HB.out)) hb); have n1_ := Aside0.mk (hbox); have n2_ := Aside0.mk ((by rw [hg]; exact (below_size (by repeat (first | (with_reducible first | exact HB.out | apply below_alloc | apply pw_below_drewN | apply below_drew1) | exact HB.out))) : w.heap.size ≤ gb507)); have n3_ := Aside0.mk ((by rw [hg]; exact (below_size (by repeat (first | (with_reducible first | exact HB.out | apply below_alloc | apply pw_below_drewN | apply below_drew1) | exact HB.out))) : w.heap.size ≤ gb507)); clear HB; have HB := n0_; have BK507 := n1_; have GW507 := n2_; have GE507 := n3_; clear n0_ n1_ n2_ n3_; clear hb hbox hg) | ((with_reducible refine gate_dst (N := 5) rfl ?_); refine box_event ?hg (N := 5) ?hd (cs := #[.int .i64 a2_0, .int .i64 a2_1, .int .i64 a2_2, .int .i64 a2_3, .int .i64 a2_4, .int .i64 a2_5, .int .i64 a2_6, .int .i64 a2_7, .int .u64 a2_8]) (t := 24) ?hr ?_; (case hd => rfl); (case hg => rfl); (case hr => first | (go_simp; done) | (go_simp; rfl)); intro gb508 hg w80 hbox hb; have n0_ := Aside0.mk (blk_below (g := gb507) (o := .cells #[.int .i64 a1_0, .int .i64 a1_1, .int .i64 a1_2, .int .i64 a1_3, .int .i64 a1_4, .int .i64 a1_5, .int .i64 a1_6, .int .i64 a1_7, .int .u64 a1_8] 24 (0, 0)) (by (with_reducible repeat (first | refine blk_drewN ?_ _ | refine blk_drew ?_ | refine blk_alloc ?_ _)); exact BK507.out) hb); have n1_ := Aside0.mk (below_step (by repeat (first | (with_reducible first | exact HB.out | apply below_alloc | apply pw_below_drewN | apply below_drew1 | refine below_set ?_ GE507.out) | exact HB.out)) hb); have n2_ := Aside0.mk (hbox); have n3_ := Aside0.mk ((by rw [hg]; exact (below_size (by repeat (first | (with_reducible first | exact HB.out | apply below_alloc | apply pw_below_drewN | apply below_drew1 | refine below_set ?_ GE507.out) | exact HB.out))) : w.heap.size ≤ gb508)); have n4_ := Aside0.mk ((by rw [hg]; exact (below_size (by repeat (first | (with_reducible first | exact HB.out | apply below_alloc | apply pw_below_drewN | apply below_drew1 | refine below_set ?_ GE507.out) | exact HB.out))) : w.heap.size ≤ gb508)); have n5_ := Aside0.mk ((by rw [hg]; exact Nat.ne_of_lt (blk_lt (g := gb507) (o := .cells #[.int .i64 a1_0, .int .i64 a1_1, .int .i64 a1_2, .int .i64 a1_3, .int .i64 a1_4, .int .i64 a1_5, .int .i64 a1_6, .int .i64 a1_7, .int .u64 a1_8] 24 (0, 0)) (by (with_reducible repeat (first | refine blk_drewN ?_ _ | refine blk_drew ?_ | refine blk_alloc ?_ _)); exact BK507.out)) : gb507 ≠ gb508)); have n6_ := Aside0.mk ((by rw [hg]; exact Nat.ne_of_gt (blk_lt (g := gb507) (o := .cells #[.int .i64 a1_0, .int .i64 a1_1, .int .i64 a1_2, .int .i64 a1_3, .int .i64 a1_4, .int .i64 a1_5, .int .i64 a1_6, .int .i64 a1_7, .int .u64 a1_8] 24 (0, 0)) (by (with_reducible repeat (first | refine blk_drewN ?_ _ | refine blk_drew ?_ | refine blk_alloc ?_ _)); exact BK507.out)) : gb508 ≠ gb507)); clear BK507; clear HB; have BK507 := n0_; have HB := n1_; have BK508 := n2_; have GW508 := n3_; have GE508 := n4_; have NB507_508 := n5_; have NB508_507 := n6_; clear n0_ n1_ n2_ n3_ n4_ n5_ n6_; clear hb hbox hg) | ((with_reducible refine gate_callee (f := 10) rfl ?_); refine goesL_ (some 10) rfl rfl Try.func10 (by kernel_rfl) rfl #[] rfl (by (try simp only [List.map_toArray, List.map_cons, List.map_nil]); first | done | rfl | (simp only [List.length_drop, List.length_take]; rfl)) ?_; (with_reducible refine (skiarealaw25_alive.calls k  true _ A4.out).mono ?_); rintro e w81 ⟨rfl, hb⟩; refine ⟨_, rfl, ?_⟩; have n0_ := Aside0.mk (blk_below (g := gb507) (o := .cells #[.int .i64 a1_0, .int .i64 a1_1, .int .i64 a1_2, .int .i64 a1_3, .int .i64 a1_4, .int .i64 a1_5, .int .i64 a1_6, .int .i64 a1_7, .int .u64 a1_8] 24 (0, 0)) (by (with_reducible repeat (first | refine blk_drewN ?_ _ | refine blk_drew ?_ | refine blk_alloc ?_ _)); exact BK507.out) hb); have n1_ := Aside0.mk (blk_below (g := gb508) (o := .cells #[.int .i64 a2_0, .int .i64 a2_1, .int .i64 a2_2, .int .i64 a2_3, .int .i64 a2_4, .int .i64 a2_5, .int .i64 a2_6, .int .i64 a2_7, .int .u64 a2_8] 24 (0, 0)) (by (with_reducible repeat (first | refine blk_drewN ?_ _ | refine blk_drew ?_ | refine blk_alloc ?_ _)); exact BK508.out) hb); have n2_ := Aside0.mk (below_step (by repeat (first | (with_reducible first | exact HB.out | apply below_alloc | apply pw_below_drewN | apply below_drew1 | refine below_set ?_ GE507.out | refine below_set ?_ GE508.out) | exact HB.out)) hb); clear BK507; clear BK508; clear HB; have BK507 := n0_; have BK508 := n1_; have HB := n2_; clear n0_ n1_ n2_; (try clear hb); (try clear hb2); (try clear hk); (try clear hi); have hnb82 := NB507_508.out; have hnc82 := NB508_507.out; have hcz83_0 : w81.cell? ⟨gb507, 0, none⟩ = some (.int .i64 a1_0) := (blk_cell BK507.out 0).trans rfl; have hcz83_1 : w81.cell? ⟨gb507, 1, none⟩ = some (.int .i64 a1_1) := (blk_cell BK507.out 1).trans rfl; have hcz83_2 : w81.cell? ⟨gb507, 2, none⟩ = some (.int .i64 a1_2) := (blk_cell BK507.out 2).trans rfl; have hcz83_3 : w81.cell? ⟨gb507, 3, none⟩ = some (.int .i64 a1_3) := (blk_cell BK507.out 3).trans rfl; have hcz83_4 : w81.cell? ⟨gb507, 4, none⟩ = some (.int .i64 a1_4) := (blk_cell BK507.out 4).trans rfl; have hcz83_5 : w81.cell? ⟨gb507, 5, none⟩ = some (.int .i64 a1_5) := (blk_cell BK507.out 5).trans rfl; have hcz83_6 : w81.cell? ⟨gb507, 6, none⟩ = some (.int .i64 a1_6) := (blk_cell BK507.out 6).trans rfl; have hcz83_7 : w81.cell? ⟨gb507, 7, none⟩ = some (.int .i64 a1_7) := (blk_cell BK507.out 7).trans rfl; have hcz83_8 : w81.cell? ⟨gb507, 8, none⟩ = some (.int .u64 a1_8) := (blk_cell BK507.out 8).trans rfl; have hfz83_0 := blk_frozen BK507.out 0; have hfz83_1 := blk_frozen BK507.out 1; have hfz83_2 := blk_frozen BK507.out 2; have hfz83_3 := blk_frozen BK507.out 3; have hfz83_4 := blk_frozen BK507.out 4; have hfz83_5 := blk_frozen BK507.out 5; have hfz83_6 := blk_frozen BK507.out 6; have hfz83_7 := blk_frozen BK507.out 7; have hfz83_8 := blk_frozen BK507.out 8) | ((with_reducible refine gate_callee (f := 11) rfl ?_); refine goesL_ (some 13) rfl rfl Try.func11 (by kernel_rfl) rfl #[.agg #[.int .i64 a1_0, .int .i64 a1_1, .int .i64 a1_2, .int .i64 a1_3, .int .i64 a1_4, .int .i64 a1_5, .int .i64 a1_6, .int .i64 a1_7, .int .u64 a1_8]] rfl (by (try simp only [List.map_toArray, List.map_cons, List.map_nil]); first | done | rfl | (simp only [List.length_drop, List.length_take]; rfl)) ?_; (with_reducible refine (media_Right.calls k a1_0 a1_1 a1_2 a1_3 a1_4 a1_5 a1_6 a1_7 a1_8 t510 _ A6.out).mono ?_); rintro e w84 ⟨rfl, hb⟩; refine ⟨_, rfl, ?_⟩; have n0_ := Aside0.mk (blk_below (g := gb507) (o := .cells #[.int .i64 a1_0, .int .i64 a1_1, .int .i64 a1_2, .int .i64 a1_3, .int .i64 a1_4, .int .i64 a1_5, .int .i64 a1_6, .int .i64 a1_7, .int .u64 a1_8] 24 (0, 0)) (by (with_reducible repeat (first | refine blk_drewN ?_ _ | refine blk_drew ?_ | refine blk_alloc ?_ _)); exact BK507.out) hb); have n1_ := Aside0.mk (blk_below (g := gb508) (o := .cells #[.int .i64 a2_0, .int .i64 a2_1, .int .i64 a2_2, .int .i64 a2_3, .int .i64 a2_4, .int .i64 a2_5, .int .i64 a2_6, .int .i64 a2_7, .int .u64 a2_8] 24 (0, 0)) (by (with_reducible repeat (first | refine blk_drewN ?_ _ | refine blk_drew ?_ | refine blk_alloc ?_ _)); exact BK508.out) hb); have n2_ := Aside0.mk (below_step (by repeat (first | (with_reducible first | exact HB.out | apply below_alloc | apply pw_below_drewN | apply below_drew1 | refine below_set ?_ GE507.out | refine below_set ?_ GE508.out) | exact HB.out)) hb); clear BK507; clear BK508; clear HB; have BK507 := n0_; have BK508 := n1_; have HB := n2_; clear n0_ n1_ n2_; (try clear hb); (try clear hb2); (try clear hk); (try clear hi)))
      go_ret
      exact ⟨by first | rfl | (simp [errW_none, errW_some] <;> rfl) | (simp [*, errW_none, errW_some] <;> rfl), by repeat (first | (with_reducible first | exact HB.out | apply below_alloc | apply pw_below_drewN | apply below_drew1 | refine below_set ?_ GE507.out | refine below_set ?_ GE508.out) | exact HB.out)⟩
  · replace c5 := Bool.eq_false_iff.mpr c5
    subst c5
    have H1 : (some false) = some r := by rw [if_neg (show ¬ (false = true) by decide)] at H; exact H
    clear H
    have H := H1
    clear H1
    obtain rfl := Option.some.inj H
    go_enter Try.func8, Try.ntmps8
    go_wp2_with (first | ((with_reducible refine gate_dst (N := 4) rfl ?_); refine box_event ?hg (N := 4) ?hd (cs := #[.int .i64 a1_0, .int .i64 a1_1, .int .i64 a1_2, .int .i64 a1_3, .int .i64 a1_4, .int .i64 a1_5, .int .i64 a1_6, .int .i64 a1_7, .int .u64 a1_8]) (t := 24) ?hr ?_; (case hd => rfl); (case hg => rfl); (case hr => first | (go_simp; done) | (go_simp; rfl)); intro gb507 hg w85 hbox hb; have n0_ := Aside0.mk (below_step (by repeat (first | (with_reducible first | exact HB.out | apply below_alloc | apply pw_below_drewN | apply below_drew1) | exact HB.out)) hb); have n1_ := Aside0.mk (hbox); have n2_ := Aside0.mk ((by rw [hg]; exact (below_size (by repeat (first | (with_reducible first | exact HB.out | apply below_alloc | apply pw_below_drewN | apply below_drew1) | exact HB.out))) : w.heap.size ≤ gb507)); have n3_ := Aside0.mk ((by rw [hg]; exact (below_size (by repeat (first | (with_reducible first | exact HB.out | apply below_alloc | apply pw_below_drewN | apply below_drew1) | exact HB.out))) : w.heap.size ≤ gb507)); clear HB; have HB := n0_; have BK507 := n1_; have GW507 := n2_; have GE507 := n3_; clear n0_ n1_ n2_ n3_; clear hb hbox hg) | ((with_reducible refine gate_dst (N := 5) rfl ?_); refine box_event ?hg (N := 5) ?hd (cs := #[.int .i64 a2_0, .int .i64 a2_1, .int .i64 a2_2, .int .i64 a2_3, .int .i64 a2_4, .int .i64 a2_5, .int .i64 a2_6, .int .i64 a2_7, .int .u64 a2_8]) (t := 24) ?hr ?_; (case hd => rfl); (case hg => rfl); (case hr => first | (go_simp; done) | (go_simp; rfl)); intro gb508 hg w86 hbox hb; have n0_ := Aside0.mk (blk_below (g := gb507) (o := .cells #[.int .i64 a1_0, .int .i64 a1_1, .int .i64 a1_2, .int .i64 a1_3, .int .i64 a1_4, .int .i64 a1_5, .int .i64 a1_6, .int .i64 a1_7, .int .u64 a1_8] 24 (0, 0)) (by (with_reducible repeat (first | refine blk_drewN ?_ _ | refine blk_drew ?_ | refine blk_alloc ?_ _)); exact BK507.out) hb); have n1_ := Aside0.mk (below_step (by repeat (first | (with_reducible first | exact HB.out | apply below_alloc | apply pw_below_drewN | apply below_drew1 | refine below_set ?_ GE507.out) | exact HB.out)) hb); have n2_ := Aside0.mk (hbox); have n3_ := Aside0.mk ((by rw [hg]; exact (below_size (by repeat (first | (with_reducible first | exact HB.out | apply below_alloc | apply pw_below_drewN | apply below_drew1 | refine below_set ?_ GE507.out) | exact HB.out))) : w.heap.size ≤ gb508)); have n4_ := Aside0.mk ((by rw [hg]; exact (below_size (by repeat (first | (with_reducible first | exact HB.out | apply below_alloc | apply pw_below_drewN | apply below_drew1 | refine below_set ?_ GE507.out) | exact HB.out))) : w.heap.size ≤ gb508)); have n5_ := Aside0.mk ((by rw [hg]; exact Nat.ne_of_lt (blk_lt (g := gb507) (o := .cells #[.int .i64 a1_0, .int .i64 a1_1, .int .i64 a1_2, .int .i64 a1_3, .int .i64 a1_4, .int .i64 a1_5, .int .i64 a1_6, .int .i64 a1_7, .int .u64 a1_8] 24 (0, 0)) (by (with_reducible repeat (first | refine blk_drewN ?_ _ | refine blk_drew ?_ | refine blk_alloc ?_ _)); exact BK507.out)) : gb507 ≠ gb508)); have n6_ := Aside0.mk ((by rw [hg]; exact Nat.ne_of_gt (blk_lt (g := gb507) (o := .cells #[.int .i64 a1_0, .int .i64 a1_1, .int .i64 a1_2, .int .i64 a1_3, .int .i64 a1_4, .int .i64 a1_5, .int .i64 a1_6, .int .i64 a1_7, .int .u64 a1_8] 24 (0, 0)) (by (with_reducible repeat (first | refine blk_drewN ?_ _ | refine blk_drew ?_ | refine blk_alloc ?_ _)); exact BK507.out)) : gb508 ≠ gb507)); clear BK507; clear HB; have BK507 := n0_; have HB := n1_; have BK508 := n2_; have GW508 := n3_; have GE508 := n4_; have NB507_508 := n5_; have NB508_507 := n6_; clear n0_ n1_ n2_ n3_ n4_ n5_ n6_; clear hb hbox hg) | ((with_reducible refine gate_callee (f := 10) rfl ?_); refine goesL_ (some 10) rfl rfl Try.func10 (by kernel_rfl) rfl #[] rfl (by (try simp only [List.map_toArray, List.map_cons, List.map_nil]); first | done | rfl | (simp only [List.length_drop, List.length_take]; rfl)) ?_; (with_reducible refine (skiarealaw25_alive.calls k  false _ A4.out).mono ?_); rintro e w87 ⟨rfl, hb⟩; refine ⟨_, rfl, ?_⟩; have n0_ := Aside0.mk (blk_below (g := gb507) (o := .cells #[.int .i64 a1_0, .int .i64 a1_1, .int .i64 a1_2, .int .i64 a1_3, .int .i64 a1_4, .int .i64 a1_5, .int .i64 a1_6, .int .i64 a1_7, .int .u64 a1_8] 24 (0, 0)) (by (with_reducible repeat (first | refine blk_drewN ?_ _ | refine blk_drew ?_ | refine blk_alloc ?_ _)); exact BK507.out) hb); have n1_ := Aside0.mk (blk_below (g := gb508) (o := .cells #[.int .i64 a2_0, .int .i64 a2_1, .int .i64 a2_2, .int .i64 a2_3, .int .i64 a2_4, .int .i64 a2_5, .int .i64 a2_6, .int .i64 a2_7, .int .u64 a2_8] 24 (0, 0)) (by (with_reducible repeat (first | refine blk_drewN ?_ _ | refine blk_drew ?_ | refine blk_alloc ?_ _)); exact BK508.out) hb); have n2_ := Aside0.mk (below_step (by repeat (first | (with_reducible first | exact HB.out | apply below_alloc | apply pw_below_drewN | apply below_drew1 | refine below_set ?_ GE507.out | refine below_set ?_ GE508.out) | exact HB.out)) hb); clear BK507; clear BK508; clear HB; have BK507 := n0_; have BK508 := n1_; have HB := n2_; clear n0_ n1_ n2_; (try clear hb); (try clear hb2); (try clear hk); (try clear hi)))
    go_ret
    exact ⟨by first | rfl | (simp [errW_none, errW_some] <;> rfl) | (simp [*, errW_none, errW_some] <;> rfl), by repeat (first | (with_reducible first | exact HB.out | apply below_alloc | apply pw_below_drewN | apply below_drew1 | refine below_set ?_ GE507.out | refine below_set ?_ GE508.out) | exact HB.out)⟩

end Go.Proofs.Ytdlinojgmllkoaa.Q
