-- Printed by a program of this session (wip/pp), out of Lean's print of the loaded functions. Lean checks it.
import Derived.Test.YtmfjicpgofdmkaaEx0
import Derived.Test.YtmfjicpgofdmkaaEx1
import Derived.Test.YtmfjicpgofdmkaaEx2
import Derived.Test.YtmfjicpgofdmkaaEx4
import Derived.Test.YtmfjicpgofdmkaaEx5
import Derived.Test.YtmfjicpgofdmkaaEHTag
namespace Go.Proofs.Ytmfjicpgofdmkaa.E
open Go.RowKit Go.Proofs.YtmfjicpgofdmkaaW.PrintWords Go.Proofs.YtmfjicpgofdmkaaW.PrintLast Go.Proofs.YtmfjicpgofdmkaaW.PrintMore
attribute [local go_sem] max2_int min2_int max_two min_two max_three min_three max_four min_four   -- for this text's walks alone
set_option linter.unusedVariables false
set_option linter.unusedSimpArgs false

attribute [local irreducible] Calls seal_Chain.f seal_Check.f seal_Key.f seal_Mix.f seal_Tag.f
/-! ### skiarealaw04_alive: function 11 -/
def skiarealaw04_alive.f (k : Nat)  : Option (Bool) := (some (([21, 124, 74, 127, 185, 121, 55, 158] : List Int) : List Int)).bind fun y104 => ((seal_Mix.f 0).bind fun t107 => (if t107 = 0 then ((seal_Mix.f 11400714819323198485).bind fun t108 => (if t108 = 16294208416658607535 then ((seal_Key.f 0 1).bind fun t109 => (if t109 = 16294208416658607535 then ((seal_Tag.f k 0 y104).bind fun t110 => ((seal_Mix.f 16294208416658607527).bind fun t111 => (if t110 = t111 then ((seal_Tag.f k 0 ([] : List Int)).bind fun t112 => (if t112 = 0 then ((seal_Check.f k 0 ([] : List Int) 0).bind fun t113 => (if t113 = true then ((seal_Check.f k 0 ([] : List Int) 1).bind fun t114 => (if t114 = true then (none) else ((seal_Chain.f k 0 y104).bind fun t115 => ((seal_Tag.f k 0 y104).bind fun t116 => (some (t115 == t116)))))) else (none))) else (none))) else (none)))) else (none))) else (none))) else (none)))
theorem skiarealaw04_alive.mono : ∀ k, LeO (skiarealaw04_alive.f k ) (skiarealaw04_alive.f (k + 1) ) := by
  intro  k
  unfold skiarealaw04_alive.f
  repeat' first
      | (with_reducible exact seal_Chain.mono _ _ _)
      | (with_reducible exact seal_Check.mono _ _ _ _)
      | (with_reducible exact seal_Tag.mono _ _ _)
      | (with_reducible exact LeO.refl _)
      | (with_reducible exact LeO.none _)
      | (with_reducible refine LeO.ite ?_ ?_)
      | (with_reducible refine LeO.bind ?_ (fun _ => ?_))
      | exact seal_Chain.mono _ _ _
      | exact seal_Check.mono _ _ _ _
      | exact seal_Tag.mono _ _ _
      | exact LeO.none _
      | refine LeO.ite ?_ ?_
      | refine LeO.bind ?_ (fun _ => ?_)
set_option maxHeartbeats 8000000 in
set_option maxRecDepth 100000 in
theorem skiarealaw04_alive.calls (k : Nat)  (r : Bool) (w : World) (h : skiarealaw04_alive.f k  = some r) :
    Calls Try.prog 11 #[] w fun e w' => e = .returned (.bool r) ∧ Below w.heap.size w w' := by
  have HB := Aside0.mk (Below.refl w.heap.size w)
  have H : ((some (([21, 124, 74, 127, 185, 121, 55, 158] : List Int) : List Int)).bind fun y104 => ((seal_Mix.f 0).bind fun t107 => (if t107 = 0 then ((seal_Mix.f 11400714819323198485).bind fun t108 => (if t108 = 16294208416658607535 then ((seal_Key.f 0 1).bind fun t109 => (if t109 = 16294208416658607535 then ((seal_Tag.f k 0 y104).bind fun t110 => ((seal_Mix.f 16294208416658607527).bind fun t111 => (if t110 = t111 then ((seal_Tag.f k 0 ([] : List Int)).bind fun t112 => (if t112 = 0 then ((seal_Check.f k 0 ([] : List Int) 0).bind fun t113 => (if t113 = true then ((seal_Check.f k 0 ([] : List Int) 1).bind fun t114 => (if t114 = true then (none) else ((seal_Chain.f k 0 y104).bind fun t115 => ((seal_Tag.f k 0 y104).bind fun t116 => (some (t115 == t116)))))) else (none))) else (none))) else (none)))) else (none))) else (none))) else (none)))) = some r := h
  clear h
  obtain ⟨y104, hy104⟩ : ∃ y_ : List Int, y_ = (([21, 124, 74, 127, 185, 121, 55, 158] : List Int)) := ⟨_, rfl⟩
  replace H : ((seal_Mix.f 0).bind fun t107 => (if t107 = 0 then ((seal_Mix.f 11400714819323198485).bind fun t108 => (if t108 = 16294208416658607535 then ((seal_Key.f 0 1).bind fun t109 => (if t109 = 16294208416658607535 then ((seal_Tag.f k 0 y104).bind fun t110 => ((seal_Mix.f 16294208416658607527).bind fun t111 => (if t110 = t111 then ((seal_Tag.f k 0 ([] : List Int)).bind fun t112 => (if t112 = 0 then ((seal_Check.f k 0 ([] : List Int) 0).bind fun t113 => (if t113 = true then ((seal_Check.f k 0 ([] : List Int) 1).bind fun t114 => (if t114 = true then (none) else ((seal_Chain.f k 0 y104).bind fun t115 => ((seal_Tag.f k 0 y104).bind fun t116 => (some (t115 == t116)))))) else (none))) else (none))) else (none)))) else (none))) else (none))) else (none))) = some r := by first | (rw [hy104]; with_reducible exact H) | (have H2_ := (Option.bind_some _ _).symm.trans H; rw [hy104]; with_reducible exact H2_) | (have H2_ := (Option.bind_some _ _).symm.trans H; with_reducible exact H2_) | with_reducible exact H | (rw [hy104]; exact H) | exact H
  have Ny104 := Aside0.mk hy104
  clear hy104
  replace H := Option.bind_eq_some_iff.mp H
  obtain ⟨t107, A10, H⟩ := H
  replace H : (if t107 = 0 then ((seal_Mix.f 11400714819323198485).bind fun t108 => (if t108 = 16294208416658607535 then ((seal_Key.f 0 1).bind fun t109 => (if t109 = 16294208416658607535 then ((seal_Tag.f k 0 y104).bind fun t110 => ((seal_Mix.f 16294208416658607527).bind fun t111 => (if t110 = t111 then ((seal_Tag.f k 0 ([] : List Int)).bind fun t112 => (if t112 = 0 then ((seal_Check.f k 0 ([] : List Int) 0).bind fun t113 => (if t113 = true then ((seal_Check.f k 0 ([] : List Int) 1).bind fun t114 => (if t114 = true then (none) else ((seal_Chain.f k 0 y104).bind fun t115 => ((seal_Tag.f k 0 y104).bind fun t116 => (some (t115 == t116)))))) else (none))) else (none))) else (none)))) else (none))) else (none))) else (none)) = some r := H
  have A1 := Aside0.mk A10
  clear A10
  by_cases c2 : t107 = 0
  · rw [if_pos c2] at H
    have c2b0 : (t107 == 0) = true := beq_iff_eq.mpr c2
    have c2b1 : (t107 != 0) = false := bne_eq_false_iff_eq.mpr c2
    clear c2
    replace H := Option.bind_eq_some_iff.mp H
    obtain ⟨t108, A30, H⟩ := H
    replace H : (if t108 = 16294208416658607535 then ((seal_Key.f 0 1).bind fun t109 => (if t109 = 16294208416658607535 then ((seal_Tag.f k 0 y104).bind fun t110 => ((seal_Mix.f 16294208416658607527).bind fun t111 => (if t110 = t111 then ((seal_Tag.f k 0 ([] : List Int)).bind fun t112 => (if t112 = 0 then ((seal_Check.f k 0 ([] : List Int) 0).bind fun t113 => (if t113 = true then ((seal_Check.f k 0 ([] : List Int) 1).bind fun t114 => (if t114 = true then (none) else ((seal_Chain.f k 0 y104).bind fun t115 => ((seal_Tag.f k 0 y104).bind fun t116 => (some (t115 == t116)))))) else (none))) else (none))) else (none)))) else (none))) else (none)) = some r := H
    have A3 := Aside0.mk A30
    clear A30
    by_cases c4 : t108 = 16294208416658607535
    · rw [if_pos c4] at H
      have c4b0 : (t108 == 16294208416658607535) = true := beq_iff_eq.mpr c4
      have c4b1 : (t108 != 16294208416658607535) = false := bne_eq_false_iff_eq.mpr c4
      clear c4
      replace H := Option.bind_eq_some_iff.mp H
      obtain ⟨t109, A50, H⟩ := H
      replace H : (if t109 = 16294208416658607535 then ((seal_Tag.f k 0 y104).bind fun t110 => ((seal_Mix.f 16294208416658607527).bind fun t111 => (if t110 = t111 then ((seal_Tag.f k 0 ([] : List Int)).bind fun t112 => (if t112 = 0 then ((seal_Check.f k 0 ([] : List Int) 0).bind fun t113 => (if t113 = true then ((seal_Check.f k 0 ([] : List Int) 1).bind fun t114 => (if t114 = true then (none) else ((seal_Chain.f k 0 y104).bind fun t115 => ((seal_Tag.f k 0 y104).bind fun t116 => (some (t115 == t116)))))) else (none))) else (none))) else (none)))) else (none)) = some r := H
      have A5 := Aside0.mk A50
      clear A50
      by_cases c6 : t109 = 16294208416658607535
      · rw [if_pos c6] at H
        have c6b0 : (t109 == 16294208416658607535) = true := beq_iff_eq.mpr c6
        have c6b1 : (t109 != 16294208416658607535) = false := bne_eq_false_iff_eq.mpr c6
        clear c6
        replace H := Option.bind_eq_some_iff.mp H
        obtain ⟨t110, A70, H⟩ := H
        replace H : ((seal_Mix.f 16294208416658607527).bind fun t111 => (if t110 = t111 then ((seal_Tag.f k 0 ([] : List Int)).bind fun t112 => (if t112 = 0 then ((seal_Check.f k 0 ([] : List Int) 0).bind fun t113 => (if t113 = true then ((seal_Check.f k 0 ([] : List Int) 1).bind fun t114 => (if t114 = true then (none) else ((seal_Chain.f k 0 y104).bind fun t115 => ((seal_Tag.f k 0 y104).bind fun t116 => (some (t115 == t116)))))) else (none))) else (none))) else (none))) = some r := H
        have A7 := Aside0.mk A70
        clear A70
        replace H := Option.bind_eq_some_iff.mp H
        obtain ⟨t111, A80, H⟩ := H
        replace H : (if t110 = t111 then ((seal_Tag.f k 0 ([] : List Int)).bind fun t112 => (if t112 = 0 then ((seal_Check.f k 0 ([] : List Int) 0).bind fun t113 => (if t113 = true then ((seal_Check.f k 0 ([] : List Int) 1).bind fun t114 => (if t114 = true then (none) else ((seal_Chain.f k 0 y104).bind fun t115 => ((seal_Tag.f k 0 y104).bind fun t116 => (some (t115 == t116)))))) else (none))) else (none))) else (none)) = some r := H
        have A8 := Aside0.mk A80
        clear A80
        by_cases c9 : t110 = t111
        · rw [if_pos c9] at H
          have c9b0 : (t110 == t111) = true := beq_iff_eq.mpr c9
          have c9b1 : (t110 != t111) = false := bne_eq_false_iff_eq.mpr c9
          clear c9
          replace H := Option.bind_eq_some_iff.mp H
          obtain ⟨t112, A100, H⟩ := H
          replace H : (if t112 = 0 then ((seal_Check.f k 0 ([] : List Int) 0).bind fun t113 => (if t113 = true then ((seal_Check.f k 0 ([] : List Int) 1).bind fun t114 => (if t114 = true then (none) else ((seal_Chain.f k 0 y104).bind fun t115 => ((seal_Tag.f k 0 y104).bind fun t116 => (some (t115 == t116)))))) else (none))) else (none)) = some r := H
          have A10 := Aside0.mk A100
          clear A100
          by_cases c11 : t112 = 0
          · rw [if_pos c11] at H
            have c11b0 : (t112 == 0) = true := beq_iff_eq.mpr c11
            have c11b1 : (t112 != 0) = false := bne_eq_false_iff_eq.mpr c11
            clear c11
            replace H := Option.bind_eq_some_iff.mp H
            obtain ⟨t113, A120, H⟩ := H
            replace H : (if t113 = true then ((seal_Check.f k 0 ([] : List Int) 1).bind fun t114 => (if t114 = true then (none) else ((seal_Chain.f k 0 y104).bind fun t115 => ((seal_Tag.f k 0 y104).bind fun t116 => (some (t115 == t116)))))) else (none)) = some r := H
            have A12 := Aside0.mk A120
            clear A120
            by_cases c13 : t113 = true
            · subst c13
              have H1 : ((seal_Check.f k 0 ([] : List Int) 1).bind fun t114 => (if t114 = true then (none) else ((seal_Chain.f k 0 y104).bind fun t115 => ((seal_Tag.f k 0 y104).bind fun t116 => (some (t115 == t116)))))) = some r := by rw [if_pos rfl] at H; exact H
              clear H
              have H := H1
              clear H1
              replace H := Option.bind_eq_some_iff.mp H
              obtain ⟨t114, A140, H⟩ := H
              replace H : (if t114 = true then (none) else ((seal_Chain.f k 0 y104).bind fun t115 => ((seal_Tag.f k 0 y104).bind fun t116 => (some (t115 == t116))))) = some r := H
              have A14 := Aside0.mk A140
              clear A140
              by_cases c15 : t114 = true
              · subst c15
                have H1 : (none) = some r := by rw [if_pos rfl] at H; exact H
                clear H
                have H := H1
                clear H1
                exact absurd H (by simp)
              · replace c15 := Bool.eq_false_iff.mpr c15
                subst c15
                have H1 : ((seal_Chain.f k 0 y104).bind fun t115 => ((seal_Tag.f k 0 y104).bind fun t116 => (some (t115 == t116)))) = some r := by rw [if_neg (show ¬ (false = true) by decide)] at H; exact H
                clear H
                have H := H1
                clear H1
                replace H := Option.bind_eq_some_iff.mp H
                obtain ⟨t115, A160, H⟩ := H
                replace H : ((seal_Tag.f k 0 y104).bind fun t116 => (some (t115 == t116))) = some r := H
                have A16 := Aside0.mk A160
                clear A160
                replace H := Option.bind_eq_some_iff.mp H
                obtain ⟨t116, A170, H⟩ := H
                replace H : (some (t115 == t116)) = some r := H
                have A17 := Aside0.mk A170
                clear A170
                obtain rfl := Option.some.inj H
                go_enter Try.func11, Try.ntmps11
                go_wp2_with (first | ((with_reducible refine gate_dst (N := 2) rfl ?_); refine Kd.R_lit (Kd.int .u8) _ 5 ?hg (N := 2) ?hd (xs := ([21, 124, 74, 127, 185, 121, 55, 158] : List Int)) (inner := [.int .u8 21, .int .u8 124, .int .u8 74, .int .u8 127, .int .u8 185, .int .u8 121, .int .u8 55, .int .u8 158]) (ok := fun _ => True) (okp := fun _ => True) ?hr ?hp (fun _ hk => hk) trivial (Below.refl _ _) (Nat.le_refl _) (by simp) ?_; (case hd => rfl); (case hg => rfl); (case hr => first | (go_simp; done) | (go_simp; rfl)); (case hp => exact (Reps.one (show Kd.M (Kd.int .u8) _ _ _ 21 [.int .u8 21] from rfl) (Reps.one (show Kd.M (Kd.int .u8) _ _ _ 124 [.int .u8 124] from rfl) (Reps.one (show Kd.M (Kd.int .u8) _ _ _ 74 [.int .u8 74] from rfl) (Reps.one (show Kd.M (Kd.int .u8) _ _ _ 127 [.int .u8 127] from rfl) (Reps.one (show Kd.M (Kd.int .u8) _ _ _ 185 [.int .u8 185] from rfl) (Reps.one (show Kd.M (Kd.int .u8) _ _ _ 121 [.int .u8 121] from rfl) (Reps.one (show Kd.M (Kd.int .u8) _ _ _ 55 [.int .u8 55] from rfl) (Reps.one (show Kd.M (Kd.int .u8) _ _ _ 158 [.int .u8 158] from rfl) (Reps.none _ _)))))))))); intro v105 w18 ho19 hb hg_ hnew_; clear hg_ hnew_; (first | rw [← Ny104.out] at ho19 | (simp only [Int.reduceToNat] at ho19; rw [← Ny104.out] at ho19)); have n0_ := Aside0.mk (Kd.R_lower ho19 (below_size (by repeat (first | (with_reducible first | exact HB.out | apply below_alloc | apply pw_below_drewN | apply below_drew1) | exact HB.out)))); have n1_ := Aside0.mk (below_step (by repeat (first | (with_reducible first | exact HB.out | apply below_alloc | apply pw_below_drewN | apply below_drew1) | exact HB.out)) hb); clear HB; have HO106 := n0_; have HB := n1_; clear n0_ n1_; clear hb ho19) | ((with_reducible refine gate_callee (f := 12) rfl ?_); refine goesL_ (some 3) rfl rfl Try.func12 (by kernel_rfl) rfl #[.int .u64 0] rfl (by (try simp only [List.map_toArray, List.map_cons, List.map_nil]); first | done | rfl | (simp only [List.length_drop, List.length_take]; rfl)) ?_; (with_reducible refine (seal_Mix.calls 0 t107 _ A1.out).mono ?_); rintro e w' ⟨rfl, ⟨nd, rfl⟩⟩; refine ⟨_, rfl, ?_⟩) | (go_at_call 12; (with_reducible refine (seal_Mix.calls 11400714819323198485 t108 _ A3.out).mono ?_); rintro e w' ⟨rfl, ⟨nd, rfl⟩⟩) | (go_at_call 14; (with_reducible refine (seal_Key.calls 0 1 t109 _ A5.out).mono ?_); rintro e w' ⟨rfl, ⟨nd, rfl⟩⟩; obtain ⟨Ao20, co20, eo20⟩ := Kd.R_slice HO106.out; subst eo20) | ((with_reducible refine gate_callee (f := 16) rfl ?_); refine goesL_ (some 14) rfl rfl Try.func16 (by kernel_rfl) rfl #[.int .u64 0, .slice Ao20 y104.length co20] rfl (by (try simp only [List.map_toArray, List.map_cons, List.map_nil]); first | done | rfl | (simp only [List.length_drop, List.length_take]; rfl)) ?_; (with_reducible refine (seal_Tag.calls k 0 _ _ y104 t110 _ ?side1 ?side2 A7.out).mono ?_); (case side1 => repeat (first | exact (Kd.R_reads' HO106.out).2.2 | (with_reducible refine Kd.C_alloc ?_ _) | (with_reducible refine Kd.C_drewN ?_ _) | (with_reducible refine Kd.C_drew ?_))); (case side2 => exact (Kd.R_reads' HO106.out).2.1); rintro e w21 ⟨rfl, hb⟩; refine ⟨_, rfl, ?_⟩; have n0_ := Aside0.mk (Kd.R_below (by (with_reducible repeat (first | apply Kd.R_alloc | apply Kd.R_drewN | apply Kd.R_drew)); exact HO106.out) hb); have n1_ := Aside0.mk (below_step (by repeat (first | (with_reducible first | exact HB.out | apply below_alloc | apply pw_below_drewN | apply below_drew1) | exact HB.out)) hb); clear HO106; clear HB; have HO106 := n0_; have HB := n1_; clear n0_ n1_; (try clear hb); (try clear hb2); (try clear hk); (try clear hi)) | ((with_reducible refine gate_callee (f := 12) rfl ?_); refine goesL_ (some 15) rfl rfl Try.func12 (by kernel_rfl) rfl #[.int .u64 16294208416658607527] rfl (by (try simp only [List.map_toArray, List.map_cons, List.map_nil]); first | done | rfl | (simp only [List.length_drop, List.length_take]; rfl)) ?_; (with_reducible refine (seal_Mix.calls 16294208416658607527 t111 _ A8.out).mono ?_); rintro e w' ⟨rfl, ⟨nd, rfl⟩⟩; refine ⟨_, rfl, ?_⟩) | (go_at_call 16; (refine (seal_Tag.calls k 0 _ _ ([] : List Int) t112 _ ?side1 ?side2 A10.out).mono ?_); (case side1 => exact Kd.C_nil _ _); (case side2 => exact Nat.le_refl _); rintro e w22 ⟨rfl, hb⟩; have n0_ := Aside0.mk (Kd.R_below (by (with_reducible repeat (first | apply Kd.R_alloc | apply Kd.R_drewN | apply Kd.R_drew)); exact HO106.out) hb); have n1_ := Aside0.mk (below_step (by repeat (first | (with_reducible first | exact HB.out | apply below_alloc | apply pw_below_drewN | apply below_drew1) | exact HB.out)) hb); clear HO106; clear HB; have HO106 := n0_; have HB := n1_; clear n0_ n1_; (try clear hb); (try clear hb2); (try clear hk); (try clear hi)) | (go_at_call 18; (refine (seal_Check.calls k 0 _ _ ([] : List Int) 0 true _ ?side1 ?side2 A12.out).mono ?_); (case side1 => exact Kd.C_nil _ _); (case side2 => exact Nat.le_refl _); rintro e w23 ⟨rfl, hb⟩; have n0_ := Aside0.mk (Kd.R_below (by (with_reducible repeat (first | apply Kd.R_alloc | apply Kd.R_drewN | apply Kd.R_drew)); exact HO106.out) hb); have n1_ := Aside0.mk (below_step (by repeat (first | (with_reducible first | exact HB.out | apply below_alloc | apply pw_below_drewN | apply below_drew1) | exact HB.out)) hb); clear HO106; clear HB; have HO106 := n0_; have HB := n1_; clear n0_ n1_; (try clear hb); (try clear hb2); (try clear hk); (try clear hi)) | (go_at_call 18; (refine (seal_Check.calls k 0 _ _ ([] : List Int) 1 false _ ?side1 ?side2 A14.out).mono ?_); (case side1 => exact Kd.C_nil _ _); (case side2 => exact Nat.le_refl _); rintro e w24 ⟨rfl, hb⟩; have n0_ := Aside0.mk (Kd.R_below (by (with_reducible repeat (first | apply Kd.R_alloc | apply Kd.R_drewN | apply Kd.R_drew)); exact HO106.out) hb); have n1_ := Aside0.mk (below_step (by repeat (first | (with_reducible first | exact HB.out | apply below_alloc | apply pw_below_drewN | apply below_drew1) | exact HB.out)) hb); clear HO106; clear HB; have HO106 := n0_; have HB := n1_; clear n0_ n1_; (try clear hb); (try clear hb2); (try clear hk); (try clear hi)) | (go_at_call 19; (with_reducible refine (seal_Chain.calls k 0 _ _ y104 t115 _ ?side1 ?side2 A16.out).mono ?_); (case side1 => repeat (first | exact (Kd.R_reads' HO106.out).2.2 | (with_reducible refine Kd.C_alloc ?_ _) | (with_reducible refine Kd.C_drewN ?_ _) | (with_reducible refine Kd.C_drew ?_))); (case side2 => exact (Kd.R_reads' HO106.out).2.1); rintro e w25 ⟨rfl, hb⟩; have n0_ := Aside0.mk (Kd.R_below (by (with_reducible repeat (first | apply Kd.R_alloc | apply Kd.R_drewN | apply Kd.R_drew)); exact HO106.out) hb); have n1_ := Aside0.mk (below_step (by repeat (first | (with_reducible first | exact HB.out | apply below_alloc | apply pw_below_drewN | apply below_drew1) | exact HB.out)) hb); clear HO106; clear HB; have HO106 := n0_; have HB := n1_; clear n0_ n1_; (try clear hb); (try clear hb2); (try clear hk); (try clear hi)) | (go_at_call 16; (with_reducible refine (seal_Tag.calls k 0 _ _ y104 t116 _ ?side1 ?side2 A17.out).mono ?_); (case side1 => repeat (first | exact (Kd.R_reads' HO106.out).2.2 | (with_reducible refine Kd.C_alloc ?_ _) | (with_reducible refine Kd.C_drewN ?_ _) | (with_reducible refine Kd.C_drew ?_))); (case side2 => exact (Kd.R_reads' HO106.out).2.1); rintro e w26 ⟨rfl, hb⟩; have n0_ := Aside0.mk (Kd.R_below (by (with_reducible repeat (first | apply Kd.R_alloc | apply Kd.R_drewN | apply Kd.R_drew)); exact HO106.out) hb); have n1_ := Aside0.mk (below_step (by repeat (first | (with_reducible first | exact HB.out | apply below_alloc | apply pw_below_drewN | apply below_drew1) | exact HB.out)) hb); clear HO106; clear HB; have HO106 := n0_; have HB := n1_; clear n0_ n1_; (try clear hb); (try clear hb2); (try clear hk); (try clear hi)))
                go_ret
                exact ⟨by first | rfl | (simp [errW_none, errW_some] <;> rfl) | (simp [*, errW_none, errW_some] <;> rfl), by repeat (first | (with_reducible first | exact HB.out | apply below_alloc | apply pw_below_drewN | apply below_drew1) | exact HB.out)⟩
            · replace c13 := Bool.eq_false_iff.mpr c13
              subst c13
              have H1 : (none) = some r := by rw [if_neg (show ¬ (false = true) by decide)] at H; exact H
              clear H
              have H := H1
              clear H1
              exact absurd H (by simp)
          · rw [if_neg c11] at H
            exact absurd H (by simp)
        · rw [if_neg c9] at H
          exact absurd H (by simp)
      · rw [if_neg c6] at H
        exact absurd H (by simp)
    · rw [if_neg c4] at H
      exact absurd H (by simp)
  · rw [if_neg c2] at H
    exact absurd H (by simp)

end Go.Proofs.Ytmfjicpgofdmkaa.E
