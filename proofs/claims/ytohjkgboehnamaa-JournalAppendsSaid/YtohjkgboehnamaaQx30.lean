-- Printed by a program of this session (wip/pp), out of Lean's print of the loaded functions. Lean checks it.
import Derived.Test.YtohjkgboehnamaaQx0
import Derived.Test.YtohjkgboehnamaaQx8
import Derived.Test.YtohjkgboehnamaaQx15
import Derived.Test.YtohjkgboehnamaaQx24
import Derived.Test.YtohjkgboehnamaaQHAppend
import Derived.Test.YtohjkgboehnamaaQHLast
namespace Go.Proofs.Ytohjkgboehnamaa.Q
open Go.RowKit Go.Proofs.YtohjkgboehnamaaW.PrintWords Go.Proofs.YtohjkgboehnamaaW.PrintLast Go.Proofs.YtohjkgboehnamaaW.PrintMore
attribute [local go_sem] max2_int min2_int max_two min_two max_three min_three max_four min_four   -- for this text's walks alone
set_option linter.unusedVariables false
set_option linter.unusedSimpArgs false

attribute [local irreducible] Calls journal_Append.f journal_Last.f journal_Read.f journal_Whole.f journal_Write.f seal_Chain.f skiarearef29_Same.f
/-! ### skiarealaw29_alive: function 10 -/
def skiarealaw29_alive.f (k : Nat)  : Option (Bool) := (some (([1, 1, 7, 3, 2, 4, 172, 2] : List Int) : List Int)).bind fun y207 => ((journal_Write.f k (([(⟨1, 1, 7, 3, 2, 4, 300⟩ : S39)] : List (S39)))).bind fun bt213 => (if bt213.2 = 0 then (if (bt213.1.length : Int) = 21 then (if 0 < (bt213.1.length : Int) then (if (rd bt213.1 0) = 16 then (if 1 ≤ 9 then (if 9 ≤ (bt213.1.length : Int) then (if (strOfNums ((bt213.1.take 9).drop 1)).toList = (strOfNums y207).toList then ((journal_Read.f k bt213.1).bind fun bt222 => (if 20 ≤ (bt213.1.length : Int) then ((journal_Read.f k (bt213.1.take 20)).bind fun bt230 => ((journal_Append.f k (bt213.1.take 20) 1 1 7 3 2 4 300).bind fun bt238 => ((journal_Append.f k bt213.1 0 (-1) 0 0 0 0 0).bind fun bt242 => ((skiarearef29_Same.f k bt222.1 (([(⟨1, 1, 7, 3, 2, 4, 300⟩ : S39)] : List (S39)))).bind fun t249 => (if t249 = true then (if bt222.2 = 21 then (if (bt230.1.length : Int) = 0 then (if bt230.2 = 0 then (if bt238.2 = 3 then (if bt242.2 = 2 then ((journal_Whole.f k bt213.1).bind fun t250 => (if t250 = true then ((journal_Whole.f k ([] : List Int)).bind fun t251 => (if t251 = true then ((journal_Whole.f k (bt213.1.take 20)).bind fun t256 => (if t256 = true then (none) else ((journal_Last.f k bt213.1).bind fun t257 => ((seal_Chain.f k 0 y207).bind fun t258 => (some (t257 == t258)))))) else (none))) else (none))) else (none)) else (none)) else (none)) else (none)) else (none)) else (none)))))) else (none))) else (none)) else (none)) else (none)) else (none)) else (none)) else (none)) else (none)))
theorem skiarealaw29_alive.mono : ∀ k, LeO (skiarealaw29_alive.f k ) (skiarealaw29_alive.f (k + 1) ) := by
  intro  k
  unfold skiarealaw29_alive.f
  repeat' first
      | (with_reducible exact journal_Append.mono _ _ _ _ _ _ _ _ _)
      | (with_reducible exact journal_Last.mono _ _)
      | (with_reducible exact journal_Read.mono _ _)
      | (with_reducible exact journal_Whole.mono _ _)
      | (with_reducible exact journal_Write.mono _ _)
      | (with_reducible exact seal_Chain.mono _ _ _)
      | (with_reducible exact skiarearef29_Same.mono _ _ _)
      | (with_reducible exact LeO.refl _)
      | (with_reducible exact LeO.none _)
      | (with_reducible refine LeO.ite ?_ ?_)
      | (with_reducible refine LeO.bind ?_ (fun _ => ?_))
      | exact journal_Append.mono _ _ _ _ _ _ _ _ _
      | exact journal_Last.mono _ _
      | exact journal_Read.mono _ _
      | exact journal_Whole.mono _ _
      | exact journal_Write.mono _ _
      | exact seal_Chain.mono _ _ _
      | exact skiarearef29_Same.mono _ _ _
      | exact LeO.none _
      | refine LeO.ite ?_ ?_
      | refine LeO.bind ?_ (fun _ => ?_)
def skiarealaw29_alive.T4 : Bool × List (List Nat × List Nat) := (true, [([], []), ([0], [0]), ([1], [1]), ([2], [2]), ([3, 2], [2, 3]), ([4, 2], [2, 4]), ([2, 5], [2, 5]), ([6, 2], [6]), ([7], [7]), ([8, 7], [7, 8]), ([9, 7], [7, 9]), ([10, 7], [7, 10]), ([7, 11], [7, 11]), ([12, 7], [12]), ([13], [13]), ([14, 13], [13, 14]), ([15, 13], [13, 15]), ([13], [13]), ([17, 13], [13, 17]), ([16, 18, 13], [13, 16, 18]), ([13, 19], [13, 19])])
def skiarealaw29_alive.B4 : List Nat := [0, 1, 3, 7, 15, 31, 63, 127, 255, 511, 1023, 2047, 4095, 8191, 16383, 32767, 65535, 16383, 147455, 524287, 1048575]
theorem skiarealaw29_alive.tab4 : rtab .any (opsOf Try.f10 4) = skiarealaw29_alive.T4 := by kernel_rfl
theorem skiarealaw29_alive.bits4 : waitsOk skiarealaw29_alive.T4.2 skiarealaw29_alive.B4 = true := by kernel_rfl
def skiarealaw29_alive.T8 : Bool × List (List Nat × List Nat) := (true, [([], []), ([0], [0]), ([], []), ([1, 2], [1, 2]), ([3], [3]), ([4], [4]), ([4], [4]), ([5, 3, 0, 1, 2, 3, 4, 5], [5]), ([6, 7, 0, 1, 2, 3, 4, 5, 6, 7], [6])])
def skiarealaw29_alive.B8 : List Nat := [0, 1, 0, 7, 15, 31, 31, 63, 255]
theorem skiarealaw29_alive.tab8 : rtab .any (opsOf Try.f10 8) = skiarealaw29_alive.T8 := by kernel_rfl
theorem skiarealaw29_alive.bits8 : waitsOk skiarealaw29_alive.T8.2 skiarealaw29_alive.B8 = true := by kernel_rfl
set_option maxHeartbeats 8000000 in
set_option maxRecDepth 100000 in
theorem skiarealaw29_alive.calls (k : Nat)  (r : Bool) (w : World) (h : skiarealaw29_alive.f k  = some r) :
    Calls Try.prog 10 #[] w fun e w' => e = .returned (.bool r) ∧ Below w.heap.size w w' := by
  have hu39 := Try.underlying39
  have HB := Aside0.mk (Below.refl w.heap.size w)
  have H : ((some (([1, 1, 7, 3, 2, 4, 172, 2] : List Int) : List Int)).bind fun y207 => ((journal_Write.f k (([(⟨1, 1, 7, 3, 2, 4, 300⟩ : S39)] : List (S39)))).bind fun bt213 => (if bt213.2 = 0 then (if (bt213.1.length : Int) = 21 then (if 0 < (bt213.1.length : Int) then (if (rd bt213.1 0) = 16 then (if 1 ≤ 9 then (if 9 ≤ (bt213.1.length : Int) then (if (strOfNums ((bt213.1.take 9).drop 1)).toList = (strOfNums y207).toList then ((journal_Read.f k bt213.1).bind fun bt222 => (if 20 ≤ (bt213.1.length : Int) then ((journal_Read.f k (bt213.1.take 20)).bind fun bt230 => ((journal_Append.f k (bt213.1.take 20) 1 1 7 3 2 4 300).bind fun bt238 => ((journal_Append.f k bt213.1 0 (-1) 0 0 0 0 0).bind fun bt242 => ((skiarearef29_Same.f k bt222.1 (([(⟨1, 1, 7, 3, 2, 4, 300⟩ : S39)] : List (S39)))).bind fun t249 => (if t249 = true then (if bt222.2 = 21 then (if (bt230.1.length : Int) = 0 then (if bt230.2 = 0 then (if bt238.2 = 3 then (if bt242.2 = 2 then ((journal_Whole.f k bt213.1).bind fun t250 => (if t250 = true then ((journal_Whole.f k ([] : List Int)).bind fun t251 => (if t251 = true then ((journal_Whole.f k (bt213.1.take 20)).bind fun t256 => (if t256 = true then (none) else ((journal_Last.f k bt213.1).bind fun t257 => ((seal_Chain.f k 0 y207).bind fun t258 => (some (t257 == t258)))))) else (none))) else (none))) else (none)) else (none)) else (none)) else (none)) else (none)) else (none)))))) else (none))) else (none)) else (none)) else (none)) else (none)) else (none)) else (none)) else (none)))) = some r := h
  clear h
  obtain ⟨y207, hy207⟩ : ∃ y_ : List Int, y_ = (([1, 1, 7, 3, 2, 4, 172, 2] : List Int)) := ⟨_, rfl⟩
  replace H : ((journal_Write.f k (([(⟨1, 1, 7, 3, 2, 4, 300⟩ : S39)] : List (S39)))).bind fun bt213 => (if bt213.2 = 0 then (if (bt213.1.length : Int) = 21 then (if 0 < (bt213.1.length : Int) then (if (rd bt213.1 0) = 16 then (if 1 ≤ 9 then (if 9 ≤ (bt213.1.length : Int) then (if (strOfNums ((bt213.1.take 9).drop 1)).toList = (strOfNums y207).toList then ((journal_Read.f k bt213.1).bind fun bt222 => (if 20 ≤ (bt213.1.length : Int) then ((journal_Read.f k (bt213.1.take 20)).bind fun bt230 => ((journal_Append.f k (bt213.1.take 20) 1 1 7 3 2 4 300).bind fun bt238 => ((journal_Append.f k bt213.1 0 (-1) 0 0 0 0 0).bind fun bt242 => ((skiarearef29_Same.f k bt222.1 (([(⟨1, 1, 7, 3, 2, 4, 300⟩ : S39)] : List (S39)))).bind fun t249 => (if t249 = true then (if bt222.2 = 21 then (if (bt230.1.length : Int) = 0 then (if bt230.2 = 0 then (if bt238.2 = 3 then (if bt242.2 = 2 then ((journal_Whole.f k bt213.1).bind fun t250 => (if t250 = true then ((journal_Whole.f k ([] : List Int)).bind fun t251 => (if t251 = true then ((journal_Whole.f k (bt213.1.take 20)).bind fun t256 => (if t256 = true then (none) else ((journal_Last.f k bt213.1).bind fun t257 => ((seal_Chain.f k 0 y207).bind fun t258 => (some (t257 == t258)))))) else (none))) else (none))) else (none)) else (none)) else (none)) else (none)) else (none)) else (none)))))) else (none))) else (none)) else (none)) else (none)) else (none)) else (none)) else (none)) else (none))) = some r := by first | (rw [hy207]; with_reducible exact H) | (have H2_ := (Option.bind_some _ _).symm.trans H; rw [hy207]; with_reducible exact H2_) | (have H2_ := (Option.bind_some _ _).symm.trans H; with_reducible exact H2_) | with_reducible exact H | (rw [hy207]; exact H) | exact H
  have Ny207 := Aside0.mk hy207
  clear hy207
  obtain ⟨y210, hy210⟩ : ∃ y_ : List (S39), y_ = (([(⟨1, 1, 7, 3, 2, 4, 300⟩ : S39)] : List (S39))) := ⟨_, rfl⟩
  replace H : ((journal_Write.f k y210).bind fun bt213 => (if bt213.2 = 0 then (if (bt213.1.length : Int) = 21 then (if 0 < (bt213.1.length : Int) then (if (rd bt213.1 0) = 16 then (if 1 ≤ 9 then (if 9 ≤ (bt213.1.length : Int) then (if (strOfNums ((bt213.1.take 9).drop 1)).toList = (strOfNums y207).toList then ((journal_Read.f k bt213.1).bind fun bt222 => (if 20 ≤ (bt213.1.length : Int) then ((journal_Read.f k (bt213.1.take 20)).bind fun bt230 => ((journal_Append.f k (bt213.1.take 20) 1 1 7 3 2 4 300).bind fun bt238 => ((journal_Append.f k bt213.1 0 (-1) 0 0 0 0 0).bind fun bt242 => ((skiarearef29_Same.f k bt222.1 (([(⟨1, 1, 7, 3, 2, 4, 300⟩ : S39)] : List (S39)))).bind fun t249 => (if t249 = true then (if bt222.2 = 21 then (if (bt230.1.length : Int) = 0 then (if bt230.2 = 0 then (if bt238.2 = 3 then (if bt242.2 = 2 then ((journal_Whole.f k bt213.1).bind fun t250 => (if t250 = true then ((journal_Whole.f k ([] : List Int)).bind fun t251 => (if t251 = true then ((journal_Whole.f k (bt213.1.take 20)).bind fun t256 => (if t256 = true then (none) else ((journal_Last.f k bt213.1).bind fun t257 => ((seal_Chain.f k 0 y207).bind fun t258 => (some (t257 == t258)))))) else (none))) else (none))) else (none)) else (none)) else (none)) else (none)) else (none)) else (none)))))) else (none))) else (none)) else (none)) else (none)) else (none)) else (none)) else (none)) else (none))) = some r := by first | (rw [hy210]; with_reducible exact H) | (have H2_ := (Option.bind_some _ _).symm.trans H; rw [hy210]; with_reducible exact H2_) | (have H2_ := (Option.bind_some _ _).symm.trans H; with_reducible exact H2_) | with_reducible exact H | (rw [hy210]; exact H) | exact H
  have Ny210 := Aside0.mk hy210
  clear hy210
  replace H := Option.bind_eq_some_iff.mp H
  obtain ⟨⟨t213, t214⟩, A10, H⟩ := H
  replace H : (if t214 = 0 then (if (t213.length : Int) = 21 then (if 0 < (t213.length : Int) then (if (rd t213 0) = 16 then (if 1 ≤ 9 then (if 9 ≤ (t213.length : Int) then (if (strOfNums ((t213.take 9).drop 1)).toList = (strOfNums y207).toList then ((journal_Read.f k t213).bind fun bt222 => (if 20 ≤ (t213.length : Int) then ((journal_Read.f k (t213.take 20)).bind fun bt230 => ((journal_Append.f k (t213.take 20) 1 1 7 3 2 4 300).bind fun bt238 => ((journal_Append.f k t213 0 (-1) 0 0 0 0 0).bind fun bt242 => ((skiarearef29_Same.f k bt222.1 (([(⟨1, 1, 7, 3, 2, 4, 300⟩ : S39)] : List (S39)))).bind fun t249 => (if t249 = true then (if bt222.2 = 21 then (if (bt230.1.length : Int) = 0 then (if bt230.2 = 0 then (if bt238.2 = 3 then (if bt242.2 = 2 then ((journal_Whole.f k t213).bind fun t250 => (if t250 = true then ((journal_Whole.f k ([] : List Int)).bind fun t251 => (if t251 = true then ((journal_Whole.f k (t213.take 20)).bind fun t256 => (if t256 = true then (none) else ((journal_Last.f k t213).bind fun t257 => ((seal_Chain.f k 0 y207).bind fun t258 => (some (t257 == t258)))))) else (none))) else (none))) else (none)) else (none)) else (none)) else (none)) else (none)) else (none)))))) else (none))) else (none)) else (none)) else (none)) else (none)) else (none)) else (none)) else (none)) = some r := H
  have A1 := Aside0.mk A10
  clear A10
  by_cases c2 : t214 = 0
  · rw [if_pos c2] at H
    have c2b0 : (t214 == 0) = true := beq_iff_eq.mpr c2
    have c2b1 : (t214 != 0) = false := bne_eq_false_iff_eq.mpr c2
    clear c2
    by_cases c3 : (t213.length : Int) = 21
    · rw [if_pos c3] at H
      have c3b0 : ((t213.length : Int) == 21) = true := beq_iff_eq.mpr c3
      have c3b1 : ((t213.length : Int) != 21) = false := bne_eq_false_iff_eq.mpr c3
      clear c3
      by_cases c4 : 0 < (t213.length : Int)
      · rw [if_pos c4] at H
        have c4b0 : decide (0 < (t213.length : Int)) = true := decide_eq_true c4
        have c4b1 : decide (0 < t213.length) = true := decide_eq_true (by omega)
        clear c4
        by_cases c5 : (rd t213 0) = 16
        · rw [if_pos c5] at H
          have c5b0 : ((rd t213 0) == 16) = true := beq_iff_eq.mpr c5
          have c5b1 : ((rd t213 0) != 16) = false := bne_eq_false_iff_eq.mpr c5
          clear c5
          by_cases c6 : 1 ≤ 9
          · rw [if_pos c6] at H
            have c6b0 := eq_true c6
            have c6b1 : decide (1 ≤ 9) = true := decide_eq_true c6
            clear c6
            by_cases c7 : 9 ≤ (t213.length : Int)
            · rw [if_pos c7] at H
              have c7b0 := eq_true c7
              have c7b1 : decide (9 ≤ (t213.length : Int)) = true := decide_eq_true c7
              clear c7
              obtain ⟨y218, hy218⟩ : ∃ y_ : List Int, y_ = ((t213.take 9).drop 1) := ⟨_, rfl⟩
              replace H : (if (strOfNums y218).toList = (strOfNums y207).toList then ((journal_Read.f k t213).bind fun bt222 => (if 20 ≤ (t213.length : Int) then ((journal_Read.f k (t213.take 20)).bind fun bt230 => ((journal_Append.f k (t213.take 20) 1 1 7 3 2 4 300).bind fun bt238 => ((journal_Append.f k t213 0 (-1) 0 0 0 0 0).bind fun bt242 => ((skiarearef29_Same.f k bt222.1 (([(⟨1, 1, 7, 3, 2, 4, 300⟩ : S39)] : List (S39)))).bind fun t249 => (if t249 = true then (if bt222.2 = 21 then (if (bt230.1.length : Int) = 0 then (if bt230.2 = 0 then (if bt238.2 = 3 then (if bt242.2 = 2 then ((journal_Whole.f k t213).bind fun t250 => (if t250 = true then ((journal_Whole.f k ([] : List Int)).bind fun t251 => (if t251 = true then ((journal_Whole.f k (t213.take 20)).bind fun t256 => (if t256 = true then (none) else ((journal_Last.f k t213).bind fun t257 => ((seal_Chain.f k 0 y207).bind fun t258 => (some (t257 == t258)))))) else (none))) else (none))) else (none)) else (none)) else (none)) else (none)) else (none)) else (none)))))) else (none))) else (none)) = some r := by first | (rw [hy218]; with_reducible exact H) | (have H2_ := (Option.bind_some _ _).symm.trans H; rw [hy218]; with_reducible exact H2_) | (have H2_ := (Option.bind_some _ _).symm.trans H; with_reducible exact H2_) | with_reducible exact H | (rw [hy218]; exact H) | exact H
              have Ny218 := Aside0.mk hy218
              clear hy218
              by_cases c8 : (strOfNums y218).toList = (strOfNums y207).toList
              · rw [if_pos c8] at H
                have c8b0 : ((strOfNums y218).toList == (strOfNums y207).toList) = true := beq_iff_eq.mpr c8
                have c8b1 : ((strOfNums y218).toList != (strOfNums y207).toList) = false := bne_eq_false_iff_eq.mpr c8
                clear c8
                replace H := Option.bind_eq_some_iff.mp H
                obtain ⟨⟨t222, t223⟩, A90, H⟩ := H
                replace H : (if 20 ≤ (t213.length : Int) then ((journal_Read.f k (t213.take 20)).bind fun bt230 => ((journal_Append.f k (t213.take 20) 1 1 7 3 2 4 300).bind fun bt238 => ((journal_Append.f k t213 0 (-1) 0 0 0 0 0).bind fun bt242 => ((skiarearef29_Same.f k t222 (([(⟨1, 1, 7, 3, 2, 4, 300⟩ : S39)] : List (S39)))).bind fun t249 => (if t249 = true then (if t223 = 21 then (if (bt230.1.length : Int) = 0 then (if bt230.2 = 0 then (if bt238.2 = 3 then (if bt242.2 = 2 then ((journal_Whole.f k t213).bind fun t250 => (if t250 = true then ((journal_Whole.f k ([] : List Int)).bind fun t251 => (if t251 = true then ((journal_Whole.f k (t213.take 20)).bind fun t256 => (if t256 = true then (none) else ((journal_Last.f k t213).bind fun t257 => ((seal_Chain.f k 0 y207).bind fun t258 => (some (t257 == t258)))))) else (none))) else (none))) else (none)) else (none)) else (none)) else (none)) else (none)) else (none)))))) else (none)) = some r := H
                have A9 := Aside0.mk A90
                clear A90
                by_cases c10 : 20 ≤ (t213.length : Int)
                · rw [if_pos c10] at H
                  have c10b0 := eq_true c10
                  have c10b1 : decide (20 ≤ (t213.length : Int)) = true := decide_eq_true c10
                  clear c10
                  obtain ⟨y226, hy226⟩ : ∃ y_ : List Int, y_ = (t213.take 20) := ⟨_, rfl⟩
                  replace H : ((journal_Read.f k y226).bind fun bt230 => ((journal_Append.f k (t213.take 20) 1 1 7 3 2 4 300).bind fun bt238 => ((journal_Append.f k t213 0 (-1) 0 0 0 0 0).bind fun bt242 => ((skiarearef29_Same.f k t222 (([(⟨1, 1, 7, 3, 2, 4, 300⟩ : S39)] : List (S39)))).bind fun t249 => (if t249 = true then (if t223 = 21 then (if (bt230.1.length : Int) = 0 then (if bt230.2 = 0 then (if bt238.2 = 3 then (if bt242.2 = 2 then ((journal_Whole.f k t213).bind fun t250 => (if t250 = true then ((journal_Whole.f k ([] : List Int)).bind fun t251 => (if t251 = true then ((journal_Whole.f k (t213.take 20)).bind fun t256 => (if t256 = true then (none) else ((journal_Last.f k t213).bind fun t257 => ((seal_Chain.f k 0 y207).bind fun t258 => (some (t257 == t258)))))) else (none))) else (none))) else (none)) else (none)) else (none)) else (none)) else (none)) else (none)))))) = some r := by first | (rw [hy226]; with_reducible exact H) | (have H2_ := (Option.bind_some _ _).symm.trans H; rw [hy226]; with_reducible exact H2_) | (have H2_ := (Option.bind_some _ _).symm.trans H; with_reducible exact H2_) | with_reducible exact H | (rw [hy226]; exact H) | exact H
                  have Ny226 := Aside0.mk hy226
                  clear hy226
                  replace H := Option.bind_eq_some_iff.mp H
                  obtain ⟨⟨t230, t231⟩, A110, H⟩ := H
                  replace H : ((journal_Append.f k (t213.take 20) 1 1 7 3 2 4 300).bind fun bt238 => ((journal_Append.f k t213 0 (-1) 0 0 0 0 0).bind fun bt242 => ((skiarearef29_Same.f k t222 (([(⟨1, 1, 7, 3, 2, 4, 300⟩ : S39)] : List (S39)))).bind fun t249 => (if t249 = true then (if t223 = 21 then (if (t230.length : Int) = 0 then (if t231 = 0 then (if bt238.2 = 3 then (if bt242.2 = 2 then ((journal_Whole.f k t213).bind fun t250 => (if t250 = true then ((journal_Whole.f k ([] : List Int)).bind fun t251 => (if t251 = true then ((journal_Whole.f k (t213.take 20)).bind fun t256 => (if t256 = true then (none) else ((journal_Last.f k t213).bind fun t257 => ((seal_Chain.f k 0 y207).bind fun t258 => (some (t257 == t258)))))) else (none))) else (none))) else (none)) else (none)) else (none)) else (none)) else (none)) else (none))))) = some r := H
                  have A11 := Aside0.mk A110
                  clear A110
                  have c12b0 := eq_true (of_decide_eq_true (by first | (with_reducible assumption) | assumption) : 20 ≤ (t213.length : Int))
                  obtain ⟨y234, hy234⟩ : ∃ y_ : List Int, y_ = (t213.take 20) := ⟨_, rfl⟩
                  replace H : ((journal_Append.f k y234 1 1 7 3 2 4 300).bind fun bt238 => ((journal_Append.f k t213 0 (-1) 0 0 0 0 0).bind fun bt242 => ((skiarearef29_Same.f k t222 (([(⟨1, 1, 7, 3, 2, 4, 300⟩ : S39)] : List (S39)))).bind fun t249 => (if t249 = true then (if t223 = 21 then (if (t230.length : Int) = 0 then (if t231 = 0 then (if bt238.2 = 3 then (if bt242.2 = 2 then ((journal_Whole.f k t213).bind fun t250 => (if t250 = true then ((journal_Whole.f k ([] : List Int)).bind fun t251 => (if t251 = true then ((journal_Whole.f k (t213.take 20)).bind fun t256 => (if t256 = true then (none) else ((journal_Last.f k t213).bind fun t257 => ((seal_Chain.f k 0 y207).bind fun t258 => (some (t257 == t258)))))) else (none))) else (none))) else (none)) else (none)) else (none)) else (none)) else (none)) else (none))))) = some r := by first | (rw [hy234]; with_reducible exact H) | (have H2_ := (Option.bind_some _ _).symm.trans H; rw [hy234]; with_reducible exact H2_) | (have H2_ := (Option.bind_some _ _).symm.trans H; with_reducible exact H2_) | with_reducible exact H | (rw [hy234]; exact H) | exact H
                  have Ny234 := Aside0.mk hy234
                  clear hy234
                  replace H := Option.bind_eq_some_iff.mp H
                  obtain ⟨⟨t238, t241⟩, A130, H⟩ := H
                  replace H : ((journal_Append.f k t213 0 (-1) 0 0 0 0 0).bind fun bt242 => ((skiarearef29_Same.f k t222 (([(⟨1, 1, 7, 3, 2, 4, 300⟩ : S39)] : List (S39)))).bind fun t249 => (if t249 = true then (if t223 = 21 then (if (t230.length : Int) = 0 then (if t231 = 0 then (if t241 = 3 then (if bt242.2 = 2 then ((journal_Whole.f k t213).bind fun t250 => (if t250 = true then ((journal_Whole.f k ([] : List Int)).bind fun t251 => (if t251 = true then ((journal_Whole.f k (t213.take 20)).bind fun t256 => (if t256 = true then (none) else ((journal_Last.f k t213).bind fun t257 => ((seal_Chain.f k 0 y207).bind fun t258 => (some (t257 == t258)))))) else (none))) else (none))) else (none)) else (none)) else (none)) else (none)) else (none)) else (none)))) = some r := H
                  have A13 := Aside0.mk A130
                  clear A130
                  replace H := Option.bind_eq_some_iff.mp H
                  obtain ⟨⟨t242, t245⟩, A140, H⟩ := H
                  replace H : ((skiarearef29_Same.f k t222 (([(⟨1, 1, 7, 3, 2, 4, 300⟩ : S39)] : List (S39)))).bind fun t249 => (if t249 = true then (if t223 = 21 then (if (t230.length : Int) = 0 then (if t231 = 0 then (if t241 = 3 then (if t245 = 2 then ((journal_Whole.f k t213).bind fun t250 => (if t250 = true then ((journal_Whole.f k ([] : List Int)).bind fun t251 => (if t251 = true then ((journal_Whole.f k (t213.take 20)).bind fun t256 => (if t256 = true then (none) else ((journal_Last.f k t213).bind fun t257 => ((seal_Chain.f k 0 y207).bind fun t258 => (some (t257 == t258)))))) else (none))) else (none))) else (none)) else (none)) else (none)) else (none)) else (none)) else (none))) = some r := H
                  have A14 := Aside0.mk A140
                  clear A140
                  obtain ⟨y246, hy246⟩ : ∃ y_ : List (S39), y_ = (([(⟨1, 1, 7, 3, 2, 4, 300⟩ : S39)] : List (S39))) := ⟨_, rfl⟩
                  replace H : ((skiarearef29_Same.f k t222 y246).bind fun t249 => (if t249 = true then (if t223 = 21 then (if (t230.length : Int) = 0 then (if t231 = 0 then (if t241 = 3 then (if t245 = 2 then ((journal_Whole.f k t213).bind fun t250 => (if t250 = true then ((journal_Whole.f k ([] : List Int)).bind fun t251 => (if t251 = true then ((journal_Whole.f k (t213.take 20)).bind fun t256 => (if t256 = true then (none) else ((journal_Last.f k t213).bind fun t257 => ((seal_Chain.f k 0 y207).bind fun t258 => (some (t257 == t258)))))) else (none))) else (none))) else (none)) else (none)) else (none)) else (none)) else (none)) else (none))) = some r := by first | (rw [hy246]; with_reducible exact H) | (have H2_ := (Option.bind_some _ _).symm.trans H; rw [hy246]; with_reducible exact H2_) | (have H2_ := (Option.bind_some _ _).symm.trans H; with_reducible exact H2_) | with_reducible exact H | (rw [hy246]; exact H) | exact H
                  have Ny246 := Aside0.mk hy246
                  clear hy246
                  replace H := Option.bind_eq_some_iff.mp H
                  obtain ⟨t249, A150, H⟩ := H
                  replace H : (if t249 = true then (if t223 = 21 then (if (t230.length : Int) = 0 then (if t231 = 0 then (if t241 = 3 then (if t245 = 2 then ((journal_Whole.f k t213).bind fun t250 => (if t250 = true then ((journal_Whole.f k ([] : List Int)).bind fun t251 => (if t251 = true then ((journal_Whole.f k (t213.take 20)).bind fun t256 => (if t256 = true then (none) else ((journal_Last.f k t213).bind fun t257 => ((seal_Chain.f k 0 y207).bind fun t258 => (some (t257 == t258)))))) else (none))) else (none))) else (none)) else (none)) else (none)) else (none)) else (none)) else (none)) = some r := H
                  have A15 := Aside0.mk A150
                  clear A150
                  by_cases c16 : t249 = true
                  · subst c16
                    have H1 : (if t223 = 21 then (if (t230.length : Int) = 0 then (if t231 = 0 then (if t241 = 3 then (if t245 = 2 then ((journal_Whole.f k t213).bind fun t250 => (if t250 = true then ((journal_Whole.f k ([] : List Int)).bind fun t251 => (if t251 = true then ((journal_Whole.f k (t213.take 20)).bind fun t256 => (if t256 = true then (none) else ((journal_Last.f k t213).bind fun t257 => ((seal_Chain.f k 0 y207).bind fun t258 => (some (t257 == t258)))))) else (none))) else (none))) else (none)) else (none)) else (none)) else (none)) else (none)) = some r := by rw [if_pos rfl] at H; exact H
                    clear H
                    have H := H1
                    clear H1
                    by_cases c17 : t223 = 21
                    · rw [if_pos c17] at H
                      have c17b0 : (t223 == 21) = true := beq_iff_eq.mpr c17
                      have c17b1 : (t223 != 21) = false := bne_eq_false_iff_eq.mpr c17
                      clear c17
                      by_cases c18 : (t230.length : Int) = 0
                      · rw [if_pos c18] at H
                        have c18b0 : ((t230.length : Int) == 0) = true := beq_iff_eq.mpr c18
                        have c18b1 : ((t230.length : Int) != 0) = false := bne_eq_false_iff_eq.mpr c18
                        clear c18
                        by_cases c19 : t231 = 0
                        · rw [if_pos c19] at H
                          have c19b0 : (t231 == 0) = true := beq_iff_eq.mpr c19
                          have c19b1 : (t231 != 0) = false := bne_eq_false_iff_eq.mpr c19
                          clear c19
                          by_cases c20 : t241 = 3
                          · rw [if_pos c20] at H
                            have c20b0 : (t241 == 3) = true := beq_iff_eq.mpr c20
                            have c20b1 : (t241 != 3) = false := bne_eq_false_iff_eq.mpr c20
                            clear c20
                            by_cases c21 : t245 = 2
                            · rw [if_pos c21] at H
                              have c21b0 : (t245 == 2) = true := beq_iff_eq.mpr c21
                              have c21b1 : (t245 != 2) = false := bne_eq_false_iff_eq.mpr c21
                              clear c21
                              replace H := Option.bind_eq_some_iff.mp H
                              obtain ⟨t250, A220, H⟩ := H
                              replace H : (if t250 = true then ((journal_Whole.f k ([] : List Int)).bind fun t251 => (if t251 = true then ((journal_Whole.f k (t213.take 20)).bind fun t256 => (if t256 = true then (none) else ((journal_Last.f k t213).bind fun t257 => ((seal_Chain.f k 0 y207).bind fun t258 => (some (t257 == t258)))))) else (none))) else (none)) = some r := H
                              have A22 := Aside0.mk A220
                              clear A220
                              by_cases c23 : t250 = true
                              · subst c23
                                have H1 : ((journal_Whole.f k ([] : List Int)).bind fun t251 => (if t251 = true then ((journal_Whole.f k (t213.take 20)).bind fun t256 => (if t256 = true then (none) else ((journal_Last.f k t213).bind fun t257 => ((seal_Chain.f k 0 y207).bind fun t258 => (some (t257 == t258)))))) else (none))) = some r := by rw [if_pos rfl] at H; exact H
                                clear H
                                have H := H1
                                clear H1
                                replace H := Option.bind_eq_some_iff.mp H
                                obtain ⟨t251, A240, H⟩ := H
                                replace H : (if t251 = true then ((journal_Whole.f k (t213.take 20)).bind fun t256 => (if t256 = true then (none) else ((journal_Last.f k t213).bind fun t257 => ((seal_Chain.f k 0 y207).bind fun t258 => (some (t257 == t258)))))) else (none)) = some r := H
                                have A24 := Aside0.mk A240
                                clear A240
                                by_cases c25 : t251 = true
                                · subst c25
                                  have H1 : ((journal_Whole.f k (t213.take 20)).bind fun t256 => (if t256 = true then (none) else ((journal_Last.f k t213).bind fun t257 => ((seal_Chain.f k 0 y207).bind fun t258 => (some (t257 == t258)))))) = some r := by rw [if_pos rfl] at H; exact H
                                  clear H
                                  have H := H1
                                  clear H1
                                  have c26b0 := eq_true (of_decide_eq_true (by first | (with_reducible assumption) | assumption) : 20 ≤ (t213.length : Int))
                                  obtain ⟨y252, hy252⟩ : ∃ y_ : List Int, y_ = (t213.take 20) := ⟨_, rfl⟩
                                  replace H : ((journal_Whole.f k y252).bind fun t256 => (if t256 = true then (none) else ((journal_Last.f k t213).bind fun t257 => ((seal_Chain.f k 0 y207).bind fun t258 => (some (t257 == t258)))))) = some r := by first | (rw [hy252]; with_reducible exact H) | (have H2_ := (Option.bind_some _ _).symm.trans H; rw [hy252]; with_reducible exact H2_) | (have H2_ := (Option.bind_some _ _).symm.trans H; with_reducible exact H2_) | with_reducible exact H | (rw [hy252]; exact H) | exact H
                                  have Ny252 := Aside0.mk hy252
                                  clear hy252
                                  replace H := Option.bind_eq_some_iff.mp H
                                  obtain ⟨t256, A270, H⟩ := H
                                  replace H : (if t256 = true then (none) else ((journal_Last.f k t213).bind fun t257 => ((seal_Chain.f k 0 y207).bind fun t258 => (some (t257 == t258))))) = some r := H
                                  have A27 := Aside0.mk A270
                                  clear A270
                                  by_cases c28 : t256 = true
                                  · subst c28
                                    have H1 : (none) = some r := by rw [if_pos rfl] at H; exact H
                                    clear H
                                    have H := H1
                                    clear H1
                                    exact absurd H (by simp)
                                  · replace c28 := Bool.eq_false_iff.mpr c28
                                    subst c28
                                    have H1 : ((journal_Last.f k t213).bind fun t257 => ((seal_Chain.f k 0 y207).bind fun t258 => (some (t257 == t258)))) = some r := by rw [if_neg (show ¬ (false = true) by decide)] at H; exact H
                                    clear H
                                    have H := H1
                                    clear H1
                                    replace H := Option.bind_eq_some_iff.mp H
                                    obtain ⟨t257, A290, H⟩ := H
                                    replace H : ((seal_Chain.f k 0 y207).bind fun t258 => (some (t257 == t258))) = some r := H
                                    have A29 := Aside0.mk A290
                                    clear A290
                                    replace H := Option.bind_eq_some_iff.mp H
                                    obtain ⟨t258, A300, H⟩ := H
                                    replace H : (some (t257 == t258)) = some r := H
                                    have A30 := Aside0.mk A300
                                    clear A300
                                    obtain rfl := Option.some.inj H
                                    go_enter Try.func10, Try.ntmps10
                                    try go_wp2_with (first | ((with_reducible refine gate_dst (N := 1) rfl ?_); (try (refine gate_guard (by rfl) ?_; dsimp only)); refine box_event ?hg (N := 1) ?hd (cs := #[.int .i64 0, .int .i64 0, .int .i64 0, .int .i64 0, .int .i64 0, .int .i64 0, .int .i64 0]) (t := 39) ?hr ?_; (case hd => rfl); (case hg => rfl); (case hr => first | (go_simp; done) | (go_simp; rfl)); intro gb206 hg w31 hbox hb; have n0_ := Aside0.mk (below_step (by repeat (first | (with_reducible first | exact HB.out | apply below_alloc | apply pw_below_drewN | apply below_drew1) | exact HB.out)) hb); have n1_ := Aside0.mk (hbox); have n2_ := Aside0.mk ((by rw [hg]; exact (below_size (by repeat (first | (with_reducible first | exact HB.out | apply below_alloc | apply pw_below_drewN | apply below_drew1) | exact HB.out))) : w.heap.size ≤ gb206)); have n3_ := Aside0.mk ((by rw [hg]; exact (below_size (by repeat (first | (with_reducible first | exact HB.out | apply below_alloc | apply pw_below_drewN | apply below_drew1) | exact HB.out))) : w.heap.size ≤ gb206)); clear HB; have HB := n0_; have BK206 := n1_; have GW206 := n2_; have GE206 := n3_; clear n0_ n1_ n2_ n3_; clear hb hbox hg; have hcz32_0 : w31.cell? ⟨gb206, 0, none⟩ = some (.int .i64 0) := (blk_cell BK206.out 0).trans rfl; have hcz32_1 : w31.cell? ⟨gb206, 1, none⟩ = some (.int .i64 0) := (blk_cell BK206.out 1).trans rfl; have hcz32_2 : w31.cell? ⟨gb206, 2, none⟩ = some (.int .i64 0) := (blk_cell BK206.out 2).trans rfl; have hcz32_3 : w31.cell? ⟨gb206, 3, none⟩ = some (.int .i64 0) := (blk_cell BK206.out 3).trans rfl; have hcz32_4 : w31.cell? ⟨gb206, 4, none⟩ = some (.int .i64 0) := (blk_cell BK206.out 4).trans rfl; have hcz32_5 : w31.cell? ⟨gb206, 5, none⟩ = some (.int .i64 0) := (blk_cell BK206.out 5).trans rfl; have hcz32_6 : w31.cell? ⟨gb206, 6, none⟩ = some (.int .i64 0) := (blk_cell BK206.out 6).trans rfl; have hfz32_0 := blk_frozen BK206.out 0; have hfz32_1 := blk_frozen BK206.out 1; have hfz32_2 := blk_frozen BK206.out 2; have hfz32_3 := blk_frozen BK206.out 3; have hfz32_4 := blk_frozen BK206.out 4; have hfz32_5 := blk_frozen BK206.out 5; have hfz32_6 := blk_frozen BK206.out 6) | ((with_reducible refine gate_dst (N := 14) rfl ?_); (try (refine gate_guard (by rfl) ?_; dsimp only)); refine Kd.R_lit (Kd.int .u8) _ 5 ?hg (N := 14) ?hd (xs := ([1, 1, 7, 3, 2, 4, 172, 2] : List Int)) (inner := [.int .u8 1, .int .u8 1, .int .u8 7, .int .u8 3, .int .u8 2, .int .u8 4, .int .u8 172, .int .u8 2]) (ok := fun _ => True) (okp := fun _ => True) ?hr ?hp (fun _ hk => hk) trivial (Below.refl _ _) (Nat.le_refl _) (by simp) ?_; (case hd => rfl); (case hg => rfl); (case hr => first | (go_simp; done) | (go_simp; rfl)); (case hp => exact (Reps.one (show Kd.M (Kd.int .u8) _ _ _ 1 [.int .u8 1] from rfl) (Reps.one (show Kd.M (Kd.int .u8) _ _ _ 1 [.int .u8 1] from rfl) (Reps.one (show Kd.M (Kd.int .u8) _ _ _ 7 [.int .u8 7] from rfl) (Reps.one (show Kd.M (Kd.int .u8) _ _ _ 3 [.int .u8 3] from rfl) (Reps.one (show Kd.M (Kd.int .u8) _ _ _ 2 [.int .u8 2] from rfl) (Reps.one (show Kd.M (Kd.int .u8) _ _ _ 4 [.int .u8 4] from rfl) (Reps.one (show Kd.M (Kd.int .u8) _ _ _ 172 [.int .u8 172] from rfl) (Reps.one (show Kd.M (Kd.int .u8) _ _ _ 2 [.int .u8 2] from rfl) (Reps.none _ _)))))))))); intro v208 w33 ho34 hb hg_ hnew_; clear hg_ hnew_; (first | rw [← Ny207.out] at ho34 | (simp only [Int.reduceToNat] at ho34; rw [← Ny207.out] at ho34)); have n0_ := Aside0.mk (Kd.R_lower ho34 (below_size (by repeat (first | (with_reducible first | exact HB.out | apply below_alloc | apply pw_below_drewN | apply below_drew1 | refine below_set ?_ GE206.out) | exact HB.out)))); have n1_ := Aside0.mk (blk_below (g := gb206) (o := .cells #[.int .i64 1, .int .i64 1, .int .i64 7, .int .i64 3, .int .i64 2, .int .i64 4, .int .i64 300] 39 (0, 0)) (by (with_reducible repeat (first | refine blk_drewN ?_ _ | refine blk_drew ?_ | refine blk_alloc ?_ _)); refine blk_put (cs := #[.int .i64 1, .int .i64 1, .int .i64 7, .int .i64 3, .int .i64 2, .int .i64 4, .int .i64 0]) ?_ 6 _ rfl; (with_reducible repeat (first | refine blk_drewN ?_ _ | refine blk_drew ?_ | refine blk_alloc ?_ _)); refine blk_put (cs := #[.int .i64 1, .int .i64 1, .int .i64 7, .int .i64 3, .int .i64 2, .int .i64 0, .int .i64 0]) ?_ 5 _ rfl; (with_reducible repeat (first | refine blk_drewN ?_ _ | refine blk_drew ?_ | refine blk_alloc ?_ _)); refine blk_put (cs := #[.int .i64 1, .int .i64 1, .int .i64 7, .int .i64 3, .int .i64 0, .int .i64 0, .int .i64 0]) ?_ 4 _ rfl; (with_reducible repeat (first | refine blk_drewN ?_ _ | refine blk_drew ?_ | refine blk_alloc ?_ _)); refine blk_put (cs := #[.int .i64 1, .int .i64 1, .int .i64 7, .int .i64 0, .int .i64 0, .int .i64 0, .int .i64 0]) ?_ 3 _ rfl; (with_reducible repeat (first | refine blk_drewN ?_ _ | refine blk_drew ?_ | refine blk_alloc ?_ _)); refine blk_put (cs := #[.int .i64 1, .int .i64 1, .int .i64 0, .int .i64 0, .int .i64 0, .int .i64 0, .int .i64 0]) ?_ 2 _ rfl; (with_reducible repeat (first | refine blk_drewN ?_ _ | refine blk_drew ?_ | refine blk_alloc ?_ _)); refine blk_put (cs := #[.int .i64 1, .int .i64 0, .int .i64 0, .int .i64 0, .int .i64 0, .int .i64 0, .int .i64 0]) ?_ 1 _ rfl; (with_reducible repeat (first | refine blk_drewN ?_ _ | refine blk_drew ?_ | refine blk_alloc ?_ _)); refine blk_put (cs := #[.int .i64 0, .int .i64 0, .int .i64 0, .int .i64 0, .int .i64 0, .int .i64 0, .int .i64 0]) ?_ 0 _ rfl; (with_reducible repeat (first | refine blk_drewN ?_ _ | refine blk_drew ?_ | refine blk_alloc ?_ _)); exact BK206.out) hb); have n2_ := Aside0.mk (below_step (by repeat (first | (with_reducible first | exact HB.out | apply below_alloc | apply pw_below_drewN | apply below_drew1 | refine below_set ?_ GE206.out) | exact HB.out)) hb); clear BK206; clear HB; have HO209 := n0_; have BK206 := n1_; have HB := n2_; clear n0_ n1_ n2_; clear hb ho34; have hcz35_0 : w33.cell? ⟨gb206, 0, none⟩ = some (.int .i64 1) := (blk_cell BK206.out 0).trans rfl; have hcz35_1 : w33.cell? ⟨gb206, 1, none⟩ = some (.int .i64 1) := (blk_cell BK206.out 1).trans rfl; have hcz35_2 : w33.cell? ⟨gb206, 2, none⟩ = some (.int .i64 7) := (blk_cell BK206.out 2).trans rfl; have hcz35_3 : w33.cell? ⟨gb206, 3, none⟩ = some (.int .i64 3) := (blk_cell BK206.out 3).trans rfl; have hcz35_4 : w33.cell? ⟨gb206, 4, none⟩ = some (.int .i64 2) := (blk_cell BK206.out 4).trans rfl; have hcz35_5 : w33.cell? ⟨gb206, 5, none⟩ = some (.int .i64 4) := (blk_cell BK206.out 5).trans rfl; have hcz35_6 : w33.cell? ⟨gb206, 6, none⟩ = some (.int .i64 300) := (blk_cell BK206.out 6).trans rfl; have hfz35_0 := blk_frozen BK206.out 0; have hfz35_1 := blk_frozen BK206.out 1; have hfz35_2 := blk_frozen BK206.out 2; have hfz35_3 := blk_frozen BK206.out 3; have hfz35_4 := blk_frozen BK206.out 4; have hfz35_5 := blk_frozen BK206.out 5; have hfz35_6 := blk_frozen BK206.out 6) | ((with_reducible refine gate_dst (N := 17) rfl ?_); (try (refine gate_guard (by rfl) ?_; dsimp only)); refine Kd.R_lit k39 _ 39 ?hg (N := 17) ?hd (xs := ([(⟨1, 1, 7, 3, 2, 4, 300⟩ : S39)] : List (S39))) (inner := [.int .i64 1, .int .i64 1, .int .i64 7, .int .i64 3, .int .i64 2, .int .i64 4, .int .i64 300]) (ok := fun _ => True) (okp := fun _ => True) ?hr ?hp (fun _ hk => hk) trivial (Below.refl _ _) (Nat.le_refl _) (by simp) ?_; (case hd => rfl); (case hg => rfl); (case hr => first | (go_simp; done) | (go_simp; rfl)); (case hp => exact (Reps.c7 (show Kd.M k39 _ _ _ (⟨1, 1, 7, 3, 2, 4, 300⟩ : S39) [.int .i64 1, .int .i64 1, .int .i64 7, .int .i64 3, .int .i64 2, .int .i64 4, .int .i64 300] from (k39_mkM _ _ _ (⟨1, 1, 7, 3, 2, 4, 300⟩ : S39) )) (Reps.none _ _))); intro v211 w36 ho37 hb hg_ hnew_; clear hg_ hnew_; (first | rw [← Ny210.out] at ho37 | (simp only [Int.reduceToNat] at ho37; rw [← Ny210.out] at ho37)); have n0_ := Aside0.mk (Kd.R_below (by (with_reducible repeat (first | apply Kd.R_alloc | apply Kd.R_drewN | apply Kd.R_drew)); exact HO209.out) hb); have n1_ := Aside0.mk (Kd.R_lower (Kd.R_newB ho37 (g := gb206) (o := .cells #[.int .i64 1, .int .i64 1, .int .i64 7, .int .i64 3, .int .i64 2, .int .i64 4, .int .i64 300] 39 (0, 0)) (by (with_reducible repeat (first | refine blk_drewN ?_ _ | refine blk_drew ?_ | refine blk_alloc ?_ _)); exact BK206.out)) (below_size (by repeat (first | (with_reducible first | exact HB.out | apply below_alloc | apply pw_below_drewN | apply below_drew1 | refine below_set ?_ GE206.out) | exact HB.out)))); have n2_ := Aside0.mk (blk_below (g := gb206) (o := .cells #[.int .i64 1, .int .i64 1, .int .i64 7, .int .i64 3, .int .i64 2, .int .i64 4, .int .i64 300] 39 (0, 0)) (by (with_reducible repeat (first | refine blk_drewN ?_ _ | refine blk_drew ?_ | refine blk_alloc ?_ _)); exact BK206.out) hb); have n3_ := Aside0.mk (below_step (by repeat (first | (with_reducible first | exact HB.out | apply below_alloc | apply pw_below_drewN | apply below_drew1 | refine below_set ?_ GE206.out) | exact HB.out)) hb); clear HO209; clear BK206; clear HB; have HO209 := n0_; have HO212 := n1_; have BK206 := n2_; have HB := n3_; clear n0_ n1_ n2_ n3_; clear hb ho37; obtain ⟨Ao38, co38, eo38⟩ := Kd.R_slice HO212.out; subst eo38) | ((with_reducible refine gate_callee (f := 11) rfl ?_); refine goesL_ (some 18) rfl rfl Try.func11 (by kernel_rfl) rfl #[.slice Ao38 y210.length co38] rfl (by (try simp only [List.map_toArray, List.map_cons, List.map_nil]); first | done | rfl | (simp only [List.length_drop, List.length_take]; rfl)) ?_; (with_reducible refine (journal_Write.calls k _ _ y210 t213 t214 _ ?side1 ?side2 A1.out).mono ?_); (case side1 => repeat (first | exact (Kd.R_reads' HO212.out).2.2 | (with_reducible refine Kd.C_alloc ?_ _) | (with_reducible refine Kd.C_drewN ?_ _) | (with_reducible refine Kd.C_drew ?_))); (case side2 => exact (Kd.R_reads' HO212.out).2.1); rintro e w39 ⟨v215, rfl, ho0, hb⟩; refine ⟨_, rfl, ?_⟩; have n0_ := Aside0.mk (Kd.R_elder' (by (with_reducible repeat (first | apply Kd.R_alloc | apply Kd.R_drewN | apply Kd.R_drew)); exact HO209.out) (Kd.R_base ho0) hb); have n1_ := Aside0.mk (Kd.R_below (by (with_reducible repeat (first | apply Kd.R_alloc | apply Kd.R_drewN | apply Kd.R_drew)); exact HO212.out) hb); have n2_ := Aside0.mk (Kd.R_lower (Kd.R_new' ho0 (Kd.R_lt (by (with_reducible repeat (first | apply Kd.R_alloc | apply Kd.R_drewN | apply Kd.R_drew)); exact HO209.out))) (below_size (by repeat (first | (with_reducible first | exact HB.out | apply below_alloc | apply pw_below_drewN | apply below_drew1 | refine below_set ?_ GE206.out) | exact HB.out)))); have n3_ := Aside0.mk (blk_below (g := gb206) (o := .cells #[.int .i64 1, .int .i64 1, .int .i64 7, .int .i64 3, .int .i64 2, .int .i64 4, .int .i64 300] 39 (0, 0)) (by (with_reducible repeat (first | refine blk_drewN ?_ _ | refine blk_drew ?_ | refine blk_alloc ?_ _)); exact BK206.out) hb); have n4_ := Aside0.mk (below_step (by repeat (first | (with_reducible first | exact HB.out | apply below_alloc | apply pw_below_drewN | apply below_drew1 | refine below_set ?_ GE206.out) | exact HB.out)) hb); clear HO209; clear HO212; clear BK206; clear HB; have HO209 := n0_; have HO212 := n1_; have HO216 := n2_; have BK206 := n3_; have HB := n4_; clear n0_ n1_ n2_ n3_ n4_; (try clear hb); (try clear hb2); (try clear hk); (try clear hi); (try clear ho0)))
                                    have n0_ := Aside0.mk (Kd.R_drew HO209.out)
                                    have n1_ := Aside0.mk (Kd.R_drew HO212.out)
                                    have n2_ := Aside0.mk (Kd.R_drew HO216.out)
                                    have n3_ := Aside0.mk (blk_drew BK206.out)
                                    have n4_ := Aside0.mk (below_drew1 HB.out)
                                    clear HO209
                                    clear HO212
                                    clear HO216
                                    clear BK206
                                    clear HB
                                    have HO209 := n0_
                                    have HO212 := n1_
                                    have HO216 := n2_
                                    have BK206 := n3_
                                    have HB := n4_
                                    clear n0_ n1_ n2_ n3_ n4_
                                    obtain ⟨Ao41, co41, eo41⟩ := Kd.R_slice HO216.out
                                    (first | subst eo41 | (injection eo41 with f1_ f2_ f3_; have f4_ := f1_.symm; have f5_ := f3_.symm; clear f1_ f2_ f3_; subst f4_; subst f5_))
                                    have p217 : 0 ≤ (0 : Int) := (by omega)
                                    have q217 : 0 < (t213.length : Int) := of_decide_eq_true (by first | (with_reducible assumption) | assumption)
                                    obtain ⟨ad217, e217, hx217_0⟩ := Kd.at_int (Kd.R_reads' HO216.out).2.2 0 p217 q217
                                    cases e217
                                    have qi217 : (0 < t213.length) = True := eq_true (by omega)
                                    (try rw [show ((0 : Int)).toNat = 0 from rfl] at hx217_0)
                                    (try rw [Addr.add_zero'] at hx217_0)
                                    replace p217 := eq_true p217
                                    replace q217 := eq_true q217
                                    have q42 : (9 : Int) ≤ ((t213.length : Int) : Int) := of_decide_eq_true (by first | (with_reducible assumption) | assumption)
                                    obtain ⟨i042, hi042, _, hsz42, _⟩ := info_parts info5
                                    have hroom42 : t213.length ≤ co41 := (Kd.R_reads' HO216.out).2.1
                                    have hC42 : Kd.C (Kd.int .u8) _ (some ad217) t213.length t213 := (Kd.R_reads' HO216.out).2.2
                                    have ql42 : (1 : Int) ≤ (9 : Int) := (by omega)
                                    have hcut42 := cut_mid (P := Try.prog) 24 5 .i64 .i64 Try.underlying24 hi042 1 hsz42 (some ad217) t213.length co41 1 9 (by omega) ql42 q42 hroom42
                                    have hr42 := Kd.C_mid (lo := (1 : Int).toNat) (hi := (9 : Int).toNat) (c := co41) hC42 (by omega) (by omega) hroom42
                                    obtain ⟨A42, hA42⟩ : ∃ A1, A1 = (if co41 = (1 : Int).toNat then (some ad217) else ((some ad217) : Option Addr).map (·.add ((1 : Int).toNat * 1))) := ⟨_, rfl⟩
                                    obtain ⟨c42, hc42⟩ : ∃ c1, c1 = co41 - (1 : Int).toNat := ⟨_, rfl⟩
                                    have hy42 : y218.length = (9 : Int).toNat - (1 : Int).toNat := (by rw [Ny218.out, List.length_drop, List.length_take] <;> omega)
                                    rw [show ((t213).take (9 : Int).toNat).drop (1 : Int).toNat = y218 from Ny218.out.symm] at hr42
                                    replace hr42 : Kd.C (Kd.int .u8) _ A42 y218.length y218 := (by rw [hA42]; exact hr42)
                                    rw [← hy42, ← hA42, ← hc42] at hcut42
                                    have HR221 := Aside0.mk hr42
                                    have HC221 := Aside0.mk (show y218.length ≤ c42 from by rw [hy42, hc42]; exact Nat.sub_le_sub_right (Nat.le_trans (by omega) hroom42) _)
                                    clear hr42 hC42 hroom42 hi042 hsz42 hc42
                                    have KY42 := Aside0.mk hy42
                                    have KA42 := Aside0.mk hA42
                                    clear hy42 hA42
                                    have KL42 := Aside0.mk (show 9 ≤ t213.length from by omega)
                                    have KM42 := Aside0.mk (show 1 ≤ 9 from by omega)
                                    replace q42 := eq_true q42
                                    have hcv43 := Kd.C_string (P := Try.prog) (A := A42) (c := c42) Try.underlying24 Try.underlying5 Try.underlying9 (by repeat (first | (with_reducible exact HR221.out) | (with_reducible refine Kd.C_alloc ?_ _) | (with_reducible refine Kd.C_drewN ?_ _) | (with_reducible refine Kd.C_drew ?_) | exact HR221.out))
                                    have hcv44 := own_string (P := Try.prog) Try.underlying24 Try.underlying5 Try.underlying9 (Kd.own_of_R HO209.out)
                                    refine start_ (n := 21) (S := fun w' => w'.cell? ad217 = some (.int .u8 (rd t213 0)) ∧ (convert 24 9 (.slice A42 y218.length c42)).run Try.prog w' = .ok (.string (strOfNums y218)) w' ∧ (convert 24 9 v208).run Try.prog w' = .ok (.string (strOfNums y207)) w') (ds := []) #[false, false, false, false, false, false, false, false, false, false, false, false, false, false, false, false, false, false, false, false, false] (by kernel_rfl) rfl rfl ⟨hx217_0, hcv43, hcv44⟩ (fun hHeld => ?_); refine with_tabW skiarealaw29_alive.tab4 skiarealaw29_alive.bits4 (fun HT_ HW_ => ?_)
                                    generalize w39.drew = w40 at HO209 HO212 HO216 BK206 HB HR221 hx217_0 hHeld ⊢
                                    refine pure_ (i := 0) (N := some 21) (v := ?_) (a' := ?_) #[true, false, false, false, false, false, false, false, false, false, false, false, false, false, false, false, false, false, false, false, false] rfl rfl (any_of HT_.out (by kernel_rfl)) (fun _ _ _ h => h) (Or.inl ⟨by rfl, ?_⟩) ?_ ?_
                                    rotate_left
                                    · intro w'
                                      go_simp
                                      with_reducible rfl
                                    rotate_left
                                    · simp only [Act.put, List.setIfInBounds_toArray, List.set_cons_zero, List.set_cons_succ, i64_w, i32_w, IntKind.wrap_u8, IntKind.wrap_u32]
                                      rfl
                                    refine pure_ (i := 1) (N := some 22) (v := ?_) (a' := ?_) #[true, true, false, false, false, false, false, false, false, false, false, false, false, false, false, false, false, false, false, false, false] rfl rfl (any_of HT_.out (by kernel_rfl)) (fun _ _ _ h => h) (Or.inl ⟨by rfl, ?_⟩) ?_ ?_
                                    rotate_left
                                    · intro w'
                                      go_simp
                                      with_reducible rfl
                                    rotate_left
                                    · simp only [Act.put, List.setIfInBounds_toArray, List.set_cons_zero, List.set_cons_succ, i64_w, i32_w, IntKind.wrap_u8, IntKind.wrap_u32]
                                      rfl
                                    refine pure_ (i := 2) (N := some 23) (v := ?_) (a' := ?_) #[true, true, true, false, false, false, false, false, false, false, false, false, false, false, false, false, false, false, false, false, false] rfl rfl (any_of HT_.out (by kernel_rfl)) (fun _ _ _ h => h) (Or.inl ⟨by rfl, ?_⟩) ?_ ?_
                                    rotate_left
                                    · intro w'
                                      go_simp
                                      with_reducible rfl
                                    rotate_left
                                    · simp only [Act.put, List.setIfInBounds_toArray, List.set_cons_zero, List.set_cons_succ, i64_w, i32_w, IntKind.wrap_u8, IntKind.wrap_u32]
                                      rfl
                                    refine pure_ (i := 3) (N := some 24) (v := ?_) (a' := ?_) #[true, true, true, true, false, false, false, false, false, false, false, false, false, false, false, false, false, false, false, false, false] rfl rfl (any_of HT_.out (by kernel_rfl)) (fun _ _ _ h => h) (Or.inl ⟨by rfl, ?_⟩) ?_ ?_
                                    rotate_left
                                    · intro w'
                                      go_simp
                                      with_reducible rfl
                                    rotate_left
                                    · simp only [Act.put, List.setIfInBounds_toArray, List.set_cons_zero, List.set_cons_succ, i64_w, i32_w, IntKind.wrap_u8, IntKind.wrap_u32]
                                      rfl
                                    refine pure_ (i := 4) (N := some 25) (v := ?_) (a' := ?_) #[true, true, true, true, true, false, false, false, false, false, false, false, false, false, false, false, false, false, false, false, false] rfl rfl (any_of HT_.out (by kernel_rfl)) (fun _ _ _ h => h) (Or.inl ⟨by rfl, ?_⟩) ?_ ?_
                                    rotate_left
                                    · intro w'
                                      go_simp
                                      with_reducible rfl
                                    rotate_left
                                    · simp only [Act.put, List.setIfInBounds_toArray, List.set_cons_zero, List.set_cons_succ, i64_w, i32_w, IntKind.wrap_u8, IntKind.wrap_u32]
                                      rfl
                                    refine pure_ (i := 5) (N := some 26) (v := ?_) (a' := ?_) #[true, true, true, true, true, true, false, false, false, false, false, false, false, false, false, false, false, false, false, false, false] rfl rfl (any_of HT_.out (by kernel_rfl)) (fun _ _ _ h => h) (Or.inl ⟨by rfl, ?_⟩) ?_ ?_
                                    rotate_left
                                    · intro w'
                                      go_simp
                                      with_reducible rfl
                                    rotate_left
                                    · simp only [Act.put, List.setIfInBounds_toArray, List.set_cons_zero, List.set_cons_succ, i64_w, i32_w, IntKind.wrap_u8, IntKind.wrap_u32]
                                      rfl
                                    refine pure_ (i := 6) (N := some 27) (v := ?_) (a' := ?_) #[true, true, true, true, true, true, true, false, false, false, false, false, false, false, false, false, false, false, false, false, false] rfl rfl (any_of HT_.out (by kernel_rfl)) (fun _ _ _ h => h) (Or.inl ⟨by rfl, ?_⟩) ?_ ?_
                                    rotate_left
                                    · intro w'
                                      go_simp
                                      with_reducible rfl
                                    rotate_left
                                    · simp only [Act.put, List.setIfInBounds_toArray, List.set_cons_zero, List.set_cons_succ, i64_w, i32_w, IntKind.wrap_u8, IntKind.wrap_u32]
                                      rfl
                                    refine pure_ (i := 7) (N := some 28) (v := ?_) (a' := ?_) #[true, true, true, true, true, true, true, true, false, false, false, false, false, false, false, false, false, false, false, false, false] rfl rfl (any_of HT_.out (by kernel_rfl)) (fun _ _ _ h => h) (Or.inl ⟨by rfl, ?_⟩) ?_ ?_
                                    rotate_left
                                    · intro w'
                                      go_simp
                                      with_reducible rfl
                                    rotate_left
                                    · simp only [Act.put, List.setIfInBounds_toArray, List.set_cons_zero, List.set_cons_succ, i64_w, i32_w, IntKind.wrap_u8, IntKind.wrap_u32]
                                      rfl
                                    refine pure_ (i := 8) (N := some 29) (v := ?_) (a' := ?_) #[true, true, true, true, true, true, true, true, true, false, false, false, false, false, false, false, false, false, false, false, false] rfl rfl (any_of HT_.out (by kernel_rfl)) (fun _ _ _ h => h) (Or.inl ⟨by rfl, ?_⟩) ?_ ?_
                                    rotate_left
                                    · intro w'
                                      go_simp
                                      with_reducible rfl
                                    rotate_left
                                    · simp only [Act.put, List.setIfInBounds_toArray, List.set_cons_zero, List.set_cons_succ, i64_w, i32_w, IntKind.wrap_u8, IntKind.wrap_u32]
                                      rfl
                                    refine pure_ (i := 9) (N := some 30) (v := ?_) (a' := ?_) #[true, true, true, true, true, true, true, true, true, true, false, false, false, false, false, false, false, false, false, false, false] rfl rfl (any_of HT_.out (by kernel_rfl)) (fun _ _ _ h => h) (Or.inl ⟨by rfl, ?_⟩) ?_ ?_
                                    rotate_left
                                    · intro w'
                                      go_simp
                                      with_reducible rfl
                                    rotate_left
                                    · simp only [Act.put, List.setIfInBounds_toArray, List.set_cons_zero, List.set_cons_succ, i64_w, i32_w, IntKind.wrap_u8, IntKind.wrap_u32]
                                      rfl
                                    refine take_ (i := 10) (N := some 31) (v := ?_) (a' := ?_) #[true, true, true, true, true, true, true, true, true, true, true, false, false, false, false, false, false, false, false, false, false] rfl rfl (take_ofW HT_.out HW_.out (by kernel_rfl)) (fun _ _ _ h => h) (Or.inl ⟨by rfl, ?_⟩) hHeld ?_ ?_
                                    rotate_left
                                    · rintro w' ⟨s0, s1, s2⟩
                                      go_simp
                                      with_reducible rfl
                                    rotate_left
                                    · simp only [Act.put, List.setIfInBounds_toArray, List.set_cons_zero, List.set_cons_succ, i64_w, i32_w, IntKind.wrap_u8, IntKind.wrap_u32]
                                      rfl
                                    refine pure_ (i := 11) (N := some 32) (v := ?_) (a' := ?_) #[true, true, true, true, true, true, true, true, true, true, true, true, false, false, false, false, false, false, false, false, false] rfl rfl (any_of HT_.out (by kernel_rfl)) (fun _ _ _ h => h) (Or.inl ⟨by rfl, ?_⟩) ?_ ?_
                                    rotate_left
                                    · intro w'
                                      go_simp
                                      with_reducible rfl
                                    rotate_left
                                    · simp only [Act.put, List.setIfInBounds_toArray, List.set_cons_zero, List.set_cons_succ, i64_w, i32_w, IntKind.wrap_u8, IntKind.wrap_u32]
                                      rfl
                                    refine pure_ (i := 12) (N := some 33) (v := ?_) (a' := ?_) #[true, true, true, true, true, true, true, true, true, true, true, true, true, false, false, false, false, false, false, false, false] rfl rfl (any_of HT_.out (by kernel_rfl)) (fun _ _ _ h => h) (Or.inl ⟨by rfl, ?_⟩) ?_ ?_
                                    rotate_left
                                    · intro w'
                                      go_simp
                                      with_reducible rfl
                                    rotate_left
                                    · simp only [Act.put, List.setIfInBounds_toArray, List.set_cons_zero, List.set_cons_succ, i64_w, i32_w, IntKind.wrap_u8, IntKind.wrap_u32]
                                      rfl
                                    refine pure_ (i := 13) (N := some 34) (v := ?_) (a' := ?_) #[true, true, true, true, true, true, true, true, true, true, true, true, true, true, false, false, false, false, false, false, false] rfl rfl (any_of HT_.out (by kernel_rfl)) (fun _ _ _ h => h) (Or.inl ⟨by rfl, ?_⟩) ?_ ?_
                                    rotate_left
                                    · intro w'
                                      go_simp
                                      with_reducible rfl
                                    rotate_left
                                    · simp only [Act.put, List.setIfInBounds_toArray, List.set_cons_zero, List.set_cons_succ, i64_w, i32_w, IntKind.wrap_u8, IntKind.wrap_u32]
                                      rfl
                                    refine pure_ (i := 14) (N := some 35) (v := ?_) (a' := ?_) #[true, true, true, true, true, true, true, true, true, true, true, true, true, true, true, false, false, false, false, false, false] rfl rfl (any_of HT_.out (by kernel_rfl)) (fun _ _ _ h => h) (Or.inl ⟨by rfl, ?_⟩) ?_ ?_
                                    rotate_left
                                    · intro w'
                                      go_simp
                                      with_reducible rfl
                                    rotate_left
                                    · simp only [Act.put, List.setIfInBounds_toArray, List.set_cons_zero, List.set_cons_succ, i64_w, i32_w, IntKind.wrap_u8, IntKind.wrap_u32]
                                      rfl
                                    refine pure_ (i := 15) (N := some 36) (v := ?_) (a' := ?_) #[true, true, true, true, true, true, true, true, true, true, true, true, true, true, true, true, false, false, false, false, false] rfl rfl (any_of HT_.out (by kernel_rfl)) (fun _ _ _ h => h) (Or.inl ⟨by rfl, ?_⟩) ?_ ?_
                                    rotate_left
                                    · intro w'
                                      go_simp
                                      with_reducible rfl
                                    rotate_left
                                    · simp only [Act.put, List.setIfInBounds_toArray, List.set_cons_zero, List.set_cons_succ, i64_w, i32_w, IntKind.wrap_u8, IntKind.wrap_u32]
                                      rfl
                                    refine take_ (i := 16) (N := some 37) (v := ?_) (a' := ?_) #[true, true, true, true, true, true, true, true, true, true, true, true, true, true, true, true, true, false, false, false, false] rfl rfl (take_ofW HT_.out HW_.out (by kernel_rfl)) (fun _ _ _ h => h) (Or.inl ⟨by rfl, ?_⟩) hHeld ?_ ?_
                                    rotate_left
                                    · rintro w' ⟨s0, s1, s2⟩
                                      go_simp
                                      with_reducible rfl
                                    rotate_left
                                    · simp only [Act.put, List.setIfInBounds_toArray, List.set_cons_zero, List.set_cons_succ, i64_w, i32_w, IntKind.wrap_u8, IntKind.wrap_u32]
                                      rfl
                                    refine pure_ (i := 17) (N := some 38) (v := ?_) (a' := ?_) #[true, true, true, true, true, true, true, true, true, true, true, true, true, true, true, true, true, true, false, false, false] rfl rfl (any_of HT_.out (by kernel_rfl)) (fun _ _ _ h => h) (Or.inl ⟨by rfl, ?_⟩) ?_ ?_
                                    rotate_left
                                    · intro w'
                                      go_simp
                                      with_reducible rfl
                                    rotate_left
                                    · simp only [Act.put, List.setIfInBounds_toArray, List.set_cons_zero, List.set_cons_succ, i64_w, i32_w, IntKind.wrap_u8, IntKind.wrap_u32]
                                      rfl
                                    refine take_ (i := 18) (N := some 39) (v := ?_) (a' := ?_) #[true, true, true, true, true, true, true, true, true, true, true, true, true, true, true, true, true, true, true, false, false] rfl rfl (take_ofW HT_.out HW_.out (by kernel_rfl)) (fun _ _ _ h => h) (Or.inl ⟨by rfl, ?_⟩) hHeld ?_ ?_
                                    rotate_left
                                    · rintro w' ⟨s0, s1, s2⟩
                                      go_simp
                                      with_reducible rfl
                                    rotate_left
                                    · simp only [Act.put, List.setIfInBounds_toArray, List.set_cons_zero, List.set_cons_succ, i64_w, i32_w, IntKind.wrap_u8, IntKind.wrap_u32]
                                      rfl
                                    refine pure_ (i := 19) (N := some 40) (v := ?_) (a' := ?_) #[true, true, true, true, true, true, true, true, true, true, true, true, true, true, true, true, true, true, true, true, false] rfl rfl (any_of HT_.out (by kernel_rfl)) (fun _ _ _ h => h) (Or.inl ⟨by rfl, ?_⟩) ?_ ?_
                                    rotate_left
                                    · intro w'
                                      go_simp
                                      with_reducible rfl
                                    rotate_left
                                    · simp only [Act.put, List.setIfInBounds_toArray, List.set_cons_zero, List.set_cons_succ, i64_w, i32_w, IntKind.wrap_u8, IntKind.wrap_u32]
                                      rfl
                                    refine pure_ (i := 20) (N := some 41) (v := ?_) (a' := ?_) #[true, true, true, true, true, true, true, true, true, true, true, true, true, true, true, true, true, true, true, true, true] rfl rfl (any_of HT_.out (by kernel_rfl)) (fun _ _ _ h => h) (Or.inl ⟨by rfl, ?_⟩) ?_ ?_
                                    rotate_left
                                    · intro w'
                                      go_simp
                                      with_reducible rfl
                                    rotate_left
                                    · simp only [Act.put, List.setIfInBounds_toArray, List.set_cons_zero, List.set_cons_succ, i64_w, i32_w, IntKind.wrap_u8, IntKind.wrap_u32]
                                      rfl
                                    refine done_ (done_of HT_.out (by kernel_rfl)) ?_
                                    try go_wp2_with (first | ((with_reducible refine gate_callee (f := 13) rfl ?_); refine goesL_ (some 44) rfl rfl Try.func13 (by kernel_rfl) rfl #[.slice (some ad217) t213.length co41] rfl (by (try simp only [List.map_toArray, List.map_cons, List.map_nil]); first | done | rfl | (simp only [List.length_drop, List.length_take]; rfl)) ?_; (with_reducible refine (journal_Read.calls k _ _ t213 t222 t223 _ ?side1 ?side2 A9.out).mono ?_); (case side1 => repeat (first | exact (Kd.R_reads' HO216.out).2.2 | (with_reducible refine Kd.C_alloc ?_ _) | (with_reducible refine Kd.C_drewN ?_ _) | (with_reducible refine Kd.C_drew ?_))); (case side2 => exact (Kd.R_reads' HO216.out).2.1); rintro e w46 ⟨v224, rfl, ho0, hb⟩; refine ⟨_, rfl, ?_⟩; have n0_ := Aside0.mk (Kd.R_below (by (with_reducible repeat (first | apply Kd.R_alloc | apply Kd.R_drewN | apply Kd.R_drew)); exact HO209.out) hb); have n1_ := Aside0.mk (Kd.R_elder' (by (with_reducible repeat (first | apply Kd.R_alloc | apply Kd.R_drewN | apply Kd.R_drew)); exact HO212.out) (Kd.R_base ho0) hb); have n2_ := Aside0.mk (Kd.R_below (by (with_reducible repeat (first | apply Kd.R_alloc | apply Kd.R_drewN | apply Kd.R_drew)); exact HO216.out) hb); have n3_ := Aside0.mk (Kd.R_lower (Kd.R_newB (Kd.R_new' ho0 (Kd.R_lt (by (with_reducible repeat (first | apply Kd.R_alloc | apply Kd.R_drewN | apply Kd.R_drew)); exact HO212.out))) (g := gb206) (o := .cells #[.int .i64 1, .int .i64 1, .int .i64 7, .int .i64 3, .int .i64 2, .int .i64 4, .int .i64 300] 39 (0, 0)) (by (with_reducible repeat (first | refine blk_drewN ?_ _ | refine blk_drew ?_ | refine blk_alloc ?_ _)); exact BK206.out)) (below_size (by repeat (first | (with_reducible first | exact HB.out | apply below_alloc | apply pw_below_drewN | apply below_drew1 | refine below_set ?_ GE206.out) | exact HB.out)))); have n4_ := Aside0.mk (blk_below (g := gb206) (o := .cells #[.int .i64 1, .int .i64 1, .int .i64 7, .int .i64 3, .int .i64 2, .int .i64 4, .int .i64 300] 39 (0, 0)) (by (with_reducible repeat (first | refine blk_drewN ?_ _ | refine blk_drew ?_ | refine blk_alloc ?_ _)); exact BK206.out) hb); have n5_ := Aside0.mk (below_step (by repeat (first | (with_reducible first | exact HB.out | apply below_alloc | apply pw_below_drewN | apply below_drew1 | refine below_set ?_ GE206.out) | exact HB.out)) hb); clear HO209; clear HO212; clear HO216; clear BK206; clear HB; have HO209 := n0_; have HO212 := n1_; have HO216 := n2_; have HO225 := n3_; have BK206 := n4_; have HB := n5_; clear n0_ n1_ n2_ n3_ n4_ n5_; (try clear hb); (try clear hb2); (try clear hk); (try clear hi); (try clear ho0); have q47 : (20 : Int) ≤ ((t213.length : Int) : Int) := of_decide_eq_true (by first | (with_reducible assumption) | assumption); obtain ⟨i047, hi047, _, hsz47, _⟩ := info_parts info5; have hroom47 : t213.length ≤ co41 := (Kd.R_reads' HO216.out).2.1; have hC47 : Kd.C (Kd.int .u8) _ (some ad217) t213.length t213 := (Kd.R_reads' HO216.out).2.2; have hcut47 := cut_to (P := Try.prog) 24 5 .i64 Try.underlying24 hi047 (some ad217) t213.length co41 20 (by omega) q47 hroom47; have hr47 := Kd.C_take (m := 20) hC47 (by omega); have hy47 : y226.length = (20 : Int).toNat := (by rw [Ny226.out, List.length_take]; omega); rw [← Ny226.out] at hr47; rw [← hy47] at hcut47; have HR229 := Aside0.mk hr47; have HC229 := Aside0.mk (show y226.length ≤ co41 from by omega); clear hr47 hC47 hroom47 hi047 hsz47; have KY47 := Aside0.mk hy47; clear hy47; have KL47 := Aside0.mk (show 20 ≤ t213.length from by omega); replace q47 := eq_true q47) | ((with_reducible refine gate_callee (f := 13) rfl ?_); refine goesL_ (some 50) rfl rfl Try.func13 (by kernel_rfl) rfl #[.slice (some ad217) y226.length co41] rfl (by (try simp only [List.map_toArray, List.map_cons, List.map_nil]); first | done | rfl | (simp only [List.length_drop, List.length_take]; rfl)) ?_; (with_reducible refine (journal_Read.calls k _ _ y226 t230 t231 _ ?side1 ?side2 A11.out).mono ?_); (case side1 => repeat (first | exact (by repeat (first | (with_reducible exact HR229.out) | (with_reducible refine Kd.C_alloc ?_ _) | (with_reducible refine Kd.C_drewN ?_ _) | (with_reducible refine Kd.C_drew ?_) | exact HR229.out)) | (with_reducible refine Kd.C_alloc ?_ _) | (with_reducible refine Kd.C_drewN ?_ _) | (with_reducible refine Kd.C_drew ?_))); (case side2 => exact HC229.out); rintro e w48 ⟨v232, rfl, ho0, hb⟩; refine ⟨_, rfl, ?_⟩; have n0_ := Aside0.mk (Kd.R_below (by (with_reducible repeat (first | apply Kd.R_alloc | apply Kd.R_drewN | apply Kd.R_drew)); exact HO209.out) hb); have n1_ := Aside0.mk (Kd.R_elder' (by (with_reducible repeat (first | apply Kd.R_alloc | apply Kd.R_drewN | apply Kd.R_drew)); exact HO212.out) (Kd.R_base ho0) hb); have n2_ := Aside0.mk (Kd.R_below (by (with_reducible repeat (first | apply Kd.R_alloc | apply Kd.R_drewN | apply Kd.R_drew)); exact HO216.out) hb); have n3_ := Aside0.mk (Kd.R_elder' (by (with_reducible repeat (first | apply Kd.R_alloc | apply Kd.R_drewN | apply Kd.R_drew)); exact HO225.out) (Kd.R_base ho0) hb); have n4_ := Aside0.mk (Kd.R_lower (Kd.R_newB (Kd.R_new' (Kd.R_new' ho0 (Kd.R_lt (by (with_reducible repeat (first | apply Kd.R_alloc | apply Kd.R_drewN | apply Kd.R_drew)); exact HO212.out))) (Kd.R_lt (by (with_reducible repeat (first | apply Kd.R_alloc | apply Kd.R_drewN | apply Kd.R_drew)); exact HO225.out))) (g := gb206) (o := .cells #[.int .i64 1, .int .i64 1, .int .i64 7, .int .i64 3, .int .i64 2, .int .i64 4, .int .i64 300] 39 (0, 0)) (by (with_reducible repeat (first | refine blk_drewN ?_ _ | refine blk_drew ?_ | refine blk_alloc ?_ _)); exact BK206.out)) (below_size (by repeat (first | (with_reducible first | exact HB.out | apply below_alloc | apply pw_below_drewN | apply below_drew1 | refine below_set ?_ GE206.out) | exact HB.out)))); have n5_ := Aside0.mk (blk_below (g := gb206) (o := .cells #[.int .i64 1, .int .i64 1, .int .i64 7, .int .i64 3, .int .i64 2, .int .i64 4, .int .i64 300] 39 (0, 0)) (by (with_reducible repeat (first | refine blk_drewN ?_ _ | refine blk_drew ?_ | refine blk_alloc ?_ _)); exact BK206.out) hb); have n6_ := Aside0.mk (Kd.C_below (by repeat (first | (with_reducible exact HR229.out) | (with_reducible refine Kd.C_alloc ?_ _) | (with_reducible refine Kd.C_drewN ?_ _) | (with_reducible refine Kd.C_drew ?_) | exact HR229.out)) hb); have n7_ := Aside0.mk (below_step (by repeat (first | (with_reducible first | exact HB.out | apply below_alloc | apply pw_below_drewN | apply below_drew1 | refine below_set ?_ GE206.out) | exact HB.out)) hb); clear HO209; clear HO212; clear HO216; clear HO225; clear BK206; clear HR229; clear HB; have HO209 := n0_; have HO212 := n1_; have HO216 := n2_; have HO225 := n3_; have HO233 := n4_; have BK206 := n5_; have HR229 := n6_; have HB := n7_; clear n0_ n1_ n2_ n3_ n4_ n5_ n6_ n7_; (try clear hb); (try clear hb2); (try clear hk); (try clear hi); (try clear ho0)))
                                    have n0_ := Aside0.mk (Kd.R_drew HO209.out)
                                    have n1_ := Aside0.mk (Kd.R_drew HO212.out)
                                    have n2_ := Aside0.mk (Kd.R_drew HO216.out)
                                    have n3_ := Aside0.mk (Kd.R_drew HO225.out)
                                    have n4_ := Aside0.mk (Kd.R_drew HO233.out)
                                    have n5_ := Aside0.mk (blk_drew BK206.out)
                                    have n6_ := Aside0.mk (Kd.C_drew HR229.out)
                                    have n7_ := Aside0.mk (below_drew1 HB.out)
                                    clear HO209
                                    clear HO212
                                    clear HO216
                                    clear HO225
                                    clear HO233
                                    clear BK206
                                    clear HR229
                                    clear HB
                                    have HO209 := n0_
                                    have HO212 := n1_
                                    have HO216 := n2_
                                    have HO225 := n3_
                                    have HO233 := n4_
                                    have BK206 := n5_
                                    have HR229 := n6_
                                    have HB := n7_
                                    clear n0_ n1_ n2_ n3_ n4_ n5_ n6_ n7_
                                    have q50 : (20 : Int) ≤ ((t213.length : Int) : Int) := of_decide_eq_true (by first | (with_reducible assumption) | assumption)
                                    obtain ⟨i050, hi050, _, hsz50, _⟩ := info_parts info5
                                    have hroom50 : t213.length ≤ co41 := (Kd.R_reads' HO216.out).2.1
                                    have hC50 : Kd.C (Kd.int .u8) _ (some ad217) t213.length t213 := (Kd.R_reads' HO216.out).2.2
                                    try clear hcut47
                                    have hcut50 := cut_to (P := Try.prog) 24 5 .i64 Try.underlying24 hi050 (some ad217) t213.length co41 20 (by omega) q50 hroom50
                                    have hr50 := Kd.C_take (m := 20) hC50 (by omega)
                                    have hy50 : y234.length = (20 : Int).toNat := (by rw [Ny234.out, List.length_take]; omega)
                                    rw [← Ny234.out] at hr50
                                    rw [← hy50] at hcut50
                                    have HR237 := Aside0.mk hr50
                                    have HC237 := Aside0.mk (show y234.length ≤ co41 from by omega)
                                    clear hr50 hC50 hroom50 hi050 hsz50
                                    have KY50 := Aside0.mk hy50
                                    clear hy50
                                    have KL50 := Aside0.mk (show 20 ≤ t213.length from by omega)
                                    replace q50 := eq_true q50
                                    refine start_ (n := 9) (S := fun w' => w'.cell? ⟨gb206, 0, none⟩ = some (.int .i64 1) ∧ w'.cell? ⟨gb206, 1, none⟩ = some (.int .i64 1) ∧ w'.cell? ⟨gb206, 2, none⟩ = some (.int .i64 7) ∧ w'.cell? ⟨gb206, 3, none⟩ = some (.int .i64 3) ∧ w'.cell? ⟨gb206, 4, none⟩ = some (.int .i64 2) ∧ w'.cell? ⟨gb206, 5, none⟩ = some (.int .i64 4) ∧ w'.cell? ⟨gb206, 6, none⟩ = some (.int .i64 300)) (ds := []) #[false, false, false, false, false, false, false, false, false] (by kernel_rfl) rfl rfl ⟨(blk_cell BK206.out 0).trans rfl, (blk_cell BK206.out 1).trans rfl, (blk_cell BK206.out 2).trans rfl, (blk_cell BK206.out 3).trans rfl, (blk_cell BK206.out 4).trans rfl, (blk_cell BK206.out 5).trans rfl, (blk_cell BK206.out 6).trans rfl⟩ (fun hHeld => ?_); refine with_tabW skiarealaw29_alive.tab8 skiarealaw29_alive.bits8 (fun HT_ HW_ => ?_)
                                    generalize w48.drew = w49 at HO209 HO212 HO216 HO225 HO233 BK206 HR229 HB HR237 hHeld ⊢
                                    refine pure_ (i := 0) (N := some 54) (v := ?_) (a' := ?_) #[true, false, false, false, false, false, false, false, false] rfl rfl (any_of HT_.out (by kernel_rfl)) (fun _ _ _ h => h) (Or.inl ⟨by rfl, ?_⟩) ?_ ?_
                                    rotate_left
                                    · intro w'
                                      go_simp
                                      with_reducible rfl
                                    rotate_left
                                    · simp only [Act.put, List.setIfInBounds_toArray, List.set_cons_zero, List.set_cons_succ, i64_w, i32_w, IntKind.wrap_u8, IntKind.wrap_u32]
                                      rfl
                                    refine pure_ (i := 1) (N := some 55) (v := ?_) (a' := ?_) #[true, true, false, false, false, false, false, false, false] rfl rfl (any_of HT_.out (by kernel_rfl)) (fun _ _ _ h => h) (Or.inl ⟨by rfl, ?_⟩) ?_ ?_
                                    rotate_left
                                    · intro w'
                                      go_simp
                                      with_reducible rfl
                                    rotate_left
                                    · simp only [Act.put, List.setIfInBounds_toArray, List.set_cons_zero, List.set_cons_succ, i64_w, i32_w, IntKind.wrap_u8, IntKind.wrap_u32]
                                      rfl
                                    refine take_ (i := 2) (N := some 56) (v := ?_) (a' := ?_) #[true, true, true, false, false, false, false, false, false] rfl rfl (take_ofW HT_.out HW_.out (by kernel_rfl)) (fun _ _ _ h => h) (Or.inl ⟨by rfl, ?_⟩) hHeld ?_ ?_
                                    rotate_left
                                    · rintro w' ⟨s0, s1, s2, s3, s4, s5, s6⟩
                                      go_simp
                                      with_reducible rfl
                                    rotate_left
                                    · simp only [Act.put, List.setIfInBounds_toArray, List.set_cons_zero, List.set_cons_succ, i64_w, i32_w, IntKind.wrap_u8, IntKind.wrap_u32]
                                      rfl
                                    refine one_ (i := 3) (N := some 57) #[true, true, true, true, false, false, false, false, false] rfl rfl (one_of HT_.out (by kernel_rfl)) (by decide) (fun K hK => ?_)
                                    refine goes_ Try.func18 (by kernel_rfl) rfl #[.slice (some ad217) y234.length co41, .agg #[.int .i64 1, .int .i64 1, .int .i64 7, .int .i64 3, .int .i64 2, .int .i64 4, .int .i64 300]] (by rfl) rfl rfl (by (try simp only [List.map_toArray, List.map_cons, List.map_nil]); first | done | rfl | (simp only [List.length_drop, List.length_take]; rfl)) ?_
                                    with_reducible refine (journal_Append.calls k _ _ y234 1 1 7 3 2 4 300 t238 t241 _ ?side1 ?side2 A13.out).mono ?_
                                    (case side1 => repeat (first | exact (by repeat (first | (with_reducible exact HR237.out) | (with_reducible refine Kd.C_alloc ?_ _) | (with_reducible refine Kd.C_drewN ?_ _) | (with_reducible refine Kd.C_drew ?_) | exact HR237.out)) | (with_reducible refine Kd.C_alloc ?_ _) | (with_reducible refine Kd.C_drewN ?_ _) | (with_reducible refine Kd.C_drew ?_)))
                                    (case side2 => exact HC237.out)
                                    rintro e w51 ⟨v239, rfl, ho0, hb⟩
                                    refine ⟨_, rfl, ?_⟩
                                    have n0_ := Aside0.mk (Kd.R_elder' (by (with_reducible repeat (first | apply Kd.R_alloc | apply Kd.R_drewN | apply Kd.R_drew)); exact HO209.out) (Kd.R_base ho0) hb)
                                    have n1_ := Aside0.mk (Kd.R_below (by (with_reducible repeat (first | apply Kd.R_alloc | apply Kd.R_drewN | apply Kd.R_drew)); exact HO212.out) hb)
                                    have n2_ := Aside0.mk (Kd.R_elder' (by (with_reducible repeat (first | apply Kd.R_alloc | apply Kd.R_drewN | apply Kd.R_drew)); exact HO216.out) (Kd.R_base ho0) hb)
                                    have n3_ := Aside0.mk (Kd.R_below (by (with_reducible repeat (first | apply Kd.R_alloc | apply Kd.R_drewN | apply Kd.R_drew)); exact HO225.out) hb)
                                    have n4_ := Aside0.mk (Kd.R_below (by (with_reducible repeat (first | apply Kd.R_alloc | apply Kd.R_drewN | apply Kd.R_drew)); exact HO233.out) hb)
                                    have n5_ := Aside0.mk (Kd.R_lower (Kd.R_new' (Kd.R_new' ho0 (Kd.R_lt (by (with_reducible repeat (first | apply Kd.R_alloc | apply Kd.R_drewN | apply Kd.R_drew)); exact HO209.out))) (Kd.R_lt (by (with_reducible repeat (first | apply Kd.R_alloc | apply Kd.R_drewN | apply Kd.R_drew)); exact HO216.out))) (below_size (by repeat (first | (with_reducible first | exact HB.out | apply below_alloc | apply pw_below_drewN | apply below_drew1 | refine below_set ?_ GE206.out) | exact HB.out))))
                                    have n6_ := Aside0.mk (blk_below (g := gb206) (o := .cells #[.int .i64 1, .int .i64 1, .int .i64 7, .int .i64 3, .int .i64 2, .int .i64 4, .int .i64 300] 39 (0, 0)) (by (with_reducible repeat (first | refine blk_drewN ?_ _ | refine blk_drew ?_ | refine blk_alloc ?_ _)); exact BK206.out) hb)
                                    have n7_ := Aside0.mk (Kd.C_below (by repeat (first | (with_reducible exact HR229.out) | (with_reducible refine Kd.C_alloc ?_ _) | (with_reducible refine Kd.C_drewN ?_ _) | (with_reducible refine Kd.C_drew ?_) | exact HR229.out)) hb)
                                    have n8_ := Aside0.mk (Kd.C_below (by repeat (first | (with_reducible exact HR237.out) | (with_reducible refine Kd.C_alloc ?_ _) | (with_reducible refine Kd.C_drewN ?_ _) | (with_reducible refine Kd.C_drew ?_) | exact HR237.out)) hb)
                                    have n9_ := Aside0.mk (below_step (by repeat (first | (with_reducible first | exact HB.out | apply below_alloc | apply pw_below_drewN | apply below_drew1 | refine below_set ?_ GE206.out) | exact HB.out)) hb)
                                    clear HO209
                                    clear HO212
                                    clear HO216
                                    clear HO225
                                    clear HO233
                                    clear BK206
                                    clear HR229
                                    clear HR237
                                    clear HB
                                    have HO209 := n0_
                                    have HO212 := n1_
                                    have HO216 := n2_
                                    have HO225 := n3_
                                    have HO233 := n4_
                                    have HO240 := n5_
                                    have BK206 := n6_
                                    have HR229 := n7_
                                    have HR237 := n8_
                                    have HB := n9_
                                    clear n0_ n1_ n2_ n3_ n4_ n5_ n6_ n7_ n8_ n9_
                                    (try clear hb)
                                    (try clear hb2)
                                    (try clear hk)
                                    (try clear hi)
                                    (try clear ho0)
                                    refine hK.out _ _ ⟨(blk_cell BK206.out 0).trans rfl, (blk_cell BK206.out 1).trans rfl, (blk_cell BK206.out 2).trans rfl, (blk_cell BK206.out 3).trans rfl, (blk_cell BK206.out 4).trans rfl, (blk_cell BK206.out 5).trans rfl, (blk_cell BK206.out 6).trans rfl⟩ (fun hHeld => ?_)
                                    clear hK K
                                    refine norm_ (a' := ?_) ?_ ?_
                                    rotate_left
                                    · show Act.put _ (some 57) _ = _
                                      simp only [Act.put, List.setIfInBounds_toArray, List.set_cons_zero, List.set_cons_succ, i64_w, i32_w, IntKind.wrap_u8, IntKind.wrap_u32]
                                      rfl
                                    refine pure_ (i := 4) (N := some 53) (v := ?_) (a' := ?_) #[true, true, true, true, true, false, false, false, false] rfl rfl (any_of HT_.out (by kernel_rfl)) (fun _ _ _ h => h) (Or.inl ⟨by rfl, ?_⟩) ?_ ?_
                                    rotate_left
                                    · intro w'
                                      go_simp
                                      with_reducible rfl
                                    rotate_left
                                    · simp only [Act.put, List.setIfInBounds_toArray, List.set_cons_zero, List.set_cons_succ, i64_w, i32_w, IntKind.wrap_u8, IntKind.wrap_u32]
                                      rfl
                                    refine pure_ (i := 5) (N := some 58) (v := ?_) (a' := ?_) #[true, true, true, true, true, true, false, false, false] rfl rfl (any_of HT_.out (by kernel_rfl)) (fun _ _ _ h => h) (Or.inl ⟨by rfl, ?_⟩) ?_ ?_
                                    rotate_left
                                    · intro w'
                                      go_simp
                                      with_reducible rfl
                                    rotate_left
                                    · simp only [Act.put, List.setIfInBounds_toArray, List.set_cons_zero, List.set_cons_succ, i64_w, i32_w, IntKind.wrap_u8, IntKind.wrap_u32]
                                      rfl
                                    refine pure_ (i := 6) (N := some 59) (v := ?_) (a' := ?_) #[true, true, true, true, true, true, true, false, false] rfl rfl (any_of HT_.out (by kernel_rfl)) (fun _ _ _ h => h) (Or.inl ⟨by rfl, ?_⟩) ?_ ?_
                                    rotate_left
                                    · intro w'
                                      go_simp
                                      with_reducible rfl
                                    rotate_left
                                    · simp only [Act.put, List.setIfInBounds_toArray, List.set_cons_zero, List.set_cons_succ, i64_w, i32_w, IntKind.wrap_u8, IntKind.wrap_u32]
                                      rfl
                                    refine pure_ (i := 7) (N := some 9) (v := ?_) (a' := ?_) #[true, true, true, true, true, true, true, true, false] rfl rfl (any_of HT_.out (by kernel_rfl)) (fun _ _ _ h => h) (Or.inl ⟨by rfl, ?_⟩) ?_ ?_
                                    rotate_left
                                    · intro w'
                                      go_simp
                                      with_reducible rfl
                                    rotate_left
                                    · simp only [Act.put, List.setIfInBounds_toArray, List.set_cons_zero, List.set_cons_succ, i64_w, i32_w, IntKind.wrap_u8, IntKind.wrap_u32]
                                      rfl
                                    refine pure_ (i := 8) (N := some 10) (v := ?_) (a' := ?_) #[true, true, true, true, true, true, true, true, true] rfl rfl (any_of HT_.out (by kernel_rfl)) (fun _ _ _ h => h) (Or.inl ⟨by rfl, ?_⟩) ?_ ?_
                                    rotate_left
                                    · intro w'
                                      go_simp
                                      with_reducible rfl
                                    rotate_left
                                    · simp only [Act.put, List.setIfInBounds_toArray, List.set_cons_zero, List.set_cons_succ, i64_w, i32_w, IntKind.wrap_u8, IntKind.wrap_u32]
                                      rfl
                                    refine done_ (done_of HT_.out (by kernel_rfl)) ?_
                                    try clear hcut50
                                    try go_wp2_with (first | ((with_reducible refine gate_callee (f := 18) rfl ?_); refine goesL_ (some 63) rfl rfl Try.func18 (by kernel_rfl) rfl #[.slice (some ad217) t213.length co41, .agg #[.int .i64 0, .int .i64 (-1), .int .i64 0, .int .i64 0, .int .i64 0, .int .i64 0, .int .i64 0]] rfl (by (try simp only [List.map_toArray, List.map_cons, List.map_nil]); first | done | rfl | (simp only [List.length_drop, List.length_take]; rfl)) ?_; (with_reducible refine (journal_Append.calls k _ _ t213 0 (-1) 0 0 0 0 0 t242 t245 _ ?side1 ?side2 A14.out).mono ?_); (case side1 => repeat (first | exact (Kd.R_reads' HO216.out).2.2 | (with_reducible refine Kd.C_alloc ?_ _) | (with_reducible refine Kd.C_drewN ?_ _) | (with_reducible refine Kd.C_drew ?_))); (case side2 => exact (Kd.R_reads' HO216.out).2.1); rintro e w52 ⟨v243, rfl, ho0, hb⟩; refine ⟨_, rfl, ?_⟩; have n0_ := Aside0.mk (Kd.R_elder' (by (with_reducible repeat (first | apply Kd.R_alloc | apply Kd.R_drewN | apply Kd.R_drew)); exact HO209.out) (Kd.R_base ho0) hb); have n1_ := Aside0.mk (Kd.R_below (by (with_reducible repeat (first | apply Kd.R_alloc | apply Kd.R_drewN | apply Kd.R_drew)); exact HO212.out) hb); have n2_ := Aside0.mk (Kd.R_elder' (by (with_reducible repeat (first | apply Kd.R_alloc | apply Kd.R_drewN | apply Kd.R_drew)); exact HO216.out) (Kd.R_base ho0) hb); have n3_ := Aside0.mk (Kd.R_below (by (with_reducible repeat (first | apply Kd.R_alloc | apply Kd.R_drewN | apply Kd.R_drew)); exact HO225.out) hb); have n4_ := Aside0.mk (Kd.R_below (by (with_reducible repeat (first | apply Kd.R_alloc | apply Kd.R_drewN | apply Kd.R_drew)); exact HO233.out) hb); have n5_ := Aside0.mk (Kd.R_elder' (by (with_reducible repeat (first | apply Kd.R_alloc | apply Kd.R_drewN | apply Kd.R_drew)); exact HO240.out) (Kd.R_base ho0) hb); have n6_ := Aside0.mk (Kd.R_lower (Kd.R_new' (Kd.R_new' (Kd.R_new' ho0 (Kd.R_lt (by (with_reducible repeat (first | apply Kd.R_alloc | apply Kd.R_drewN | apply Kd.R_drew)); exact HO209.out))) (Kd.R_lt (by (with_reducible repeat (first | apply Kd.R_alloc | apply Kd.R_drewN | apply Kd.R_drew)); exact HO216.out))) (Kd.R_lt (by (with_reducible repeat (first | apply Kd.R_alloc | apply Kd.R_drewN | apply Kd.R_drew)); exact HO240.out))) (below_size (by repeat (first | (with_reducible first | exact HB.out | apply below_alloc | apply pw_below_drewN | apply below_drew1 | refine below_set ?_ GE206.out) | exact HB.out)))); have n7_ := Aside0.mk (blk_below (g := gb206) (o := .cells #[.int .i64 1, .int .i64 1, .int .i64 7, .int .i64 3, .int .i64 2, .int .i64 4, .int .i64 300] 39 (0, 0)) (by (with_reducible repeat (first | refine blk_drewN ?_ _ | refine blk_drew ?_ | refine blk_alloc ?_ _)); exact BK206.out) hb); have n8_ := Aside0.mk (Kd.C_below (by repeat (first | (with_reducible exact HR229.out) | (with_reducible refine Kd.C_alloc ?_ _) | (with_reducible refine Kd.C_drewN ?_ _) | (with_reducible refine Kd.C_drew ?_) | exact HR229.out)) hb); have n9_ := Aside0.mk (Kd.C_below (by repeat (first | (with_reducible exact HR237.out) | (with_reducible refine Kd.C_alloc ?_ _) | (with_reducible refine Kd.C_drewN ?_ _) | (with_reducible refine Kd.C_drew ?_) | exact HR237.out)) hb); have n10_ := Aside0.mk (below_step (by repeat (first | (with_reducible first | exact HB.out | apply below_alloc | apply pw_below_drewN | apply below_drew1 | refine below_set ?_ GE206.out) | exact HB.out)) hb); clear HO209; clear HO212; clear HO216; clear HO225; clear HO233; clear HO240; clear BK206; clear HR229; clear HR237; clear HB; have HO209 := n0_; have HO212 := n1_; have HO216 := n2_; have HO225 := n3_; have HO233 := n4_; have HO240 := n5_; have HO244 := n6_; have BK206 := n7_; have HR229 := n8_; have HR237 := n9_; have HB := n10_; clear n0_ n1_ n2_ n3_ n4_ n5_ n6_ n7_ n8_ n9_ n10_; (try clear hb); (try clear hb2); (try clear hk); (try clear hi); (try clear ho0); have hcz53_0 : w52.cell? ⟨gb206, 0, none⟩ = some (.int .i64 1) := (blk_cell BK206.out 0).trans rfl; have hcz53_1 : w52.cell? ⟨gb206, 1, none⟩ = some (.int .i64 1) := (blk_cell BK206.out 1).trans rfl; have hcz53_2 : w52.cell? ⟨gb206, 2, none⟩ = some (.int .i64 7) := (blk_cell BK206.out 2).trans rfl; have hcz53_3 : w52.cell? ⟨gb206, 3, none⟩ = some (.int .i64 3) := (blk_cell BK206.out 3).trans rfl; have hcz53_4 : w52.cell? ⟨gb206, 4, none⟩ = some (.int .i64 2) := (blk_cell BK206.out 4).trans rfl; have hcz53_5 : w52.cell? ⟨gb206, 5, none⟩ = some (.int .i64 4) := (blk_cell BK206.out 5).trans rfl; have hcz53_6 : w52.cell? ⟨gb206, 6, none⟩ = some (.int .i64 300) := (blk_cell BK206.out 6).trans rfl; have hfz53_0 := blk_frozen BK206.out 0; have hfz53_1 := blk_frozen BK206.out 1; have hfz53_2 := blk_frozen BK206.out 2; have hfz53_3 := blk_frozen BK206.out 3; have hfz53_4 := blk_frozen BK206.out 4; have hfz53_5 := blk_frozen BK206.out 5; have hfz53_6 := blk_frozen BK206.out 6) | ((with_reducible refine gate_dst (N := 68) rfl ?_); (try (refine gate_guard (by rfl) ?_; dsimp only)); refine Kd.R_lit k39 _ 39 ?hg (N := 68) ?hd (xs := ([(⟨1, 1, 7, 3, 2, 4, 300⟩ : S39)] : List (S39))) (inner := [.int .i64 1, .int .i64 1, .int .i64 7, .int .i64 3, .int .i64 2, .int .i64 4, .int .i64 300]) (ok := fun _ => True) (okp := fun _ => True) ?hr ?hp (fun _ hk => hk) trivial (Below.refl _ _) (Nat.le_refl _) (by simp) ?_; (case hd => rfl); (case hg => rfl); (case hr => first | (go_simp; done) | (go_simp; rfl)); (case hp => exact (Reps.c7 (show Kd.M k39 _ _ _ (⟨1, 1, 7, 3, 2, 4, 300⟩ : S39) [.int .i64 1, .int .i64 1, .int .i64 7, .int .i64 3, .int .i64 2, .int .i64 4, .int .i64 300] from (k39_mkM _ _ _ (⟨1, 1, 7, 3, 2, 4, 300⟩ : S39) )) (Reps.none _ _))); intro v247 w54 ho55 hb hg_ hnew_; clear hg_ hnew_; (first | rw [← Ny246.out] at ho55 | (simp only [Int.reduceToNat] at ho55; rw [← Ny246.out] at ho55)); have n0_ := Aside0.mk (Kd.R_below (by (with_reducible repeat (first | apply Kd.R_alloc | apply Kd.R_drewN | apply Kd.R_drew)); exact HO209.out) hb); have n1_ := Aside0.mk (Kd.R_elder' (by (with_reducible repeat (first | apply Kd.R_alloc | apply Kd.R_drewN | apply Kd.R_drew)); exact HO212.out) (Kd.R_base ho55) hb); have n2_ := Aside0.mk (Kd.R_below (by (with_reducible repeat (first | apply Kd.R_alloc | apply Kd.R_drewN | apply Kd.R_drew)); exact HO216.out) hb); have n3_ := Aside0.mk (Kd.R_elder' (by (with_reducible repeat (first | apply Kd.R_alloc | apply Kd.R_drewN | apply Kd.R_drew)); exact HO225.out) (Kd.R_base ho55) hb); have n4_ := Aside0.mk (Kd.R_elder' (by (with_reducible repeat (first | apply Kd.R_alloc | apply Kd.R_drewN | apply Kd.R_drew)); exact HO233.out) (Kd.R_base ho55) hb); have n5_ := Aside0.mk (Kd.R_below (by (with_reducible repeat (first | apply Kd.R_alloc | apply Kd.R_drewN | apply Kd.R_drew)); exact HO240.out) hb); have n6_ := Aside0.mk (Kd.R_below (by (with_reducible repeat (first | apply Kd.R_alloc | apply Kd.R_drewN | apply Kd.R_drew)); exact HO244.out) hb); have n7_ := Aside0.mk (Kd.R_lower (Kd.R_newB (Kd.R_new' (Kd.R_new' (Kd.R_new' ho55 (Kd.R_lt (by (with_reducible repeat (first | apply Kd.R_alloc | apply Kd.R_drewN | apply Kd.R_drew)); exact HO212.out))) (Kd.R_lt (by (with_reducible repeat (first | apply Kd.R_alloc | apply Kd.R_drewN | apply Kd.R_drew)); exact HO225.out))) (Kd.R_lt (by (with_reducible repeat (first | apply Kd.R_alloc | apply Kd.R_drewN | apply Kd.R_drew)); exact HO233.out))) (g := gb206) (o := .cells #[.int .i64 1, .int .i64 1, .int .i64 7, .int .i64 3, .int .i64 2, .int .i64 4, .int .i64 300] 39 (0, 0)) (by (with_reducible repeat (first | refine blk_drewN ?_ _ | refine blk_drew ?_ | refine blk_alloc ?_ _)); exact BK206.out)) (below_size (by repeat (first | (with_reducible first | exact HB.out | apply below_alloc | apply pw_below_drewN | apply below_drew1 | refine below_set ?_ GE206.out) | exact HB.out)))); have n8_ := Aside0.mk (blk_below (g := gb206) (o := .cells #[.int .i64 1, .int .i64 1, .int .i64 7, .int .i64 3, .int .i64 2, .int .i64 4, .int .i64 300] 39 (0, 0)) (by (with_reducible repeat (first | refine blk_drewN ?_ _ | refine blk_drew ?_ | refine blk_alloc ?_ _)); exact BK206.out) hb); have n9_ := Aside0.mk (Kd.C_below (by repeat (first | (with_reducible exact HR229.out) | (with_reducible refine Kd.C_alloc ?_ _) | (with_reducible refine Kd.C_drewN ?_ _) | (with_reducible refine Kd.C_drew ?_) | exact HR229.out)) hb); have n10_ := Aside0.mk (Kd.C_below (by repeat (first | (with_reducible exact HR237.out) | (with_reducible refine Kd.C_alloc ?_ _) | (with_reducible refine Kd.C_drewN ?_ _) | (with_reducible refine Kd.C_drew ?_) | exact HR237.out)) hb); have n11_ := Aside0.mk (below_step (by repeat (first | (with_reducible first | exact HB.out | apply below_alloc | apply pw_below_drewN | apply below_drew1 | refine below_set ?_ GE206.out) | exact HB.out)) hb); clear HO209; clear HO212; clear HO216; clear HO225; clear HO233; clear HO240; clear HO244; clear BK206; clear HR229; clear HR237; clear HB; have HO209 := n0_; have HO212 := n1_; have HO216 := n2_; have HO225 := n3_; have HO233 := n4_; have HO240 := n5_; have HO244 := n6_; have HO248 := n7_; have BK206 := n8_; have HR229 := n9_; have HR237 := n10_; have HB := n11_; clear n0_ n1_ n2_ n3_ n4_ n5_ n6_ n7_ n8_ n9_ n10_ n11_; clear hb ho55; obtain ⟨Ao56, co56, eo56⟩ := Kd.R_slice HO225.out; subst eo56; obtain ⟨Ao57, co57, eo57⟩ := Kd.R_slice HO248.out; subst eo57) | ((with_reducible refine gate_callee (f := 14) rfl ?_); refine goesL_ (some 69) rfl rfl Try.func14 (by kernel_rfl) rfl #[.slice Ao56 t222.length co56, .slice Ao57 y246.length co57] rfl (by (try simp only [List.map_toArray, List.map_cons, List.map_nil]); first | done | rfl | (simp only [List.length_drop, List.length_take]; rfl)) ?_; (with_reducible refine (skiarearef29_Same.calls k _ _ t222 _ _ y246 true _ ?side1 ?side2 ?side3 ?side4 A15.out).mono ?_); (case side1 => repeat (first | exact (Kd.R_reads' HO225.out).2.2 | (with_reducible refine Kd.C_alloc ?_ _) | (with_reducible refine Kd.C_drewN ?_ _) | (with_reducible refine Kd.C_drew ?_))); (case side2 => exact (Kd.R_reads' HO225.out).2.1); (case side3 => repeat (first | exact (Kd.R_reads' HO248.out).2.2 | (with_reducible refine Kd.C_alloc ?_ _) | (with_reducible refine Kd.C_drewN ?_ _) | (with_reducible refine Kd.C_drew ?_))); (case side4 => exact (Kd.R_reads' HO248.out).2.1); rintro e w' ⟨rfl, ⟨nd, rfl⟩⟩; refine ⟨_, rfl, ?_⟩; obtain ⟨Ao58, co58, eo58⟩ := Kd.R_slice HO233.out; subst eo58) | (go_at_call 15; (with_reducible refine (journal_Whole.calls k _ _ t213 true _ ?side1 ?side2 A22.out).mono ?_); (case side1 => repeat (first | exact (Kd.R_reads' HO216.out).2.2 | (with_reducible refine Kd.C_alloc ?_ _) | (with_reducible refine Kd.C_drewN ?_ _) | (with_reducible refine Kd.C_drew ?_))); (case side2 => exact (Kd.R_reads' HO216.out).2.1); rintro e w59 ⟨rfl, hb⟩; have n0_ := Aside0.mk (Kd.R_below (by (with_reducible repeat (first | apply Kd.R_alloc | apply Kd.R_drewN | apply Kd.R_drew)); exact HO209.out) hb); have n1_ := Aside0.mk (Kd.R_below (by (with_reducible repeat (first | apply Kd.R_alloc | apply Kd.R_drewN | apply Kd.R_drew)); exact HO212.out) hb); have n2_ := Aside0.mk (Kd.R_below (by (with_reducible repeat (first | apply Kd.R_alloc | apply Kd.R_drewN | apply Kd.R_drew)); exact HO216.out) hb); have n3_ := Aside0.mk (Kd.R_below (by (with_reducible repeat (first | apply Kd.R_alloc | apply Kd.R_drewN | apply Kd.R_drew)); exact HO225.out) hb); have n4_ := Aside0.mk (Kd.R_below (by (with_reducible repeat (first | apply Kd.R_alloc | apply Kd.R_drewN | apply Kd.R_drew)); exact HO233.out) hb); have n5_ := Aside0.mk (Kd.R_below (by (with_reducible repeat (first | apply Kd.R_alloc | apply Kd.R_drewN | apply Kd.R_drew)); exact HO240.out) hb); have n6_ := Aside0.mk (Kd.R_below (by (with_reducible repeat (first | apply Kd.R_alloc | apply Kd.R_drewN | apply Kd.R_drew)); exact HO244.out) hb); have n7_ := Aside0.mk (Kd.R_below (by (with_reducible repeat (first | apply Kd.R_alloc | apply Kd.R_drewN | apply Kd.R_drew)); exact HO248.out) hb); have n8_ := Aside0.mk (blk_below (g := gb206) (o := .cells #[.int .i64 1, .int .i64 1, .int .i64 7, .int .i64 3, .int .i64 2, .int .i64 4, .int .i64 300] 39 (0, 0)) (by (with_reducible repeat (first | refine blk_drewN ?_ _ | refine blk_drew ?_ | refine blk_alloc ?_ _)); exact BK206.out) hb); have n9_ := Aside0.mk (Kd.C_below (by repeat (first | (with_reducible exact HR229.out) | (with_reducible refine Kd.C_alloc ?_ _) | (with_reducible refine Kd.C_drewN ?_ _) | (with_reducible refine Kd.C_drew ?_) | exact HR229.out)) hb); have n10_ := Aside0.mk (Kd.C_below (by repeat (first | (with_reducible exact HR237.out) | (with_reducible refine Kd.C_alloc ?_ _) | (with_reducible refine Kd.C_drewN ?_ _) | (with_reducible refine Kd.C_drew ?_) | exact HR237.out)) hb); have n11_ := Aside0.mk (below_step (by repeat (first | (with_reducible first | exact HB.out | apply below_alloc | apply pw_below_drewN | apply below_drew1 | refine below_set ?_ GE206.out) | exact HB.out)) hb); clear HO209; clear HO212; clear HO216; clear HO225; clear HO233; clear HO240; clear HO244; clear HO248; clear BK206; clear HR229; clear HR237; clear HB; have HO209 := n0_; have HO212 := n1_; have HO216 := n2_; have HO225 := n3_; have HO233 := n4_; have HO240 := n5_; have HO244 := n6_; have HO248 := n7_; have BK206 := n8_; have HR229 := n9_; have HR237 := n10_; have HB := n11_; clear n0_ n1_ n2_ n3_ n4_ n5_ n6_ n7_ n8_ n9_ n10_ n11_; (try clear hb); (try clear hb2); (try clear hk); (try clear hi)) | (go_at_call 15; (refine (journal_Whole.calls k _ _ ([] : List Int) true _ ?side1 ?side2 A24.out).mono ?_); (case side1 => exact Kd.C_nil _ _); (case side2 => exact Nat.le_refl _); rintro e w60 ⟨rfl, hb⟩; have n0_ := Aside0.mk (Kd.R_below (by (with_reducible repeat (first | apply Kd.R_alloc | apply Kd.R_drewN | apply Kd.R_drew)); exact HO209.out) hb); have n1_ := Aside0.mk (Kd.R_below (by (with_reducible repeat (first | apply Kd.R_alloc | apply Kd.R_drewN | apply Kd.R_drew)); exact HO212.out) hb); have n2_ := Aside0.mk (Kd.R_below (by (with_reducible repeat (first | apply Kd.R_alloc | apply Kd.R_drewN | apply Kd.R_drew)); exact HO216.out) hb); have n3_ := Aside0.mk (Kd.R_below (by (with_reducible repeat (first | apply Kd.R_alloc | apply Kd.R_drewN | apply Kd.R_drew)); exact HO225.out) hb); have n4_ := Aside0.mk (Kd.R_below (by (with_reducible repeat (first | apply Kd.R_alloc | apply Kd.R_drewN | apply Kd.R_drew)); exact HO233.out) hb); have n5_ := Aside0.mk (Kd.R_below (by (with_reducible repeat (first | apply Kd.R_alloc | apply Kd.R_drewN | apply Kd.R_drew)); exact HO240.out) hb); have n6_ := Aside0.mk (Kd.R_below (by (with_reducible repeat (first | apply Kd.R_alloc | apply Kd.R_drewN | apply Kd.R_drew)); exact HO244.out) hb); have n7_ := Aside0.mk (Kd.R_below (by (with_reducible repeat (first | apply Kd.R_alloc | apply Kd.R_drewN | apply Kd.R_drew)); exact HO248.out) hb); have n8_ := Aside0.mk (blk_below (g := gb206) (o := .cells #[.int .i64 1, .int .i64 1, .int .i64 7, .int .i64 3, .int .i64 2, .int .i64 4, .int .i64 300] 39 (0, 0)) (by (with_reducible repeat (first | refine blk_drewN ?_ _ | refine blk_drew ?_ | refine blk_alloc ?_ _)); exact BK206.out) hb); have n9_ := Aside0.mk (Kd.C_below (by repeat (first | (with_reducible exact HR229.out) | (with_reducible refine Kd.C_alloc ?_ _) | (with_reducible refine Kd.C_drewN ?_ _) | (with_reducible refine Kd.C_drew ?_) | exact HR229.out)) hb); have n10_ := Aside0.mk (Kd.C_below (by repeat (first | (with_reducible exact HR237.out) | (with_reducible refine Kd.C_alloc ?_ _) | (with_reducible refine Kd.C_drewN ?_ _) | (with_reducible refine Kd.C_drew ?_) | exact HR237.out)) hb); have n11_ := Aside0.mk (below_step (by repeat (first | (with_reducible first | exact HB.out | apply below_alloc | apply pw_below_drewN | apply below_drew1 | refine below_set ?_ GE206.out) | exact HB.out)) hb); clear HO209; clear HO212; clear HO216; clear HO225; clear HO233; clear HO240; clear HO244; clear HO248; clear BK206; clear HR229; clear HR237; clear HB; have HO209 := n0_; have HO212 := n1_; have HO216 := n2_; have HO225 := n3_; have HO233 := n4_; have HO240 := n5_; have HO244 := n6_; have HO248 := n7_; have BK206 := n8_; have HR229 := n9_; have HR237 := n10_; have HB := n11_; clear n0_ n1_ n2_ n3_ n4_ n5_ n6_ n7_ n8_ n9_ n10_ n11_; (try clear hb); (try clear hb2); (try clear hk); (try clear hi); have q61 : (20 : Int) ≤ ((t213.length : Int) : Int) := of_decide_eq_true (by first | (with_reducible assumption) | assumption); obtain ⟨i061, hi061, _, hsz61, _⟩ := info_parts info5; have hroom61 : t213.length ≤ co41 := (Kd.R_reads' HO216.out).2.1; have hC61 : Kd.C (Kd.int .u8) _ (some ad217) t213.length t213 := (Kd.R_reads' HO216.out).2.2; have hcut61 := cut_to (P := Try.prog) 24 5 .i64 Try.underlying24 hi061 (some ad217) t213.length co41 20 (by omega) q61 hroom61; have hr61 := Kd.C_take (m := 20) hC61 (by omega); have hy61 : y252.length = (20 : Int).toNat := (by rw [Ny252.out, List.length_take]; omega); rw [← Ny252.out] at hr61; rw [← hy61] at hcut61; have HR255 := Aside0.mk hr61; have HC255 := Aside0.mk (show y252.length ≤ co41 from by omega); clear hr61 hC61 hroom61 hi061 hsz61; have KY61 := Aside0.mk hy61; clear hy61; have KL61 := Aside0.mk (show 20 ≤ t213.length from by omega); replace q61 := eq_true q61) | (go_at_call 15; (with_reducible refine (journal_Whole.calls k _ _ y252 false _ ?side1 ?side2 A27.out).mono ?_); (case side1 => repeat (first | exact (by repeat (first | (with_reducible exact HR255.out) | (with_reducible refine Kd.C_alloc ?_ _) | (with_reducible refine Kd.C_drewN ?_ _) | (with_reducible refine Kd.C_drew ?_) | exact HR255.out)) | (with_reducible refine Kd.C_alloc ?_ _) | (with_reducible refine Kd.C_drewN ?_ _) | (with_reducible refine Kd.C_drew ?_))); (case side2 => exact HC255.out); rintro e w62 ⟨rfl, hb⟩; have n0_ := Aside0.mk (Kd.R_below (by (with_reducible repeat (first | apply Kd.R_alloc | apply Kd.R_drewN | apply Kd.R_drew)); exact HO209.out) hb); have n1_ := Aside0.mk (Kd.R_below (by (with_reducible repeat (first | apply Kd.R_alloc | apply Kd.R_drewN | apply Kd.R_drew)); exact HO212.out) hb); have n2_ := Aside0.mk (Kd.R_below (by (with_reducible repeat (first | apply Kd.R_alloc | apply Kd.R_drewN | apply Kd.R_drew)); exact HO216.out) hb); have n3_ := Aside0.mk (Kd.R_below (by (with_reducible repeat (first | apply Kd.R_alloc | apply Kd.R_drewN | apply Kd.R_drew)); exact HO225.out) hb); have n4_ := Aside0.mk (Kd.R_below (by (with_reducible repeat (first | apply Kd.R_alloc | apply Kd.R_drewN | apply Kd.R_drew)); exact HO233.out) hb); have n5_ := Aside0.mk (Kd.R_below (by (with_reducible repeat (first | apply Kd.R_alloc | apply Kd.R_drewN | apply Kd.R_drew)); exact HO240.out) hb); have n6_ := Aside0.mk (Kd.R_below (by (with_reducible repeat (first | apply Kd.R_alloc | apply Kd.R_drewN | apply Kd.R_drew)); exact HO244.out) hb); have n7_ := Aside0.mk (Kd.R_below (by (with_reducible repeat (first | apply Kd.R_alloc | apply Kd.R_drewN | apply Kd.R_drew)); exact HO248.out) hb); have n8_ := Aside0.mk (blk_below (g := gb206) (o := .cells #[.int .i64 1, .int .i64 1, .int .i64 7, .int .i64 3, .int .i64 2, .int .i64 4, .int .i64 300] 39 (0, 0)) (by (with_reducible repeat (first | refine blk_drewN ?_ _ | refine blk_drew ?_ | refine blk_alloc ?_ _)); exact BK206.out) hb); have n9_ := Aside0.mk (Kd.C_below (by repeat (first | (with_reducible exact HR229.out) | (with_reducible refine Kd.C_alloc ?_ _) | (with_reducible refine Kd.C_drewN ?_ _) | (with_reducible refine Kd.C_drew ?_) | exact HR229.out)) hb); have n10_ := Aside0.mk (Kd.C_below (by repeat (first | (with_reducible exact HR237.out) | (with_reducible refine Kd.C_alloc ?_ _) | (with_reducible refine Kd.C_drewN ?_ _) | (with_reducible refine Kd.C_drew ?_) | exact HR237.out)) hb); have n11_ := Aside0.mk (Kd.C_below (by repeat (first | (with_reducible exact HR255.out) | (with_reducible refine Kd.C_alloc ?_ _) | (with_reducible refine Kd.C_drewN ?_ _) | (with_reducible refine Kd.C_drew ?_) | exact HR255.out)) hb); have n12_ := Aside0.mk (below_step (by repeat (first | (with_reducible first | exact HB.out | apply below_alloc | apply pw_below_drewN | apply below_drew1 | refine below_set ?_ GE206.out) | exact HB.out)) hb); clear HO209; clear HO212; clear HO216; clear HO225; clear HO233; clear HO240; clear HO244; clear HO248; clear BK206; clear HR229; clear HR237; clear HR255; clear HB; have HO209 := n0_; have HO212 := n1_; have HO216 := n2_; have HO225 := n3_; have HO233 := n4_; have HO240 := n5_; have HO244 := n6_; have HO248 := n7_; have BK206 := n8_; have HR229 := n9_; have HR237 := n10_; have HR255 := n11_; have HB := n12_; clear n0_ n1_ n2_ n3_ n4_ n5_ n6_ n7_ n8_ n9_ n10_ n11_ n12_; (try clear hb); (try clear hb2); (try clear hk); (try clear hi)) | (go_at_call 16; (with_reducible refine (journal_Last.calls k _ _ t213 t257 _ ?side1 ?side2 A29.out).mono ?_); (case side1 => repeat (first | exact (Kd.R_reads' HO216.out).2.2 | (with_reducible refine Kd.C_alloc ?_ _) | (with_reducible refine Kd.C_drewN ?_ _) | (with_reducible refine Kd.C_drew ?_))); (case side2 => exact (Kd.R_reads' HO216.out).2.1); rintro e w63 ⟨rfl, hb⟩; have n0_ := Aside0.mk (Kd.R_below (by (with_reducible repeat (first | apply Kd.R_alloc | apply Kd.R_drewN | apply Kd.R_drew)); exact HO209.out) hb); have n1_ := Aside0.mk (Kd.R_below (by (with_reducible repeat (first | apply Kd.R_alloc | apply Kd.R_drewN | apply Kd.R_drew)); exact HO212.out) hb); have n2_ := Aside0.mk (Kd.R_below (by (with_reducible repeat (first | apply Kd.R_alloc | apply Kd.R_drewN | apply Kd.R_drew)); exact HO216.out) hb); have n3_ := Aside0.mk (Kd.R_below (by (with_reducible repeat (first | apply Kd.R_alloc | apply Kd.R_drewN | apply Kd.R_drew)); exact HO225.out) hb); have n4_ := Aside0.mk (Kd.R_below (by (with_reducible repeat (first | apply Kd.R_alloc | apply Kd.R_drewN | apply Kd.R_drew)); exact HO233.out) hb); have n5_ := Aside0.mk (Kd.R_below (by (with_reducible repeat (first | apply Kd.R_alloc | apply Kd.R_drewN | apply Kd.R_drew)); exact HO240.out) hb); have n6_ := Aside0.mk (Kd.R_below (by (with_reducible repeat (first | apply Kd.R_alloc | apply Kd.R_drewN | apply Kd.R_drew)); exact HO244.out) hb); have n7_ := Aside0.mk (Kd.R_below (by (with_reducible repeat (first | apply Kd.R_alloc | apply Kd.R_drewN | apply Kd.R_drew)); exact HO248.out) hb); have n8_ := Aside0.mk (blk_below (g := gb206) (o := .cells #[.int .i64 1, .int .i64 1, .int .i64 7, .int .i64 3, .int .i64 2, .int .i64 4, .int .i64 300] 39 (0, 0)) (by (with_reducible repeat (first | refine blk_drewN ?_ _ | refine blk_drew ?_ | refine blk_alloc ?_ _)); exact BK206.out) hb); have n9_ := Aside0.mk (Kd.C_below (by repeat (first | (with_reducible exact HR229.out) | (with_reducible refine Kd.C_alloc ?_ _) | (with_reducible refine Kd.C_drewN ?_ _) | (with_reducible refine Kd.C_drew ?_) | exact HR229.out)) hb); have n10_ := Aside0.mk (Kd.C_below (by repeat (first | (with_reducible exact HR237.out) | (with_reducible refine Kd.C_alloc ?_ _) | (with_reducible refine Kd.C_drewN ?_ _) | (with_reducible refine Kd.C_drew ?_) | exact HR237.out)) hb); have n11_ := Aside0.mk (Kd.C_below (by repeat (first | (with_reducible exact HR255.out) | (with_reducible refine Kd.C_alloc ?_ _) | (with_reducible refine Kd.C_drewN ?_ _) | (with_reducible refine Kd.C_drew ?_) | exact HR255.out)) hb); have n12_ := Aside0.mk (below_step (by repeat (first | (with_reducible first | exact HB.out | apply below_alloc | apply pw_below_drewN | apply below_drew1 | refine below_set ?_ GE206.out) | exact HB.out)) hb); clear HO209; clear HO212; clear HO216; clear HO225; clear HO233; clear HO240; clear HO244; clear HO248; clear BK206; clear HR229; clear HR237; clear HR255; clear HB; have HO209 := n0_; have HO212 := n1_; have HO216 := n2_; have HO225 := n3_; have HO233 := n4_; have HO240 := n5_; have HO244 := n6_; have HO248 := n7_; have BK206 := n8_; have HR229 := n9_; have HR237 := n10_; have HR255 := n11_; have HB := n12_; clear n0_ n1_ n2_ n3_ n4_ n5_ n6_ n7_ n8_ n9_ n10_ n11_ n12_; (try clear hb); (try clear hb2); (try clear hk); (try clear hi); obtain ⟨Ao64, co64, eo64⟩ := Kd.R_slice HO209.out; subst eo64) | (go_at_call 23; (with_reducible refine (seal_Chain.calls k 0 _ _ y207 t258 _ ?side1 ?side2 A30.out).mono ?_); (case side1 => repeat (first | exact (Kd.R_reads' HO209.out).2.2 | (with_reducible refine Kd.C_alloc ?_ _) | (with_reducible refine Kd.C_drewN ?_ _) | (with_reducible refine Kd.C_drew ?_))); (case side2 => exact (Kd.R_reads' HO209.out).2.1); rintro e w65 ⟨rfl, hb⟩; have n0_ := Aside0.mk (Kd.R_below (by (with_reducible repeat (first | apply Kd.R_alloc | apply Kd.R_drewN | apply Kd.R_drew)); exact HO209.out) hb); have n1_ := Aside0.mk (Kd.R_below (by (with_reducible repeat (first | apply Kd.R_alloc | apply Kd.R_drewN | apply Kd.R_drew)); exact HO212.out) hb); have n2_ := Aside0.mk (Kd.R_below (by (with_reducible repeat (first | apply Kd.R_alloc | apply Kd.R_drewN | apply Kd.R_drew)); exact HO216.out) hb); have n3_ := Aside0.mk (Kd.R_below (by (with_reducible repeat (first | apply Kd.R_alloc | apply Kd.R_drewN | apply Kd.R_drew)); exact HO225.out) hb); have n4_ := Aside0.mk (Kd.R_below (by (with_reducible repeat (first | apply Kd.R_alloc | apply Kd.R_drewN | apply Kd.R_drew)); exact HO233.out) hb); have n5_ := Aside0.mk (Kd.R_below (by (with_reducible repeat (first | apply Kd.R_alloc | apply Kd.R_drewN | apply Kd.R_drew)); exact HO240.out) hb); have n6_ := Aside0.mk (Kd.R_below (by (with_reducible repeat (first | apply Kd.R_alloc | apply Kd.R_drewN | apply Kd.R_drew)); exact HO244.out) hb); have n7_ := Aside0.mk (Kd.R_below (by (with_reducible repeat (first | apply Kd.R_alloc | apply Kd.R_drewN | apply Kd.R_drew)); exact HO248.out) hb); have n8_ := Aside0.mk (blk_below (g := gb206) (o := .cells #[.int .i64 1, .int .i64 1, .int .i64 7, .int .i64 3, .int .i64 2, .int .i64 4, .int .i64 300] 39 (0, 0)) (by (with_reducible repeat (first | refine blk_drewN ?_ _ | refine blk_drew ?_ | refine blk_alloc ?_ _)); exact BK206.out) hb); have n9_ := Aside0.mk (Kd.C_below (by repeat (first | (with_reducible exact HR229.out) | (with_reducible refine Kd.C_alloc ?_ _) | (with_reducible refine Kd.C_drewN ?_ _) | (with_reducible refine Kd.C_drew ?_) | exact HR229.out)) hb); have n10_ := Aside0.mk (Kd.C_below (by repeat (first | (with_reducible exact HR237.out) | (with_reducible refine Kd.C_alloc ?_ _) | (with_reducible refine Kd.C_drewN ?_ _) | (with_reducible refine Kd.C_drew ?_) | exact HR237.out)) hb); have n11_ := Aside0.mk (Kd.C_below (by repeat (first | (with_reducible exact HR255.out) | (with_reducible refine Kd.C_alloc ?_ _) | (with_reducible refine Kd.C_drewN ?_ _) | (with_reducible refine Kd.C_drew ?_) | exact HR255.out)) hb); have n12_ := Aside0.mk (below_step (by repeat (first | (with_reducible first | exact HB.out | apply below_alloc | apply pw_below_drewN | apply below_drew1 | refine below_set ?_ GE206.out) | exact HB.out)) hb); clear HO209; clear HO212; clear HO216; clear HO225; clear HO233; clear HO240; clear HO244; clear HO248; clear BK206; clear HR229; clear HR237; clear HR255; clear HB; have HO209 := n0_; have HO212 := n1_; have HO216 := n2_; have HO225 := n3_; have HO233 := n4_; have HO240 := n5_; have HO244 := n6_; have HO248 := n7_; have BK206 := n8_; have HR229 := n9_; have HR237 := n10_; have HR255 := n11_; have HB := n12_; clear n0_ n1_ n2_ n3_ n4_ n5_ n6_ n7_ n8_ n9_ n10_ n11_ n12_; (try clear hb); (try clear hb2); (try clear hk); (try clear hi)))
                                    go_ret
                                    exact ⟨by first | rfl | (simp [errW_none, errW_some] <;> rfl) | (simp [*, errW_none, errW_some] <;> rfl), by repeat (first | (with_reducible first | exact HB.out | apply below_alloc | apply pw_below_drewN | apply below_drew1 | refine below_set ?_ GE206.out) | exact HB.out)⟩
                                · replace c25 := Bool.eq_false_iff.mpr c25
                                  subst c25
                                  have H1 : (none) = some r := by rw [if_neg (show ¬ (false = true) by decide)] at H; exact H
                                  clear H
                                  have H := H1
                                  clear H1
                                  exact absurd H (by simp)
                              · replace c23 := Bool.eq_false_iff.mpr c23
                                subst c23
                                have H1 : (none) = some r := by rw [if_neg (show ¬ (false = true) by decide)] at H; exact H
                                clear H
                                have H := H1
                                clear H1
                                exact absurd H (by simp)
                            · rw [if_neg c21] at H
                              exact absurd H (by simp)
                          · rw [if_neg c20] at H
                            exact absurd H (by simp)
                        · rw [if_neg c19] at H
                          exact absurd H (by simp)
                      · rw [if_neg c18] at H
                        exact absurd H (by simp)
                    · rw [if_neg c17] at H
                      exact absurd H (by simp)
                  · replace c16 := Bool.eq_false_iff.mpr c16
                    subst c16
                    have H1 : (none) = some r := by rw [if_neg (show ¬ (false = true) by decide)] at H; exact H
                    clear H
                    have H := H1
                    clear H1
                    exact absurd H (by simp)
                · rw [if_neg c10] at H
                  exact absurd H (by simp)
              · rw [if_neg c8] at H
                exact absurd H (by simp)
            · rw [if_neg c7] at H
              exact absurd H (by simp)
          · rw [if_neg c6] at H
            exact absurd H (by simp)
        · rw [if_neg c5] at H
          exact absurd H (by simp)
      · rw [if_neg c4] at H
        exact absurd H (by simp)
    · rw [if_neg c3] at H
      exact absurd H (by simp)
  · rw [if_neg c2] at H
    exact absurd H (by simp)

end Go.Proofs.Ytohjkgboehnamaa.Q
