-- Printed by a program of this session (wip/pp), out of Lean's print of the loaded functions, and joined by another (merge.py). Lean checks it.
import Derived.Test.YtdlinojgmllkoaaQmMediaRight1
namespace Go.Proofs.Ytdlinojgmllkoaa.Q
open Go.RowKit Go.Proofs.YtdlinojgmllkoaaW.PrintWords Go.Proofs.YtdlinojgmllkoaaW.PrintLast Go.Proofs.YtdlinojgmllkoaaW.PrintMore
attribute [local go_sem] max2_int min2_int max_two min_two max_three min_three max_four min_four   -- for this text's walks alone
set_option linter.unusedVariables false
set_option linter.unusedSimpArgs false

attribute [local irreducible] Calls media_Body.f media_Check.f media_Decode.f media_Encode.f media_New.f media_Right.f skiarearef03_Same.f
attribute [local go_sem high] eqA24
def eight : Array Value := #[.int .u8 5, .int .u8 0, .int .u8 3, .int .u8 0, .int .u8 10, .int .u8 0, .int .u8 0, .int .u8 0]
theorem eight_C (W : World) : Kd.C (Kd.int .u8) (W.alloc (.cells eight 5)) (some ⟨W.heap.size, 0, none⟩) ([5, 0, 3, 0, 10, 0, 0, 0] : List Int).length [5, 0, 3, 0, 10, 0, 0, 0] := by
  refine Kd.C_of_reads (d := (0 : Int)) (h1 := fun _ => rfl) ⟨rfl, by decide, fun _ => ⟨_, rfl, fun j hj => ?_⟩⟩
  have hc : ∀ i, (W.alloc (.cells eight 5)).cell? ⟨W.heap.size, i, none⟩ = eight[i]? := fun i => cell_of_row _ W.heap.size i eight 5 (0, 0) (heap_alloc_new W _)
  have hadd : (⟨W.heap.size, 0, none⟩ : Addr).add j = ⟨W.heap.size, j, none⟩ := by unfold Addr.add; split <;> simp_all
  rw [hadd, hc]
  have h8 : j < 8 := hj
  have : j = 0 ∨ j = 1 ∨ j = 2 ∨ j = 3 ∨ j = 4 ∨ j = 5 ∨ j = 6 ∨ j = 7 := by omega
  rcases this with rfl | rfl | rfl | rfl | rfl | rfl | rfl | rfl <;> rfl
/-! ### skiarealaw25_alive: function 10 -/
def skiarealaw25_alive.f (k : Nat)  : Option (Bool) := (media_New.f k 7 5 3 10).bind fun bt225 => (if bt225.2.2.2.2.2.2.2.2.2 = 0 then ((media_Encode.f k bt225.1 bt225.2.1 bt225.2.2.1 bt225.2.2.2.1 bt225.2.2.2.2.1 bt225.2.2.2.2.2.1 bt225.2.2.2.2.2.2.1 bt225.2.2.2.2.2.2.2.1 bt225.2.2.2.2.2.2.2.2.1).bind fun t237 => ((media_Decode.f k t237).bind fun bt240 => ((some (([] : List Int) : List Int)).bind fun y251 => (if y251.length + t237.length < 140737488355328 then ((some (y251 ++ t237 : List Int)).bind fun y254 => (if y254.length < 140737488355328 then ((media_Decode.f k (y254 ++ [0])).bind fun bt260 => (if bt225.1 = 5 then (if bt225.2.1 = 0 then (if bt225.2.2.1 = 3 then (if bt225.2.2.2.1 = (-1) then (if bt225.2.2.2.2.1 = 10 then (if bt225.2.2.2.2.2.1 = (-1) then (if bt225.2.2.2.2.2.2.1 = 0 then (if bt225.2.2.2.2.2.2.2.1 = (-1) then ((media_Body.f k bt225.1 bt225.2.1 bt225.2.2.1 bt225.2.2.2.1 bt225.2.2.2.2.1 bt225.2.2.2.2.2.1 bt225.2.2.2.2.2.2.1 bt225.2.2.2.2.2.2.2.1 bt225.2.2.2.2.2.2.2.2.1).bind fun t273 => ((skiarearef03_Same.f t273 (([5, 0, 3, 0, 10, 0, 0, 0] : List Int))).bind fun t279 => (if t279 = true then (if (t237.length : Int) = 21 then (if 0 < (t237.length : Int) then (if (rd t237 0) = 16 then (if (bt240.1 == bt225.1 && (bt240.2.1 == bt225.2.1 && (bt240.2.2.1 == bt225.2.2.1 && (bt240.2.2.2.1 == bt225.2.2.2.1 && (bt240.2.2.2.2.1 == bt225.2.2.2.2.1 && (bt240.2.2.2.2.2.1 == bt225.2.2.2.2.2.1 && (bt240.2.2.2.2.2.2.1 == bt225.2.2.2.2.2.2.1 && (bt240.2.2.2.2.2.2.2.1 == bt225.2.2.2.2.2.2.2.1 && (bt240.2.2.2.2.2.2.2.2.1 == bt225.2.2.2.2.2.2.2.2.1))))))))) = true then (if bt240.2.2.2.2.2.2.2.2.2 = 0 then (if bt260.2.2.2.2.2.2.2.2.2 = 4 then ((media_Check.f k 7 bt225.1 bt225.2.1 bt225.2.2.1 bt225.2.2.2.1 bt225.2.2.2.2.1 bt225.2.2.2.2.2.1 bt225.2.2.2.2.2.2.1 bt225.2.2.2.2.2.2.2.1 bt225.2.2.2.2.2.2.2.2.1).bind fun t281 => (if t281 = true then ((media_Check.f k 7 bt225.1 bt225.2.1 bt225.2.2.1 bt225.2.2.2.1 9 bt225.2.2.2.2.2.1 bt225.2.2.2.2.2.2.1 bt225.2.2.2.2.2.2.2.1 bt225.2.2.2.2.2.2.2.2.1).bind fun t282 => (if t282 = true then (none) else ((media_Right.f k bt225.1 bt225.2.1 bt225.2.2.1 bt225.2.2.2.1 bt225.2.2.2.2.1 bt225.2.2.2.2.2.1 bt225.2.2.2.2.2.2.1 100 bt225.2.2.2.2.2.2.2.2.1).bind fun t283 => (if t283 = 10 then ((media_Right.f k bt225.1 bt225.2.1 bt225.2.2.1 101 bt225.2.2.2.2.1 bt225.2.2.2.2.2.1 bt225.2.2.2.2.2.2.1 100 bt225.2.2.2.2.2.2.2.2.1).bind fun t284 => (some (t284 == 10))) else (none))))) else (none))) else (none)) else (none)) else (none)) else (none)) else (none)) else (none)) else (none)))) else (none)) else (none)) else (none)) else (none)) else (none)) else (none)) else (none)) else (none))) else (none))) else (none))))) else (none))
theorem skiarealaw25_alive.mono : ∀ k, LeO (skiarealaw25_alive.f k ) (skiarealaw25_alive.f (k + 1) ) := by
  intro  k
  unfold skiarealaw25_alive.f
  repeat' first
      | (with_reducible exact media_Body.mono _ _ _ _ _ _ _ _ _ _)
      | (with_reducible exact media_Check.mono _ _ _ _ _ _ _ _ _ _ _)
      | (with_reducible exact media_Decode.mono _ _)
      | (with_reducible exact media_Encode.mono _ _ _ _ _ _ _ _ _ _)
      | (with_reducible exact media_New.mono _ _ _ _ _)
      | (with_reducible exact media_Right.mono _ _ _ _ _ _ _ _ _ _)
      | (with_reducible exact LeO.refl _)
      | (with_reducible exact LeO.none _)
      | (with_reducible refine LeO.ite ?_ ?_)
      | (with_reducible refine LeO.bind ?_ (fun _ => ?_))
      | exact media_Body.mono _ _ _ _ _ _ _ _ _ _
      | exact media_Check.mono _ _ _ _ _ _ _ _ _ _ _
      | exact media_Decode.mono _ _
      | exact media_Encode.mono _ _ _ _ _ _ _ _ _ _
      | exact media_New.mono _ _ _ _ _
      | exact media_Right.mono _ _ _ _ _ _ _ _ _ _
      | exact LeO.none _
      | refine LeO.ite ?_ ?_
      | refine LeO.bind ?_ (fun _ => ?_)
set_option maxHeartbeats 8000000 in
set_option maxRecDepth 100000 in
theorem skiarealaw25_alive.calls (k : Nat)  (r : Bool) (w : World) (h : skiarealaw25_alive.f k  = some r) :
    Calls Try.prog 10 #[] w fun e w' => e = .returned (.bool r) ∧ Below w.heap.size w w' := by
  have hu24 := Try.underlying24
  have HB := Aside0.mk (Below.refl w.heap.size w)
  have H : ((media_New.f k 7 5 3 10).bind fun bt225 => (if bt225.2.2.2.2.2.2.2.2.2 = 0 then ((media_Encode.f k bt225.1 bt225.2.1 bt225.2.2.1 bt225.2.2.2.1 bt225.2.2.2.2.1 bt225.2.2.2.2.2.1 bt225.2.2.2.2.2.2.1 bt225.2.2.2.2.2.2.2.1 bt225.2.2.2.2.2.2.2.2.1).bind fun t237 => ((media_Decode.f k t237).bind fun bt240 => ((some (([] : List Int) : List Int)).bind fun y251 => (if y251.length + t237.length < 140737488355328 then ((some (y251 ++ t237 : List Int)).bind fun y254 => (if y254.length < 140737488355328 then ((media_Decode.f k (y254 ++ [0])).bind fun bt260 => (if bt225.1 = 5 then (if bt225.2.1 = 0 then (if bt225.2.2.1 = 3 then (if bt225.2.2.2.1 = (-1) then (if bt225.2.2.2.2.1 = 10 then (if bt225.2.2.2.2.2.1 = (-1) then (if bt225.2.2.2.2.2.2.1 = 0 then (if bt225.2.2.2.2.2.2.2.1 = (-1) then ((media_Body.f k bt225.1 bt225.2.1 bt225.2.2.1 bt225.2.2.2.1 bt225.2.2.2.2.1 bt225.2.2.2.2.2.1 bt225.2.2.2.2.2.2.1 bt225.2.2.2.2.2.2.2.1 bt225.2.2.2.2.2.2.2.2.1).bind fun t273 => ((skiarearef03_Same.f t273 (([5, 0, 3, 0, 10, 0, 0, 0] : List Int))).bind fun t279 => (if t279 = true then (if (t237.length : Int) = 21 then (if 0 < (t237.length : Int) then (if (rd t237 0) = 16 then (if (bt240.1 == bt225.1 && (bt240.2.1 == bt225.2.1 && (bt240.2.2.1 == bt225.2.2.1 && (bt240.2.2.2.1 == bt225.2.2.2.1 && (bt240.2.2.2.2.1 == bt225.2.2.2.2.1 && (bt240.2.2.2.2.2.1 == bt225.2.2.2.2.2.1 && (bt240.2.2.2.2.2.2.1 == bt225.2.2.2.2.2.2.1 && (bt240.2.2.2.2.2.2.2.1 == bt225.2.2.2.2.2.2.2.1 && (bt240.2.2.2.2.2.2.2.2.1 == bt225.2.2.2.2.2.2.2.2.1))))))))) = true then (if bt240.2.2.2.2.2.2.2.2.2 = 0 then (if bt260.2.2.2.2.2.2.2.2.2 = 4 then ((media_Check.f k 7 bt225.1 bt225.2.1 bt225.2.2.1 bt225.2.2.2.1 bt225.2.2.2.2.1 bt225.2.2.2.2.2.1 bt225.2.2.2.2.2.2.1 bt225.2.2.2.2.2.2.2.1 bt225.2.2.2.2.2.2.2.2.1).bind fun t281 => (if t281 = true then ((media_Check.f k 7 bt225.1 bt225.2.1 bt225.2.2.1 bt225.2.2.2.1 9 bt225.2.2.2.2.2.1 bt225.2.2.2.2.2.2.1 bt225.2.2.2.2.2.2.2.1 bt225.2.2.2.2.2.2.2.2.1).bind fun t282 => (if t282 = true then (none) else ((media_Right.f k bt225.1 bt225.2.1 bt225.2.2.1 bt225.2.2.2.1 bt225.2.2.2.2.1 bt225.2.2.2.2.2.1 bt225.2.2.2.2.2.2.1 100 bt225.2.2.2.2.2.2.2.2.1).bind fun t283 => (if t283 = 10 then ((media_Right.f k bt225.1 bt225.2.1 bt225.2.2.1 101 bt225.2.2.2.2.1 bt225.2.2.2.2.2.1 bt225.2.2.2.2.2.2.1 100 bt225.2.2.2.2.2.2.2.2.1).bind fun t284 => (some (t284 == 10))) else (none))))) else (none))) else (none)) else (none)) else (none)) else (none)) else (none)) else (none)) else (none)))) else (none)) else (none)) else (none)) else (none)) else (none)) else (none)) else (none)) else (none))) else (none))) else (none))))) else (none))) = some r := h
  clear h
  replace H := Option.bind_eq_some_iff.mp H
  obtain ⟨⟨t225, t226, t227, t228, t229, t230, t231, t232, t233, t234⟩, A10, H⟩ := H
  replace H : (if t234 = 0 then ((media_Encode.f k t225 t226 t227 t228 t229 t230 t231 t232 t233).bind fun t237 => ((media_Decode.f k t237).bind fun bt240 => ((some (([] : List Int) : List Int)).bind fun y251 => (if y251.length + t237.length < 140737488355328 then ((some (y251 ++ t237 : List Int)).bind fun y254 => (if y254.length < 140737488355328 then ((media_Decode.f k (y254 ++ [0])).bind fun bt260 => (if t225 = 5 then (if t226 = 0 then (if t227 = 3 then (if t228 = (-1) then (if t229 = 10 then (if t230 = (-1) then (if t231 = 0 then (if t232 = (-1) then ((media_Body.f k t225 t226 t227 t228 t229 t230 t231 t232 t233).bind fun t273 => ((skiarearef03_Same.f t273 (([5, 0, 3, 0, 10, 0, 0, 0] : List Int))).bind fun t279 => (if t279 = true then (if (t237.length : Int) = 21 then (if 0 < (t237.length : Int) then (if (rd t237 0) = 16 then (if (bt240.1 == t225 && (bt240.2.1 == t226 && (bt240.2.2.1 == t227 && (bt240.2.2.2.1 == t228 && (bt240.2.2.2.2.1 == t229 && (bt240.2.2.2.2.2.1 == t230 && (bt240.2.2.2.2.2.2.1 == t231 && (bt240.2.2.2.2.2.2.2.1 == t232 && (bt240.2.2.2.2.2.2.2.2.1 == t233))))))))) = true then (if bt240.2.2.2.2.2.2.2.2.2 = 0 then (if bt260.2.2.2.2.2.2.2.2.2 = 4 then ((media_Check.f k 7 t225 t226 t227 t228 t229 t230 t231 t232 t233).bind fun t281 => (if t281 = true then ((media_Check.f k 7 t225 t226 t227 t228 9 t230 t231 t232 t233).bind fun t282 => (if t282 = true then (none) else ((media_Right.f k t225 t226 t227 t228 t229 t230 t231 100 t233).bind fun t283 => (if t283 = 10 then ((media_Right.f k t225 t226 t227 101 t229 t230 t231 100 t233).bind fun t284 => (some (t284 == 10))) else (none))))) else (none))) else (none)) else (none)) else (none)) else (none)) else (none)) else (none)) else (none)))) else (none)) else (none)) else (none)) else (none)) else (none)) else (none)) else (none)) else (none))) else (none))) else (none))))) else (none)) = some r := H
  have A1 := Aside0.mk A10
  clear A10
  by_cases c2 : t234 = 0
  · rw [if_pos c2] at H
    have c2b0 : (t234 == 0) = true := beq_iff_eq.mpr c2
    have c2b1 : (t234 != 0) = false := bne_eq_false_iff_eq.mpr c2
    clear c2
    replace H := Option.bind_eq_some_iff.mp H
    obtain ⟨t237, A30, H⟩ := H
    replace H : ((media_Decode.f k t237).bind fun bt240 => ((some (([] : List Int) : List Int)).bind fun y251 => (if y251.length + t237.length < 140737488355328 then ((some (y251 ++ t237 : List Int)).bind fun y254 => (if y254.length < 140737488355328 then ((media_Decode.f k (y254 ++ [0])).bind fun bt260 => (if t225 = 5 then (if t226 = 0 then (if t227 = 3 then (if t228 = (-1) then (if t229 = 10 then (if t230 = (-1) then (if t231 = 0 then (if t232 = (-1) then ((media_Body.f k t225 t226 t227 t228 t229 t230 t231 t232 t233).bind fun t273 => ((skiarearef03_Same.f t273 (([5, 0, 3, 0, 10, 0, 0, 0] : List Int))).bind fun t279 => (if t279 = true then (if (t237.length : Int) = 21 then (if 0 < (t237.length : Int) then (if (rd t237 0) = 16 then (if (bt240.1 == t225 && (bt240.2.1 == t226 && (bt240.2.2.1 == t227 && (bt240.2.2.2.1 == t228 && (bt240.2.2.2.2.1 == t229 && (bt240.2.2.2.2.2.1 == t230 && (bt240.2.2.2.2.2.2.1 == t231 && (bt240.2.2.2.2.2.2.2.1 == t232 && (bt240.2.2.2.2.2.2.2.2.1 == t233))))))))) = true then (if bt240.2.2.2.2.2.2.2.2.2 = 0 then (if bt260.2.2.2.2.2.2.2.2.2 = 4 then ((media_Check.f k 7 t225 t226 t227 t228 t229 t230 t231 t232 t233).bind fun t281 => (if t281 = true then ((media_Check.f k 7 t225 t226 t227 t228 9 t230 t231 t232 t233).bind fun t282 => (if t282 = true then (none) else ((media_Right.f k t225 t226 t227 t228 t229 t230 t231 100 t233).bind fun t283 => (if t283 = 10 then ((media_Right.f k t225 t226 t227 101 t229 t230 t231 100 t233).bind fun t284 => (some (t284 == 10))) else (none))))) else (none))) else (none)) else (none)) else (none)) else (none)) else (none)) else (none)) else (none)))) else (none)) else (none)) else (none)) else (none)) else (none)) else (none)) else (none)) else (none))) else (none))) else (none)))) = some r := H
    have A3 := Aside0.mk A30
    clear A30
    replace H := Option.bind_eq_some_iff.mp H
    obtain ⟨⟨t240, t241, t242, t243, t244, t245, t246, t247, t248, t249⟩, A40, H⟩ := H
    replace H : ((some (([] : List Int) : List Int)).bind fun y251 => (if y251.length + t237.length < 140737488355328 then ((some (y251 ++ t237 : List Int)).bind fun y254 => (if y254.length < 140737488355328 then ((media_Decode.f k (y254 ++ [0])).bind fun bt260 => (if t225 = 5 then (if t226 = 0 then (if t227 = 3 then (if t228 = (-1) then (if t229 = 10 then (if t230 = (-1) then (if t231 = 0 then (if t232 = (-1) then ((media_Body.f k t225 t226 t227 t228 t229 t230 t231 t232 t233).bind fun t273 => ((skiarearef03_Same.f t273 (([5, 0, 3, 0, 10, 0, 0, 0] : List Int))).bind fun t279 => (if t279 = true then (if (t237.length : Int) = 21 then (if 0 < (t237.length : Int) then (if (rd t237 0) = 16 then (if (t240 == t225 && (t241 == t226 && (t242 == t227 && (t243 == t228 && (t244 == t229 && (t245 == t230 && (t246 == t231 && (t247 == t232 && (t248 == t233))))))))) = true then (if t249 = 0 then (if bt260.2.2.2.2.2.2.2.2.2 = 4 then ((media_Check.f k 7 t225 t226 t227 t228 t229 t230 t231 t232 t233).bind fun t281 => (if t281 = true then ((media_Check.f k 7 t225 t226 t227 t228 9 t230 t231 t232 t233).bind fun t282 => (if t282 = true then (none) else ((media_Right.f k t225 t226 t227 t228 t229 t230 t231 100 t233).bind fun t283 => (if t283 = 10 then ((media_Right.f k t225 t226 t227 101 t229 t230 t231 100 t233).bind fun t284 => (some (t284 == 10))) else (none))))) else (none))) else (none)) else (none)) else (none)) else (none)) else (none)) else (none)) else (none)))) else (none)) else (none)) else (none)) else (none)) else (none)) else (none)) else (none)) else (none))) else (none))) else (none))) = some r := H
    have A4 := Aside0.mk A40
    clear A40
    obtain ⟨y251, hy251⟩ : ∃ y_ : List Int, y_ = (([] : List Int)) := ⟨_, rfl⟩
    replace H : (if y251.length + t237.length < 140737488355328 then ((some (y251 ++ t237 : List Int)).bind fun y254 => (if y254.length < 140737488355328 then ((media_Decode.f k (y254 ++ [0])).bind fun bt260 => (if t225 = 5 then (if t226 = 0 then (if t227 = 3 then (if t228 = (-1) then (if t229 = 10 then (if t230 = (-1) then (if t231 = 0 then (if t232 = (-1) then ((media_Body.f k t225 t226 t227 t228 t229 t230 t231 t232 t233).bind fun t273 => ((skiarearef03_Same.f t273 (([5, 0, 3, 0, 10, 0, 0, 0] : List Int))).bind fun t279 => (if t279 = true then (if (t237.length : Int) = 21 then (if 0 < (t237.length : Int) then (if (rd t237 0) = 16 then (if (t240 == t225 && (t241 == t226 && (t242 == t227 && (t243 == t228 && (t244 == t229 && (t245 == t230 && (t246 == t231 && (t247 == t232 && (t248 == t233))))))))) = true then (if t249 = 0 then (if bt260.2.2.2.2.2.2.2.2.2 = 4 then ((media_Check.f k 7 t225 t226 t227 t228 t229 t230 t231 t232 t233).bind fun t281 => (if t281 = true then ((media_Check.f k 7 t225 t226 t227 t228 9 t230 t231 t232 t233).bind fun t282 => (if t282 = true then (none) else ((media_Right.f k t225 t226 t227 t228 t229 t230 t231 100 t233).bind fun t283 => (if t283 = 10 then ((media_Right.f k t225 t226 t227 101 t229 t230 t231 100 t233).bind fun t284 => (some (t284 == 10))) else (none))))) else (none))) else (none)) else (none)) else (none)) else (none)) else (none)) else (none)) else (none)))) else (none)) else (none)) else (none)) else (none)) else (none)) else (none)) else (none)) else (none))) else (none))) else (none)) = some r := by first | (rw [hy251]; with_reducible exact H) | (have H2_ := (Option.bind_some _ _).symm.trans H; rw [hy251]; with_reducible exact H2_) | (have H2_ := (Option.bind_some _ _).symm.trans H; with_reducible exact H2_) | with_reducible exact H | (rw [hy251]; exact H) | exact H
    have Ny251 := Aside0.mk hy251
    clear hy251
    by_cases c5 : y251.length + t237.length < 140737488355328
    · rw [if_pos c5] at H
      have LMc5 := Aside0.mk c5
      clear c5
      obtain ⟨y254, hy254⟩ : ∃ y_ : List Int, y_ = (y251 ++ t237) := ⟨_, rfl⟩
      replace H : (if y254.length < 140737488355328 then ((media_Decode.f k (y254 ++ [0])).bind fun bt260 => (if t225 = 5 then (if t226 = 0 then (if t227 = 3 then (if t228 = (-1) then (if t229 = 10 then (if t230 = (-1) then (if t231 = 0 then (if t232 = (-1) then ((media_Body.f k t225 t226 t227 t228 t229 t230 t231 t232 t233).bind fun t273 => ((skiarearef03_Same.f t273 (([5, 0, 3, 0, 10, 0, 0, 0] : List Int))).bind fun t279 => (if t279 = true then (if (t237.length : Int) = 21 then (if 0 < (t237.length : Int) then (if (rd t237 0) = 16 then (if (t240 == t225 && (t241 == t226 && (t242 == t227 && (t243 == t228 && (t244 == t229 && (t245 == t230 && (t246 == t231 && (t247 == t232 && (t248 == t233))))))))) = true then (if t249 = 0 then (if bt260.2.2.2.2.2.2.2.2.2 = 4 then ((media_Check.f k 7 t225 t226 t227 t228 t229 t230 t231 t232 t233).bind fun t281 => (if t281 = true then ((media_Check.f k 7 t225 t226 t227 t228 9 t230 t231 t232 t233).bind fun t282 => (if t282 = true then (none) else ((media_Right.f k t225 t226 t227 t228 t229 t230 t231 100 t233).bind fun t283 => (if t283 = 10 then ((media_Right.f k t225 t226 t227 101 t229 t230 t231 100 t233).bind fun t284 => (some (t284 == 10))) else (none))))) else (none))) else (none)) else (none)) else (none)) else (none)) else (none)) else (none)) else (none)))) else (none)) else (none)) else (none)) else (none)) else (none)) else (none)) else (none)) else (none))) else (none)) = some r := by first | (rw [hy254]; with_reducible exact H) | (have H2_ := (Option.bind_some _ _).symm.trans H; rw [hy254]; with_reducible exact H2_) | (have H2_ := (Option.bind_some _ _).symm.trans H; with_reducible exact H2_) | with_reducible exact H | (rw [hy254]; exact H) | exact H
      have Ny254 := Aside0.mk hy254
      clear hy254
      by_cases c6 : y254.length < 140737488355328
      · rw [if_pos c6] at H
        have LMc6 := Aside0.mk c6
        clear c6
        obtain ⟨y257, hy257⟩ : ∃ y_ : List Int, y_ = (y254 ++ [0]) := ⟨_, rfl⟩
        replace H : ((media_Decode.f k y257).bind fun bt260 => (if t225 = 5 then (if t226 = 0 then (if t227 = 3 then (if t228 = (-1) then (if t229 = 10 then (if t230 = (-1) then (if t231 = 0 then (if t232 = (-1) then ((media_Body.f k t225 t226 t227 t228 t229 t230 t231 t232 t233).bind fun t273 => ((skiarearef03_Same.f t273 (([5, 0, 3, 0, 10, 0, 0, 0] : List Int))).bind fun t279 => (if t279 = true then (if (t237.length : Int) = 21 then (if 0 < (t237.length : Int) then (if (rd t237 0) = 16 then (if (t240 == t225 && (t241 == t226 && (t242 == t227 && (t243 == t228 && (t244 == t229 && (t245 == t230 && (t246 == t231 && (t247 == t232 && (t248 == t233))))))))) = true then (if t249 = 0 then (if bt260.2.2.2.2.2.2.2.2.2 = 4 then ((media_Check.f k 7 t225 t226 t227 t228 t229 t230 t231 t232 t233).bind fun t281 => (if t281 = true then ((media_Check.f k 7 t225 t226 t227 t228 9 t230 t231 t232 t233).bind fun t282 => (if t282 = true then (none) else ((media_Right.f k t225 t226 t227 t228 t229 t230 t231 100 t233).bind fun t283 => (if t283 = 10 then ((media_Right.f k t225 t226 t227 101 t229 t230 t231 100 t233).bind fun t284 => (some (t284 == 10))) else (none))))) else (none))) else (none)) else (none)) else (none)) else (none)) else (none)) else (none)) else (none)))) else (none)) else (none)) else (none)) else (none)) else (none)) else (none)) else (none)) else (none))) = some r := by first | (rw [hy257]; with_reducible exact H) | (have H2_ := (Option.bind_some _ _).symm.trans H; rw [hy257]; with_reducible exact H2_) | (have H2_ := (Option.bind_some _ _).symm.trans H; with_reducible exact H2_) | with_reducible exact H | (rw [hy257]; exact H) | exact H
        have Ny257 := Aside0.mk hy257
        clear hy257
        replace H := Option.bind_eq_some_iff.mp H
        obtain ⟨⟨t260, t261, t262, t263, t264, t265, t266, t267, t268, t269⟩, A70, H⟩ := H
        replace H : (if t225 = 5 then (if t226 = 0 then (if t227 = 3 then (if t228 = (-1) then (if t229 = 10 then (if t230 = (-1) then (if t231 = 0 then (if t232 = (-1) then ((media_Body.f k t225 t226 t227 t228 t229 t230 t231 t232 t233).bind fun t273 => ((skiarearef03_Same.f t273 (([5, 0, 3, 0, 10, 0, 0, 0] : List Int))).bind fun t279 => (if t279 = true then (if (t237.length : Int) = 21 then (if 0 < (t237.length : Int) then (if (rd t237 0) = 16 then (if (t240 == t225 && (t241 == t226 && (t242 == t227 && (t243 == t228 && (t244 == t229 && (t245 == t230 && (t246 == t231 && (t247 == t232 && (t248 == t233))))))))) = true then (if t249 = 0 then (if t269 = 4 then ((media_Check.f k 7 t225 t226 t227 t228 t229 t230 t231 t232 t233).bind fun t281 => (if t281 = true then ((media_Check.f k 7 t225 t226 t227 t228 9 t230 t231 t232 t233).bind fun t282 => (if t282 = true then (none) else ((media_Right.f k t225 t226 t227 t228 t229 t230 t231 100 t233).bind fun t283 => (if t283 = 10 then ((media_Right.f k t225 t226 t227 101 t229 t230 t231 100 t233).bind fun t284 => (some (t284 == 10))) else (none))))) else (none))) else (none)) else (none)) else (none)) else (none)) else (none)) else (none)) else (none)))) else (none)) else (none)) else (none)) else (none)) else (none)) else (none)) else (none)) else (none)) = some r := H
        have A7 := Aside0.mk A70
        clear A70
        by_cases c8 : t225 = 5
        · rw [if_pos c8] at H
          have c8b0 : (t225 == 5) = true := beq_iff_eq.mpr c8
          have c8b1 : (t225 != 5) = false := bne_eq_false_iff_eq.mpr c8
          clear c8
          by_cases c9 : t226 = 0
          · rw [if_pos c9] at H
            have c9b0 : (t226 == 0) = true := beq_iff_eq.mpr c9
            have c9b1 : (t226 != 0) = false := bne_eq_false_iff_eq.mpr c9
            clear c9
            by_cases c10 : t227 = 3
            · rw [if_pos c10] at H
              have c10b0 : (t227 == 3) = true := beq_iff_eq.mpr c10
              have c10b1 : (t227 != 3) = false := bne_eq_false_iff_eq.mpr c10
              clear c10
              by_cases c11 : t228 = (-1)
              · rw [if_pos c11] at H
                have c11b0 : (t228 == (-1)) = true := beq_iff_eq.mpr c11
                have c11b1 : (t228 != (-1)) = false := bne_eq_false_iff_eq.mpr c11
                clear c11
                by_cases c12 : t229 = 10
                · rw [if_pos c12] at H
                  have c12b0 : (t229 == 10) = true := beq_iff_eq.mpr c12
                  have c12b1 : (t229 != 10) = false := bne_eq_false_iff_eq.mpr c12
                  clear c12
                  by_cases c13 : t230 = (-1)
                  · rw [if_pos c13] at H
                    have c13b0 : (t230 == (-1)) = true := beq_iff_eq.mpr c13
                    have c13b1 : (t230 != (-1)) = false := bne_eq_false_iff_eq.mpr c13
                    clear c13
                    by_cases c14 : t231 = 0
                    · rw [if_pos c14] at H
                      have c14b0 : (t231 == 0) = true := beq_iff_eq.mpr c14
                      have c14b1 : (t231 != 0) = false := bne_eq_false_iff_eq.mpr c14
                      clear c14
                      by_cases c15 : t232 = (-1)
                      · rw [if_pos c15] at H
                        have c15b0 : (t232 == (-1)) = true := beq_iff_eq.mpr c15
                        have c15b1 : (t232 != (-1)) = false := bne_eq_false_iff_eq.mpr c15
                        clear c15
                        replace H := Option.bind_eq_some_iff.mp H
                        obtain ⟨t273, A160, H⟩ := H
                        replace H : ((skiarearef03_Same.f t273 (([5, 0, 3, 0, 10, 0, 0, 0] : List Int))).bind fun t279 => (if t279 = true then (if (t237.length : Int) = 21 then (if 0 < (t237.length : Int) then (if (rd t237 0) = 16 then (if (t240 == t225 && (t241 == t226 && (t242 == t227 && (t243 == t228 && (t244 == t229 && (t245 == t230 && (t246 == t231 && (t247 == t232 && (t248 == t233))))))))) = true then (if t249 = 0 then (if t269 = 4 then ((media_Check.f k 7 t225 t226 t227 t228 t229 t230 t231 t232 t233).bind fun t281 => (if t281 = true then ((media_Check.f k 7 t225 t226 t227 t228 9 t230 t231 t232 t233).bind fun t282 => (if t282 = true then (none) else ((media_Right.f k t225 t226 t227 t228 t229 t230 t231 100 t233).bind fun t283 => (if t283 = 10 then ((media_Right.f k t225 t226 t227 101 t229 t230 t231 100 t233).bind fun t284 => (some (t284 == 10))) else (none))))) else (none))) else (none)) else (none)) else (none)) else (none)) else (none)) else (none)) else (none))) = some r := H
                        have A16 := Aside0.mk A160
                        clear A160
                        obtain ⟨y276, hy276⟩ : ∃ y_ : List Int, y_ = (([5, 0, 3, 0, 10, 0, 0, 0] : List Int)) := ⟨_, rfl⟩
                        replace H : ((skiarearef03_Same.f t273 y276).bind fun t279 => (if t279 = true then (if (t237.length : Int) = 21 then (if 0 < (t237.length : Int) then (if (rd t237 0) = 16 then (if (t240 == t225 && (t241 == t226 && (t242 == t227 && (t243 == t228 && (t244 == t229 && (t245 == t230 && (t246 == t231 && (t247 == t232 && (t248 == t233))))))))) = true then (if t249 = 0 then (if t269 = 4 then ((media_Check.f k 7 t225 t226 t227 t228 t229 t230 t231 t232 t233).bind fun t281 => (if t281 = true then ((media_Check.f k 7 t225 t226 t227 t228 9 t230 t231 t232 t233).bind fun t282 => (if t282 = true then (none) else ((media_Right.f k t225 t226 t227 t228 t229 t230 t231 100 t233).bind fun t283 => (if t283 = 10 then ((media_Right.f k t225 t226 t227 101 t229 t230 t231 100 t233).bind fun t284 => (some (t284 == 10))) else (none))))) else (none))) else (none)) else (none)) else (none)) else (none)) else (none)) else (none)) else (none))) = some r := by first | (rw [hy276]; with_reducible exact H) | (have H2_ := (Option.bind_some _ _).symm.trans H; rw [hy276]; with_reducible exact H2_) | (have H2_ := (Option.bind_some _ _).symm.trans H; with_reducible exact H2_) | with_reducible exact H | (rw [hy276]; exact H) | exact H
                        have Ny276 := Aside0.mk hy276
                        clear hy276
                        replace H := Option.bind_eq_some_iff.mp H
                        obtain ⟨t279, A170, H⟩ := H
                        replace H : (if t279 = true then (if (t237.length : Int) = 21 then (if 0 < (t237.length : Int) then (if (rd t237 0) = 16 then (if (t240 == t225 && (t241 == t226 && (t242 == t227 && (t243 == t228 && (t244 == t229 && (t245 == t230 && (t246 == t231 && (t247 == t232 && (t248 == t233))))))))) = true then (if t249 = 0 then (if t269 = 4 then ((media_Check.f k 7 t225 t226 t227 t228 t229 t230 t231 t232 t233).bind fun t281 => (if t281 = true then ((media_Check.f k 7 t225 t226 t227 t228 9 t230 t231 t232 t233).bind fun t282 => (if t282 = true then (none) else ((media_Right.f k t225 t226 t227 t228 t229 t230 t231 100 t233).bind fun t283 => (if t283 = 10 then ((media_Right.f k t225 t226 t227 101 t229 t230 t231 100 t233).bind fun t284 => (some (t284 == 10))) else (none))))) else (none))) else (none)) else (none)) else (none)) else (none)) else (none)) else (none)) else (none)) = some r := H
                        have A17 := Aside0.mk A170
                        clear A170
                        by_cases c18 : t279 = true
                        · subst c18
                          have H1 : (if (t237.length : Int) = 21 then (if 0 < (t237.length : Int) then (if (rd t237 0) = 16 then (if (t240 == t225 && (t241 == t226 && (t242 == t227 && (t243 == t228 && (t244 == t229 && (t245 == t230 && (t246 == t231 && (t247 == t232 && (t248 == t233))))))))) = true then (if t249 = 0 then (if t269 = 4 then ((media_Check.f k 7 t225 t226 t227 t228 t229 t230 t231 t232 t233).bind fun t281 => (if t281 = true then ((media_Check.f k 7 t225 t226 t227 t228 9 t230 t231 t232 t233).bind fun t282 => (if t282 = true then (none) else ((media_Right.f k t225 t226 t227 t228 t229 t230 t231 100 t233).bind fun t283 => (if t283 = 10 then ((media_Right.f k t225 t226 t227 101 t229 t230 t231 100 t233).bind fun t284 => (some (t284 == 10))) else (none))))) else (none))) else (none)) else (none)) else (none)) else (none)) else (none)) else (none)) = some r := by rw [if_pos rfl] at H; exact H
                          clear H
                          have H := H1
                          clear H1
                          by_cases c19 : (t237.length : Int) = 21
                          · rw [if_pos c19] at H
                            have c19b0 : ((t237.length : Int) == 21) = true := beq_iff_eq.mpr c19
                            have c19b1 : ((t237.length : Int) != 21) = false := bne_eq_false_iff_eq.mpr c19
                            clear c19
                            by_cases c20 : 0 < (t237.length : Int)
                            · rw [if_pos c20] at H
                              have c20b0 : decide (0 < (t237.length : Int)) = true := decide_eq_true c20
                              have c20b1 : decide (0 < t237.length) = true := decide_eq_true (by omega)
                              clear c20
                              by_cases c21 : (rd t237 0) = 16
                              · rw [if_pos c21] at H
                                have c21b0 : ((rd t237 0) == 16) = true := beq_iff_eq.mpr c21
                                have c21b1 : ((rd t237 0) != 16) = false := bne_eq_false_iff_eq.mpr c21
                                clear c21
                                by_cases c22 : (t240 == t225 && (t241 == t226 && (t242 == t227 && (t243 == t228 && (t244 == t229 && (t245 == t230 && (t246 == t231 && (t247 == t232 && (t248 == t233))))))))) = true
                                · rw [if_pos c22] at H
                                  have c22b0 : (t240 == t225 && (t241 == t226 && (t242 == t227 && (t243 == t228 && (t244 == t229 && (t245 == t230 && (t246 == t231 && (t247 == t232 && (t248 == t233))))))))) = true := c22
                                  (try (have c22b1 : decide (t240 = t225 && (t241 == t226 && (t242 == t227 && (t243 == t228 && (t244 == t229 && (t245 == t230 && (t246 == t231 && (t247 == t232 && (t248 == t233))))))))) = true := by simpa using c22))
                                  (try (have c22b2 : (t240 == t225 && (t241 == t226 && (t242 == t227 && (t243 == t228 && (t244 == t229 && (t245 == t230 && (t246 == t231 && (t247 == t232 && (t248 == t233))))))))) = true := by simpa using c22))
                                  clear c22
                                  by_cases c23 : t249 = 0
                                  · rw [if_pos c23] at H
                                    have c23b0 : (t249 == 0) = true := beq_iff_eq.mpr c23
                                    have c23b1 : (t249 != 0) = false := bne_eq_false_iff_eq.mpr c23
                                    clear c23
                                    by_cases c24 : t269 = 4
                                    · rw [if_pos c24] at H
                                      have c24b0 : (t269 == 4) = true := beq_iff_eq.mpr c24
                                      have c24b1 : (t269 != 4) = false := bne_eq_false_iff_eq.mpr c24
                                      clear c24
                                      replace H := Option.bind_eq_some_iff.mp H
                                      obtain ⟨t281, A250, H⟩ := H
                                      replace H : (if t281 = true then ((media_Check.f k 7 t225 t226 t227 t228 9 t230 t231 t232 t233).bind fun t282 => (if t282 = true then (none) else ((media_Right.f k t225 t226 t227 t228 t229 t230 t231 100 t233).bind fun t283 => (if t283 = 10 then ((media_Right.f k t225 t226 t227 101 t229 t230 t231 100 t233).bind fun t284 => (some (t284 == 10))) else (none))))) else (none)) = some r := H
                                      have A25 := Aside0.mk A250
                                      clear A250
                                      by_cases c26 : t281 = true
                                      · subst c26
                                        have H1 : ((media_Check.f k 7 t225 t226 t227 t228 9 t230 t231 t232 t233).bind fun t282 => (if t282 = true then (none) else ((media_Right.f k t225 t226 t227 t228 t229 t230 t231 100 t233).bind fun t283 => (if t283 = 10 then ((media_Right.f k t225 t226 t227 101 t229 t230 t231 100 t233).bind fun t284 => (some (t284 == 10))) else (none))))) = some r := by rw [if_pos rfl] at H; exact H
                                        clear H
                                        have H := H1
                                        clear H1
                                        replace H := Option.bind_eq_some_iff.mp H
                                        obtain ⟨t282, A270, H⟩ := H
                                        replace H : (if t282 = true then (none) else ((media_Right.f k t225 t226 t227 t228 t229 t230 t231 100 t233).bind fun t283 => (if t283 = 10 then ((media_Right.f k t225 t226 t227 101 t229 t230 t231 100 t233).bind fun t284 => (some (t284 == 10))) else (none)))) = some r := H
                                        have A27 := Aside0.mk A270
                                        clear A270
                                        by_cases c28 : t282 = true
                                        · subst c28
                                          have H1 : (none) = some r := by rw [if_pos rfl] at H; exact H
                                          clear H
                                          have H := H1
                                          clear H1
                                          exact absurd H (by simp)
                                        · replace c28 := Bool.eq_false_iff.mpr c28
                                          subst c28
                                          have H1 : ((media_Right.f k t225 t226 t227 t228 t229 t230 t231 100 t233).bind fun t283 => (if t283 = 10 then ((media_Right.f k t225 t226 t227 101 t229 t230 t231 100 t233).bind fun t284 => (some (t284 == 10))) else (none))) = some r := by rw [if_neg (show ¬ (false = true) by decide)] at H; exact H
                                          clear H
                                          have H := H1
                                          clear H1
                                          replace H := Option.bind_eq_some_iff.mp H
                                          obtain ⟨t283, A290, H⟩ := H
                                          replace H : (if t283 = 10 then ((media_Right.f k t225 t226 t227 101 t229 t230 t231 100 t233).bind fun t284 => (some (t284 == 10))) else (none)) = some r := H
                                          have A29 := Aside0.mk A290
                                          clear A290
                                          by_cases c30 : t283 = 10
                                          · rw [if_pos c30] at H
                                            have c30b0 : (t283 == 10) = true := beq_iff_eq.mpr c30
                                            have c30b1 : (t283 != 10) = false := bne_eq_false_iff_eq.mpr c30
                                            clear c30
                                            replace H := Option.bind_eq_some_iff.mp H
                                            obtain ⟨t284, A310, H⟩ := H
                                            replace H : (some (t284 == 10)) = some r := H
                                            have A31 := Aside0.mk A310
                                            clear A310
                                            obtain rfl := Option.some.inj H
                                            go_enter Try.func10, Try.ntmps10
                                            go_wp2_with (first | ((with_reducible refine gate_callee (f := 13) rfl ?_); refine goesL_ (some 12) rfl rfl Try.func13 (by kernel_rfl) rfl #[.int .u64 7, .int .i64 5, .int .i64 3, .int .i64 10] rfl (by (try simp only [List.map_toArray, List.map_cons, List.map_nil]); first | done | rfl | (simp only [List.length_drop, List.length_take]; rfl)) ?_; (with_reducible refine (media_New.calls k 7 5 3 10 t225 t226 t227 t228 t229 t230 t231 t232 t233 t234 _ A1.out).mono ?_); rintro e w32 ⟨rfl, hb⟩; refine ⟨_, rfl, ?_⟩; have n0_ := Aside0.mk (below_step (by repeat (first | (with_reducible first | exact HB.out | apply below_alloc | apply pw_below_drewN | apply below_drew1) | exact HB.out)) hb); clear HB; have HB := n0_; clear n0_; (try clear hb); (try clear hb2); (try clear hk); (try clear hi)) | ((with_reducible refine gate_dst (N := 1) rfl ?_); (try (refine gate_guard (by rfl) ?_; dsimp only)); refine box_event ?hg (N := 1) ?hd (cs := #[.int .i64 0, .int .i64 0, .int .i64 0, .int .i64 0, .int .i64 0, .int .i64 0, .int .i64 0, .int .i64 0, .int .u64 0]) (t := 24) ?hr ?_; (case hd => rfl); (case hg => rfl); (case hr => first | (go_simp; done) | (go_simp; rfl)); intro gb235 hg w33 hbox hb; have n0_ := Aside0.mk (below_step (by repeat (first | (with_reducible first | exact HB.out | apply below_alloc | apply pw_below_drewN | apply below_drew1) | exact HB.out)) hb); have n1_ := Aside0.mk (hbox); have n2_ := Aside0.mk ((by rw [hg]; exact (below_size (by repeat (first | (with_reducible first | exact HB.out | apply below_alloc | apply pw_below_drewN | apply below_drew1) | exact HB.out))) : w.heap.size ≤ gb235)); have n3_ := Aside0.mk ((by rw [hg]; exact (below_size (by repeat (first | (with_reducible first | exact HB.out | apply below_alloc | apply pw_below_drewN | apply below_drew1) | exact HB.out))) : w.heap.size ≤ gb235)); clear HB; have HB := n0_; have BK235 := n1_; have GW235 := n2_; have GE235 := n3_; clear n0_ n1_ n2_ n3_; clear hb hbox hg; have hcz34_0 : w33.cell? ⟨gb235, 0, none⟩ = some (.int .i64 0) := (blk_cell BK235.out 0).trans rfl; have hcz34_1 : w33.cell? ⟨gb235, 1, none⟩ = some (.int .i64 0) := (blk_cell BK235.out 1).trans rfl; have hcz34_2 : w33.cell? ⟨gb235, 2, none⟩ = some (.int .i64 0) := (blk_cell BK235.out 2).trans rfl; have hcz34_3 : w33.cell? ⟨gb235, 3, none⟩ = some (.int .i64 0) := (blk_cell BK235.out 3).trans rfl; have hcz34_4 : w33.cell? ⟨gb235, 4, none⟩ = some (.int .i64 0) := (blk_cell BK235.out 4).trans rfl; have hcz34_5 : w33.cell? ⟨gb235, 5, none⟩ = some (.int .i64 0) := (blk_cell BK235.out 5).trans rfl; have hcz34_6 : w33.cell? ⟨gb235, 6, none⟩ = some (.int .i64 0) := (blk_cell BK235.out 6).trans rfl; have hcz34_7 : w33.cell? ⟨gb235, 7, none⟩ = some (.int .i64 0) := (blk_cell BK235.out 7).trans rfl; have hcz34_8 : w33.cell? ⟨gb235, 8, none⟩ = some (.int .u64 0) := (blk_cell BK235.out 8).trans rfl; have hfz34_0 := blk_frozen BK235.out 0; have hfz34_1 := blk_frozen BK235.out 1; have hfz34_2 := blk_frozen BK235.out 2; have hfz34_3 := blk_frozen BK235.out 3; have hfz34_4 := blk_frozen BK235.out 4; have hfz34_5 := blk_frozen BK235.out 5; have hfz34_6 := blk_frozen BK235.out 6; have hfz34_7 := blk_frozen BK235.out 7; have hfz34_8 := blk_frozen BK235.out 8) | ((with_reducible refine gate_dst (N := 3) rfl ?_); (try (refine gate_guard (by rfl) ?_; dsimp only)); refine box_event ?hg (N := 3) ?hd (cs := #[.int .i64 0, .int .i64 0, .int .i64 0, .int .i64 0, .int .i64 0, .int .i64 0, .int .i64 0, .int .i64 0, .int .u64 0]) (t := 24) ?hr ?_; (case hd => rfl); (case hg => rfl); (case hr => first | (go_simp; done) | (go_simp; rfl)); intro gb236 hg w35 hbox hb; have n0_ := Aside0.mk (blk_below (g := gb235) (o := .cells #[.int .i64 t225, .int .i64 t226, .int .i64 t227, .int .i64 t228, .int .i64 t229, .int .i64 t230, .int .i64 t231, .int .i64 t232, .int .u64 t233] 24 (0, 0)) (by (with_reducible repeat (first | refine blk_drewN ?_ _ | refine blk_drew ?_ | refine blk_alloc ?_ _)); refine blk_put (cs := #[.int .i64 t225, .int .i64 t226, .int .i64 t227, .int .i64 t228, .int .i64 t229, .int .i64 t230, .int .i64 t231, .int .i64 t232, .int .u64 0]) ?_ 8 _ rfl; refine blk_put (cs := #[.int .i64 t225, .int .i64 t226, .int .i64 t227, .int .i64 t228, .int .i64 t229, .int .i64 t230, .int .i64 t231, .int .i64 0, .int .u64 0]) ?_ 7 _ rfl; refine blk_put (cs := #[.int .i64 t225, .int .i64 t226, .int .i64 t227, .int .i64 t228, .int .i64 t229, .int .i64 t230, .int .i64 0, .int .i64 0, .int .u64 0]) ?_ 6 _ rfl; refine blk_put (cs := #[.int .i64 t225, .int .i64 t226, .int .i64 t227, .int .i64 t228, .int .i64 t229, .int .i64 0, .int .i64 0, .int .i64 0, .int .u64 0]) ?_ 5 _ rfl; refine blk_put (cs := #[.int .i64 t225, .int .i64 t226, .int .i64 t227, .int .i64 t228, .int .i64 0, .int .i64 0, .int .i64 0, .int .i64 0, .int .u64 0]) ?_ 4 _ rfl; refine blk_put (cs := #[.int .i64 t225, .int .i64 t226, .int .i64 t227, .int .i64 0, .int .i64 0, .int .i64 0, .int .i64 0, .int .i64 0, .int .u64 0]) ?_ 3 _ rfl; refine blk_put (cs := #[.int .i64 t225, .int .i64 t226, .int .i64 0, .int .i64 0, .int .i64 0, .int .i64 0, .int .i64 0, .int .i64 0, .int .u64 0]) ?_ 2 _ rfl; refine blk_put (cs := #[.int .i64 t225, .int .i64 0, .int .i64 0, .int .i64 0, .int .i64 0, .int .i64 0, .int .i64 0, .int .i64 0, .int .u64 0]) ?_ 1 _ rfl; refine blk_put (cs := #[.int .i64 0, .int .i64 0, .int .i64 0, .int .i64 0, .int .i64 0, .int .i64 0, .int .i64 0, .int .i64 0, .int .u64 0]) ?_ 0 _ rfl; (with_reducible repeat (first | refine blk_drewN ?_ _ | refine blk_drew ?_ | refine blk_alloc ?_ _)); exact BK235.out) hb); have n1_ := Aside0.mk (below_step (by repeat (first | (with_reducible first | exact HB.out | apply below_alloc | apply pw_below_drewN | apply below_drew1 | refine below_set ?_ GE235.out) | exact HB.out)) hb); have n2_ := Aside0.mk (hbox); have n3_ := Aside0.mk ((by rw [hg]; exact (below_size (by repeat (first | (with_reducible first | exact HB.out | apply below_alloc | apply pw_below_drewN | apply below_drew1 | refine below_set ?_ GE235.out) | exact HB.out))) : w.heap.size ≤ gb236)); have n4_ := Aside0.mk ((by rw [hg]; exact (below_size (by repeat (first | (with_reducible first | exact HB.out | apply below_alloc | apply pw_below_drewN | apply below_drew1 | refine below_set ?_ GE235.out) | exact HB.out))) : w.heap.size ≤ gb236)); have n5_ := Aside0.mk ((by rw [hg]; exact Nat.ne_of_lt (blk_lt (g := gb235) (o := .cells #[.int .i64 t225, .int .i64 t226, .int .i64 t227, .int .i64 t228, .int .i64 t229, .int .i64 t230, .int .i64 t231, .int .i64 t232, .int .u64 t233] 24 (0, 0)) (by (with_reducible repeat (first | refine blk_drewN ?_ _ | refine blk_drew ?_ | refine blk_alloc ?_ _)); refine blk_put (cs := #[.int .i64 t225, .int .i64 t226, .int .i64 t227, .int .i64 t228, .int .i64 t229, .int .i64 t230, .int .i64 t231, .int .i64 t232, .int .u64 0]) ?_ 8 _ rfl; refine blk_put (cs := #[.int .i64 t225, .int .i64 t226, .int .i64 t227, .int .i64 t228, .int .i64 t229, .int .i64 t230, .int .i64 t231, .int .i64 0, .int .u64 0]) ?_ 7 _ rfl; refine blk_put (cs := #[.int .i64 t225, .int .i64 t226, .int .i64 t227, .int .i64 t228, .int .i64 t229, .int .i64 t230, .int .i64 0, .int .i64 0, .int .u64 0]) ?_ 6 _ rfl; refine blk_put (cs := #[.int .i64 t225, .int .i64 t226, .int .i64 t227, .int .i64 t228, .int .i64 t229, .int .i64 0, .int .i64 0, .int .i64 0, .int .u64 0]) ?_ 5 _ rfl; refine blk_put (cs := #[.int .i64 t225, .int .i64 t226, .int .i64 t227, .int .i64 t228, .int .i64 0, .int .i64 0, .int .i64 0, .int .i64 0, .int .u64 0]) ?_ 4 _ rfl; refine blk_put (cs := #[.int .i64 t225, .int .i64 t226, .int .i64 t227, .int .i64 0, .int .i64 0, .int .i64 0, .int .i64 0, .int .i64 0, .int .u64 0]) ?_ 3 _ rfl; refine blk_put (cs := #[.int .i64 t225, .int .i64 t226, .int .i64 0, .int .i64 0, .int .i64 0, .int .i64 0, .int .i64 0, .int .i64 0, .int .u64 0]) ?_ 2 _ rfl; refine blk_put (cs := #[.int .i64 t225, .int .i64 0, .int .i64 0, .int .i64 0, .int .i64 0, .int .i64 0, .int .i64 0, .int .i64 0, .int .u64 0]) ?_ 1 _ rfl; refine blk_put (cs := #[.int .i64 0, .int .i64 0, .int .i64 0, .int .i64 0, .int .i64 0, .int .i64 0, .int .i64 0, .int .i64 0, .int .u64 0]) ?_ 0 _ rfl; (with_reducible repeat (first | refine blk_drewN ?_ _ | refine blk_drew ?_ | refine blk_alloc ?_ _)); exact BK235.out)) : gb235 ≠ gb236)); have n6_ := Aside0.mk ((by rw [hg]; exact Nat.ne_of_gt (blk_lt (g := gb235) (o := .cells #[.int .i64 t225, .int .i64 t226, .int .i64 t227, .int .i64 t228, .int .i64 t229, .int .i64 t230, .int .i64 t231, .int .i64 t232, .int .u64 t233] 24 (0, 0)) (by (with_reducible repeat (first | refine blk_drewN ?_ _ | refine blk_drew ?_ | refine blk_alloc ?_ _)); refine blk_put (cs := #[.int .i64 t225, .int .i64 t226, .int .i64 t227, .int .i64 t228, .int .i64 t229, .int .i64 t230, .int .i64 t231, .int .i64 t232, .int .u64 0]) ?_ 8 _ rfl; refine blk_put (cs := #[.int .i64 t225, .int .i64 t226, .int .i64 t227, .int .i64 t228, .int .i64 t229, .int .i64 t230, .int .i64 t231, .int .i64 0, .int .u64 0]) ?_ 7 _ rfl; refine blk_put (cs := #[.int .i64 t225, .int .i64 t226, .int .i64 t227, .int .i64 t228, .int .i64 t229, .int .i64 t230, .int .i64 0, .int .i64 0, .int .u64 0]) ?_ 6 _ rfl; refine blk_put (cs := #[.int .i64 t225, .int .i64 t226, .int .i64 t227, .int .i64 t228, .int .i64 t229, .int .i64 0, .int .i64 0, .int .i64 0, .int .u64 0]) ?_ 5 _ rfl; refine blk_put (cs := #[.int .i64 t225, .int .i64 t226, .int .i64 t227, .int .i64 t228, .int .i64 0, .int .i64 0, .int .i64 0, .int .i64 0, .int .u64 0]) ?_ 4 _ rfl; refine blk_put (cs := #[.int .i64 t225, .int .i64 t226, .int .i64 t227, .int .i64 0, .int .i64 0, .int .i64 0, .int .i64 0, .int .i64 0, .int .u64 0]) ?_ 3 _ rfl; refine blk_put (cs := #[.int .i64 t225, .int .i64 t226, .int .i64 0, .int .i64 0, .int .i64 0, .int .i64 0, .int .i64 0, .int .i64 0, .int .u64 0]) ?_ 2 _ rfl; refine blk_put (cs := #[.int .i64 t225, .int .i64 0, .int .i64 0, .int .i64 0, .int .i64 0, .int .i64 0, .int .i64 0, .int .i64 0, .int .u64 0]) ?_ 1 _ rfl; refine blk_put (cs := #[.int .i64 0, .int .i64 0, .int .i64 0, .int .i64 0, .int .i64 0, .int .i64 0, .int .i64 0, .int .i64 0, .int .u64 0]) ?_ 0 _ rfl; (with_reducible repeat (first | refine blk_drewN ?_ _ | refine blk_drew ?_ | refine blk_alloc ?_ _)); exact BK235.out)) : gb236 ≠ gb235)); clear BK235; clear HB; have BK235 := n0_; have HB := n1_; have BK236 := n2_; have GW236 := n3_; have GE236 := n4_; have NB235_236 := n5_; have NB236_235 := n6_; clear n0_ n1_ n2_ n3_ n4_ n5_ n6_; clear hb hbox hg; have hnb36 := NB236_235.out; have hnc36 := NB235_236.out; have hcz37_0 : w35.cell? ⟨gb236, 0, none⟩ = some (.int .i64 0) := (blk_cell BK236.out 0).trans rfl; have hcz37_1 : w35.cell? ⟨gb236, 1, none⟩ = some (.int .i64 0) := (blk_cell BK236.out 1).trans rfl; have hcz37_2 : w35.cell? ⟨gb236, 2, none⟩ = some (.int .i64 0) := (blk_cell BK236.out 2).trans rfl; have hcz37_3 : w35.cell? ⟨gb236, 3, none⟩ = some (.int .i64 0) := (blk_cell BK236.out 3).trans rfl; have hcz37_4 : w35.cell? ⟨gb236, 4, none⟩ = some (.int .i64 0) := (blk_cell BK236.out 4).trans rfl; have hcz37_5 : w35.cell? ⟨gb236, 5, none⟩ = some (.int .i64 0) := (blk_cell BK236.out 5).trans rfl; have hcz37_6 : w35.cell? ⟨gb236, 6, none⟩ = some (.int .i64 0) := (blk_cell BK236.out 6).trans rfl; have hcz37_7 : w35.cell? ⟨gb236, 7, none⟩ = some (.int .i64 0) := (blk_cell BK236.out 7).trans rfl; have hcz37_8 : w35.cell? ⟨gb236, 8, none⟩ = some (.int .u64 0) := (blk_cell BK236.out 8).trans rfl; have hfz37_0 := blk_frozen BK236.out 0; have hfz37_1 := blk_frozen BK236.out 1; have hfz37_2 := blk_frozen BK236.out 2; have hfz37_3 := blk_frozen BK236.out 3; have hfz37_4 := blk_frozen BK236.out 4; have hfz37_5 := blk_frozen BK236.out 5; have hfz37_6 := blk_frozen BK236.out 6; have hfz37_7 := blk_frozen BK236.out 7; have hfz37_8 := blk_frozen BK236.out 8; have hcz38_0 : w35.cell? ⟨gb235, 0, none⟩ = some (.int .i64 t225) := (blk_cell BK235.out 0).trans rfl; have hcz38_1 : w35.cell? ⟨gb235, 1, none⟩ = some (.int .i64 t226) := (blk_cell BK235.out 1).trans rfl; have hcz38_2 : w35.cell? ⟨gb235, 2, none⟩ = some (.int .i64 t227) := (blk_cell BK235.out 2).trans rfl; have hcz38_3 : w35.cell? ⟨gb235, 3, none⟩ = some (.int .i64 t228) := (blk_cell BK235.out 3).trans rfl; have hcz38_4 : w35.cell? ⟨gb235, 4, none⟩ = some (.int .i64 t229) := (blk_cell BK235.out 4).trans rfl; have hcz38_5 : w35.cell? ⟨gb235, 5, none⟩ = some (.int .i64 t230) := (blk_cell BK235.out 5).trans rfl; have hcz38_6 : w35.cell? ⟨gb235, 6, none⟩ = some (.int .i64 t231) := (blk_cell BK235.out 6).trans rfl; have hcz38_7 : w35.cell? ⟨gb235, 7, none⟩ = some (.int .i64 t232) := (blk_cell BK235.out 7).trans rfl; have hcz38_8 : w35.cell? ⟨gb235, 8, none⟩ = some (.int .u64 t233) := (blk_cell BK235.out 8).trans rfl; have hfz38_0 := blk_frozen BK235.out 0; have hfz38_1 := blk_frozen BK235.out 1; have hfz38_2 := blk_frozen BK235.out 2; have hfz38_3 := blk_frozen BK235.out 3; have hfz38_4 := blk_frozen BK235.out 4; have hfz38_5 := blk_frozen BK235.out 5; have hfz38_6 := blk_frozen BK235.out 6; have hfz38_7 := blk_frozen BK235.out 7; have hfz38_8 := blk_frozen BK235.out 8) | ((with_reducible refine gate_callee (f := 22) rfl ?_); refine goesL_ (some 20) rfl rfl Try.func22 (by kernel_rfl) rfl #[.agg #[.int .i64 t225, .int .i64 t226, .int .i64 t227, .int .i64 t228, .int .i64 t229, .int .i64 t230, .int .i64 t231, .int .i64 t232, .int .u64 t233]] rfl (by (try simp only [List.map_toArray, List.map_cons, List.map_nil]); first | done | rfl | (simp only [List.length_drop, List.length_take]; rfl)) ?_; (with_reducible refine (media_Encode.calls k t225 t226 t227 t228 t229 t230 t231 t232 t233 t237 _ A3.out).mono ?_); rintro e w39 ⟨v238, rfl, ho0, hb⟩; refine ⟨_, rfl, ?_⟩; have n0_ := Aside0.mk (Kd.R_lower ho0 (below_size (by repeat (first | (with_reducible first | exact HB.out | apply below_alloc | apply pw_below_drewN | apply below_drew1 | refine below_set ?_ GE235.out | refine below_set ?_ GE236.out) | exact HB.out)))); have n1_ := Aside0.mk (blk_below (g := gb235) (o := .cells #[.int .i64 t225, .int .i64 t226, .int .i64 t227, .int .i64 t228, .int .i64 t229, .int .i64 t230, .int .i64 t231, .int .i64 t232, .int .u64 t233] 24 (0, 0)) (by (with_reducible repeat (first | refine blk_drewN ?_ _ | refine blk_drew ?_ | refine blk_alloc ?_ _)); refine blk_far ?_ NB235_236.out _; refine blk_far ?_ NB235_236.out _; refine blk_far ?_ NB235_236.out _; refine blk_far ?_ NB235_236.out _; refine blk_far ?_ NB235_236.out _; refine blk_far ?_ NB235_236.out _; refine blk_far ?_ NB235_236.out _; refine blk_far ?_ NB235_236.out _; refine blk_far ?_ NB235_236.out _; refine blk_far ?_ NB235_236.out _; (with_reducible repeat (first | refine blk_drewN ?_ _ | refine blk_drew ?_ | refine blk_alloc ?_ _)); exact BK235.out) hb); have n2_ := Aside0.mk (blk_below (g := gb236) (o := .cells #[.int .i64 t225, .int .i64 t226, .int .i64 t227, .int .i64 t228, .int .i64 9, .int .i64 t230, .int .i64 t231, .int .i64 t232, .int .u64 t233] 24 (0, 0)) (by (with_reducible repeat (first | refine blk_drewN ?_ _ | refine blk_drew ?_ | refine blk_alloc ?_ _)); refine blk_put (cs := #[.int .i64 t225, .int .i64 t226, .int .i64 t227, .int .i64 t228, .int .i64 t229, .int .i64 t230, .int .i64 t231, .int .i64 t232, .int .u64 t233]) ?_ 4 _ rfl; refine blk_put (cs := #[.int .i64 t225, .int .i64 t226, .int .i64 t227, .int .i64 t228, .int .i64 t229, .int .i64 t230, .int .i64 t231, .int .i64 t232, .int .u64 0]) ?_ 8 _ rfl; refine blk_put (cs := #[.int .i64 t225, .int .i64 t226, .int .i64 t227, .int .i64 t228, .int .i64 t229, .int .i64 t230, .int .i64 t231, .int .i64 0, .int .u64 0]) ?_ 7 _ rfl; refine blk_put (cs := #[.int .i64 t225, .int .i64 t226, .int .i64 t227, .int .i64 t228, .int .i64 t229, .int .i64 t230, .int .i64 0, .int .i64 0, .int .u64 0]) ?_ 6 _ rfl; refine blk_put (cs := #[.int .i64 t225, .int .i64 t226, .int .i64 t227, .int .i64 t228, .int .i64 t229, .int .i64 0, .int .i64 0, .int .i64 0, .int .u64 0]) ?_ 5 _ rfl; refine blk_put (cs := #[.int .i64 t225, .int .i64 t226, .int .i64 t227, .int .i64 t228, .int .i64 0, .int .i64 0, .int .i64 0, .int .i64 0, .int .u64 0]) ?_ 4 _ rfl; refine blk_put (cs := #[.int .i64 t225, .int .i64 t226, .int .i64 t227, .int .i64 0, .int .i64 0, .int .i64 0, .int .i64 0, .int .i64 0, .int .u64 0]) ?_ 3 _ rfl; refine blk_put (cs := #[.int .i64 t225, .int .i64 t226, .int .i64 0, .int .i64 0, .int .i64 0, .int .i64 0, .int .i64 0, .int .i64 0, .int .u64 0]) ?_ 2 _ rfl; refine blk_put (cs := #[.int .i64 t225, .int .i64 0, .int .i64 0, .int .i64 0, .int .i64 0, .int .i64 0, .int .i64 0, .int .i64 0, .int .u64 0]) ?_ 1 _ rfl; refine blk_put (cs := #[.int .i64 0, .int .i64 0, .int .i64 0, .int .i64 0, .int .i64 0, .int .i64 0, .int .i64 0, .int .i64 0, .int .u64 0]) ?_ 0 _ rfl; (with_reducible repeat (first | refine blk_drewN ?_ _ | refine blk_drew ?_ | refine blk_alloc ?_ _)); exact BK236.out) hb); have n3_ := Aside0.mk (below_step (by repeat (first | (with_reducible first | exact HB.out | apply below_alloc | apply pw_below_drewN | apply below_drew1 | refine below_set ?_ GE235.out | refine below_set ?_ GE236.out) | exact HB.out)) hb); clear BK235; clear BK236; clear HB; have HO239 := n0_; have BK235 := n1_; have BK236 := n2_; have HB := n3_; clear n0_ n1_ n2_ n3_; (try clear hb); (try clear hb2); (try clear hk); (try clear hi); (try clear ho0); obtain ⟨Ao40, co40, eo40⟩ := Kd.R_slice HO239.out; subst eo40) | ((with_reducible refine gate_callee (f := 24) rfl ?_); refine goesL_ (some 23) rfl rfl Try.func24 (by kernel_rfl) rfl #[.slice Ao40 t237.length co40] rfl (by (try simp only [List.map_toArray, List.map_cons, List.map_nil]); first | done | rfl | (simp only [List.length_drop, List.length_take]; rfl)) ?_; (with_reducible refine (media_Decode.calls k _ _ t237 t240 t241 t242 t243 t244 t245 t246 t247 t248 t249 _ ?side1 ?side2 A4.out).mono ?_); (case side1 => repeat (first | exact (Kd.R_reads' HO239.out).2.2 | (with_reducible refine Kd.C_alloc ?_ _) | (with_reducible refine Kd.C_drewN ?_ _) | (with_reducible refine Kd.C_drew ?_))); (case side2 => exact (Kd.R_reads' HO239.out).2.1); rintro e w41 ⟨rfl, hb⟩; refine ⟨_, rfl, ?_⟩; have n0_ := Aside0.mk (Kd.R_below (by (with_reducible repeat (first | apply Kd.R_alloc | apply Kd.R_drewN | apply Kd.R_drew)); exact HO239.out) hb); have n1_ := Aside0.mk (blk_below (g := gb235) (o := .cells #[.int .i64 t225, .int .i64 t226, .int .i64 t227, .int .i64 t228, .int .i64 t229, .int .i64 t230, .int .i64 t231, .int .i64 t232, .int .u64 t233] 24 (0, 0)) (by (with_reducible repeat (first | refine blk_drewN ?_ _ | refine blk_drew ?_ | refine blk_alloc ?_ _)); exact BK235.out) hb); have n2_ := Aside0.mk (blk_below (g := gb236) (o := .cells #[.int .i64 t225, .int .i64 t226, .int .i64 t227, .int .i64 t228, .int .i64 9, .int .i64 t230, .int .i64 t231, .int .i64 t232, .int .u64 t233] 24 (0, 0)) (by (with_reducible repeat (first | refine blk_drewN ?_ _ | refine blk_drew ?_ | refine blk_alloc ?_ _)); exact BK236.out) hb); have n3_ := Aside0.mk (below_step (by repeat (first | (with_reducible first | exact HB.out | apply below_alloc | apply pw_below_drewN | apply below_drew1 | refine below_set ?_ GE235.out | refine below_set ?_ GE236.out) | exact HB.out)) hb); clear HO239; clear BK235; clear BK236; clear HB; have HO239 := n0_; have BK235 := n1_; have BK236 := n2_; have HB := n3_; clear n0_ n1_ n2_ n3_; (try clear hb); (try clear hb2); (try clear hk); (try clear hi)) | ((with_reducible refine gate_dst (N := 5) rfl ?_); (try (refine gate_guard (by rfl) ?_; dsimp only)); refine box_event ?hg (N := 5) ?hd (cs := #[.int .i64 0, .int .i64 0, .int .i64 0, .int .i64 0, .int .i64 0, .int .i64 0, .int .i64 0, .int .i64 0, .int .u64 0]) (t := 24) ?hr ?_; (case hd => rfl); (case hg => rfl); (case hr => first | (go_simp; done) | (go_simp; rfl)); intro gb250 hg w42 hbox hb; have n0_ := Aside0.mk (Kd.R_below (by (with_reducible repeat (first | apply Kd.R_alloc | apply Kd.R_drewN | apply Kd.R_drew)); exact HO239.out) hb); have n1_ := Aside0.mk (blk_below (g := gb235) (o := .cells #[.int .i64 t225, .int .i64 t226, .int .i64 t227, .int .i64 t228, .int .i64 t229, .int .i64 t230, .int .i64 t231, .int .i64 t232, .int .u64 t233] 24 (0, 0)) (by (with_reducible repeat (first | refine blk_drewN ?_ _ | refine blk_drew ?_ | refine blk_alloc ?_ _)); exact BK235.out) hb); have n2_ := Aside0.mk (blk_below (g := gb236) (o := .cells #[.int .i64 t225, .int .i64 t226, .int .i64 t227, .int .i64 t228, .int .i64 9, .int .i64 t230, .int .i64 t231, .int .i64 t232, .int .u64 t233] 24 (0, 0)) (by (with_reducible repeat (first | refine blk_drewN ?_ _ | refine blk_drew ?_ | refine blk_alloc ?_ _)); exact BK236.out) hb); have n3_ := Aside0.mk (below_step (by repeat (first | (with_reducible first | exact HB.out | apply below_alloc | apply pw_below_drewN | apply below_drew1 | refine below_set ?_ GE235.out | refine below_set ?_ GE236.out) | exact HB.out)) hb); have n4_ := Aside0.mk (hbox); have n5_ := Aside0.mk ((by rw [hg]; exact (below_size (by repeat (first | (with_reducible first | exact HB.out | apply below_alloc | apply pw_below_drewN | apply below_drew1 | refine below_set ?_ GE235.out | refine below_set ?_ GE236.out) | exact HB.out))) : w.heap.size ≤ gb250)); have n6_ := Aside0.mk ((by rw [hg]; exact (below_size (by repeat (first | (with_reducible first | exact HB.out | apply below_alloc | apply pw_below_drewN | apply below_drew1 | refine below_set ?_ GE235.out | refine below_set ?_ GE236.out) | exact HB.out))) : w.heap.size ≤ gb250)); have n7_ := Aside0.mk ((by rw [hg]; exact Nat.ne_of_lt (blk_lt (g := gb235) (o := .cells #[.int .i64 t225, .int .i64 t226, .int .i64 t227, .int .i64 t228, .int .i64 t229, .int .i64 t230, .int .i64 t231, .int .i64 t232, .int .u64 t233] 24 (0, 0)) (by (with_reducible repeat (first | refine blk_drewN ?_ _ | refine blk_drew ?_ | refine blk_alloc ?_ _)); exact BK235.out)) : gb235 ≠ gb250)); have n8_ := Aside0.mk ((by rw [hg]; exact Nat.ne_of_gt (blk_lt (g := gb235) (o := .cells #[.int .i64 t225, .int .i64 t226, .int .i64 t227, .int .i64 t228, .int .i64 t229, .int .i64 t230, .int .i64 t231, .int .i64 t232, .int .u64 t233] 24 (0, 0)) (by (with_reducible repeat (first | refine blk_drewN ?_ _ | refine blk_drew ?_ | refine blk_alloc ?_ _)); exact BK235.out)) : gb250 ≠ gb235)); have n9_ := Aside0.mk ((by rw [hg]; exact Nat.ne_of_lt (blk_lt (g := gb236) (o := .cells #[.int .i64 t225, .int .i64 t226, .int .i64 t227, .int .i64 t228, .int .i64 9, .int .i64 t230, .int .i64 t231, .int .i64 t232, .int .u64 t233] 24 (0, 0)) (by (with_reducible repeat (first | refine blk_drewN ?_ _ | refine blk_drew ?_ | refine blk_alloc ?_ _)); exact BK236.out)) : gb236 ≠ gb250)); have n10_ := Aside0.mk ((by rw [hg]; exact Nat.ne_of_gt (blk_lt (g := gb236) (o := .cells #[.int .i64 t225, .int .i64 t226, .int .i64 t227, .int .i64 t228, .int .i64 9, .int .i64 t230, .int .i64 t231, .int .i64 t232, .int .u64 t233] 24 (0, 0)) (by (with_reducible repeat (first | refine blk_drewN ?_ _ | refine blk_drew ?_ | refine blk_alloc ?_ _)); exact BK236.out)) : gb250 ≠ gb236)); clear HO239; clear BK235; clear BK236; clear HB; have HO239 := n0_; have BK235 := n1_; have BK236 := n2_; have HB := n3_; have BK250 := n4_; have GW250 := n5_; have GE250 := n6_; have NB235_250 := n7_; have NB250_235 := n8_; have NB236_250 := n9_; have NB250_236 := n10_; clear n0_ n1_ n2_ n3_ n4_ n5_ n6_ n7_ n8_ n9_ n10_; clear hb hbox hg; have hnb43 := NB250_235.out; have hnc43 := NB235_250.out; have hnb44 := NB250_236.out; have hnc44 := NB236_250.out; have hcz45_0 : w42.cell? ⟨gb250, 0, none⟩ = some (.int .i64 0) := (blk_cell BK250.out 0).trans rfl; have hcz45_1 : w42.cell? ⟨gb250, 1, none⟩ = some (.int .i64 0) := (blk_cell BK250.out 1).trans rfl; have hcz45_2 : w42.cell? ⟨gb250, 2, none⟩ = some (.int .i64 0) := (blk_cell BK250.out 2).trans rfl; have hcz45_3 : w42.cell? ⟨gb250, 3, none⟩ = some (.int .i64 0) := (blk_cell BK250.out 3).trans rfl; have hcz45_4 : w42.cell? ⟨gb250, 4, none⟩ = some (.int .i64 0) := (blk_cell BK250.out 4).trans rfl; have hcz45_5 : w42.cell? ⟨gb250, 5, none⟩ = some (.int .i64 0) := (blk_cell BK250.out 5).trans rfl; have hcz45_6 : w42.cell? ⟨gb250, 6, none⟩ = some (.int .i64 0) := (blk_cell BK250.out 6).trans rfl; have hcz45_7 : w42.cell? ⟨gb250, 7, none⟩ = some (.int .i64 0) := (blk_cell BK250.out 7).trans rfl; have hcz45_8 : w42.cell? ⟨gb250, 8, none⟩ = some (.int .u64 0) := (blk_cell BK250.out 8).trans rfl; have hfz45_0 := blk_frozen BK250.out 0; have hfz45_1 := blk_frozen BK250.out 1; have hfz45_2 := blk_frozen BK250.out 2; have hfz45_3 := blk_frozen BK250.out 3; have hfz45_4 := blk_frozen BK250.out 4; have hfz45_5 := blk_frozen BK250.out 5; have hfz45_6 := blk_frozen BK250.out 6; have hfz45_7 := blk_frozen BK250.out 7; have hfz45_8 := blk_frozen BK250.out 8) | ((with_reducible refine gate_dst (N := 27) rfl ?_); (try (refine gate_guard (by rfl) ?_; dsimp only)); refine Kd.R_lit (Kd.int .u8) _ 5 ?hg (N := 27) ?hd (xs := ([] : List Int)) (inner := []) (ok := fun _ => True) (okp := fun _ => True) ?hr ?hp (fun _ hk => hk) trivial (Below.refl _ _) (Nat.le_refl _) (by simp) ?_; (case hd => rfl); (case hg => rfl); (case hr => first | (go_simp; done) | (go_simp; rfl)); (case hp => exact (Reps.none _ _)); intro v252 w46 ho47 hb hg_ hnew_; clear hg_ hnew_; (first | rw [← Ny251.out] at ho47 | (simp only [Int.reduceToNat] at ho47; rw [← Ny251.out] at ho47)); have n0_ := Aside0.mk (Kd.R_elder' (by (with_reducible repeat (first | apply Kd.R_alloc | apply Kd.R_drewN | apply Kd.R_drew)); exact (Kd.R_mono (Kd.R_far (p := ⟨gb250, 8, none⟩) (Kd.R_far (p := ⟨gb250, 7, none⟩) (Kd.R_far (p := ⟨gb250, 6, none⟩) (Kd.R_far (p := ⟨gb250, 5, none⟩) (Kd.R_far (p := ⟨gb250, 4, none⟩) (Kd.R_far (p := ⟨gb250, 3, none⟩) (Kd.R_far (p := ⟨gb250, 2, none⟩) (Kd.R_far (p := ⟨gb250, 1, none⟩) (Kd.R_far (p := ⟨gb250, 0, none⟩) (Kd.R_types HO239.out BK250.out (by decide)) (fun _ hk => hk.2) (.int .i64 t240)) (fun _ hk => hk.2) (.int .i64 t241)) (fun _ hk => hk.2) (.int .i64 t242)) (fun _ hk => hk.2) (.int .i64 t243)) (fun _ hk => hk.2) (.int .i64 t244)) (fun _ hk => hk.2) (.int .i64 t245)) (fun _ hk => hk.2) (.int .i64 t246)) (fun _ hk => hk.2) (.int .i64 t247)) (fun _ hk => hk.2) (.int .u64 t248)) (fun _ h_ => h_.1))) (Kd.R_base ho47) hb); have n1_ := Aside0.mk (Kd.R_lower (Kd.R_new' ho47 (Kd.R_lt (by (with_reducible repeat (first | apply Kd.R_alloc | apply Kd.R_drewN | apply Kd.R_drew)); exact (Kd.R_mono (Kd.R_far (p := ⟨gb250, 8, none⟩) (Kd.R_far (p := ⟨gb250, 7, none⟩) (Kd.R_far (p := ⟨gb250, 6, none⟩) (Kd.R_far (p := ⟨gb250, 5, none⟩) (Kd.R_far (p := ⟨gb250, 4, none⟩) (Kd.R_far (p := ⟨gb250, 3, none⟩) (Kd.R_far (p := ⟨gb250, 2, none⟩) (Kd.R_far (p := ⟨gb250, 1, none⟩) (Kd.R_far (p := ⟨gb250, 0, none⟩) (Kd.R_types HO239.out BK250.out (by decide)) (fun _ hk => hk.2) (.int .i64 t240)) (fun _ hk => hk.2) (.int .i64 t241)) (fun _ hk => hk.2) (.int .i64 t242)) (fun _ hk => hk.2) (.int .i64 t243)) (fun _ hk => hk.2) (.int .i64 t244)) (fun _ hk => hk.2) (.int .i64 t245)) (fun _ hk => hk.2) (.int .i64 t246)) (fun _ hk => hk.2) (.int .i64 t247)) (fun _ hk => hk.2) (.int .u64 t248)) (fun _ h_ => h_.1))))) (below_size (by repeat (first | (with_reducible first | exact HB.out | apply below_alloc | apply pw_below_drewN | apply below_drew1 | refine below_set ?_ GE235.out | refine below_set ?_ GE236.out | refine below_set ?_ GE250.out) | exact HB.out)))); have n2_ := Aside0.mk (blk_below (g := gb235) (o := .cells #[.int .i64 t225, .int .i64 t226, .int .i64 t227, .int .i64 t228, .int .i64 t229, .int .i64 t230, .int .i64 t231, .int .i64 t232, .int .u64 t233] 24 (0, 0)) (by (with_reducible repeat (first | refine blk_drewN ?_ _ | refine blk_drew ?_ | refine blk_alloc ?_ _)); refine blk_far ?_ NB235_250.out _; refine blk_far ?_ NB235_250.out _; refine blk_far ?_ NB235_250.out _; refine blk_far ?_ NB235_250.out _; refine blk_far ?_ NB235_250.out _; refine blk_far ?_ NB235_250.out _; refine blk_far ?_ NB235_250.out _; refine blk_far ?_ NB235_250.out _; refine blk_far ?_ NB235_250.out _; (with_reducible repeat (first | refine blk_drewN ?_ _ | refine blk_drew ?_ | refine blk_alloc ?_ _)); exact BK235.out) hb); have n3_ := Aside0.mk (blk_below (g := gb236) (o := .cells #[.int .i64 t225, .int .i64 t226, .int .i64 t227, .int .i64 t228, .int .i64 9, .int .i64 t230, .int .i64 t231, .int .i64 t232, .int .u64 t233] 24 (0, 0)) (by (with_reducible repeat (first | refine blk_drewN ?_ _ | refine blk_drew ?_ | refine blk_alloc ?_ _)); refine blk_far ?_ NB236_250.out _; refine blk_far ?_ NB236_250.out _; refine blk_far ?_ NB236_250.out _; refine blk_far ?_ NB236_250.out _; refine blk_far ?_ NB236_250.out _; refine blk_far ?_ NB236_250.out _; refine blk_far ?_ NB236_250.out _; refine blk_far ?_ NB236_250.out _; refine blk_far ?_ NB236_250.out _; (with_reducible repeat (first | refine blk_drewN ?_ _ | refine blk_drew ?_ | refine blk_alloc ?_ _)); exact BK236.out) hb); have n4_ := Aside0.mk (blk_below (g := gb250) (o := .cells #[.int .i64 t240, .int .i64 t241, .int .i64 t242, .int .i64 t243, .int .i64 t244, .int .i64 t245, .int .i64 t246, .int .i64 t247, .int .u64 t248] 24 (0, 0)) (by (with_reducible repeat (first | refine blk_drewN ?_ _ | refine blk_drew ?_ | refine blk_alloc ?_ _)); refine blk_put (cs := #[.int .i64 t240, .int .i64 t241, .int .i64 t242, .int .i64 t243, .int .i64 t244, .int .i64 t245, .int .i64 t246, .int .i64 t247, .int .u64 0]) ?_ 8 _ rfl; refine blk_put (cs := #[.int .i64 t240, .int .i64 t241, .int .i64 t242, .int .i64 t243, .int .i64 t244, .int .i64 t245, .int .i64 t246, .int .i64 0, .int .u64 0]) ?_ 7 _ rfl; refine blk_put (cs := #[.int .i64 t240, .int .i64 t241, .int .i64 t242, .int .i64 t243, .int .i64 t244, .int .i64 t245, .int .i64 0, .int .i64 0, .int .u64 0]) ?_ 6 _ rfl; refine blk_put (cs := #[.int .i64 t240, .int .i64 t241, .int .i64 t242, .int .i64 t243, .int .i64 t244, .int .i64 0, .int .i64 0, .int .i64 0, .int .u64 0]) ?_ 5 _ rfl; refine blk_put (cs := #[.int .i64 t240, .int .i64 t241, .int .i64 t242, .int .i64 t243, .int .i64 0, .int .i64 0, .int .i64 0, .int .i64 0, .int .u64 0]) ?_ 4 _ rfl; refine blk_put (cs := #[.int .i64 t240, .int .i64 t241, .int .i64 t242, .int .i64 0, .int .i64 0, .int .i64 0, .int .i64 0, .int .i64 0, .int .u64 0]) ?_ 3 _ rfl; refine blk_put (cs := #[.int .i64 t240, .int .i64 t241, .int .i64 0, .int .i64 0, .int .i64 0, .int .i64 0, .int .i64 0, .int .i64 0, .int .u64 0]) ?_ 2 _ rfl; refine blk_put (cs := #[.int .i64 t240, .int .i64 0, .int .i64 0, .int .i64 0, .int .i64 0, .int .i64 0, .int .i64 0, .int .i64 0, .int .u64 0]) ?_ 1 _ rfl; refine blk_put (cs := #[.int .i64 0, .int .i64 0, .int .i64 0, .int .i64 0, .int .i64 0, .int .i64 0, .int .i64 0, .int .i64 0, .int .u64 0]) ?_ 0 _ rfl; (with_reducible repeat (first | refine blk_drewN ?_ _ | refine blk_drew ?_ | refine blk_alloc ?_ _)); exact BK250.out) hb); have n5_ := Aside0.mk (below_step (by repeat (first | (with_reducible first | exact HB.out | apply below_alloc | apply pw_below_drewN | apply below_drew1 | refine below_set ?_ GE235.out | refine below_set ?_ GE236.out | refine below_set ?_ GE250.out) | exact HB.out)) hb); clear HO239; clear BK235; clear BK236; clear BK250; clear HB; have HO239 := n0_; have HO253 := n1_; have BK235 := n2_; have BK236 := n3_; have BK250 := n4_; have HB := n5_; clear n0_ n1_ n2_ n3_ n4_ n5_; clear hb ho47) | ((with_reducible refine gate_builtin (b := .append) (xs := #[.tmp 27, .tmp 28]) rfl ?_); (try (refine gate_guard (by rfl) ?_; dsimp only)); at_builtin; refine Kd.R_append_rows (Kd.int .u8) (w0 := w) w.heap.size rfl (.tmp 27) (.tmp 28) 35 5 (.int .u8 0) 1 rfl Try.underlying35 info5 rfl (by decide) (by omega) v252 y251 t237 _ _ _ (fun k_ => some k_ ≠ (.slice Ao40 t237.length co40 : Value).ownBlock) (fun _ => False) rfl rfl ?aO ?aR (fun _ _ h => h) (fun _ h => h.elim) ?aF ?aB ?aS ?aL ?_; (case aR => repeat (first | exact (Kd.R_reads' HO239.out).2.2 | (with_reducible refine Kd.C_alloc ?_ _) | (with_reducible refine Kd.C_drewN ?_ _) | (with_reducible refine Kd.C_drew ?_))); (case aB => exact (by repeat (first | (with_reducible first | exact HB.out | apply below_alloc | apply pw_below_drewN | apply below_drew1 | refine below_set ?_ GE235.out | refine below_set ?_ GE236.out | refine below_set ?_ GE250.out) | exact HB.out))); (case aF => exact (fun k_ hk => Kd.fresh' (Kd.R_lt (by (with_reducible repeat (first | apply Kd.R_alloc | apply Kd.R_drewN | apply Kd.R_drew)); exact HO239.out)) k_ hk)); (case aO => exact (by (with_reducible repeat (first | apply Kd.R_alloc | apply Kd.R_drewN | apply Kd.R_drew)); exact Kd.R_mono HO253.out (fun _ hk => hk.2))); (case aS => exact (below_size (by repeat (first | (with_reducible first | exact HB.out | apply below_alloc | apply pw_below_drewN | apply below_drew1 | refine below_set ?_ GE235.out | refine below_set ?_ GE236.out | refine below_set ?_ GE250.out) | exact HB.out)))); (case aL => have := LMc5.out; omega); intro v255 w48 ho hb hg hat; rw [← Ny254.out] at ho; have n0_ := Aside0.mk (blk_grown (g := gb235) (o := .cells #[.int .i64 t225, .int .i64 t226, .int .i64 t227, .int .i64 t228, .int .i64 t229, .int .i64 t230, .int .i64 t231, .int .i64 t232, .int .u64 t233] 24 (0, 0)) (by (with_reducible repeat (first | refine blk_drewN ?_ _ | refine blk_drew ?_ | refine blk_alloc ?_ _)); exact BK235.out) hg (Kd.R_ne HO253.out BK235.out (by decide))); have n1_ := Aside0.mk (blk_grown (g := gb236) (o := .cells #[.int .i64 t225, .int .i64 t226, .int .i64 t227, .int .i64 t228, .int .i64 9, .int .i64 t230, .int .i64 t231, .int .i64 t232, .int .u64 t233] 24 (0, 0)) (by (with_reducible repeat (first | refine blk_drewN ?_ _ | refine blk_drew ?_ | refine blk_alloc ?_ _)); exact BK236.out) hg (Kd.R_ne HO253.out BK236.out (by decide))); have n2_ := Aside0.mk (Kd.R_after (ok := (fun _ => True)) (by (with_reducible repeat (first | apply Kd.R_alloc | apply Kd.R_drewN | apply Kd.R_drew)); exact HO239.out) hg hat); have n3_ := Aside0.mk (blk_grown (g := gb250) (o := .cells #[.int .i64 t240, .int .i64 t241, .int .i64 t242, .int .i64 t243, .int .i64 t244, .int .i64 t245, .int .i64 t246, .int .i64 t247, .int .u64 t248] 24 (0, 0)) (by (with_reducible repeat (first | refine blk_drewN ?_ _ | refine blk_drew ?_ | refine blk_alloc ?_ _)); exact BK250.out) hg (Kd.R_ne HO253.out BK250.out (by decide))); have n4_ := Aside0.mk (hb); have n5_ := Aside0.mk (ho); clear BK235; clear BK236; clear HO239; clear BK250; clear HB; clear HO253; have BK235 := n0_; have BK236 := n1_; have HO239 := n2_; have BK250 := n3_; have HB := n4_; have HO256 := n5_; clear n0_ n1_ n2_ n3_ n4_ n5_; clear ho hb hg hat) | ((with_reducible refine gate_builtin (b := .append) (xs := #[.tmp 29, .tmp 30]) rfl ?_); (try (refine gate_guard (by rfl) ?_; dsimp only)); at_builtin; refine Kd.R_append (Kd.int .u8) (w0 := w) w.heap.size rfl (.tmp 29) (.tmp 30) 35 5 (.int .u8 0) 1 rfl Try.underlying35 info5 rfl (by decide) (by omega) v255 y254 0 [.int .u8 0] (fun k_ => some k_ ≠ (.slice Ao40 t237.length co40 : Value).ownBlock) (fun _ => False) rfl rfl ?aP (fun _ hk => hk.elim) ?aF ?aO ?aB ?aS ?aL ?_; (case aP => exact rfl); (case aB => exact (by repeat (first | (with_reducible first | exact HB.out | apply below_alloc | apply pw_below_drewN | apply below_drew1 | refine below_set ?_ GE235.out | refine below_set ?_ GE236.out | refine below_set ?_ GE250.out) | exact HB.out))); (case aF => exact (fun k_ hk => Kd.fresh' (Kd.R_lt (by (with_reducible repeat (first | apply Kd.R_alloc | apply Kd.R_drewN | apply Kd.R_drew)); exact HO239.out)) k_ hk)); (case aO => exact (by (with_reducible repeat (first | apply Kd.R_alloc | apply Kd.R_drewN | apply Kd.R_drew)); exact HO256.out)); (case aS => exact (below_size (by repeat (first | (with_reducible first | exact HB.out | apply below_alloc | apply pw_below_drewN | apply below_drew1 | refine below_set ?_ GE235.out | refine below_set ?_ GE236.out | refine below_set ?_ GE250.out) | exact HB.out)))); (case aL => have := LMc6.out; omega); intro v258 w49 ho hb hg hat; rw [← Ny257.out] at ho; have n0_ := Aside0.mk (blk_grown (g := gb235) (o := .cells #[.int .i64 t225, .int .i64 t226, .int .i64 t227, .int .i64 t228, .int .i64 t229, .int .i64 t230, .int .i64 t231, .int .i64 t232, .int .u64 t233] 24 (0, 0)) (by (with_reducible repeat (first | refine blk_drewN ?_ _ | refine blk_drew ?_ | refine blk_alloc ?_ _)); exact BK235.out) hg (Kd.R_ne HO256.out BK235.out (by decide))); have n1_ := Aside0.mk (blk_grown (g := gb236) (o := .cells #[.int .i64 t225, .int .i64 t226, .int .i64 t227, .int .i64 t228, .int .i64 9, .int .i64 t230, .int .i64 t231, .int .i64 t232, .int .u64 t233] 24 (0, 0)) (by (with_reducible repeat (first | refine blk_drewN ?_ _ | refine blk_drew ?_ | refine blk_alloc ?_ _)); exact BK236.out) hg (Kd.R_ne HO256.out BK236.out (by decide))); have n2_ := Aside0.mk (Kd.R_after (ok := (fun _ => True)) (by (with_reducible repeat (first | apply Kd.R_alloc | apply Kd.R_drewN | apply Kd.R_drew)); exact HO239.out) hg hat); have n3_ := Aside0.mk (blk_grown (g := gb250) (o := .cells #[.int .i64 t240, .int .i64 t241, .int .i64 t242, .int .i64 t243, .int .i64 t244, .int .i64 t245, .int .i64 t246, .int .i64 t247, .int .u64 t248] 24 (0, 0)) (by (with_reducible repeat (first | refine blk_drewN ?_ _ | refine blk_drew ?_ | refine blk_alloc ?_ _)); exact BK250.out) hg (Kd.R_ne HO256.out BK250.out (by decide))); have n4_ := Aside0.mk (hb); have n5_ := Aside0.mk (ho); clear BK235; clear BK236; clear HO239; clear BK250; clear HB; clear HO256; have BK235 := n0_; have BK236 := n1_; have HO239 := n2_; have BK250 := n3_; have HB := n4_; have HO259 := n5_; clear n0_ n1_ n2_ n3_ n4_ n5_; clear ho hb hg hat; obtain ⟨Ao50, co50, eo50⟩ := Kd.R_slice HO259.out; subst eo50) | ((with_reducible refine gate_callee (f := 24) rfl ?_); refine goesL_ (some 32) rfl rfl Try.func24 (by kernel_rfl) rfl #[.slice Ao50 y257.length co50] rfl (by (try simp only [List.map_toArray, List.map_cons, List.map_nil]); first | done | rfl | (simp only [List.length_drop, List.length_take]; rfl)) ?_; (with_reducible refine (media_Decode.calls k _ _ y257 t260 t261 t262 t263 t264 t265 t266 t267 t268 t269 _ ?side1 ?side2 A7.out).mono ?_); (case side1 => repeat (first | exact (Kd.R_reads' HO259.out).2.2 | (with_reducible refine Kd.C_alloc ?_ _) | (with_reducible refine Kd.C_drewN ?_ _) | (with_reducible refine Kd.C_drew ?_))); (case side2 => exact (Kd.R_reads' HO259.out).2.1); rintro e w51 ⟨rfl, hb⟩; refine ⟨_, rfl, ?_⟩; have n0_ := Aside0.mk (Kd.R_below (by (with_reducible repeat (first | apply Kd.R_alloc | apply Kd.R_drewN | apply Kd.R_drew)); exact HO239.out) hb); have n1_ := Aside0.mk (Kd.R_below (by (with_reducible repeat (first | apply Kd.R_alloc | apply Kd.R_drewN | apply Kd.R_drew)); exact HO259.out) hb); have n2_ := Aside0.mk (blk_below (g := gb235) (o := .cells #[.int .i64 t225, .int .i64 t226, .int .i64 t227, .int .i64 t228, .int .i64 t229, .int .i64 t230, .int .i64 t231, .int .i64 t232, .int .u64 t233] 24 (0, 0)) (by (with_reducible repeat (first | refine blk_drewN ?_ _ | refine blk_drew ?_ | refine blk_alloc ?_ _)); exact BK235.out) hb); have n3_ := Aside0.mk (blk_below (g := gb236) (o := .cells #[.int .i64 t225, .int .i64 t226, .int .i64 t227, .int .i64 t228, .int .i64 9, .int .i64 t230, .int .i64 t231, .int .i64 t232, .int .u64 t233] 24 (0, 0)) (by (with_reducible repeat (first | refine blk_drewN ?_ _ | refine blk_drew ?_ | refine blk_alloc ?_ _)); exact BK236.out) hb); have n4_ := Aside0.mk (blk_below (g := gb250) (o := .cells #[.int .i64 t240, .int .i64 t241, .int .i64 t242, .int .i64 t243, .int .i64 t244, .int .i64 t245, .int .i64 t246, .int .i64 t247, .int .u64 t248] 24 (0, 0)) (by (with_reducible repeat (first | refine blk_drewN ?_ _ | refine blk_drew ?_ | refine blk_alloc ?_ _)); exact BK250.out) hb); have n5_ := Aside0.mk (below_step (by repeat (first | (with_reducible first | exact HB.out | apply below_alloc | apply pw_below_drewN | apply below_drew1 | refine below_set ?_ GE235.out | refine below_set ?_ GE236.out | refine below_set ?_ GE250.out) | exact HB.out)) hb); clear HO239; clear HO259; clear BK235; clear BK236; clear BK250; clear HB; have HO239 := n0_; have HO259 := n1_; have BK235 := n2_; have BK236 := n3_; have BK250 := n4_; have HB := n5_; clear n0_ n1_ n2_ n3_ n4_ n5_; (try clear hb); (try clear hb2); (try clear hk); (try clear hi)) | ((with_reducible refine gate_dst (N := 7) rfl ?_); (try (refine gate_guard (by rfl) ?_; dsimp only)); refine box_event ?hg (N := 7) ?hd (cs := #[.int .i64 0, .int .i64 0, .int .i64 0, .int .i64 0, .int .i64 0, .int .i64 0, .int .i64 0, .int .i64 0, .int .u64 0]) (t := 24) ?hr ?_; (case hd => rfl); (case hg => rfl); (case hr => first | (go_simp; done) | (go_simp; rfl)); intro gb270 hg w52 hbox hb; have n0_ := Aside0.mk (Kd.R_below (by (with_reducible repeat (first | apply Kd.R_alloc | apply Kd.R_drewN | apply Kd.R_drew)); exact HO239.out) hb); have n1_ := Aside0.mk (Kd.R_below (by (with_reducible repeat (first | apply Kd.R_alloc | apply Kd.R_drewN | apply Kd.R_drew)); exact HO259.out) hb); have n2_ := Aside0.mk (blk_below (g := gb235) (o := .cells #[.int .i64 t225, .int .i64 t226, .int .i64 t227, .int .i64 t228, .int .i64 t229, .int .i64 t230, .int .i64 t231, .int .i64 t232, .int .u64 t233] 24 (0, 0)) (by (with_reducible repeat (first | refine blk_drewN ?_ _ | refine blk_drew ?_ | refine blk_alloc ?_ _)); exact BK235.out) hb); have n3_ := Aside0.mk (blk_below (g := gb236) (o := .cells #[.int .i64 t225, .int .i64 t226, .int .i64 t227, .int .i64 t228, .int .i64 9, .int .i64 t230, .int .i64 t231, .int .i64 t232, .int .u64 t233] 24 (0, 0)) (by (with_reducible repeat (first | refine blk_drewN ?_ _ | refine blk_drew ?_ | refine blk_alloc ?_ _)); exact BK236.out) hb); have n4_ := Aside0.mk (blk_below (g := gb250) (o := .cells #[.int .i64 t240, .int .i64 t241, .int .i64 t242, .int .i64 t243, .int .i64 t244, .int .i64 t245, .int .i64 t246, .int .i64 t247, .int .u64 t248] 24 (0, 0)) (by (with_reducible repeat (first | refine blk_drewN ?_ _ | refine blk_drew ?_ | refine blk_alloc ?_ _)); exact BK250.out) hb); have n5_ := Aside0.mk (below_step (by repeat (first | (with_reducible first | exact HB.out | apply below_alloc | apply pw_below_drewN | apply below_drew1 | refine below_set ?_ GE235.out | refine below_set ?_ GE236.out | refine below_set ?_ GE250.out) | exact HB.out)) hb); have n6_ := Aside0.mk (hbox); have n7_ := Aside0.mk ((by rw [hg]; exact (below_size (by repeat (first | (with_reducible first | exact HB.out | apply below_alloc | apply pw_below_drewN | apply below_drew1 | refine below_set ?_ GE235.out | refine below_set ?_ GE236.out | refine below_set ?_ GE250.out) | exact HB.out))) : w.heap.size ≤ gb270)); have n8_ := Aside0.mk ((by rw [hg]; exact (below_size (by repeat (first | (with_reducible first | exact HB.out | apply below_alloc | apply pw_below_drewN | apply below_drew1 | refine below_set ?_ GE235.out | refine below_set ?_ GE236.out | refine below_set ?_ GE250.out) | exact HB.out))) : w.heap.size ≤ gb270)); have n9_ := Aside0.mk ((by rw [hg]; exact Nat.ne_of_lt (blk_lt (g := gb235) (o := .cells #[.int .i64 t225, .int .i64 t226, .int .i64 t227, .int .i64 t228, .int .i64 t229, .int .i64 t230, .int .i64 t231, .int .i64 t232, .int .u64 t233] 24 (0, 0)) (by (with_reducible repeat (first | refine blk_drewN ?_ _ | refine blk_drew ?_ | refine blk_alloc ?_ _)); exact BK235.out)) : gb235 ≠ gb270)); have n10_ := Aside0.mk ((by rw [hg]; exact Nat.ne_of_gt (blk_lt (g := gb235) (o := .cells #[.int .i64 t225, .int .i64 t226, .int .i64 t227, .int .i64 t228, .int .i64 t229, .int .i64 t230, .int .i64 t231, .int .i64 t232, .int .u64 t233] 24 (0, 0)) (by (with_reducible repeat (first | refine blk_drewN ?_ _ | refine blk_drew ?_ | refine blk_alloc ?_ _)); exact BK235.out)) : gb270 ≠ gb235)); have n11_ := Aside0.mk ((by rw [hg]; exact Nat.ne_of_lt (blk_lt (g := gb236) (o := .cells #[.int .i64 t225, .int .i64 t226, .int .i64 t227, .int .i64 t228, .int .i64 9, .int .i64 t230, .int .i64 t231, .int .i64 t232, .int .u64 t233] 24 (0, 0)) (by (with_reducible repeat (first | refine blk_drewN ?_ _ | refine blk_drew ?_ | refine blk_alloc ?_ _)); exact BK236.out)) : gb236 ≠ gb270)); have n12_ := Aside0.mk ((by rw [hg]; exact Nat.ne_of_gt (blk_lt (g := gb236) (o := .cells #[.int .i64 t225, .int .i64 t226, .int .i64 t227, .int .i64 t228, .int .i64 9, .int .i64 t230, .int .i64 t231, .int .i64 t232, .int .u64 t233] 24 (0, 0)) (by (with_reducible repeat (first | refine blk_drewN ?_ _ | refine blk_drew ?_ | refine blk_alloc ?_ _)); exact BK236.out)) : gb270 ≠ gb236)); have n13_ := Aside0.mk ((by rw [hg]; exact Nat.ne_of_lt (blk_lt (g := gb250) (o := .cells #[.int .i64 t240, .int .i64 t241, .int .i64 t242, .int .i64 t243, .int .i64 t244, .int .i64 t245, .int .i64 t246, .int .i64 t247, .int .u64 t248] 24 (0, 0)) (by (with_reducible repeat (first | refine blk_drewN ?_ _ | refine blk_drew ?_ | refine blk_alloc ?_ _)); exact BK250.out)) : gb250 ≠ gb270)); have n14_ := Aside0.mk ((by rw [hg]; exact Nat.ne_of_gt (blk_lt (g := gb250) (o := .cells #[.int .i64 t240, .int .i64 t241, .int .i64 t242, .int .i64 t243, .int .i64 t244, .int .i64 t245, .int .i64 t246, .int .i64 t247, .int .u64 t248] 24 (0, 0)) (by (with_reducible repeat (first | refine blk_drewN ?_ _ | refine blk_drew ?_ | refine blk_alloc ?_ _)); exact BK250.out)) : gb270 ≠ gb250)); clear HO239; clear HO259; clear BK235; clear BK236; clear BK250; clear HB; have HO239 := n0_; have HO259 := n1_; have BK235 := n2_; have BK236 := n3_; have BK250 := n4_; have HB := n5_; have BK270 := n6_; have GW270 := n7_; have GE270 := n8_; have NB235_270 := n9_; have NB270_235 := n10_; have NB236_270 := n11_; have NB270_236 := n12_; have NB250_270 := n13_; have NB270_250 := n14_; clear n0_ n1_ n2_ n3_ n4_ n5_ n6_ n7_ n8_ n9_ n10_ n11_ n12_ n13_ n14_; clear hb hbox hg; have hnb53 := NB270_235.out; have hnc53 := NB235_270.out; have hnb54 := NB270_236.out; have hnc54 := NB236_270.out; have hnb55 := NB270_250.out; have hnc55 := NB250_270.out; have hcz56_0 : w52.cell? ⟨gb270, 0, none⟩ = some (.int .i64 0) := (blk_cell BK270.out 0).trans rfl; have hcz56_1 : w52.cell? ⟨gb270, 1, none⟩ = some (.int .i64 0) := (blk_cell BK270.out 1).trans rfl; have hcz56_2 : w52.cell? ⟨gb270, 2, none⟩ = some (.int .i64 0) := (blk_cell BK270.out 2).trans rfl; have hcz56_3 : w52.cell? ⟨gb270, 3, none⟩ = some (.int .i64 0) := (blk_cell BK270.out 3).trans rfl; have hcz56_4 : w52.cell? ⟨gb270, 4, none⟩ = some (.int .i64 0) := (blk_cell BK270.out 4).trans rfl; have hcz56_5 : w52.cell? ⟨gb270, 5, none⟩ = some (.int .i64 0) := (blk_cell BK270.out 5).trans rfl; have hcz56_6 : w52.cell? ⟨gb270, 6, none⟩ = some (.int .i64 0) := (blk_cell BK270.out 6).trans rfl; have hcz56_7 : w52.cell? ⟨gb270, 7, none⟩ = some (.int .i64 0) := (blk_cell BK270.out 7).trans rfl; have hcz56_8 : w52.cell? ⟨gb270, 8, none⟩ = some (.int .u64 0) := (blk_cell BK270.out 8).trans rfl; have hfz56_0 := blk_frozen BK270.out 0; have hfz56_1 := blk_frozen BK270.out 1; have hfz56_2 := blk_frozen BK270.out 2; have hfz56_3 := blk_frozen BK270.out 3; have hfz56_4 := blk_frozen BK270.out 4; have hfz56_5 := blk_frozen BK270.out 5; have hfz56_6 := blk_frozen BK270.out 6; have hfz56_7 := blk_frozen BK270.out 7; have hfz56_8 := blk_frozen BK270.out 8; have hcz57_0 : w52.cell? ⟨gb235, 0, none⟩ = some (.int .i64 t225) := (blk_cell BK235.out 0).trans rfl; have hcz57_1 : w52.cell? ⟨gb235, 1, none⟩ = some (.int .i64 t226) := (blk_cell BK235.out 1).trans rfl; have hcz57_2 : w52.cell? ⟨gb235, 2, none⟩ = some (.int .i64 t227) := (blk_cell BK235.out 2).trans rfl; have hcz57_3 : w52.cell? ⟨gb235, 3, none⟩ = some (.int .i64 t228) := (blk_cell BK235.out 3).trans rfl; have hcz57_4 : w52.cell? ⟨gb235, 4, none⟩ = some (.int .i64 t229) := (blk_cell BK235.out 4).trans rfl; have hcz57_5 : w52.cell? ⟨gb235, 5, none⟩ = some (.int .i64 t230) := (blk_cell BK235.out 5).trans rfl; have hcz57_6 : w52.cell? ⟨gb235, 6, none⟩ = some (.int .i64 t231) := (blk_cell BK235.out 6).trans rfl; have hcz57_7 : w52.cell? ⟨gb235, 7, none⟩ = some (.int .i64 t232) := (blk_cell BK235.out 7).trans rfl; have hcz57_8 : w52.cell? ⟨gb235, 8, none⟩ = some (.int .u64 t233) := (blk_cell BK235.out 8).trans rfl; have hfz57_0 := blk_frozen BK235.out 0; have hfz57_1 := blk_frozen BK235.out 1; have hfz57_2 := blk_frozen BK235.out 2; have hfz57_3 := blk_frozen BK235.out 3; have hfz57_4 := blk_frozen BK235.out 4; have hfz57_5 := blk_frozen BK235.out 5; have hfz57_6 := blk_frozen BK235.out 6; have hfz57_7 := blk_frozen BK235.out 7; have hfz57_8 := blk_frozen BK235.out 8) | ((with_reducible refine gate_dst (N := 9) rfl ?_); (try (refine gate_guard (by rfl) ?_; dsimp only)); refine box_event ?hg (N := 9) ?hd (cs := #[.int .i64 0, .int .i64 0, .int .i64 0, .int .i64 0, .int .i64 0, .int .i64 0, .int .i64 0, .int .i64 0, .int .u64 0]) (t := 24) ?hr ?_; (case hd => rfl); (case hg => rfl); (case hr => first | (go_simp; done) | (go_simp; rfl)); intro gb271 hg w58 hbox hb; have n0_ := Aside0.mk (Kd.R_below (by (with_reducible repeat (first | apply Kd.R_alloc | apply Kd.R_drewN | apply Kd.R_drew)); exact (Kd.R_mono (Kd.R_far (p := ⟨gb270, 8, none⟩) (Kd.R_far (p := ⟨gb270, 7, none⟩) (Kd.R_far (p := ⟨gb270, 6, none⟩) (Kd.R_far (p := ⟨gb270, 5, none⟩) (Kd.R_far (p := ⟨gb270, 4, none⟩) (Kd.R_far (p := ⟨gb270, 3, none⟩) (Kd.R_far (p := ⟨gb270, 2, none⟩) (Kd.R_far (p := ⟨gb270, 1, none⟩) (Kd.R_far (p := ⟨gb270, 0, none⟩) (Kd.R_types HO239.out BK270.out (by decide)) (fun _ hk => hk.2) (.int .i64 t260)) (fun _ hk => hk.2) (.int .i64 t261)) (fun _ hk => hk.2) (.int .i64 t262)) (fun _ hk => hk.2) (.int .i64 t263)) (fun _ hk => hk.2) (.int .i64 t264)) (fun _ hk => hk.2) (.int .i64 t265)) (fun _ hk => hk.2) (.int .i64 t266)) (fun _ hk => hk.2) (.int .i64 t267)) (fun _ hk => hk.2) (.int .u64 t268)) (fun _ h_ => h_.1))) hb); have n1_ := Aside0.mk (Kd.R_below (by (with_reducible repeat (first | apply Kd.R_alloc | apply Kd.R_drewN | apply Kd.R_drew)); exact (Kd.R_mono (Kd.R_far (p := ⟨gb270, 8, none⟩) (Kd.R_far (p := ⟨gb270, 7, none⟩) (Kd.R_far (p := ⟨gb270, 6, none⟩) (Kd.R_far (p := ⟨gb270, 5, none⟩) (Kd.R_far (p := ⟨gb270, 4, none⟩) (Kd.R_far (p := ⟨gb270, 3, none⟩) (Kd.R_far (p := ⟨gb270, 2, none⟩) (Kd.R_far (p := ⟨gb270, 1, none⟩) (Kd.R_far (p := ⟨gb270, 0, none⟩) (Kd.R_types HO259.out BK270.out (by decide)) (fun _ hk => hk.2) (.int .i64 t260)) (fun _ hk => hk.2) (.int .i64 t261)) (fun _ hk => hk.2) (.int .i64 t262)) (fun _ hk => hk.2) (.int .i64 t263)) (fun _ hk => hk.2) (.int .i64 t264)) (fun _ hk => hk.2) (.int .i64 t265)) (fun _ hk => hk.2) (.int .i64 t266)) (fun _ hk => hk.2) (.int .i64 t267)) (fun _ hk => hk.2) (.int .u64 t268)) (fun _ h_ => h_.1))) hb); have n2_ := Aside0.mk (blk_below (g := gb235) (o := .cells #[.int .i64 t225, .int .i64 t226, .int .i64 t227, .int .i64 t228, .int .i64 t229, .int .i64 t230, .int .i64 t231, .int .i64 t232, .int .u64 t233] 24 (0, 0)) (by (with_reducible repeat (first | refine blk_drewN ?_ _ | refine blk_drew ?_ | refine blk_alloc ?_ _)); refine blk_far ?_ NB235_270.out _; refine blk_far ?_ NB235_270.out _; refine blk_far ?_ NB235_270.out _; refine blk_far ?_ NB235_270.out _; refine blk_far ?_ NB235_270.out _; refine blk_far ?_ NB235_270.out _; refine blk_far ?_ NB235_270.out _; refine blk_far ?_ NB235_270.out _; refine blk_far ?_ NB235_270.out _; (with_reducible repeat (first | refine blk_drewN ?_ _ | refine blk_drew ?_ | refine blk_alloc ?_ _)); exact BK235.out) hb); have n3_ := Aside0.mk (blk_below (g := gb236) (o := .cells #[.int .i64 t225, .int .i64 t226, .int .i64 t227, .int .i64 t228, .int .i64 9, .int .i64 t230, .int .i64 t231, .int .i64 t232, .int .u64 t233] 24 (0, 0)) (by (with_reducible repeat (first | refine blk_drewN ?_ _ | refine blk_drew ?_ | refine blk_alloc ?_ _)); refine blk_far ?_ NB236_270.out _; refine blk_far ?_ NB236_270.out _; refine blk_far ?_ NB236_270.out _; refine blk_far ?_ NB236_270.out _; refine blk_far ?_ NB236_270.out _; refine blk_far ?_ NB236_270.out _; refine blk_far ?_ NB236_270.out _; refine blk_far ?_ NB236_270.out _; refine blk_far ?_ NB236_270.out _; (with_reducible repeat (first | refine blk_drewN ?_ _ | refine blk_drew ?_ | refine blk_alloc ?_ _)); exact BK236.out) hb); have n4_ := Aside0.mk (blk_below (g := gb250) (o := .cells #[.int .i64 t240, .int .i64 t241, .int .i64 t242, .int .i64 t243, .int .i64 t244, .int .i64 t245, .int .i64 t246, .int .i64 t247, .int .u64 t248] 24 (0, 0)) (by (with_reducible repeat (first | refine blk_drewN ?_ _ | refine blk_drew ?_ | refine blk_alloc ?_ _)); refine blk_far ?_ NB250_270.out _; refine blk_far ?_ NB250_270.out _; refine blk_far ?_ NB250_270.out _; refine blk_far ?_ NB250_270.out _; refine blk_far ?_ NB250_270.out _; refine blk_far ?_ NB250_270.out _; refine blk_far ?_ NB250_270.out _; refine blk_far ?_ NB250_270.out _; refine blk_far ?_ NB250_270.out _; (with_reducible repeat (first | refine blk_drewN ?_ _ | refine blk_drew ?_ | refine blk_alloc ?_ _)); exact BK250.out) hb); have n5_ := Aside0.mk (blk_below (g := gb270) (o := .cells #[.int .i64 t260, .int .i64 t261, .int .i64 t262, .int .i64 t263, .int .i64 t264, .int .i64 t265, .int .i64 t266, .int .i64 t267, .int .u64 t268] 24 (0, 0)) (by (with_reducible repeat (first | refine blk_drewN ?_ _ | refine blk_drew ?_ | refine blk_alloc ?_ _)); refine blk_put (cs := #[.int .i64 t260, .int .i64 t261, .int .i64 t262, .int .i64 t263, .int .i64 t264, .int .i64 t265, .int .i64 t266, .int .i64 t267, .int .u64 0]) ?_ 8 _ rfl; refine blk_put (cs := #[.int .i64 t260, .int .i64 t261, .int .i64 t262, .int .i64 t263, .int .i64 t264, .int .i64 t265, .int .i64 t266, .int .i64 0, .int .u64 0]) ?_ 7 _ rfl; refine blk_put (cs := #[.int .i64 t260, .int .i64 t261, .int .i64 t262, .int .i64 t263, .int .i64 t264, .int .i64 t265, .int .i64 0, .int .i64 0, .int .u64 0]) ?_ 6 _ rfl; refine blk_put (cs := #[.int .i64 t260, .int .i64 t261, .int .i64 t262, .int .i64 t263, .int .i64 t264, .int .i64 0, .int .i64 0, .int .i64 0, .int .u64 0]) ?_ 5 _ rfl; refine blk_put (cs := #[.int .i64 t260, .int .i64 t261, .int .i64 t262, .int .i64 t263, .int .i64 0, .int .i64 0, .int .i64 0, .int .i64 0, .int .u64 0]) ?_ 4 _ rfl; refine blk_put (cs := #[.int .i64 t260, .int .i64 t261, .int .i64 t262, .int .i64 0, .int .i64 0, .int .i64 0, .int .i64 0, .int .i64 0, .int .u64 0]) ?_ 3 _ rfl; refine blk_put (cs := #[.int .i64 t260, .int .i64 t261, .int .i64 0, .int .i64 0, .int .i64 0, .int .i64 0, .int .i64 0, .int .i64 0, .int .u64 0]) ?_ 2 _ rfl; refine blk_put (cs := #[.int .i64 t260, .int .i64 0, .int .i64 0, .int .i64 0, .int .i64 0, .int .i64 0, .int .i64 0, .int .i64 0, .int .u64 0]) ?_ 1 _ rfl; refine blk_put (cs := #[.int .i64 0, .int .i64 0, .int .i64 0, .int .i64 0, .int .i64 0, .int .i64 0, .int .i64 0, .int .i64 0, .int .u64 0]) ?_ 0 _ rfl; (with_reducible repeat (first | refine blk_drewN ?_ _ | refine blk_drew ?_ | refine blk_alloc ?_ _)); exact BK270.out) hb); have n6_ := Aside0.mk (below_step (by repeat (first | (with_reducible first | exact HB.out | apply below_alloc | apply pw_below_drewN | apply below_drew1 | refine below_set ?_ GE235.out | refine below_set ?_ GE236.out | refine below_set ?_ GE250.out | refine below_set ?_ GE270.out) | exact HB.out)) hb); have n7_ := Aside0.mk (hbox); have n8_ := Aside0.mk ((by rw [hg]; exact (below_size (by repeat (first | (with_reducible first | exact HB.out | apply below_alloc | apply pw_below_drewN | apply below_drew1 | refine below_set ?_ GE235.out | refine below_set ?_ GE236.out | refine below_set ?_ GE250.out | refine below_set ?_ GE270.out) | exact HB.out))) : w.heap.size ≤ gb271)); have n9_ := Aside0.mk ((by rw [hg]; exact (below_size (by repeat (first | (with_reducible first | exact HB.out | apply below_alloc | apply pw_below_drewN | apply below_drew1 | refine below_set ?_ GE235.out | refine below_set ?_ GE236.out | refine below_set ?_ GE250.out | refine below_set ?_ GE270.out) | exact HB.out))) : w.heap.size ≤ gb271)); have n10_ := Aside0.mk ((by rw [hg]; exact Nat.ne_of_lt (blk_lt (g := gb235) (o := .cells #[.int .i64 t225, .int .i64 t226, .int .i64 t227, .int .i64 t228, .int .i64 t229, .int .i64 t230, .int .i64 t231, .int .i64 t232, .int .u64 t233] 24 (0, 0)) (by (with_reducible repeat (first | refine blk_drewN ?_ _ | refine blk_drew ?_ | refine blk_alloc ?_ _)); refine blk_far ?_ NB235_270.out _; refine blk_far ?_ NB235_270.out _; refine blk_far ?_ NB235_270.out _; refine blk_far ?_ NB235_270.out _; refine blk_far ?_ NB235_270.out _; refine blk_far ?_ NB235_270.out _; refine blk_far ?_ NB235_270.out _; refine blk_far ?_ NB235_270.out _; refine blk_far ?_ NB235_270.out _; (with_reducible repeat (first | refine blk_drewN ?_ _ | refine blk_drew ?_ | refine blk_alloc ?_ _)); exact BK235.out)) : gb235 ≠ gb271)); have n11_ := Aside0.mk ((by rw [hg]; exact Nat.ne_of_gt (blk_lt (g := gb235) (o := .cells #[.int .i64 t225, .int .i64 t226, .int .i64 t227, .int .i64 t228, .int .i64 t229, .int .i64 t230, .int .i64 t231, .int .i64 t232, .int .u64 t233] 24 (0, 0)) (by (with_reducible repeat (first | refine blk_drewN ?_ _ | refine blk_drew ?_ | refine blk_alloc ?_ _)); refine blk_far ?_ NB235_270.out _; refine blk_far ?_ NB235_270.out _; refine blk_far ?_ NB235_270.out _; refine blk_far ?_ NB235_270.out _; refine blk_far ?_ NB235_270.out _; refine blk_far ?_ NB235_270.out _; refine blk_far ?_ NB235_270.out _; refine blk_far ?_ NB235_270.out _; refine blk_far ?_ NB235_270.out _; (with_reducible repeat (first | refine blk_drewN ?_ _ | refine blk_drew ?_ | refine blk_alloc ?_ _)); exact BK235.out)) : gb271 ≠ gb235)); have n12_ := Aside0.mk ((by rw [hg]; exact Nat.ne_of_lt (blk_lt (g := gb236) (o := .cells #[.int .i64 t225, .int .i64 t226, .int .i64 t227, .int .i64 t228, .int .i64 9, .int .i64 t230, .int .i64 t231, .int .i64 t232, .int .u64 t233] 24 (0, 0)) (by (with_reducible repeat (first | refine blk_drewN ?_ _ | refine blk_drew ?_ | refine blk_alloc ?_ _)); refine blk_far ?_ NB236_270.out _; refine blk_far ?_ NB236_270.out _; refine blk_far ?_ NB236_270.out _; refine blk_far ?_ NB236_270.out _; refine blk_far ?_ NB236_270.out _; refine blk_far ?_ NB236_270.out _; refine blk_far ?_ NB236_270.out _; refine blk_far ?_ NB236_270.out _; refine blk_far ?_ NB236_270.out _; (with_reducible repeat (first | refine blk_drewN ?_ _ | refine blk_drew ?_ | refine blk_alloc ?_ _)); exact BK236.out)) : gb236 ≠ gb271)); have n13_ := Aside0.mk ((by rw [hg]; exact Nat.ne_of_gt (blk_lt (g := gb236) (o := .cells #[.int .i64 t225, .int .i64 t226, .int .i64 t227, .int .i64 t228, .int .i64 9, .int .i64 t230, .int .i64 t231, .int .i64 t232, .int .u64 t233] 24 (0, 0)) (by (with_reducible repeat (first | refine blk_drewN ?_ _ | refine blk_drew ?_ | refine blk_alloc ?_ _)); refine blk_far ?_ NB236_270.out _; refine blk_far ?_ NB236_270.out _; refine blk_far ?_ NB236_270.out _; refine blk_far ?_ NB236_270.out _; refine blk_far ?_ NB236_270.out _; refine blk_far ?_ NB236_270.out _; refine blk_far ?_ NB236_270.out _; refine blk_far ?_ NB236_270.out _; refine blk_far ?_ NB236_270.out _; (with_reducible repeat (first | refine blk_drewN ?_ _ | refine blk_drew ?_ | refine blk_alloc ?_ _)); exact BK236.out)) : gb271 ≠ gb236)); have n14_ := Aside0.mk ((by rw [hg]; exact Nat.ne_of_lt (blk_lt (g := gb250) (o := .cells #[.int .i64 t240, .int .i64 t241, .int .i64 t242, .int .i64 t243, .int .i64 t244, .int .i64 t245, .int .i64 t246, .int .i64 t247, .int .u64 t248] 24 (0, 0)) (by (with_reducible repeat (first | refine blk_drewN ?_ _ | refine blk_drew ?_ | refine blk_alloc ?_ _)); refine blk_far ?_ NB250_270.out _; refine blk_far ?_ NB250_270.out _; refine blk_far ?_ NB250_270.out _; refine blk_far ?_ NB250_270.out _; refine blk_far ?_ NB250_270.out _; refine blk_far ?_ NB250_270.out _; refine blk_far ?_ NB250_270.out _; refine blk_far ?_ NB250_270.out _; refine blk_far ?_ NB250_270.out _; (with_reducible repeat (first | refine blk_drewN ?_ _ | refine blk_drew ?_ | refine blk_alloc ?_ _)); exact BK250.out)) : gb250 ≠ gb271)); have n15_ := Aside0.mk ((by rw [hg]; exact Nat.ne_of_gt (blk_lt (g := gb250) (o := .cells #[.int .i64 t240, .int .i64 t241, .int .i64 t242, .int .i64 t243, .int .i64 t244, .int .i64 t245, .int .i64 t246, .int .i64 t247, .int .u64 t248] 24 (0, 0)) (by (with_reducible repeat (first | refine blk_drewN ?_ _ | refine blk_drew ?_ | refine blk_alloc ?_ _)); refine blk_far ?_ NB250_270.out _; refine blk_far ?_ NB250_270.out _; refine blk_far ?_ NB250_270.out _; refine blk_far ?_ NB250_270.out _; refine blk_far ?_ NB250_270.out _; refine blk_far ?_ NB250_270.out _; refine blk_far ?_ NB250_270.out _; refine blk_far ?_ NB250_270.out _; refine blk_far ?_ NB250_270.out _; (with_reducible repeat (first | refine blk_drewN ?_ _ | refine blk_drew ?_ | refine blk_alloc ?_ _)); exact BK250.out)) : gb271 ≠ gb250)); have n16_ := Aside0.mk ((by rw [hg]; exact Nat.ne_of_lt (blk_lt (g := gb270) (o := .cells #[.int .i64 t260, .int .i64 t261, .int .i64 t262, .int .i64 t263, .int .i64 t264, .int .i64 t265, .int .i64 t266, .int .i64 t267, .int .u64 t268] 24 (0, 0)) (by (with_reducible repeat (first | refine blk_drewN ?_ _ | refine blk_drew ?_ | refine blk_alloc ?_ _)); refine blk_put (cs := #[.int .i64 t260, .int .i64 t261, .int .i64 t262, .int .i64 t263, .int .i64 t264, .int .i64 t265, .int .i64 t266, .int .i64 t267, .int .u64 0]) ?_ 8 _ rfl; refine blk_put (cs := #[.int .i64 t260, .int .i64 t261, .int .i64 t262, .int .i64 t263, .int .i64 t264, .int .i64 t265, .int .i64 t266, .int .i64 0, .int .u64 0]) ?_ 7 _ rfl; refine blk_put (cs := #[.int .i64 t260, .int .i64 t261, .int .i64 t262, .int .i64 t263, .int .i64 t264, .int .i64 t265, .int .i64 0, .int .i64 0, .int .u64 0]) ?_ 6 _ rfl; refine blk_put (cs := #[.int .i64 t260, .int .i64 t261, .int .i64 t262, .int .i64 t263, .int .i64 t264, .int .i64 0, .int .i64 0, .int .i64 0, .int .u64 0]) ?_ 5 _ rfl; refine blk_put (cs := #[.int .i64 t260, .int .i64 t261, .int .i64 t262, .int .i64 t263, .int .i64 0, .int .i64 0, .int .i64 0, .int .i64 0, .int .u64 0]) ?_ 4 _ rfl; refine blk_put (cs := #[.int .i64 t260, .int .i64 t261, .int .i64 t262, .int .i64 0, .int .i64 0, .int .i64 0, .int .i64 0, .int .i64 0, .int .u64 0]) ?_ 3 _ rfl; refine blk_put (cs := #[.int .i64 t260, .int .i64 t261, .int .i64 0, .int .i64 0, .int .i64 0, .int .i64 0, .int .i64 0, .int .i64 0, .int .u64 0]) ?_ 2 _ rfl; refine blk_put (cs := #[.int .i64 t260, .int .i64 0, .int .i64 0, .int .i64 0, .int .i64 0, .int .i64 0, .int .i64 0, .int .i64 0, .int .u64 0]) ?_ 1 _ rfl; refine blk_put (cs := #[.int .i64 0, .int .i64 0, .int .i64 0, .int .i64 0, .int .i64 0, .int .i64 0, .int .i64 0, .int .i64 0, .int .u64 0]) ?_ 0 _ rfl; (with_reducible repeat (first | refine blk_drewN ?_ _ | refine blk_drew ?_ | refine blk_alloc ?_ _)); exact BK270.out)) : gb270 ≠ gb271)); have n17_ := Aside0.mk ((by rw [hg]; exact Nat.ne_of_gt (blk_lt (g := gb270) (o := .cells #[.int .i64 t260, .int .i64 t261, .int .i64 t262, .int .i64 t263, .int .i64 t264, .int .i64 t265, .int .i64 t266, .int .i64 t267, .int .u64 t268] 24 (0, 0)) (by (with_reducible repeat (first | refine blk_drewN ?_ _ | refine blk_drew ?_ | refine blk_alloc ?_ _)); refine blk_put (cs := #[.int .i64 t260, .int .i64 t261, .int .i64 t262, .int .i64 t263, .int .i64 t264, .int .i64 t265, .int .i64 t266, .int .i64 t267, .int .u64 0]) ?_ 8 _ rfl; refine blk_put (cs := #[.int .i64 t260, .int .i64 t261, .int .i64 t262, .int .i64 t263, .int .i64 t264, .int .i64 t265, .int .i64 t266, .int .i64 0, .int .u64 0]) ?_ 7 _ rfl; refine blk_put (cs := #[.int .i64 t260, .int .i64 t261, .int .i64 t262, .int .i64 t263, .int .i64 t264, .int .i64 t265, .int .i64 0, .int .i64 0, .int .u64 0]) ?_ 6 _ rfl; refine blk_put (cs := #[.int .i64 t260, .int .i64 t261, .int .i64 t262, .int .i64 t263, .int .i64 t264, .int .i64 0, .int .i64 0, .int .i64 0, .int .u64 0]) ?_ 5 _ rfl; refine blk_put (cs := #[.int .i64 t260, .int .i64 t261, .int .i64 t262, .int .i64 t263, .int .i64 0, .int .i64 0, .int .i64 0, .int .i64 0, .int .u64 0]) ?_ 4 _ rfl; refine blk_put (cs := #[.int .i64 t260, .int .i64 t261, .int .i64 t262, .int .i64 0, .int .i64 0, .int .i64 0, .int .i64 0, .int .i64 0, .int .u64 0]) ?_ 3 _ rfl; refine blk_put (cs := #[.int .i64 t260, .int .i64 t261, .int .i64 0, .int .i64 0, .int .i64 0, .int .i64 0, .int .i64 0, .int .i64 0, .int .u64 0]) ?_ 2 _ rfl; refine blk_put (cs := #[.int .i64 t260, .int .i64 0, .int .i64 0, .int .i64 0, .int .i64 0, .int .i64 0, .int .i64 0, .int .i64 0, .int .u64 0]) ?_ 1 _ rfl; refine blk_put (cs := #[.int .i64 0, .int .i64 0, .int .i64 0, .int .i64 0, .int .i64 0, .int .i64 0, .int .i64 0, .int .i64 0, .int .u64 0]) ?_ 0 _ rfl; (with_reducible repeat (first | refine blk_drewN ?_ _ | refine blk_drew ?_ | refine blk_alloc ?_ _)); exact BK270.out)) : gb271 ≠ gb270)); clear HO239; clear HO259; clear BK235; clear BK236; clear BK250; clear BK270; clear HB; have HO239 := n0_; have HO259 := n1_; have BK235 := n2_; have BK236 := n3_; have BK250 := n4_; have BK270 := n5_; have HB := n6_; have BK271 := n7_; have GW271 := n8_; have GE271 := n9_; have NB235_271 := n10_; have NB271_235 := n11_; have NB236_271 := n12_; have NB271_236 := n13_; have NB250_271 := n14_; have NB271_250 := n15_; have NB270_271 := n16_; have NB271_270 := n17_; clear n0_ n1_ n2_ n3_ n4_ n5_ n6_ n7_ n8_ n9_ n10_ n11_ n12_ n13_ n14_ n15_ n16_ n17_; clear hb hbox hg; have hnb59 := NB271_235.out; have hnc59 := NB235_271.out; have hnb60 := NB271_236.out; have hnc60 := NB236_271.out; have hnb61 := NB271_250.out; have hnc61 := NB250_271.out; have hnb62 := NB271_270.out; have hnc62 := NB270_271.out; have hcz63_0 : w58.cell? ⟨gb271, 0, none⟩ = some (.int .i64 0) := (blk_cell BK271.out 0).trans rfl; have hcz63_1 : w58.cell? ⟨gb271, 1, none⟩ = some (.int .i64 0) := (blk_cell BK271.out 1).trans rfl; have hcz63_2 : w58.cell? ⟨gb271, 2, none⟩ = some (.int .i64 0) := (blk_cell BK271.out 2).trans rfl; have hcz63_3 : w58.cell? ⟨gb271, 3, none⟩ = some (.int .i64 0) := (blk_cell BK271.out 3).trans rfl; have hcz63_4 : w58.cell? ⟨gb271, 4, none⟩ = some (.int .i64 0) := (blk_cell BK271.out 4).trans rfl; have hcz63_5 : w58.cell? ⟨gb271, 5, none⟩ = some (.int .i64 0) := (blk_cell BK271.out 5).trans rfl; have hcz63_6 : w58.cell? ⟨gb271, 6, none⟩ = some (.int .i64 0) := (blk_cell BK271.out 6).trans rfl; have hcz63_7 : w58.cell? ⟨gb271, 7, none⟩ = some (.int .i64 0) := (blk_cell BK271.out 7).trans rfl; have hcz63_8 : w58.cell? ⟨gb271, 8, none⟩ = some (.int .u64 0) := (blk_cell BK271.out 8).trans rfl; have hfz63_0 := blk_frozen BK271.out 0; have hfz63_1 := blk_frozen BK271.out 1; have hfz63_2 := blk_frozen BK271.out 2; have hfz63_3 := blk_frozen BK271.out 3; have hfz63_4 := blk_frozen BK271.out 4; have hfz63_5 := blk_frozen BK271.out 5; have hfz63_6 := blk_frozen BK271.out 6; have hfz63_7 := blk_frozen BK271.out 7; have hfz63_8 := blk_frozen BK271.out 8) | ((with_reducible refine gate_dst (N := 37) rfl ?_); have n0_ := Aside0.mk (Kd.R_mono (Kd.R_far (p := ⟨gb271, 7, none⟩) (Kd.R_far (p := ⟨gb271, 8, none⟩) (Kd.R_far (p := ⟨gb271, 7, none⟩) (Kd.R_far (p := ⟨gb271, 6, none⟩) (Kd.R_far (p := ⟨gb271, 5, none⟩) (Kd.R_far (p := ⟨gb271, 4, none⟩) (Kd.R_far (p := ⟨gb271, 3, none⟩) (Kd.R_far (p := ⟨gb271, 2, none⟩) (Kd.R_far (p := ⟨gb271, 1, none⟩) (Kd.R_far (p := ⟨gb271, 0, none⟩) (Kd.R_types HO239.out BK271.out (by decide)) (fun _ hk => hk.2) (.int .i64 t225)) (fun _ hk => hk.2) (.int .i64 t226)) (fun _ hk => hk.2) (.int .i64 t227)) (fun _ hk => hk.2) (.int .i64 t228)) (fun _ hk => hk.2) (.int .i64 t229)) (fun _ hk => hk.2) (.int .i64 t230)) (fun _ hk => hk.2) (.int .i64 t231)) (fun _ hk => hk.2) (.int .i64 t232)) (fun _ hk => hk.2) (.int .u64 t233)) (fun _ hk => hk.2) (.int .i64 100)) (fun _ h_ => h_.1)); have n1_ := Aside0.mk (Kd.R_mono (Kd.R_far (p := ⟨gb271, 7, none⟩) (Kd.R_far (p := ⟨gb271, 8, none⟩) (Kd.R_far (p := ⟨gb271, 7, none⟩) (Kd.R_far (p := ⟨gb271, 6, none⟩) (Kd.R_far (p := ⟨gb271, 5, none⟩) (Kd.R_far (p := ⟨gb271, 4, none⟩) (Kd.R_far (p := ⟨gb271, 3, none⟩) (Kd.R_far (p := ⟨gb271, 2, none⟩) (Kd.R_far (p := ⟨gb271, 1, none⟩) (Kd.R_far (p := ⟨gb271, 0, none⟩) (Kd.R_types HO259.out BK271.out (by decide)) (fun _ hk => hk.2) (.int .i64 t225)) (fun _ hk => hk.2) (.int .i64 t226)) (fun _ hk => hk.2) (.int .i64 t227)) (fun _ hk => hk.2) (.int .i64 t228)) (fun _ hk => hk.2) (.int .i64 t229)) (fun _ hk => hk.2) (.int .i64 t230)) (fun _ hk => hk.2) (.int .i64 t231)) (fun _ hk => hk.2) (.int .i64 t232)) (fun _ hk => hk.2) (.int .u64 t233)) (fun _ hk => hk.2) (.int .i64 100)) (fun _ h_ => h_.1)); have n2_ := Aside0.mk (blk_far (p := ⟨gb271, 7, none⟩) (blk_far (p := ⟨gb271, 8, none⟩) (blk_far (p := ⟨gb271, 7, none⟩) (blk_far (p := ⟨gb271, 6, none⟩) (blk_far (p := ⟨gb271, 5, none⟩) (blk_far (p := ⟨gb271, 4, none⟩) (blk_far (p := ⟨gb271, 3, none⟩) (blk_far (p := ⟨gb271, 2, none⟩) (blk_far (p := ⟨gb271, 1, none⟩) (blk_far (p := ⟨gb271, 0, none⟩) (BK235.out) NB235_271.out (.int .i64 t225)) NB235_271.out (.int .i64 t226)) NB235_271.out (.int .i64 t227)) NB235_271.out (.int .i64 t228)) NB235_271.out (.int .i64 t229)) NB235_271.out (.int .i64 t230)) NB235_271.out (.int .i64 t231)) NB235_271.out (.int .i64 t232)) NB235_271.out (.int .u64 t233)) NB235_271.out (.int .i64 100)); have n3_ := Aside0.mk (blk_far (p := ⟨gb271, 7, none⟩) (blk_far (p := ⟨gb271, 8, none⟩) (blk_far (p := ⟨gb271, 7, none⟩) (blk_far (p := ⟨gb271, 6, none⟩) (blk_far (p := ⟨gb271, 5, none⟩) (blk_far (p := ⟨gb271, 4, none⟩) (blk_far (p := ⟨gb271, 3, none⟩) (blk_far (p := ⟨gb271, 2, none⟩) (blk_far (p := ⟨gb271, 1, none⟩) (blk_far (p := ⟨gb271, 0, none⟩) (BK236.out) NB236_271.out (.int .i64 t225)) NB236_271.out (.int .i64 t226)) NB236_271.out (.int .i64 t227)) NB236_271.out (.int .i64 t228)) NB236_271.out (.int .i64 t229)) NB236_271.out (.int .i64 t230)) NB236_271.out (.int .i64 t231)) NB236_271.out (.int .i64 t232)) NB236_271.out (.int .u64 t233)) NB236_271.out (.int .i64 100)); have n4_ := Aside0.mk (blk_far (p := ⟨gb271, 7, none⟩) (blk_far (p := ⟨gb271, 8, none⟩) (blk_far (p := ⟨gb271, 7, none⟩) (blk_far (p := ⟨gb271, 6, none⟩) (blk_far (p := ⟨gb271, 5, none⟩) (blk_far (p := ⟨gb271, 4, none⟩) (blk_far (p := ⟨gb271, 3, none⟩) (blk_far (p := ⟨gb271, 2, none⟩) (blk_far (p := ⟨gb271, 1, none⟩) (blk_far (p := ⟨gb271, 0, none⟩) (BK250.out) NB250_271.out (.int .i64 t225)) NB250_271.out (.int .i64 t226)) NB250_271.out (.int .i64 t227)) NB250_271.out (.int .i64 t228)) NB250_271.out (.int .i64 t229)) NB250_271.out (.int .i64 t230)) NB250_271.out (.int .i64 t231)) NB250_271.out (.int .i64 t232)) NB250_271.out (.int .u64 t233)) NB250_271.out (.int .i64 100)); have n5_ := Aside0.mk (blk_far (p := ⟨gb271, 7, none⟩) (blk_far (p := ⟨gb271, 8, none⟩) (blk_far (p := ⟨gb271, 7, none⟩) (blk_far (p := ⟨gb271, 6, none⟩) (blk_far (p := ⟨gb271, 5, none⟩) (blk_far (p := ⟨gb271, 4, none⟩) (blk_far (p := ⟨gb271, 3, none⟩) (blk_far (p := ⟨gb271, 2, none⟩) (blk_far (p := ⟨gb271, 1, none⟩) (blk_far (p := ⟨gb271, 0, none⟩) (BK270.out) NB270_271.out (.int .i64 t225)) NB270_271.out (.int .i64 t226)) NB270_271.out (.int .i64 t227)) NB270_271.out (.int .i64 t228)) NB270_271.out (.int .i64 t229)) NB270_271.out (.int .i64 t230)) NB270_271.out (.int .i64 t231)) NB270_271.out (.int .i64 t232)) NB270_271.out (.int .u64 t233)) NB270_271.out (.int .i64 100)); have n6_ : Aside0 (((((((((((w58.setCell ⟨gb271, 0, none⟩ (.int .i64 t225)).setCell ⟨gb271, 1, none⟩ (.int .i64 t226)).setCell ⟨gb271, 2, none⟩ (.int .i64 t227)).setCell ⟨gb271, 3, none⟩ (.int .i64 t228)).setCell ⟨gb271, 4, none⟩ (.int .i64 t229)).setCell ⟨gb271, 5, none⟩ (.int .i64 t230)).setCell ⟨gb271, 6, none⟩ (.int .i64 t231)).setCell ⟨gb271, 7, none⟩ (.int .i64 t232)).setCell ⟨gb271, 8, none⟩ (.int .u64 t233)).setCell ⟨gb271, 7, none⟩ (.int .i64 100)).heap[gb271]? = some (.cells #[.int .i64 t225, .int .i64 t226, .int .i64 t227, .int .i64 t228, .int .i64 t229, .int .i64 t230, .int .i64 t231, .int .i64 100, .int .u64 t233] 24 (0, 0))) := ⟨blk_put (cs := #[.int .i64 t225, .int .i64 t226, .int .i64 t227, .int .i64 t228, .int .i64 t229, .int .i64 t230, .int .i64 t231, .int .i64 t232, .int .u64 t233]) (blk_put (cs := #[.int .i64 t225, .int .i64 t226, .int .i64 t227, .int .i64 t228, .int .i64 t229, .int .i64 t230, .int .i64 t231, .int .i64 t232, .int .u64 0]) (blk_put (cs := #[.int .i64 t225, .int .i64 t226, .int .i64 t227, .int .i64 t228, .int .i64 t229, .int .i64 t230, .int .i64 t231, .int .i64 0, .int .u64 0]) (blk_put (cs := #[.int .i64 t225, .int .i64 t226, .int .i64 t227, .int .i64 t228, .int .i64 t229, .int .i64 t230, .int .i64 0, .int .i64 0, .int .u64 0]) (blk_put (cs := #[.int .i64 t225, .int .i64 t226, .int .i64 t227, .int .i64 t228, .int .i64 t229, .int .i64 0, .int .i64 0, .int .i64 0, .int .u64 0]) (blk_put (cs := #[.int .i64 t225, .int .i64 t226, .int .i64 t227, .int .i64 t228, .int .i64 0, .int .i64 0, .int .i64 0, .int .i64 0, .int .u64 0]) (blk_put (cs := #[.int .i64 t225, .int .i64 t226, .int .i64 t227, .int .i64 0, .int .i64 0, .int .i64 0, .int .i64 0, .int .i64 0, .int .u64 0]) (blk_put (cs := #[.int .i64 t225, .int .i64 t226, .int .i64 0, .int .i64 0, .int .i64 0, .int .i64 0, .int .i64 0, .int .i64 0, .int .u64 0]) (blk_put (cs := #[.int .i64 t225, .int .i64 0, .int .i64 0, .int .i64 0, .int .i64 0, .int .i64 0, .int .i64 0, .int .i64 0, .int .u64 0]) (blk_put (cs := #[.int .i64 0, .int .i64 0, .int .i64 0, .int .i64 0, .int .i64 0, .int .i64 0, .int .i64 0, .int .i64 0, .int .u64 0]) (BK271.out) 0 (.int .i64 t225) rfl) 1 (.int .i64 t226) rfl) 2 (.int .i64 t227) rfl) 3 (.int .i64 t228) rfl) 4 (.int .i64 t229) rfl) 5 (.int .i64 t230) rfl) 6 (.int .i64 t231) rfl) 7 (.int .i64 t232) rfl) 8 (.int .u64 t233) rfl) 7 (.int .i64 100) rfl⟩; have n7_ := Aside0.mk (below_set (g := gb271) (j := 7) (v := .int .i64 100) (below_set (g := gb271) (j := 8) (v := .int .u64 t233) (below_set (g := gb271) (j := 7) (v := .int .i64 t232) (below_set (g := gb271) (j := 6) (v := .int .i64 t231) (below_set (g := gb271) (j := 5) (v := .int .i64 t230) (below_set (g := gb271) (j := 4) (v := .int .i64 t229) (below_set (g := gb271) (j := 3) (v := .int .i64 t228) (below_set (g := gb271) (j := 2) (v := .int .i64 t227) (below_set (g := gb271) (j := 1) (v := .int .i64 t226) (below_set (g := gb271) (j := 0) (v := .int .i64 t225) (HB.out) GE271.out) GE271.out) GE271.out) GE271.out) GE271.out) GE271.out) GE271.out) GE271.out) GE271.out) GE271.out); clear HO239; clear HO259; clear BK235; clear BK236; clear BK250; clear BK270; clear BK271; clear HB; have HO239 := n0_; have HO259 := n1_; have BK235 := n2_; have BK236 := n3_; have BK250 := n4_; have BK270 := n5_; have BK271 := n6_; have HB := n7_; clear n0_ n1_ n2_ n3_ n4_ n5_ n6_ n7_; (try clear hcz63_0); (try clear hfz63_0); (try clear hcz63_1); (try clear hfz63_1); (try clear hcz63_2); (try clear hfz63_2); (try clear hcz63_3); (try clear hfz63_3); (try clear hcz63_4); (try clear hfz63_4); (try clear hcz63_5); (try clear hfz63_5); (try clear hcz63_6); (try clear hfz63_6); (try clear hcz63_7); (try clear hfz63_7); (try clear hcz63_8); (try clear hfz63_8); generalize ((((((((((w58.setCell ⟨gb271, 0, none⟩ (.int .i64 t225)).setCell ⟨gb271, 1, none⟩ (.int .i64 t226)).setCell ⟨gb271, 2, none⟩ (.int .i64 t227)).setCell ⟨gb271, 3, none⟩ (.int .i64 t228)).setCell ⟨gb271, 4, none⟩ (.int .i64 t229)).setCell ⟨gb271, 5, none⟩ (.int .i64 t230)).setCell ⟨gb271, 6, none⟩ (.int .i64 t231)).setCell ⟨gb271, 7, none⟩ (.int .i64 t232)).setCell ⟨gb271, 8, none⟩ (.int .u64 t233)).setCell ⟨gb271, 7, none⟩ (.int .i64 100)) = w58b at HO239 HO259 BK235 BK236 BK250 BK270 BK271 HB ⊢; have hzw58b271_0 : w58b.cell? ⟨gb271, 0, none⟩ = some (.int .i64 t225) := (blk_cell BK271.out 0).trans rfl; have hzw58b271_1 : w58b.cell? ⟨gb271, 1, none⟩ = some (.int .i64 t226) := (blk_cell BK271.out 1).trans rfl; have hzw58b271_2 : w58b.cell? ⟨gb271, 2, none⟩ = some (.int .i64 t227) := (blk_cell BK271.out 2).trans rfl; have hzw58b271_3 : w58b.cell? ⟨gb271, 3, none⟩ = some (.int .i64 t228) := (blk_cell BK271.out 3).trans rfl; have hzw58b271_4 : w58b.cell? ⟨gb271, 4, none⟩ = some (.int .i64 t229) := (blk_cell BK271.out 4).trans rfl; have hzw58b271_5 : w58b.cell? ⟨gb271, 5, none⟩ = some (.int .i64 t230) := (blk_cell BK271.out 5).trans rfl; have hzw58b271_6 : w58b.cell? ⟨gb271, 6, none⟩ = some (.int .i64 t231) := (blk_cell BK271.out 6).trans rfl; have hzw58b271_7 : w58b.cell? ⟨gb271, 7, none⟩ = some (.int .i64 100) := (blk_cell BK271.out 7).trans rfl; have hzw58b271_8 : w58b.cell? ⟨gb271, 8, none⟩ = some (.int .u64 t233) := (blk_cell BK271.out 8).trans rfl; have hyw58b271_0 := blk_frozen BK271.out 0; have hyw58b271_1 := blk_frozen BK271.out 1; have hyw58b271_2 := blk_frozen BK271.out 2; have hyw58b271_3 := blk_frozen BK271.out 3; have hyw58b271_4 := blk_frozen BK271.out 4; have hyw58b271_5 := blk_frozen BK271.out 5; have hyw58b271_6 := blk_frozen BK271.out 6; have hyw58b271_7 := blk_frozen BK271.out 7; have hyw58b271_8 := blk_frozen BK271.out 8; have hzw58b235_0 : w58b.cell? ⟨gb235, 0, none⟩ = some (.int .i64 t225) := (blk_cell BK235.out 0).trans rfl; have hzw58b235_1 : w58b.cell? ⟨gb235, 1, none⟩ = some (.int .i64 t226) := (blk_cell BK235.out 1).trans rfl; have hzw58b235_2 : w58b.cell? ⟨gb235, 2, none⟩ = some (.int .i64 t227) := (blk_cell BK235.out 2).trans rfl; have hzw58b235_3 : w58b.cell? ⟨gb235, 3, none⟩ = some (.int .i64 t228) := (blk_cell BK235.out 3).trans rfl; have hzw58b235_4 : w58b.cell? ⟨gb235, 4, none⟩ = some (.int .i64 t229) := (blk_cell BK235.out 4).trans rfl; have hzw58b235_5 : w58b.cell? ⟨gb235, 5, none⟩ = some (.int .i64 t230) := (blk_cell BK235.out 5).trans rfl; have hzw58b235_6 : w58b.cell? ⟨gb235, 6, none⟩ = some (.int .i64 t231) := (blk_cell BK235.out 6).trans rfl; have hzw58b235_7 : w58b.cell? ⟨gb235, 7, none⟩ = some (.int .i64 t232) := (blk_cell BK235.out 7).trans rfl; have hzw58b235_8 : w58b.cell? ⟨gb235, 8, none⟩ = some (.int .u64 t233) := (blk_cell BK235.out 8).trans rfl; have hyw58b235_0 := blk_frozen BK235.out 0; have hyw58b235_1 := blk_frozen BK235.out 1; have hyw58b235_2 := blk_frozen BK235.out 2; have hyw58b235_3 := blk_frozen BK235.out 3; have hyw58b235_4 := blk_frozen BK235.out 4; have hyw58b235_5 := blk_frozen BK235.out 5; have hyw58b235_6 := blk_frozen BK235.out 6; have hyw58b235_7 := blk_frozen BK235.out 7; have hyw58b235_8 := blk_frozen BK235.out 8) | ((with_reducible refine gate_dst (N := 10) rfl ?_); (try (refine gate_guard (by rfl) ?_; dsimp only)); refine box_event ?hg (N := 10) ?hd (cs := #[.int .i64 0, .int .i64 0, .int .i64 0, .int .i64 0, .int .i64 0, .int .i64 0, .int .i64 0, .int .i64 0, .int .u64 0]) (t := 24) ?hr ?_; (case hd => rfl); (case hg => rfl); (case hr => first | (go_simp; done) | (go_simp; rfl)); intro gb272 hg w64 hbox hb; have n0_ := Aside0.mk (Kd.R_below HO239.out hb); have n1_ := Aside0.mk (Kd.R_below HO259.out hb); have n2_ := Aside0.mk (blk_below (g := gb235) (o := .cells #[.int .i64 t225, .int .i64 t226, .int .i64 t227, .int .i64 t228, .int .i64 t229, .int .i64 t230, .int .i64 t231, .int .i64 t232, .int .u64 t233] 24 (0, 0)) BK235.out hb); have n3_ := Aside0.mk (blk_below (g := gb236) (o := .cells #[.int .i64 t225, .int .i64 t226, .int .i64 t227, .int .i64 t228, .int .i64 9, .int .i64 t230, .int .i64 t231, .int .i64 t232, .int .u64 t233] 24 (0, 0)) BK236.out hb); have n4_ := Aside0.mk (blk_below (g := gb250) (o := .cells #[.int .i64 t240, .int .i64 t241, .int .i64 t242, .int .i64 t243, .int .i64 t244, .int .i64 t245, .int .i64 t246, .int .i64 t247, .int .u64 t248] 24 (0, 0)) BK250.out hb); have n5_ := Aside0.mk (blk_below (g := gb270) (o := .cells #[.int .i64 t260, .int .i64 t261, .int .i64 t262, .int .i64 t263, .int .i64 t264, .int .i64 t265, .int .i64 t266, .int .i64 t267, .int .u64 t268] 24 (0, 0)) BK270.out hb); have n6_ := Aside0.mk (blk_below (g := gb271) (o := .cells #[.int .i64 t225, .int .i64 t226, .int .i64 t227, .int .i64 t228, .int .i64 t229, .int .i64 t230, .int .i64 t231, .int .i64 100, .int .u64 t233] 24 (0, 0)) BK271.out hb); have n7_ := Aside0.mk (below_step (by repeat (first | (with_reducible first | exact HB.out | apply below_alloc | apply pw_below_drewN | apply below_drew1 | refine below_set ?_ GE235.out | refine below_set ?_ GE236.out | refine below_set ?_ GE250.out | refine below_set ?_ GE270.out | refine below_set ?_ GE271.out) | exact HB.out)) hb); have n8_ := Aside0.mk (hbox); have n9_ := Aside0.mk ((by rw [hg]; exact (below_size (by repeat (first | (with_reducible first | exact HB.out | apply below_alloc | apply pw_below_drewN | apply below_drew1 | refine below_set ?_ GE235.out | refine below_set ?_ GE236.out | refine below_set ?_ GE250.out | refine below_set ?_ GE270.out | refine below_set ?_ GE271.out) | exact HB.out))) : w.heap.size ≤ gb272)); have n10_ := Aside0.mk ((by rw [hg]; exact (below_size (by repeat (first | (with_reducible first | exact HB.out | apply below_alloc | apply pw_below_drewN | apply below_drew1 | refine below_set ?_ GE235.out | refine below_set ?_ GE236.out | refine below_set ?_ GE250.out | refine below_set ?_ GE270.out | refine below_set ?_ GE271.out) | exact HB.out))) : w.heap.size ≤ gb272)); have n11_ := Aside0.mk ((by rw [hg]; exact Nat.ne_of_lt (blk_lt (g := gb235) (o := .cells #[.int .i64 t225, .int .i64 t226, .int .i64 t227, .int .i64 t228, .int .i64 t229, .int .i64 t230, .int .i64 t231, .int .i64 t232, .int .u64 t233] 24 (0, 0)) BK235.out) : gb235 ≠ gb272)); have n12_ := Aside0.mk ((by rw [hg]; exact Nat.ne_of_gt (blk_lt (g := gb235) (o := .cells #[.int .i64 t225, .int .i64 t226, .int .i64 t227, .int .i64 t228, .int .i64 t229, .int .i64 t230, .int .i64 t231, .int .i64 t232, .int .u64 t233] 24 (0, 0)) BK235.out) : gb272 ≠ gb235)); have n13_ := Aside0.mk ((by rw [hg]; exact Nat.ne_of_lt (blk_lt (g := gb236) (o := .cells #[.int .i64 t225, .int .i64 t226, .int .i64 t227, .int .i64 t228, .int .i64 9, .int .i64 t230, .int .i64 t231, .int .i64 t232, .int .u64 t233] 24 (0, 0)) BK236.out) : gb236 ≠ gb272)); have n14_ := Aside0.mk ((by rw [hg]; exact Nat.ne_of_gt (blk_lt (g := gb236) (o := .cells #[.int .i64 t225, .int .i64 t226, .int .i64 t227, .int .i64 t228, .int .i64 9, .int .i64 t230, .int .i64 t231, .int .i64 t232, .int .u64 t233] 24 (0, 0)) BK236.out) : gb272 ≠ gb236)); have n15_ := Aside0.mk ((by rw [hg]; exact Nat.ne_of_lt (blk_lt (g := gb250) (o := .cells #[.int .i64 t240, .int .i64 t241, .int .i64 t242, .int .i64 t243, .int .i64 t244, .int .i64 t245, .int .i64 t246, .int .i64 t247, .int .u64 t248] 24 (0, 0)) BK250.out) : gb250 ≠ gb272)); have n16_ := Aside0.mk ((by rw [hg]; exact Nat.ne_of_gt (blk_lt (g := gb250) (o := .cells #[.int .i64 t240, .int .i64 t241, .int .i64 t242, .int .i64 t243, .int .i64 t244, .int .i64 t245, .int .i64 t246, .int .i64 t247, .int .u64 t248] 24 (0, 0)) BK250.out) : gb272 ≠ gb250)); have n17_ := Aside0.mk ((by rw [hg]; exact Nat.ne_of_lt (blk_lt (g := gb270) (o := .cells #[.int .i64 t260, .int .i64 t261, .int .i64 t262, .int .i64 t263, .int .i64 t264, .int .i64 t265, .int .i64 t266, .int .i64 t267, .int .u64 t268] 24 (0, 0)) BK270.out) : gb270 ≠ gb272)); have n18_ := Aside0.mk ((by rw [hg]; exact Nat.ne_of_gt (blk_lt (g := gb270) (o := .cells #[.int .i64 t260, .int .i64 t261, .int .i64 t262, .int .i64 t263, .int .i64 t264, .int .i64 t265, .int .i64 t266, .int .i64 t267, .int .u64 t268] 24 (0, 0)) BK270.out) : gb272 ≠ gb270)); have n19_ := Aside0.mk ((by rw [hg]; exact Nat.ne_of_lt (blk_lt (g := gb271) (o := .cells #[.int .i64 t225, .int .i64 t226, .int .i64 t227, .int .i64 t228, .int .i64 t229, .int .i64 t230, .int .i64 t231, .int .i64 100, .int .u64 t233] 24 (0, 0)) BK271.out) : gb271 ≠ gb272)); have n20_ := Aside0.mk ((by rw [hg]; exact Nat.ne_of_gt (blk_lt (g := gb271) (o := .cells #[.int .i64 t225, .int .i64 t226, .int .i64 t227, .int .i64 t228, .int .i64 t229, .int .i64 t230, .int .i64 t231, .int .i64 100, .int .u64 t233] 24 (0, 0)) BK271.out) : gb272 ≠ gb271)); clear HO239; clear HO259; clear BK235; clear BK236; clear BK250; clear BK270; clear BK271; clear HB; have HO239 := n0_; have HO259 := n1_; have BK235 := n2_; have BK236 := n3_; have BK250 := n4_; have BK270 := n5_; have BK271 := n6_; have HB := n7_; have BK272 := n8_; have GW272 := n9_; have GE272 := n10_; have NB235_272 := n11_; have NB272_235 := n12_; have NB236_272 := n13_; have NB272_236 := n14_; have NB250_272 := n15_; have NB272_250 := n16_; have NB270_272 := n17_; have NB272_270 := n18_; have NB271_272 := n19_; have NB272_271 := n20_; clear n0_ n1_ n2_ n3_ n4_ n5_ n6_ n7_ n8_ n9_ n10_ n11_ n12_ n13_ n14_ n15_ n16_ n17_ n18_ n19_ n20_; clear hb hbox hg; have hnb65 := NB272_235.out; have hnc65 := NB235_272.out; have hnb66 := NB272_236.out; have hnc66 := NB236_272.out; have hnb67 := NB272_250.out; have hnc67 := NB250_272.out; have hnb68 := NB272_270.out; have hnc68 := NB270_272.out; have hnb69 := NB272_271.out; have hnc69 := NB271_272.out; have hcz70_0 : w64.cell? ⟨gb272, 0, none⟩ = some (.int .i64 0) := (blk_cell BK272.out 0).trans rfl; have hcz70_1 : w64.cell? ⟨gb272, 1, none⟩ = some (.int .i64 0) := (blk_cell BK272.out 1).trans rfl; have hcz70_2 : w64.cell? ⟨gb272, 2, none⟩ = some (.int .i64 0) := (blk_cell BK272.out 2).trans rfl; have hcz70_3 : w64.cell? ⟨gb272, 3, none⟩ = some (.int .i64 0) := (blk_cell BK272.out 3).trans rfl; have hcz70_4 : w64.cell? ⟨gb272, 4, none⟩ = some (.int .i64 0) := (blk_cell BK272.out 4).trans rfl; have hcz70_5 : w64.cell? ⟨gb272, 5, none⟩ = some (.int .i64 0) := (blk_cell BK272.out 5).trans rfl; have hcz70_6 : w64.cell? ⟨gb272, 6, none⟩ = some (.int .i64 0) := (blk_cell BK272.out 6).trans rfl; have hcz70_7 : w64.cell? ⟨gb272, 7, none⟩ = some (.int .i64 0) := (blk_cell BK272.out 7).trans rfl; have hcz70_8 : w64.cell? ⟨gb272, 8, none⟩ = some (.int .u64 0) := (blk_cell BK272.out 8).trans rfl; have hfz70_0 := blk_frozen BK272.out 0; have hfz70_1 := blk_frozen BK272.out 1; have hfz70_2 := blk_frozen BK272.out 2; have hfz70_3 := blk_frozen BK272.out 3; have hfz70_4 := blk_frozen BK272.out 4; have hfz70_5 := blk_frozen BK272.out 5; have hfz70_6 := blk_frozen BK272.out 6; have hfz70_7 := blk_frozen BK272.out 7; have hfz70_8 := blk_frozen BK272.out 8; have hcz71_0 : w64.cell? ⟨gb235, 0, none⟩ = some (.int .i64 t225) := (blk_cell BK235.out 0).trans rfl; have hcz71_1 : w64.cell? ⟨gb235, 1, none⟩ = some (.int .i64 t226) := (blk_cell BK235.out 1).trans rfl; have hcz71_2 : w64.cell? ⟨gb235, 2, none⟩ = some (.int .i64 t227) := (blk_cell BK235.out 2).trans rfl; have hcz71_3 : w64.cell? ⟨gb235, 3, none⟩ = some (.int .i64 t228) := (blk_cell BK235.out 3).trans rfl; have hcz71_4 : w64.cell? ⟨gb235, 4, none⟩ = some (.int .i64 t229) := (blk_cell BK235.out 4).trans rfl; have hcz71_5 : w64.cell? ⟨gb235, 5, none⟩ = some (.int .i64 t230) := (blk_cell BK235.out 5).trans rfl; have hcz71_6 : w64.cell? ⟨gb235, 6, none⟩ = some (.int .i64 t231) := (blk_cell BK235.out 6).trans rfl; have hcz71_7 : w64.cell? ⟨gb235, 7, none⟩ = some (.int .i64 t232) := (blk_cell BK235.out 7).trans rfl; have hcz71_8 : w64.cell? ⟨gb235, 8, none⟩ = some (.int .u64 t233) := (blk_cell BK235.out 8).trans rfl; have hfz71_0 := blk_frozen BK235.out 0; have hfz71_1 := blk_frozen BK235.out 1; have hfz71_2 := blk_frozen BK235.out 2; have hfz71_3 := blk_frozen BK235.out 3; have hfz71_4 := blk_frozen BK235.out 4; have hfz71_5 := blk_frozen BK235.out 5; have hfz71_6 := blk_frozen BK235.out 6; have hfz71_7 := blk_frozen BK235.out 7; have hfz71_8 := blk_frozen BK235.out 8) | (go_at_call 19; have n0_ := Aside0.mk (Kd.R_mono (Kd.R_far (p := ⟨gb272, 3, none⟩) (Kd.R_far (p := ⟨gb272, 8, none⟩) (Kd.R_far (p := ⟨gb272, 7, none⟩) (Kd.R_far (p := ⟨gb272, 6, none⟩) (Kd.R_far (p := ⟨gb272, 5, none⟩) (Kd.R_far (p := ⟨gb272, 4, none⟩) (Kd.R_far (p := ⟨gb272, 3, none⟩) (Kd.R_far (p := ⟨gb272, 2, none⟩) (Kd.R_far (p := ⟨gb272, 1, none⟩) (Kd.R_far (p := ⟨gb272, 0, none⟩) (Kd.R_types HO239.out BK272.out (by decide)) (fun _ hk => hk.2) (.int .i64 t225)) (fun _ hk => hk.2) (.int .i64 t226)) (fun _ hk => hk.2) (.int .i64 t227)) (fun _ hk => hk.2) (.int .i64 t228)) (fun _ hk => hk.2) (.int .i64 t229)) (fun _ hk => hk.2) (.int .i64 t230)) (fun _ hk => hk.2) (.int .i64 t231)) (fun _ hk => hk.2) (.int .i64 100)) (fun _ hk => hk.2) (.int .u64 t233)) (fun _ hk => hk.2) (.int .i64 101)) (fun _ h_ => h_.1)); have n1_ := Aside0.mk (Kd.R_mono (Kd.R_far (p := ⟨gb272, 3, none⟩) (Kd.R_far (p := ⟨gb272, 8, none⟩) (Kd.R_far (p := ⟨gb272, 7, none⟩) (Kd.R_far (p := ⟨gb272, 6, none⟩) (Kd.R_far (p := ⟨gb272, 5, none⟩) (Kd.R_far (p := ⟨gb272, 4, none⟩) (Kd.R_far (p := ⟨gb272, 3, none⟩) (Kd.R_far (p := ⟨gb272, 2, none⟩) (Kd.R_far (p := ⟨gb272, 1, none⟩) (Kd.R_far (p := ⟨gb272, 0, none⟩) (Kd.R_types HO259.out BK272.out (by decide)) (fun _ hk => hk.2) (.int .i64 t225)) (fun _ hk => hk.2) (.int .i64 t226)) (fun _ hk => hk.2) (.int .i64 t227)) (fun _ hk => hk.2) (.int .i64 t228)) (fun _ hk => hk.2) (.int .i64 t229)) (fun _ hk => hk.2) (.int .i64 t230)) (fun _ hk => hk.2) (.int .i64 t231)) (fun _ hk => hk.2) (.int .i64 100)) (fun _ hk => hk.2) (.int .u64 t233)) (fun _ hk => hk.2) (.int .i64 101)) (fun _ h_ => h_.1)); have n2_ := Aside0.mk (blk_far (p := ⟨gb272, 3, none⟩) (blk_far (p := ⟨gb272, 8, none⟩) (blk_far (p := ⟨gb272, 7, none⟩) (blk_far (p := ⟨gb272, 6, none⟩) (blk_far (p := ⟨gb272, 5, none⟩) (blk_far (p := ⟨gb272, 4, none⟩) (blk_far (p := ⟨gb272, 3, none⟩) (blk_far (p := ⟨gb272, 2, none⟩) (blk_far (p := ⟨gb272, 1, none⟩) (blk_far (p := ⟨gb272, 0, none⟩) (BK235.out) NB235_272.out (.int .i64 t225)) NB235_272.out (.int .i64 t226)) NB235_272.out (.int .i64 t227)) NB235_272.out (.int .i64 t228)) NB235_272.out (.int .i64 t229)) NB235_272.out (.int .i64 t230)) NB235_272.out (.int .i64 t231)) NB235_272.out (.int .i64 100)) NB235_272.out (.int .u64 t233)) NB235_272.out (.int .i64 101)); have n3_ := Aside0.mk (blk_far (p := ⟨gb272, 3, none⟩) (blk_far (p := ⟨gb272, 8, none⟩) (blk_far (p := ⟨gb272, 7, none⟩) (blk_far (p := ⟨gb272, 6, none⟩) (blk_far (p := ⟨gb272, 5, none⟩) (blk_far (p := ⟨gb272, 4, none⟩) (blk_far (p := ⟨gb272, 3, none⟩) (blk_far (p := ⟨gb272, 2, none⟩) (blk_far (p := ⟨gb272, 1, none⟩) (blk_far (p := ⟨gb272, 0, none⟩) (BK236.out) NB236_272.out (.int .i64 t225)) NB236_272.out (.int .i64 t226)) NB236_272.out (.int .i64 t227)) NB236_272.out (.int .i64 t228)) NB236_272.out (.int .i64 t229)) NB236_272.out (.int .i64 t230)) NB236_272.out (.int .i64 t231)) NB236_272.out (.int .i64 100)) NB236_272.out (.int .u64 t233)) NB236_272.out (.int .i64 101)); have n4_ := Aside0.mk (blk_far (p := ⟨gb272, 3, none⟩) (blk_far (p := ⟨gb272, 8, none⟩) (blk_far (p := ⟨gb272, 7, none⟩) (blk_far (p := ⟨gb272, 6, none⟩) (blk_far (p := ⟨gb272, 5, none⟩) (blk_far (p := ⟨gb272, 4, none⟩) (blk_far (p := ⟨gb272, 3, none⟩) (blk_far (p := ⟨gb272, 2, none⟩) (blk_far (p := ⟨gb272, 1, none⟩) (blk_far (p := ⟨gb272, 0, none⟩) (BK250.out) NB250_272.out (.int .i64 t225)) NB250_272.out (.int .i64 t226)) NB250_272.out (.int .i64 t227)) NB250_272.out (.int .i64 t228)) NB250_272.out (.int .i64 t229)) NB250_272.out (.int .i64 t230)) NB250_272.out (.int .i64 t231)) NB250_272.out (.int .i64 100)) NB250_272.out (.int .u64 t233)) NB250_272.out (.int .i64 101)); have n5_ := Aside0.mk (blk_far (p := ⟨gb272, 3, none⟩) (blk_far (p := ⟨gb272, 8, none⟩) (blk_far (p := ⟨gb272, 7, none⟩) (blk_far (p := ⟨gb272, 6, none⟩) (blk_far (p := ⟨gb272, 5, none⟩) (blk_far (p := ⟨gb272, 4, none⟩) (blk_far (p := ⟨gb272, 3, none⟩) (blk_far (p := ⟨gb272, 2, none⟩) (blk_far (p := ⟨gb272, 1, none⟩) (blk_far (p := ⟨gb272, 0, none⟩) (BK270.out) NB270_272.out (.int .i64 t225)) NB270_272.out (.int .i64 t226)) NB270_272.out (.int .i64 t227)) NB270_272.out (.int .i64 t228)) NB270_272.out (.int .i64 t229)) NB270_272.out (.int .i64 t230)) NB270_272.out (.int .i64 t231)) NB270_272.out (.int .i64 100)) NB270_272.out (.int .u64 t233)) NB270_272.out (.int .i64 101)); have n6_ := Aside0.mk (blk_far (p := ⟨gb272, 3, none⟩) (blk_far (p := ⟨gb272, 8, none⟩) (blk_far (p := ⟨gb272, 7, none⟩) (blk_far (p := ⟨gb272, 6, none⟩) (blk_far (p := ⟨gb272, 5, none⟩) (blk_far (p := ⟨gb272, 4, none⟩) (blk_far (p := ⟨gb272, 3, none⟩) (blk_far (p := ⟨gb272, 2, none⟩) (blk_far (p := ⟨gb272, 1, none⟩) (blk_far (p := ⟨gb272, 0, none⟩) (BK271.out) NB271_272.out (.int .i64 t225)) NB271_272.out (.int .i64 t226)) NB271_272.out (.int .i64 t227)) NB271_272.out (.int .i64 t228)) NB271_272.out (.int .i64 t229)) NB271_272.out (.int .i64 t230)) NB271_272.out (.int .i64 t231)) NB271_272.out (.int .i64 100)) NB271_272.out (.int .u64 t233)) NB271_272.out (.int .i64 101)); have n7_ : Aside0 (((((((((((w64.setCell ⟨gb272, 0, none⟩ (.int .i64 t225)).setCell ⟨gb272, 1, none⟩ (.int .i64 t226)).setCell ⟨gb272, 2, none⟩ (.int .i64 t227)).setCell ⟨gb272, 3, none⟩ (.int .i64 t228)).setCell ⟨gb272, 4, none⟩ (.int .i64 t229)).setCell ⟨gb272, 5, none⟩ (.int .i64 t230)).setCell ⟨gb272, 6, none⟩ (.int .i64 t231)).setCell ⟨gb272, 7, none⟩ (.int .i64 100)).setCell ⟨gb272, 8, none⟩ (.int .u64 t233)).setCell ⟨gb272, 3, none⟩ (.int .i64 101)).heap[gb272]? = some (.cells #[.int .i64 t225, .int .i64 t226, .int .i64 t227, .int .i64 101, .int .i64 t229, .int .i64 t230, .int .i64 t231, .int .i64 100, .int .u64 t233] 24 (0, 0))) := ⟨blk_put (cs := #[.int .i64 t225, .int .i64 t226, .int .i64 t227, .int .i64 t228, .int .i64 t229, .int .i64 t230, .int .i64 t231, .int .i64 100, .int .u64 t233]) (blk_put (cs := #[.int .i64 t225, .int .i64 t226, .int .i64 t227, .int .i64 t228, .int .i64 t229, .int .i64 t230, .int .i64 t231, .int .i64 100, .int .u64 0]) (blk_put (cs := #[.int .i64 t225, .int .i64 t226, .int .i64 t227, .int .i64 t228, .int .i64 t229, .int .i64 t230, .int .i64 t231, .int .i64 0, .int .u64 0]) (blk_put (cs := #[.int .i64 t225, .int .i64 t226, .int .i64 t227, .int .i64 t228, .int .i64 t229, .int .i64 t230, .int .i64 0, .int .i64 0, .int .u64 0]) (blk_put (cs := #[.int .i64 t225, .int .i64 t226, .int .i64 t227, .int .i64 t228, .int .i64 t229, .int .i64 0, .int .i64 0, .int .i64 0, .int .u64 0]) (blk_put (cs := #[.int .i64 t225, .int .i64 t226, .int .i64 t227, .int .i64 t228, .int .i64 0, .int .i64 0, .int .i64 0, .int .i64 0, .int .u64 0]) (blk_put (cs := #[.int .i64 t225, .int .i64 t226, .int .i64 t227, .int .i64 0, .int .i64 0, .int .i64 0, .int .i64 0, .int .i64 0, .int .u64 0]) (blk_put (cs := #[.int .i64 t225, .int .i64 t226, .int .i64 0, .int .i64 0, .int .i64 0, .int .i64 0, .int .i64 0, .int .i64 0, .int .u64 0]) (blk_put (cs := #[.int .i64 t225, .int .i64 0, .int .i64 0, .int .i64 0, .int .i64 0, .int .i64 0, .int .i64 0, .int .i64 0, .int .u64 0]) (blk_put (cs := #[.int .i64 0, .int .i64 0, .int .i64 0, .int .i64 0, .int .i64 0, .int .i64 0, .int .i64 0, .int .i64 0, .int .u64 0]) (BK272.out) 0 (.int .i64 t225) rfl) 1 (.int .i64 t226) rfl) 2 (.int .i64 t227) rfl) 3 (.int .i64 t228) rfl) 4 (.int .i64 t229) rfl) 5 (.int .i64 t230) rfl) 6 (.int .i64 t231) rfl) 7 (.int .i64 100) rfl) 8 (.int .u64 t233) rfl) 3 (.int .i64 101) rfl⟩; have n8_ := Aside0.mk (below_set (g := gb272) (j := 3) (v := .int .i64 101) (below_set (g := gb272) (j := 8) (v := .int .u64 t233) (below_set (g := gb272) (j := 7) (v := .int .i64 100) (below_set (g := gb272) (j := 6) (v := .int .i64 t231) (below_set (g := gb272) (j := 5) (v := .int .i64 t230) (below_set (g := gb272) (j := 4) (v := .int .i64 t229) (below_set (g := gb272) (j := 3) (v := .int .i64 t228) (below_set (g := gb272) (j := 2) (v := .int .i64 t227) (below_set (g := gb272) (j := 1) (v := .int .i64 t226) (below_set (g := gb272) (j := 0) (v := .int .i64 t225) (HB.out) GE272.out) GE272.out) GE272.out) GE272.out) GE272.out) GE272.out) GE272.out) GE272.out) GE272.out) GE272.out); clear HO239; clear HO259; clear BK235; clear BK236; clear BK250; clear BK270; clear BK271; clear BK272; clear HB; have HO239 := n0_; have HO259 := n1_; have BK235 := n2_; have BK236 := n3_; have BK250 := n4_; have BK270 := n5_; have BK271 := n6_; have BK272 := n7_; have HB := n8_; clear n0_ n1_ n2_ n3_ n4_ n5_ n6_ n7_ n8_; generalize ((((((((((w64.setCell ⟨gb272, 0, none⟩ (.int .i64 t225)).setCell ⟨gb272, 1, none⟩ (.int .i64 t226)).setCell ⟨gb272, 2, none⟩ (.int .i64 t227)).setCell ⟨gb272, 3, none⟩ (.int .i64 t228)).setCell ⟨gb272, 4, none⟩ (.int .i64 t229)).setCell ⟨gb272, 5, none⟩ (.int .i64 t230)).setCell ⟨gb272, 6, none⟩ (.int .i64 t231)).setCell ⟨gb272, 7, none⟩ (.int .i64 100)).setCell ⟨gb272, 8, none⟩ (.int .u64 t233)).setCell ⟨gb272, 3, none⟩ (.int .i64 101)) = w64b at HO239 HO259 BK235 BK236 BK250 BK270 BK271 BK272 HB ⊢; (with_reducible refine (media_Body.calls k t225 t226 t227 t228 t229 t230 t231 t232 t233 t273 _ A16.out).mono ?_); rintro e w72 ⟨v274, rfl, ho0, hb⟩; have n0_ := Aside0.mk (Kd.R_elder' HO239.out (Kd.R_base ho0) hb); have n1_ := Aside0.mk (Kd.R_elder' HO259.out (Kd.R_base ho0) hb); have n2_ := Aside0.mk (Kd.R_lower (Kd.R_new' (Kd.R_new' ho0 (Kd.R_lt HO239.out)) (Kd.R_lt HO259.out)) (below_size (by repeat (first | (with_reducible first | exact HB.out | apply below_alloc | apply pw_below_drewN | apply below_drew1 | refine below_set ?_ GE235.out | refine below_set ?_ GE236.out | refine below_set ?_ GE250.out | refine below_set ?_ GE270.out | refine below_set ?_ GE271.out | refine below_set ?_ GE272.out) | exact HB.out)))); have n3_ := Aside0.mk (blk_below (g := gb235) (o := .cells #[.int .i64 t225, .int .i64 t226, .int .i64 t227, .int .i64 t228, .int .i64 t229, .int .i64 t230, .int .i64 t231, .int .i64 t232, .int .u64 t233] 24 (0, 0)) BK235.out hb); have n4_ := Aside0.mk (blk_below (g := gb236) (o := .cells #[.int .i64 t225, .int .i64 t226, .int .i64 t227, .int .i64 t228, .int .i64 9, .int .i64 t230, .int .i64 t231, .int .i64 t232, .int .u64 t233] 24 (0, 0)) BK236.out hb); have n5_ := Aside0.mk (blk_below (g := gb250) (o := .cells #[.int .i64 t240, .int .i64 t241, .int .i64 t242, .int .i64 t243, .int .i64 t244, .int .i64 t245, .int .i64 t246, .int .i64 t247, .int .u64 t248] 24 (0, 0)) BK250.out hb); have n6_ := Aside0.mk (blk_below (g := gb270) (o := .cells #[.int .i64 t260, .int .i64 t261, .int .i64 t262, .int .i64 t263, .int .i64 t264, .int .i64 t265, .int .i64 t266, .int .i64 t267, .int .u64 t268] 24 (0, 0)) BK270.out hb); have n7_ := Aside0.mk (blk_below (g := gb271) (o := .cells #[.int .i64 t225, .int .i64 t226, .int .i64 t227, .int .i64 t228, .int .i64 t229, .int .i64 t230, .int .i64 t231, .int .i64 100, .int .u64 t233] 24 (0, 0)) BK271.out hb); have n8_ := Aside0.mk (blk_below (g := gb272) (o := .cells #[.int .i64 t225, .int .i64 t226, .int .i64 t227, .int .i64 101, .int .i64 t229, .int .i64 t230, .int .i64 t231, .int .i64 100, .int .u64 t233] 24 (0, 0)) BK272.out hb); have n9_ := Aside0.mk (below_step (by repeat (first | (with_reducible first | exact HB.out | apply below_alloc | apply pw_below_drewN | apply below_drew1 | refine below_set ?_ GE235.out | refine below_set ?_ GE236.out | refine below_set ?_ GE250.out | refine below_set ?_ GE270.out | refine below_set ?_ GE271.out | refine below_set ?_ GE272.out) | exact HB.out)) hb); clear HO239; clear HO259; clear BK235; clear BK236; clear BK250; clear BK270; clear BK271; clear BK272; clear HB; have HO239 := n0_; have HO259 := n1_; have HO275 := n2_; have BK235 := n3_; have BK236 := n4_; have BK250 := n5_; have BK270 := n6_; have BK271 := n7_; have BK272 := n8_; have HB := n9_; clear n0_ n1_ n2_ n3_ n4_ n5_ n6_ n7_ n8_ n9_; (try clear hb); (try clear hb2); (try clear hk); (try clear hi); (try clear ho0)) | (go_at_call 18; have h8_ := eight_C w72; have hA_ := A17.out; rw [Ny276.out] at hA_; have n0_ := Aside0.mk (Kd.R_alloc HO239.out (.cells eight 5)); have n1_ := Aside0.mk (Kd.R_alloc HO259.out (.cells eight 5)); have n2_ := Aside0.mk (Kd.R_alloc HO275.out (.cells eight 5)); have n3_ := Aside0.mk (blk_alloc BK235.out (.cells eight 5)); have n4_ := Aside0.mk (blk_alloc BK236.out (.cells eight 5)); have n5_ := Aside0.mk (blk_alloc BK250.out (.cells eight 5)); have n6_ := Aside0.mk (blk_alloc BK270.out (.cells eight 5)); have n7_ := Aside0.mk (blk_alloc BK271.out (.cells eight 5)); have n8_ := Aside0.mk (blk_alloc BK272.out (.cells eight 5)); have n9_ := Aside0.mk (below_alloc HB.out (.cells eight 5)); clear HO239; clear HO259; clear HO275; clear BK235; clear BK236; clear BK250; clear BK270; clear BK271; clear BK272; clear HB; have HO239 := n0_; have HO259 := n1_; have HO275 := n2_; have BK235 := n3_; have BK236 := n4_; have BK250 := n5_; have BK270 := n6_; have BK271 := n7_; have BK272 := n8_; have HB := n9_; clear n0_ n1_ n2_ n3_ n4_ n5_ n6_ n7_ n8_ n9_; have eW_ : (w72.alloc (.cells #[.int .u8 5, .int .u8 0, .int .u8 3, .int .u8 0, .int .u8 10, .int .u8 0, .int .u8 0, .int .u8 0] 5)) = w72.alloc (.cells eight 5) := rfl; rw [eW_]; clear eW_; generalize w72.alloc (.cells eight 5) = w73 at h8_ HO239 HO259 HO275 BK235 BK236 BK250 BK270 BK271 BK272 HB ⊢; have HO278 := Aside0.mk (Kd.R_nil (Kd.int .u8) 5 w73 w.heap.size (fun _ => True)); obtain ⟨Ao75, co75, eo75⟩ := Kd.R_slice HO275.out; subst eo75; refine (skiarearef03_Same.calls _ _ t273 (some _) 8 [5, 0, 3, 0, 10, 0, 0, 0] true _ ?side1 ?side2 h8_ (by decide) hA_).mono ?_; (case side1 => repeat (first | exact (Kd.R_reads' HO275.out).2.2 | (with_reducible refine Kd.C_alloc ?_ _) | (with_reducible refine Kd.C_drewN ?_ _) | (with_reducible refine Kd.C_drew ?_))); (case side2 => exact (Kd.R_reads' HO275.out).2.1); clear h8_ hA_; rintro e w' ⟨rfl, ⟨nd, rfl⟩⟩; have p280 : 0 ≤ (0 : Int) := (by omega); have q280 : 0 < (t237.length : Int) := of_decide_eq_true (by first | (with_reducible assumption) | assumption); obtain ⟨ad280, e280, hx280_0⟩ := Kd.at_int (Kd.R_reads' HO239.out).2.2 0 p280 q280; cases e280; have qi280 : (0 < t237.length) = True := eq_true (by omega); (try rw [show ((0 : Int)).toNat = 0 from rfl] at hx280_0); (try rw [Addr.add_zero'] at hx280_0); replace p280 := eq_true p280; replace q280 := eq_true q280; have hcz77_0 : w73.cell? ⟨gb250, 0, none⟩ = some (.int .i64 t240) := (blk_cell BK250.out 0).trans rfl; have hcz77_1 : w73.cell? ⟨gb250, 1, none⟩ = some (.int .i64 t241) := (blk_cell BK250.out 1).trans rfl; have hcz77_2 : w73.cell? ⟨gb250, 2, none⟩ = some (.int .i64 t242) := (blk_cell BK250.out 2).trans rfl; have hcz77_3 : w73.cell? ⟨gb250, 3, none⟩ = some (.int .i64 t243) := (blk_cell BK250.out 3).trans rfl; have hcz77_4 : w73.cell? ⟨gb250, 4, none⟩ = some (.int .i64 t244) := (blk_cell BK250.out 4).trans rfl; have hcz77_5 : w73.cell? ⟨gb250, 5, none⟩ = some (.int .i64 t245) := (blk_cell BK250.out 5).trans rfl; have hcz77_6 : w73.cell? ⟨gb250, 6, none⟩ = some (.int .i64 t246) := (blk_cell BK250.out 6).trans rfl; have hcz77_7 : w73.cell? ⟨gb250, 7, none⟩ = some (.int .i64 t247) := (blk_cell BK250.out 7).trans rfl; have hcz77_8 : w73.cell? ⟨gb250, 8, none⟩ = some (.int .u64 t248) := (blk_cell BK250.out 8).trans rfl; have hfz77_0 := blk_frozen BK250.out 0; have hfz77_1 := blk_frozen BK250.out 1; have hfz77_2 := blk_frozen BK250.out 2; have hfz77_3 := blk_frozen BK250.out 3; have hfz77_4 := blk_frozen BK250.out 4; have hfz77_5 := blk_frozen BK250.out 5; have hfz77_6 := blk_frozen BK250.out 6; have hfz77_7 := blk_frozen BK250.out 7; have hfz77_8 := blk_frozen BK250.out 8; have hcz78_0 : w73.cell? ⟨gb235, 0, none⟩ = some (.int .i64 t225) := (blk_cell BK235.out 0).trans rfl; have hcz78_1 : w73.cell? ⟨gb235, 1, none⟩ = some (.int .i64 t226) := (blk_cell BK235.out 1).trans rfl; have hcz78_2 : w73.cell? ⟨gb235, 2, none⟩ = some (.int .i64 t227) := (blk_cell BK235.out 2).trans rfl; have hcz78_3 : w73.cell? ⟨gb235, 3, none⟩ = some (.int .i64 t228) := (blk_cell BK235.out 3).trans rfl; have hcz78_4 : w73.cell? ⟨gb235, 4, none⟩ = some (.int .i64 t229) := (blk_cell BK235.out 4).trans rfl; have hcz78_5 : w73.cell? ⟨gb235, 5, none⟩ = some (.int .i64 t230) := (blk_cell BK235.out 5).trans rfl; have hcz78_6 : w73.cell? ⟨gb235, 6, none⟩ = some (.int .i64 t231) := (blk_cell BK235.out 6).trans rfl; have hcz78_7 : w73.cell? ⟨gb235, 7, none⟩ = some (.int .i64 t232) := (blk_cell BK235.out 7).trans rfl; have hcz78_8 : w73.cell? ⟨gb235, 8, none⟩ = some (.int .u64 t233) := (blk_cell BK235.out 8).trans rfl; have hfz78_0 := blk_frozen BK235.out 0; have hfz78_1 := blk_frozen BK235.out 1; have hfz78_2 := blk_frozen BK235.out 2; have hfz78_3 := blk_frozen BK235.out 3; have hfz78_4 := blk_frozen BK235.out 4; have hfz78_5 := blk_frozen BK235.out 5; have hfz78_6 := blk_frozen BK235.out 6; have hfz78_7 := blk_frozen BK235.out 7; have hfz78_8 := blk_frozen BK235.out 8) | (go_at_call 15; (with_reducible refine (media_Check.calls k 7 t225 t226 t227 t228 t229 t230 t231 t232 t233 true _ A25.out).mono ?_); rintro e w79 ⟨rfl, hb⟩; have n0_ := Aside0.mk (Kd.R_below (by (with_reducible repeat (first | apply Kd.R_alloc | apply Kd.R_drewN | apply Kd.R_drew)); exact HO239.out) hb); have n1_ := Aside0.mk (Kd.R_below (by (with_reducible repeat (first | apply Kd.R_alloc | apply Kd.R_drewN | apply Kd.R_drew)); exact HO259.out) hb); have n2_ := Aside0.mk (Kd.R_below (by (with_reducible repeat (first | apply Kd.R_alloc | apply Kd.R_drewN | apply Kd.R_drew)); exact HO275.out) hb); have n3_ := Aside0.mk (Kd.R_below (by (with_reducible repeat (first | apply Kd.R_alloc | apply Kd.R_drewN | apply Kd.R_drew)); exact HO278.out) hb); have n4_ := Aside0.mk (blk_below (g := gb235) (o := .cells #[.int .i64 t225, .int .i64 t226, .int .i64 t227, .int .i64 t228, .int .i64 t229, .int .i64 t230, .int .i64 t231, .int .i64 t232, .int .u64 t233] 24 (0, 0)) (by (with_reducible repeat (first | refine blk_drewN ?_ _ | refine blk_drew ?_ | refine blk_alloc ?_ _)); exact BK235.out) hb); have n5_ := Aside0.mk (blk_below (g := gb236) (o := .cells #[.int .i64 t225, .int .i64 t226, .int .i64 t227, .int .i64 t228, .int .i64 9, .int .i64 t230, .int .i64 t231, .int .i64 t232, .int .u64 t233] 24 (0, 0)) (by (with_reducible repeat (first | refine blk_drewN ?_ _ | refine blk_drew ?_ | refine blk_alloc ?_ _)); exact BK236.out) hb); have n6_ := Aside0.mk (blk_below (g := gb250) (o := .cells #[.int .i64 t240, .int .i64 t241, .int .i64 t242, .int .i64 t243, .int .i64 t244, .int .i64 t245, .int .i64 t246, .int .i64 t247, .int .u64 t248] 24 (0, 0)) (by (with_reducible repeat (first | refine blk_drewN ?_ _ | refine blk_drew ?_ | refine blk_alloc ?_ _)); exact BK250.out) hb); have n7_ := Aside0.mk (blk_below (g := gb270) (o := .cells #[.int .i64 t260, .int .i64 t261, .int .i64 t262, .int .i64 t263, .int .i64 t264, .int .i64 t265, .int .i64 t266, .int .i64 t267, .int .u64 t268] 24 (0, 0)) (by (with_reducible repeat (first | refine blk_drewN ?_ _ | refine blk_drew ?_ | refine blk_alloc ?_ _)); exact BK270.out) hb); have n8_ := Aside0.mk (blk_below (g := gb271) (o := .cells #[.int .i64 t225, .int .i64 t226, .int .i64 t227, .int .i64 t228, .int .i64 t229, .int .i64 t230, .int .i64 t231, .int .i64 100, .int .u64 t233] 24 (0, 0)) (by (with_reducible repeat (first | refine blk_drewN ?_ _ | refine blk_drew ?_ | refine blk_alloc ?_ _)); exact BK271.out) hb); have n9_ := Aside0.mk (blk_below (g := gb272) (o := .cells #[.int .i64 t225, .int .i64 t226, .int .i64 t227, .int .i64 101, .int .i64 t229, .int .i64 t230, .int .i64 t231, .int .i64 100, .int .u64 t233] 24 (0, 0)) (by (with_reducible repeat (first | refine blk_drewN ?_ _ | refine blk_drew ?_ | refine blk_alloc ?_ _)); exact BK272.out) hb); have n10_ := Aside0.mk (below_step (by repeat (first | (with_reducible first | exact HB.out | apply below_alloc | apply pw_below_drewN | apply below_drew1 | refine below_set ?_ GE235.out | refine below_set ?_ GE236.out | refine below_set ?_ GE250.out | refine below_set ?_ GE270.out | refine below_set ?_ GE271.out | refine below_set ?_ GE272.out) | exact HB.out)) hb); clear HO239; clear HO259; clear HO275; clear HO278; clear BK235; clear BK236; clear BK250; clear BK270; clear BK271; clear BK272; clear HB; have HO239 := n0_; have HO259 := n1_; have HO275 := n2_; have HO278 := n3_; have BK235 := n4_; have BK236 := n5_; have BK250 := n6_; have BK270 := n7_; have BK271 := n8_; have BK272 := n9_; have HB := n10_; clear n0_ n1_ n2_ n3_ n4_ n5_ n6_ n7_ n8_ n9_ n10_; (try clear hb); (try clear hb2); (try clear hk); (try clear hi); have hcz80_0 : w79.cell? ⟨gb236, 0, none⟩ = some (.int .i64 t225) := (blk_cell BK236.out 0).trans rfl; have hcz80_1 : w79.cell? ⟨gb236, 1, none⟩ = some (.int .i64 t226) := (blk_cell BK236.out 1).trans rfl; have hcz80_2 : w79.cell? ⟨gb236, 2, none⟩ = some (.int .i64 t227) := (blk_cell BK236.out 2).trans rfl; have hcz80_3 : w79.cell? ⟨gb236, 3, none⟩ = some (.int .i64 t228) := (blk_cell BK236.out 3).trans rfl; have hcz80_4 : w79.cell? ⟨gb236, 4, none⟩ = some (.int .i64 9) := (blk_cell BK236.out 4).trans rfl; have hcz80_5 : w79.cell? ⟨gb236, 5, none⟩ = some (.int .i64 t230) := (blk_cell BK236.out 5).trans rfl; have hcz80_6 : w79.cell? ⟨gb236, 6, none⟩ = some (.int .i64 t231) := (blk_cell BK236.out 6).trans rfl; have hcz80_7 : w79.cell? ⟨gb236, 7, none⟩ = some (.int .i64 t232) := (blk_cell BK236.out 7).trans rfl; have hcz80_8 : w79.cell? ⟨gb236, 8, none⟩ = some (.int .u64 t233) := (blk_cell BK236.out 8).trans rfl; have hfz80_0 := blk_frozen BK236.out 0; have hfz80_1 := blk_frozen BK236.out 1; have hfz80_2 := blk_frozen BK236.out 2; have hfz80_3 := blk_frozen BK236.out 3; have hfz80_4 := blk_frozen BK236.out 4; have hfz80_5 := blk_frozen BK236.out 5; have hfz80_6 := blk_frozen BK236.out 6; have hfz80_7 := blk_frozen BK236.out 7; have hfz80_8 := blk_frozen BK236.out 8) | (go_at_call 15; (with_reducible refine (media_Check.calls k 7 t225 t226 t227 t228 9 t230 t231 t232 t233 false _ A27.out).mono ?_); rintro e w81 ⟨rfl, hb⟩; have n0_ := Aside0.mk (Kd.R_below (by (with_reducible repeat (first | apply Kd.R_alloc | apply Kd.R_drewN | apply Kd.R_drew)); exact HO239.out) hb); have n1_ := Aside0.mk (Kd.R_below (by (with_reducible repeat (first | apply Kd.R_alloc | apply Kd.R_drewN | apply Kd.R_drew)); exact HO259.out) hb); have n2_ := Aside0.mk (Kd.R_below (by (with_reducible repeat (first | apply Kd.R_alloc | apply Kd.R_drewN | apply Kd.R_drew)); exact HO275.out) hb); have n3_ := Aside0.mk (Kd.R_below (by (with_reducible repeat (first | apply Kd.R_alloc | apply Kd.R_drewN | apply Kd.R_drew)); exact HO278.out) hb); have n4_ := Aside0.mk (blk_below (g := gb235) (o := .cells #[.int .i64 t225, .int .i64 t226, .int .i64 t227, .int .i64 t228, .int .i64 t229, .int .i64 t230, .int .i64 t231, .int .i64 t232, .int .u64 t233] 24 (0, 0)) (by (with_reducible repeat (first | refine blk_drewN ?_ _ | refine blk_drew ?_ | refine blk_alloc ?_ _)); exact BK235.out) hb); have n5_ := Aside0.mk (blk_below (g := gb236) (o := .cells #[.int .i64 t225, .int .i64 t226, .int .i64 t227, .int .i64 t228, .int .i64 9, .int .i64 t230, .int .i64 t231, .int .i64 t232, .int .u64 t233] 24 (0, 0)) (by (with_reducible repeat (first | refine blk_drewN ?_ _ | refine blk_drew ?_ | refine blk_alloc ?_ _)); exact BK236.out) hb); have n6_ := Aside0.mk (blk_below (g := gb250) (o := .cells #[.int .i64 t240, .int .i64 t241, .int .i64 t242, .int .i64 t243, .int .i64 t244, .int .i64 t245, .int .i64 t246, .int .i64 t247, .int .u64 t248] 24 (0, 0)) (by (with_reducible repeat (first | refine blk_drewN ?_ _ | refine blk_drew ?_ | refine blk_alloc ?_ _)); exact BK250.out) hb); have n7_ := Aside0.mk (blk_below (g := gb270) (o := .cells #[.int .i64 t260, .int .i64 t261, .int .i64 t262, .int .i64 t263, .int .i64 t264, .int .i64 t265, .int .i64 t266, .int .i64 t267, .int .u64 t268] 24 (0, 0)) (by (with_reducible repeat (first | refine blk_drewN ?_ _ | refine blk_drew ?_ | refine blk_alloc ?_ _)); exact BK270.out) hb); have n8_ := Aside0.mk (blk_below (g := gb271) (o := .cells #[.int .i64 t225, .int .i64 t226, .int .i64 t227, .int .i64 t228, .int .i64 t229, .int .i64 t230, .int .i64 t231, .int .i64 100, .int .u64 t233] 24 (0, 0)) (by (with_reducible repeat (first | refine blk_drewN ?_ _ | refine blk_drew ?_ | refine blk_alloc ?_ _)); exact BK271.out) hb); have n9_ := Aside0.mk (blk_below (g := gb272) (o := .cells #[.int .i64 t225, .int .i64 t226, .int .i64 t227, .int .i64 101, .int .i64 t229, .int .i64 t230, .int .i64 t231, .int .i64 100, .int .u64 t233] 24 (0, 0)) (by (with_reducible repeat (first | refine blk_drewN ?_ _ | refine blk_drew ?_ | refine blk_alloc ?_ _)); exact BK272.out) hb); have n10_ := Aside0.mk (below_step (by repeat (first | (with_reducible first | exact HB.out | apply below_alloc | apply pw_below_drewN | apply below_drew1 | refine below_set ?_ GE235.out | refine below_set ?_ GE236.out | refine below_set ?_ GE250.out | refine below_set ?_ GE270.out | refine below_set ?_ GE271.out | refine below_set ?_ GE272.out) | exact HB.out)) hb); clear HO239; clear HO259; clear HO275; clear HO278; clear BK235; clear BK236; clear BK250; clear BK270; clear BK271; clear BK272; clear HB; have HO239 := n0_; have HO259 := n1_; have HO275 := n2_; have HO278 := n3_; have BK235 := n4_; have BK236 := n5_; have BK250 := n6_; have BK270 := n7_; have BK271 := n8_; have BK272 := n9_; have HB := n10_; clear n0_ n1_ n2_ n3_ n4_ n5_ n6_ n7_ n8_ n9_ n10_; (try clear hb); (try clear hb2); (try clear hk); (try clear hi); have hcz82_0 : w81.cell? ⟨gb271, 0, none⟩ = some (.int .i64 t225) := (blk_cell BK271.out 0).trans rfl; have hcz82_1 : w81.cell? ⟨gb271, 1, none⟩ = some (.int .i64 t226) := (blk_cell BK271.out 1).trans rfl; have hcz82_2 : w81.cell? ⟨gb271, 2, none⟩ = some (.int .i64 t227) := (blk_cell BK271.out 2).trans rfl; have hcz82_3 : w81.cell? ⟨gb271, 3, none⟩ = some (.int .i64 t228) := (blk_cell BK271.out 3).trans rfl; have hcz82_4 : w81.cell? ⟨gb271, 4, none⟩ = some (.int .i64 t229) := (blk_cell BK271.out 4).trans rfl; have hcz82_5 : w81.cell? ⟨gb271, 5, none⟩ = some (.int .i64 t230) := (blk_cell BK271.out 5).trans rfl; have hcz82_6 : w81.cell? ⟨gb271, 6, none⟩ = some (.int .i64 t231) := (blk_cell BK271.out 6).trans rfl; have hcz82_7 : w81.cell? ⟨gb271, 7, none⟩ = some (.int .i64 100) := (blk_cell BK271.out 7).trans rfl; have hcz82_8 : w81.cell? ⟨gb271, 8, none⟩ = some (.int .u64 t233) := (blk_cell BK271.out 8).trans rfl; have hfz82_0 := blk_frozen BK271.out 0; have hfz82_1 := blk_frozen BK271.out 1; have hfz82_2 := blk_frozen BK271.out 2; have hfz82_3 := blk_frozen BK271.out 3; have hfz82_4 := blk_frozen BK271.out 4; have hfz82_5 := blk_frozen BK271.out 5; have hfz82_6 := blk_frozen BK271.out 6; have hfz82_7 := blk_frozen BK271.out 7; have hfz82_8 := blk_frozen BK271.out 8) | (go_at_call 11; (with_reducible refine (media_Right.calls k t225 t226 t227 t228 t229 t230 t231 100 t233 t283 _ A29.out).mono ?_); rintro e w83 ⟨rfl, hb⟩; have n0_ := Aside0.mk (Kd.R_below (by (with_reducible repeat (first | apply Kd.R_alloc | apply Kd.R_drewN | apply Kd.R_drew)); exact HO239.out) hb); have n1_ := Aside0.mk (Kd.R_below (by (with_reducible repeat (first | apply Kd.R_alloc | apply Kd.R_drewN | apply Kd.R_drew)); exact HO259.out) hb); have n2_ := Aside0.mk (Kd.R_below (by (with_reducible repeat (first | apply Kd.R_alloc | apply Kd.R_drewN | apply Kd.R_drew)); exact HO275.out) hb); have n3_ := Aside0.mk (Kd.R_below (by (with_reducible repeat (first | apply Kd.R_alloc | apply Kd.R_drewN | apply Kd.R_drew)); exact HO278.out) hb); have n4_ := Aside0.mk (blk_below (g := gb235) (o := .cells #[.int .i64 t225, .int .i64 t226, .int .i64 t227, .int .i64 t228, .int .i64 t229, .int .i64 t230, .int .i64 t231, .int .i64 t232, .int .u64 t233] 24 (0, 0)) (by (with_reducible repeat (first | refine blk_drewN ?_ _ | refine blk_drew ?_ | refine blk_alloc ?_ _)); exact BK235.out) hb); have n5_ := Aside0.mk (blk_below (g := gb236) (o := .cells #[.int .i64 t225, .int .i64 t226, .int .i64 t227, .int .i64 t228, .int .i64 9, .int .i64 t230, .int .i64 t231, .int .i64 t232, .int .u64 t233] 24 (0, 0)) (by (with_reducible repeat (first | refine blk_drewN ?_ _ | refine blk_drew ?_ | refine blk_alloc ?_ _)); exact BK236.out) hb); have n6_ := Aside0.mk (blk_below (g := gb250) (o := .cells #[.int .i64 t240, .int .i64 t241, .int .i64 t242, .int .i64 t243, .int .i64 t244, .int .i64 t245, .int .i64 t246, .int .i64 t247, .int .u64 t248] 24 (0, 0)) (by (with_reducible repeat (first | refine blk_drewN ?_ _ | refine blk_drew ?_ | refine blk_alloc ?_ _)); exact BK250.out) hb); have n7_ := Aside0.mk (blk_below (g := gb270) (o := .cells #[.int .i64 t260, .int .i64 t261, .int .i64 t262, .int .i64 t263, .int .i64 t264, .int .i64 t265, .int .i64 t266, .int .i64 t267, .int .u64 t268] 24 (0, 0)) (by (with_reducible repeat (first | refine blk_drewN ?_ _ | refine blk_drew ?_ | refine blk_alloc ?_ _)); exact BK270.out) hb); have n8_ := Aside0.mk (blk_below (g := gb271) (o := .cells #[.int .i64 t225, .int .i64 t226, .int .i64 t227, .int .i64 t228, .int .i64 t229, .int .i64 t230, .int .i64 t231, .int .i64 100, .int .u64 t233] 24 (0, 0)) (by (with_reducible repeat (first | refine blk_drewN ?_ _ | refine blk_drew ?_ | refine blk_alloc ?_ _)); exact BK271.out) hb); have n9_ := Aside0.mk (blk_below (g := gb272) (o := .cells #[.int .i64 t225, .int .i64 t226, .int .i64 t227, .int .i64 101, .int .i64 t229, .int .i64 t230, .int .i64 t231, .int .i64 100, .int .u64 t233] 24 (0, 0)) (by (with_reducible repeat (first | refine blk_drewN ?_ _ | refine blk_drew ?_ | refine blk_alloc ?_ _)); exact BK272.out) hb); have n10_ := Aside0.mk (below_step (by repeat (first | (with_reducible first | exact HB.out | apply below_alloc | apply pw_below_drewN | apply below_drew1 | refine below_set ?_ GE235.out | refine below_set ?_ GE236.out | refine below_set ?_ GE250.out | refine below_set ?_ GE270.out | refine below_set ?_ GE271.out | refine below_set ?_ GE272.out) | exact HB.out)) hb); clear HO239; clear HO259; clear HO275; clear HO278; clear BK235; clear BK236; clear BK250; clear BK270; clear BK271; clear BK272; clear HB; have HO239 := n0_; have HO259 := n1_; have HO275 := n2_; have HO278 := n3_; have BK235 := n4_; have BK236 := n5_; have BK250 := n6_; have BK270 := n7_; have BK271 := n8_; have BK272 := n9_; have HB := n10_; clear n0_ n1_ n2_ n3_ n4_ n5_ n6_ n7_ n8_ n9_ n10_; (try clear hb); (try clear hb2); (try clear hk); (try clear hi); have hcz84_0 : w83.cell? ⟨gb272, 0, none⟩ = some (.int .i64 t225) := (blk_cell BK272.out 0).trans rfl; have hcz84_1 : w83.cell? ⟨gb272, 1, none⟩ = some (.int .i64 t226) := (blk_cell BK272.out 1).trans rfl; have hcz84_2 : w83.cell? ⟨gb272, 2, none⟩ = some (.int .i64 t227) := (blk_cell BK272.out 2).trans rfl; have hcz84_3 : w83.cell? ⟨gb272, 3, none⟩ = some (.int .i64 101) := (blk_cell BK272.out 3).trans rfl; have hcz84_4 : w83.cell? ⟨gb272, 4, none⟩ = some (.int .i64 t229) := (blk_cell BK272.out 4).trans rfl; have hcz84_5 : w83.cell? ⟨gb272, 5, none⟩ = some (.int .i64 t230) := (blk_cell BK272.out 5).trans rfl; have hcz84_6 : w83.cell? ⟨gb272, 6, none⟩ = some (.int .i64 t231) := (blk_cell BK272.out 6).trans rfl; have hcz84_7 : w83.cell? ⟨gb272, 7, none⟩ = some (.int .i64 100) := (blk_cell BK272.out 7).trans rfl; have hcz84_8 : w83.cell? ⟨gb272, 8, none⟩ = some (.int .u64 t233) := (blk_cell BK272.out 8).trans rfl; have hfz84_0 := blk_frozen BK272.out 0; have hfz84_1 := blk_frozen BK272.out 1; have hfz84_2 := blk_frozen BK272.out 2; have hfz84_3 := blk_frozen BK272.out 3; have hfz84_4 := blk_frozen BK272.out 4; have hfz84_5 := blk_frozen BK272.out 5; have hfz84_6 := blk_frozen BK272.out 6; have hfz84_7 := blk_frozen BK272.out 7; have hfz84_8 := blk_frozen BK272.out 8) | (go_at_call 11; (with_reducible refine (media_Right.calls k t225 t226 t227 101 t229 t230 t231 100 t233 t284 _ A31.out).mono ?_); rintro e w85 ⟨rfl, hb⟩; have n0_ := Aside0.mk (Kd.R_below (by (with_reducible repeat (first | apply Kd.R_alloc | apply Kd.R_drewN | apply Kd.R_drew)); exact HO239.out) hb); have n1_ := Aside0.mk (Kd.R_below (by (with_reducible repeat (first | apply Kd.R_alloc | apply Kd.R_drewN | apply Kd.R_drew)); exact HO259.out) hb); have n2_ := Aside0.mk (Kd.R_below (by (with_reducible repeat (first | apply Kd.R_alloc | apply Kd.R_drewN | apply Kd.R_drew)); exact HO275.out) hb); have n3_ := Aside0.mk (Kd.R_below (by (with_reducible repeat (first | apply Kd.R_alloc | apply Kd.R_drewN | apply Kd.R_drew)); exact HO278.out) hb); have n4_ := Aside0.mk (blk_below (g := gb235) (o := .cells #[.int .i64 t225, .int .i64 t226, .int .i64 t227, .int .i64 t228, .int .i64 t229, .int .i64 t230, .int .i64 t231, .int .i64 t232, .int .u64 t233] 24 (0, 0)) (by (with_reducible repeat (first | refine blk_drewN ?_ _ | refine blk_drew ?_ | refine blk_alloc ?_ _)); exact BK235.out) hb); have n5_ := Aside0.mk (blk_below (g := gb236) (o := .cells #[.int .i64 t225, .int .i64 t226, .int .i64 t227, .int .i64 t228, .int .i64 9, .int .i64 t230, .int .i64 t231, .int .i64 t232, .int .u64 t233] 24 (0, 0)) (by (with_reducible repeat (first | refine blk_drewN ?_ _ | refine blk_drew ?_ | refine blk_alloc ?_ _)); exact BK236.out) hb); have n6_ := Aside0.mk (blk_below (g := gb250) (o := .cells #[.int .i64 t240, .int .i64 t241, .int .i64 t242, .int .i64 t243, .int .i64 t244, .int .i64 t245, .int .i64 t246, .int .i64 t247, .int .u64 t248] 24 (0, 0)) (by (with_reducible repeat (first | refine blk_drewN ?_ _ | refine blk_drew ?_ | refine blk_alloc ?_ _)); exact BK250.out) hb); have n7_ := Aside0.mk (blk_below (g := gb270) (o := .cells #[.int .i64 t260, .int .i64 t261, .int .i64 t262, .int .i64 t263, .int .i64 t264, .int .i64 t265, .int .i64 t266, .int .i64 t267, .int .u64 t268] 24 (0, 0)) (by (with_reducible repeat (first | refine blk_drewN ?_ _ | refine blk_drew ?_ | refine blk_alloc ?_ _)); exact BK270.out) hb); have n8_ := Aside0.mk (blk_below (g := gb271) (o := .cells #[.int .i64 t225, .int .i64 t226, .int .i64 t227, .int .i64 t228, .int .i64 t229, .int .i64 t230, .int .i64 t231, .int .i64 100, .int .u64 t233] 24 (0, 0)) (by (with_reducible repeat (first | refine blk_drewN ?_ _ | refine blk_drew ?_ | refine blk_alloc ?_ _)); exact BK271.out) hb); have n9_ := Aside0.mk (blk_below (g := gb272) (o := .cells #[.int .i64 t225, .int .i64 t226, .int .i64 t227, .int .i64 101, .int .i64 t229, .int .i64 t230, .int .i64 t231, .int .i64 100, .int .u64 t233] 24 (0, 0)) (by (with_reducible repeat (first | refine blk_drewN ?_ _ | refine blk_drew ?_ | refine blk_alloc ?_ _)); exact BK272.out) hb); have n10_ := Aside0.mk (below_step (by repeat (first | (with_reducible first | exact HB.out | apply below_alloc | apply pw_below_drewN | apply below_drew1 | refine below_set ?_ GE235.out | refine below_set ?_ GE236.out | refine below_set ?_ GE250.out | refine below_set ?_ GE270.out | refine below_set ?_ GE271.out | refine below_set ?_ GE272.out) | exact HB.out)) hb); clear HO239; clear HO259; clear HO275; clear HO278; clear BK235; clear BK236; clear BK250; clear BK270; clear BK271; clear BK272; clear HB; have HO239 := n0_; have HO259 := n1_; have HO275 := n2_; have HO278 := n3_; have BK235 := n4_; have BK236 := n5_; have BK250 := n6_; have BK270 := n7_; have BK271 := n8_; have BK272 := n9_; have HB := n10_; clear n0_ n1_ n2_ n3_ n4_ n5_ n6_ n7_ n8_ n9_ n10_; (try clear hb); (try clear hb2); (try clear hk); (try clear hi)))
                                            go_ret
                                            exact ⟨by first | rfl | (simp [errW_none, errW_some] <;> rfl) | (simp [*, errW_none, errW_some] <;> rfl), by repeat (first | (with_reducible first | exact HB.out | apply below_alloc | apply pw_below_drewN | apply below_drew1 | refine below_set ?_ GE235.out | refine below_set ?_ GE236.out | refine below_set ?_ GE250.out | refine below_set ?_ GE270.out | refine below_set ?_ GE271.out | refine below_set ?_ GE272.out) | exact HB.out)⟩
                                          · rw [if_neg c30] at H
                                            exact absurd H (by simp)
                                      · replace c26 := Bool.eq_false_iff.mpr c26
                                        subst c26
                                        have H1 : (none) = some r := by rw [if_neg (show ¬ (false = true) by decide)] at H; exact H
                                        clear H
                                        have H := H1
                                        clear H1
                                        exact absurd H (by simp)
                                    · rw [if_neg c24] at H
                                      exact absurd H (by simp)
                                  · rw [if_neg c23] at H
                                    exact absurd H (by simp)
                                · rw [if_neg c22] at H
                                  exact absurd H (by simp)
                              · rw [if_neg c21] at H
                                exact absurd H (by simp)
                            · rw [if_neg c20] at H
                              exact absurd H (by simp)
                          · rw [if_neg c19] at H
                            exact absurd H (by simp)
                        · replace c18 := Bool.eq_false_iff.mpr c18
                          subst c18
                          have H1 : (none) = some r := by rw [if_neg (show ¬ (false = true) by decide)] at H; exact H
                          clear H
                          have H := H1
                          clear H1
                          exact absurd H (by simp)
                      · rw [if_neg c15] at H
                        exact absurd H (by simp)
                    · rw [if_neg c14] at H
                      exact absurd H (by simp)
                  · rw [if_neg c13] at H
                    exact absurd H (by simp)
                · rw [if_neg c12] at H
                  exact absurd H (by simp)
              · rw [if_neg c11] at H
                exact absurd H (by simp)
            · rw [if_neg c10] at H
              exact absurd H (by simp)
          · rw [if_neg c9] at H
            exact absurd H (by simp)
        · rw [if_neg c8] at H
          exact absurd H (by simp)
      · rw [if_neg c6] at H
        exact absurd H (by simp)
    · rw [if_neg c5] at H
      exact absurd H (by simp)
  · rw [if_neg c2] at H
    exact absurd H (by simp)

end Go.Proofs.Ytdlinojgmllkoaa.Q

namespace Go.Proofs.Ytdlinojgmllkoaa.Q
open Go.RowKit Go.Proofs.YtdlinojgmllkoaaW.PrintWords Go.Proofs.YtdlinojgmllkoaaW.PrintLast Go.Proofs.YtdlinojgmllkoaaW.PrintMore
attribute [local go_sem] max2_int min2_int max_two min_two max_three min_three max_four min_four   -- for this text's walks alone
set_option linter.unusedVariables false
set_option linter.unusedSimpArgs false

/-! ### skiarearef25_Right: function 12 -/
def skiarearef25_Right.j0 : Nat → Bool → Int → Int → Int → Int → Int → Int → Int → Int → Int → Option (Int)
  | 0, _, _, _, _, _, _, _, _, _, _ => none
  | k + 1, x80, x286000, x286001, x286002, x286003, x286004, x286005, x286006, x286007, x286008 => if x80 = true then (some 2) else (if x286003 = (-1) then (if x286007 = (-1) then (if x286006 = 0 then (if x286005 = (-1) then (if x286003 > x286007 then (some 10) else (some 0)) else (some 10)) else (some 10)) else (some 10)) else (if x286007 = (-1) then (if x286006 = 0 then (if x286005 = (-1) then (if x286003 > x286007 then (some 10) else (some 0)) else (some 10)) else (some 10)) else (if x286003 > x286007 then (some 10) else (some 0))))
def skiarearef25_Right.f (k : Nat) (a0_0 : Int) (a0_1 : Int) (a0_2 : Int) (a0_3 : Int) (a0_4 : Int) (a0_5 : Int) (a0_6 : Int) (a0_7 : Int) (a0_8 : Int) : Option (Int) := if a0_0 < 1 then (skiarearef25_Right.j0 k true a0_0 a0_1 a0_2 a0_3 a0_4 a0_5 a0_6 a0_7 a0_8) else (if a0_0 > 9999 then (skiarearef25_Right.j0 k true a0_0 a0_1 a0_2 a0_3 a0_4 a0_5 a0_6 a0_7 a0_8) else (if a0_2 < 1 then (skiarearef25_Right.j0 k true a0_0 a0_1 a0_2 a0_3 a0_4 a0_5 a0_6 a0_7 a0_8) else (if a0_2 > 9999 then (skiarearef25_Right.j0 k true a0_0 a0_1 a0_2 a0_3 a0_4 a0_5 a0_6 a0_7 a0_8) else (if a0_1 < 0 then (skiarearef25_Right.j0 k true a0_0 a0_1 a0_2 a0_3 a0_4 a0_5 a0_6 a0_7 a0_8) else (if a0_1 > 1000000 then (skiarearef25_Right.j0 k true a0_0 a0_1 a0_2 a0_3 a0_4 a0_5 a0_6 a0_7 a0_8) else (if a0_3 < (-1) then (skiarearef25_Right.j0 k true a0_0 a0_1 a0_2 a0_3 a0_4 a0_5 a0_6 a0_7 a0_8) else (if a0_3 > 20000000 then (skiarearef25_Right.j0 k true a0_0 a0_1 a0_2 a0_3 a0_4 a0_5 a0_6 a0_7 a0_8) else (if a0_7 < (-1) then (skiarearef25_Right.j0 k true a0_0 a0_1 a0_2 a0_3 a0_4 a0_5 a0_6 a0_7 a0_8) else (if a0_7 > 20000000 then (skiarearef25_Right.j0 k true a0_0 a0_1 a0_2 a0_3 a0_4 a0_5 a0_6 a0_7 a0_8) else (if a0_4 < 0 then (skiarearef25_Right.j0 k true a0_0 a0_1 a0_2 a0_3 a0_4 a0_5 a0_6 a0_7 a0_8) else (if a0_4 > 100 then (skiarearef25_Right.j0 k true a0_0 a0_1 a0_2 a0_3 a0_4 a0_5 a0_6 a0_7 a0_8) else (if a0_5 < (-1) then (skiarearef25_Right.j0 k true a0_0 a0_1 a0_2 a0_3 a0_4 a0_5 a0_6 a0_7 a0_8) else (if a0_5 > 231 then (skiarearef25_Right.j0 k true a0_0 a0_1 a0_2 a0_3 a0_4 a0_5 a0_6 a0_7 a0_8) else (if a0_6 < 0 then (skiarearef25_Right.j0 k true a0_0 a0_1 a0_2 a0_3 a0_4 a0_5 a0_6 a0_7 a0_8) else (skiarearef25_Right.j0 k (decide (a0_6 > 9999)) a0_0 a0_1 a0_2 a0_3 a0_4 a0_5 a0_6 a0_7 a0_8)))))))))))))))
theorem skiarearef25_Right.mono_l : ∀ k, (∀ y0 y1 y2 y3 y4 y5 y6 y7 y8 y9, LeO (skiarearef25_Right.j0 k y0 y1 y2 y3 y4 y5 y6 y7 y8 y9) (skiarearef25_Right.j0 (k + 1) y0 y1 y2 y3 y4 y5 y6 y7 y8 y9))
  | 0 => fun _ _ _ _ _ _ _ _ _ _ r h => by simp [skiarearef25_Right.j0] at h
  | k + 1 => by
    have ih0 := skiarearef25_Right.mono_l k
    · intro y0 y1 y2 y3 y4 y5 y6 y7 y8 y9
      unfold skiarearef25_Right.j0
      repeat' first
      | (with_reducible exact ih0 _ _ _ _ _ _ _ _ _ _)
      | (with_reducible exact LeO.refl _)
      | (with_reducible exact LeO.none _)
      | (with_reducible refine LeO.ite ?_ ?_)
      | (with_reducible refine LeO.bind ?_ (fun _ => ?_))
      | exact ih0 _ _ _ _ _ _ _ _ _ _
      | exact LeO.none _
      | refine LeO.ite ?_ ?_
      | refine LeO.bind ?_ (fun _ => ?_)
theorem skiarearef25_Right.mono : ∀ a0 a1 a2 a3 a4 a5 a6 a7 a8 k, LeO (skiarearef25_Right.f k a0 a1 a2 a3 a4 a5 a6 a7 a8) (skiarearef25_Right.f (k + 1) a0 a1 a2 a3 a4 a5 a6 a7 a8) := by
  intro a0 a1 a2 a3 a4 a5 a6 a7 a8 k
  have ih0 := skiarearef25_Right.mono_l k
  unfold skiarearef25_Right.f
  repeat' first
      | (with_reducible exact ih0 _ _ _ _ _ _ _ _ _ _)
      | (with_reducible exact LeO.refl _)
      | (with_reducible exact LeO.none _)
      | (with_reducible refine LeO.ite ?_ ?_)
      | (with_reducible refine LeO.bind ?_ (fun _ => ?_))
      | exact ih0 _ _ _ _ _ _ _ _ _ _
      | exact LeO.none _
      | refine LeO.ite ?_ ?_
      | refine LeO.bind ?_ (fun _ => ?_)
set_option maxHeartbeats 8000000 in
set_option maxRecDepth 100000 in
theorem skiarearef25_Right.calls (k : Nat) (a0_0 : Int) (a0_1 : Int) (a0_2 : Int) (a0_3 : Int) (a0_4 : Int) (a0_5 : Int) (a0_6 : Int) (a0_7 : Int) (a0_8 : Int) (r : Int) (w : World) (h : skiarearef25_Right.f k a0_0 a0_1 a0_2 a0_3 a0_4 a0_5 a0_6 a0_7 a0_8 = some r) :
    Calls Try.prog 12 #[.agg #[.int .i64 a0_0, .int .i64 a0_1, .int .i64 a0_2, .int .i64 a0_3, .int .i64 a0_4, .int .i64 a0_5, .int .i64 a0_6, .int .i64 a0_7, .int .u64 a0_8]] w fun e w' => e = .returned (.int .i64 r) ∧ Below w.heap.size w w' := by
  have hu24 := Try.underlying24
  have HB := Aside0.mk (Below.refl w.heap.size w)
  have H : (if a0_0 < 1 then (skiarearef25_Right.j0 k true a0_0 a0_1 a0_2 a0_3 a0_4 a0_5 a0_6 a0_7 a0_8) else (if a0_0 > 9999 then (skiarearef25_Right.j0 k true a0_0 a0_1 a0_2 a0_3 a0_4 a0_5 a0_6 a0_7 a0_8) else (if a0_2 < 1 then (skiarearef25_Right.j0 k true a0_0 a0_1 a0_2 a0_3 a0_4 a0_5 a0_6 a0_7 a0_8) else (if a0_2 > 9999 then (skiarearef25_Right.j0 k true a0_0 a0_1 a0_2 a0_3 a0_4 a0_5 a0_6 a0_7 a0_8) else (if a0_1 < 0 then (skiarearef25_Right.j0 k true a0_0 a0_1 a0_2 a0_3 a0_4 a0_5 a0_6 a0_7 a0_8) else (if a0_1 > 1000000 then (skiarearef25_Right.j0 k true a0_0 a0_1 a0_2 a0_3 a0_4 a0_5 a0_6 a0_7 a0_8) else (if a0_3 < (-1) then (skiarearef25_Right.j0 k true a0_0 a0_1 a0_2 a0_3 a0_4 a0_5 a0_6 a0_7 a0_8) else (if a0_3 > 20000000 then (skiarearef25_Right.j0 k true a0_0 a0_1 a0_2 a0_3 a0_4 a0_5 a0_6 a0_7 a0_8) else (if a0_7 < (-1) then (skiarearef25_Right.j0 k true a0_0 a0_1 a0_2 a0_3 a0_4 a0_5 a0_6 a0_7 a0_8) else (if a0_7 > 20000000 then (skiarearef25_Right.j0 k true a0_0 a0_1 a0_2 a0_3 a0_4 a0_5 a0_6 a0_7 a0_8) else (if a0_4 < 0 then (skiarearef25_Right.j0 k true a0_0 a0_1 a0_2 a0_3 a0_4 a0_5 a0_6 a0_7 a0_8) else (if a0_4 > 100 then (skiarearef25_Right.j0 k true a0_0 a0_1 a0_2 a0_3 a0_4 a0_5 a0_6 a0_7 a0_8) else (if a0_5 < (-1) then (skiarearef25_Right.j0 k true a0_0 a0_1 a0_2 a0_3 a0_4 a0_5 a0_6 a0_7 a0_8) else (if a0_5 > 231 then (skiarearef25_Right.j0 k true a0_0 a0_1 a0_2 a0_3 a0_4 a0_5 a0_6 a0_7 a0_8) else (if a0_6 < 0 then (skiarearef25_Right.j0 k true a0_0 a0_1 a0_2 a0_3 a0_4 a0_5 a0_6 a0_7 a0_8) else (skiarearef25_Right.j0 k (decide (a0_6 > 9999)) a0_0 a0_1 a0_2 a0_3 a0_4 a0_5 a0_6 a0_7 a0_8)))))))))))))))) = some r := h
  clear h
  have HC2 := Aside0.mk H
  clear H
  go_enter Try.func12, Try.ntmps12
  go_upto_region 1 with (first | ((with_reducible refine gate_dst (N := 1) rfl ?_); refine box_event ?hg (N := 1) ?hd (cs := #[.int .i64 a0_0, .int .i64 a0_1, .int .i64 a0_2, .int .i64 a0_3, .int .i64 a0_4, .int .i64 a0_5, .int .i64 a0_6, .int .i64 a0_7, .int .u64 a0_8]) (t := 24) ?hr ?_; (case hd => rfl); (case hg => rfl); (case hr => first | (go_simp; done) | (go_simp; rfl)); intro gb285 hg w3 hbox hb; have n0_ := Aside0.mk (below_step (by repeat (first | (with_reducible first | exact HB.out | apply below_alloc | apply pw_below_drewN | apply below_drew1) | exact HB.out)) hb); have n1_ := Aside0.mk (hbox); have n2_ := Aside0.mk ((by rw [hg]; exact (below_size (by repeat (first | (with_reducible first | exact HB.out | apply below_alloc | apply pw_below_drewN | apply below_drew1) | exact HB.out))) : w.heap.size ≤ gb285)); have n3_ := Aside0.mk ((by rw [hg]; exact (below_size (by repeat (first | (with_reducible first | exact HB.out | apply below_alloc | apply pw_below_drewN | apply below_drew1) | exact HB.out))) : w.heap.size ≤ gb285)); clear HB; have HB := n0_; have BK285 := n1_; have GW285 := n2_; have GE285 := n3_; clear n0_ n1_ n2_ n3_; clear hb hbox hg))
  (try simp only [Act.put, List.setIfInBounds_toArray, List.set_cons_zero, List.set_cons_succ])
  go_cut [80] (fun v80 wc => ∃ (kq : Nat) (x80_1 : Bool), v80 = .bool x80_1 ∧ Aside0 (skiarearef25_Right.j0 kq x80_1 a0_0 a0_1 a0_2 a0_3 a0_4 a0_5 a0_6 a0_7 a0_8 = some r) ∧ Aside0 (kq ≤ k) ∧ Aside0 (wc.heap[gb285]? = some (.cells #[.int .i64 a0_0, .int .i64 a0_1, .int .i64 a0_2, .int .i64 a0_3, .int .i64 a0_4, .int .i64 a0_5, .int .i64 a0_6, .int .i64 a0_7, .int .u64 a0_8] 24 (0, 0))) ∧ Aside0 (Below w.heap.size w wc))
  case first =>
    have H := HC2.out
    clear HC2
    by_cases c4 : a0_0 < 1
    · rw [if_pos c4] at H
      have c4b0 : decide (a0_0 < 1) = true := decide_eq_true c4
      clear c4
      (first | rw [c4b0] | (simp only [i64_w, i32_w, IntKind.wrap_u8, IntKind.wrap_u32]; rw [c4b0]) | skip)
      have H' := Aside0.mk H
      clear H
      have hcz5_0 : w3.cell? ⟨gb285, 0, none⟩ = some (.int .i64 a0_0) := (blk_cell BK285.out 0).trans rfl
      have hcz5_1 : w3.cell? ⟨gb285, 1, none⟩ = some (.int .i64 a0_1) := (blk_cell BK285.out 1).trans rfl
      have hcz5_2 : w3.cell? ⟨gb285, 2, none⟩ = some (.int .i64 a0_2) := (blk_cell BK285.out 2).trans rfl
      have hcz5_3 : w3.cell? ⟨gb285, 3, none⟩ = some (.int .i64 a0_3) := (blk_cell BK285.out 3).trans rfl
      have hcz5_4 : w3.cell? ⟨gb285, 4, none⟩ = some (.int .i64 a0_4) := (blk_cell BK285.out 4).trans rfl
      have hcz5_5 : w3.cell? ⟨gb285, 5, none⟩ = some (.int .i64 a0_5) := (blk_cell BK285.out 5).trans rfl
      have hcz5_6 : w3.cell? ⟨gb285, 6, none⟩ = some (.int .i64 a0_6) := (blk_cell BK285.out 6).trans rfl
      have hcz5_7 : w3.cell? ⟨gb285, 7, none⟩ = some (.int .i64 a0_7) := (blk_cell BK285.out 7).trans rfl
      have hcz5_8 : w3.cell? ⟨gb285, 8, none⟩ = some (.int .u64 a0_8) := (blk_cell BK285.out 8).trans rfl
      have hfz5_0 := blk_frozen BK285.out 0
      have hfz5_1 := blk_frozen BK285.out 1
      have hfz5_2 := blk_frozen BK285.out 2
      have hfz5_3 := blk_frozen BK285.out 3
      have hfz5_4 := blk_frozen BK285.out 4
      have hfz5_5 := blk_frozen BK285.out 5
      have hfz5_6 := blk_frozen BK285.out 6
      have hfz5_7 := blk_frozen BK285.out 7
      have hfz5_8 := blk_frozen BK285.out 8
      go_wp2
      go_meet
      case rel => exact ⟨_, (true), (by first | rfl | (simp; done) | (simp [*]; done)), H', ⟨by first | omega | exact Nat.le_refl _⟩, ⟨by (with_reducible repeat (first | refine blk_drewN ?_ _ | refine blk_drew ?_ | refine blk_alloc ?_ _)); exact BK285.out⟩, ⟨by repeat (first | (with_reducible first | exact HB.out | apply below_alloc | apply pw_below_drewN | apply below_drew1 | refine below_set ?_ GE285.out) | exact HB.out)⟩⟩
    · rw [if_neg c4] at H
      have c4b0 : decide (a0_0 < 1) = false := decide_eq_false c4
      clear c4
      (first | rw [c4b0] | (simp only [i64_w, i32_w, IntKind.wrap_u8, IntKind.wrap_u32]; rw [c4b0]) | skip)
      by_cases c6 : a0_0 > 9999
      · rw [if_pos c6] at H
        have c6b0 : decide (9999 < a0_0) = true := decide_eq_true c6
        clear c6
        have H' := Aside0.mk H
        clear H
        have hcz7_0 : w3.cell? ⟨gb285, 0, none⟩ = some (.int .i64 a0_0) := (blk_cell BK285.out 0).trans rfl
        have hcz7_1 : w3.cell? ⟨gb285, 1, none⟩ = some (.int .i64 a0_1) := (blk_cell BK285.out 1).trans rfl
        have hcz7_2 : w3.cell? ⟨gb285, 2, none⟩ = some (.int .i64 a0_2) := (blk_cell BK285.out 2).trans rfl
        have hcz7_3 : w3.cell? ⟨gb285, 3, none⟩ = some (.int .i64 a0_3) := (blk_cell BK285.out 3).trans rfl
        have hcz7_4 : w3.cell? ⟨gb285, 4, none⟩ = some (.int .i64 a0_4) := (blk_cell BK285.out 4).trans rfl
        have hcz7_5 : w3.cell? ⟨gb285, 5, none⟩ = some (.int .i64 a0_5) := (blk_cell BK285.out 5).trans rfl
        have hcz7_6 : w3.cell? ⟨gb285, 6, none⟩ = some (.int .i64 a0_6) := (blk_cell BK285.out 6).trans rfl
        have hcz7_7 : w3.cell? ⟨gb285, 7, none⟩ = some (.int .i64 a0_7) := (blk_cell BK285.out 7).trans rfl
        have hcz7_8 : w3.cell? ⟨gb285, 8, none⟩ = some (.int .u64 a0_8) := (blk_cell BK285.out 8).trans rfl
        have hfz7_0 := blk_frozen BK285.out 0
        have hfz7_1 := blk_frozen BK285.out 1
        have hfz7_2 := blk_frozen BK285.out 2
        have hfz7_3 := blk_frozen BK285.out 3
        have hfz7_4 := blk_frozen BK285.out 4
        have hfz7_5 := blk_frozen BK285.out 5
        have hfz7_6 := blk_frozen BK285.out 6
        have hfz7_7 := blk_frozen BK285.out 7
        have hfz7_8 := blk_frozen BK285.out 8
        go_wp2
        go_meet
        case rel => exact ⟨_, (true), (by first | rfl | (simp; done) | (simp [*]; done)), H', ⟨by first | omega | exact Nat.le_refl _⟩, ⟨by (with_reducible repeat (first | refine blk_drewN ?_ _ | refine blk_drew ?_ | refine blk_alloc ?_ _)); exact BK285.out⟩, ⟨by repeat (first | (with_reducible first | exact HB.out | apply below_alloc | apply pw_below_drewN | apply below_drew1 | refine below_set ?_ GE285.out) | exact HB.out)⟩⟩
      · rw [if_neg c6] at H
        have c6b0 : decide (9999 < a0_0) = false := decide_eq_false c6
        clear c6
        by_cases c8 : a0_2 < 1
        · rw [if_pos c8] at H
          have c8b0 : decide (a0_2 < 1) = true := decide_eq_true c8
          clear c8
          have H' := Aside0.mk H
          clear H
          have hcz9_0 : w3.cell? ⟨gb285, 0, none⟩ = some (.int .i64 a0_0) := (blk_cell BK285.out 0).trans rfl
          have hcz9_1 : w3.cell? ⟨gb285, 1, none⟩ = some (.int .i64 a0_1) := (blk_cell BK285.out 1).trans rfl
          have hcz9_2 : w3.cell? ⟨gb285, 2, none⟩ = some (.int .i64 a0_2) := (blk_cell BK285.out 2).trans rfl
          have hcz9_3 : w3.cell? ⟨gb285, 3, none⟩ = some (.int .i64 a0_3) := (blk_cell BK285.out 3).trans rfl
          have hcz9_4 : w3.cell? ⟨gb285, 4, none⟩ = some (.int .i64 a0_4) := (blk_cell BK285.out 4).trans rfl
          have hcz9_5 : w3.cell? ⟨gb285, 5, none⟩ = some (.int .i64 a0_5) := (blk_cell BK285.out 5).trans rfl
          have hcz9_6 : w3.cell? ⟨gb285, 6, none⟩ = some (.int .i64 a0_6) := (blk_cell BK285.out 6).trans rfl
          have hcz9_7 : w3.cell? ⟨gb285, 7, none⟩ = some (.int .i64 a0_7) := (blk_cell BK285.out 7).trans rfl
          have hcz9_8 : w3.cell? ⟨gb285, 8, none⟩ = some (.int .u64 a0_8) := (blk_cell BK285.out 8).trans rfl
          have hfz9_0 := blk_frozen BK285.out 0
          have hfz9_1 := blk_frozen BK285.out 1
          have hfz9_2 := blk_frozen BK285.out 2
          have hfz9_3 := blk_frozen BK285.out 3
          have hfz9_4 := blk_frozen BK285.out 4
          have hfz9_5 := blk_frozen BK285.out 5
          have hfz9_6 := blk_frozen BK285.out 6
          have hfz9_7 := blk_frozen BK285.out 7
          have hfz9_8 := blk_frozen BK285.out 8
          go_wp2
          go_meet
          case rel => exact ⟨_, (true), (by first | rfl | (simp; done) | (simp [*]; done)), H', ⟨by first | omega | exact Nat.le_refl _⟩, ⟨by (with_reducible repeat (first | refine blk_drewN ?_ _ | refine blk_drew ?_ | refine blk_alloc ?_ _)); exact BK285.out⟩, ⟨by repeat (first | (with_reducible first | exact HB.out | apply below_alloc | apply pw_below_drewN | apply below_drew1 | refine below_set ?_ GE285.out) | exact HB.out)⟩⟩
        · rw [if_neg c8] at H
          have c8b0 : decide (a0_2 < 1) = false := decide_eq_false c8
          clear c8
          by_cases c10 : a0_2 > 9999
          · rw [if_pos c10] at H
            have c10b0 : decide (9999 < a0_2) = true := decide_eq_true c10
            clear c10
            have H' := Aside0.mk H
            clear H
            have hcz11_0 : w3.cell? ⟨gb285, 0, none⟩ = some (.int .i64 a0_0) := (blk_cell BK285.out 0).trans rfl
            have hcz11_1 : w3.cell? ⟨gb285, 1, none⟩ = some (.int .i64 a0_1) := (blk_cell BK285.out 1).trans rfl
            have hcz11_2 : w3.cell? ⟨gb285, 2, none⟩ = some (.int .i64 a0_2) := (blk_cell BK285.out 2).trans rfl
            have hcz11_3 : w3.cell? ⟨gb285, 3, none⟩ = some (.int .i64 a0_3) := (blk_cell BK285.out 3).trans rfl
            have hcz11_4 : w3.cell? ⟨gb285, 4, none⟩ = some (.int .i64 a0_4) := (blk_cell BK285.out 4).trans rfl
            have hcz11_5 : w3.cell? ⟨gb285, 5, none⟩ = some (.int .i64 a0_5) := (blk_cell BK285.out 5).trans rfl
            have hcz11_6 : w3.cell? ⟨gb285, 6, none⟩ = some (.int .i64 a0_6) := (blk_cell BK285.out 6).trans rfl
            have hcz11_7 : w3.cell? ⟨gb285, 7, none⟩ = some (.int .i64 a0_7) := (blk_cell BK285.out 7).trans rfl
            have hcz11_8 : w3.cell? ⟨gb285, 8, none⟩ = some (.int .u64 a0_8) := (blk_cell BK285.out 8).trans rfl
            have hfz11_0 := blk_frozen BK285.out 0
            have hfz11_1 := blk_frozen BK285.out 1
            have hfz11_2 := blk_frozen BK285.out 2
            have hfz11_3 := blk_frozen BK285.out 3
            have hfz11_4 := blk_frozen BK285.out 4
            have hfz11_5 := blk_frozen BK285.out 5
            have hfz11_6 := blk_frozen BK285.out 6
            have hfz11_7 := blk_frozen BK285.out 7
            have hfz11_8 := blk_frozen BK285.out 8
            go_wp2
            go_meet
            case rel => exact ⟨_, (true), (by first | rfl | (simp; done) | (simp [*]; done)), H', ⟨by first | omega | exact Nat.le_refl _⟩, ⟨by (with_reducible repeat (first | refine blk_drewN ?_ _ | refine blk_drew ?_ | refine blk_alloc ?_ _)); exact BK285.out⟩, ⟨by repeat (first | (with_reducible first | exact HB.out | apply below_alloc | apply pw_below_drewN | apply below_drew1 | refine below_set ?_ GE285.out) | exact HB.out)⟩⟩
          · rw [if_neg c10] at H
            have c10b0 : decide (9999 < a0_2) = false := decide_eq_false c10
            clear c10
            by_cases c12 : a0_1 < 0
            · rw [if_pos c12] at H
              have c12b0 : decide (a0_1 < 0) = true := decide_eq_true c12
              clear c12
              have H' := Aside0.mk H
              clear H
              have hcz13_0 : w3.cell? ⟨gb285, 0, none⟩ = some (.int .i64 a0_0) := (blk_cell BK285.out 0).trans rfl
              have hcz13_1 : w3.cell? ⟨gb285, 1, none⟩ = some (.int .i64 a0_1) := (blk_cell BK285.out 1).trans rfl
              have hcz13_2 : w3.cell? ⟨gb285, 2, none⟩ = some (.int .i64 a0_2) := (blk_cell BK285.out 2).trans rfl
              have hcz13_3 : w3.cell? ⟨gb285, 3, none⟩ = some (.int .i64 a0_3) := (blk_cell BK285.out 3).trans rfl
              have hcz13_4 : w3.cell? ⟨gb285, 4, none⟩ = some (.int .i64 a0_4) := (blk_cell BK285.out 4).trans rfl
              have hcz13_5 : w3.cell? ⟨gb285, 5, none⟩ = some (.int .i64 a0_5) := (blk_cell BK285.out 5).trans rfl
              have hcz13_6 : w3.cell? ⟨gb285, 6, none⟩ = some (.int .i64 a0_6) := (blk_cell BK285.out 6).trans rfl
              have hcz13_7 : w3.cell? ⟨gb285, 7, none⟩ = some (.int .i64 a0_7) := (blk_cell BK285.out 7).trans rfl
              have hcz13_8 : w3.cell? ⟨gb285, 8, none⟩ = some (.int .u64 a0_8) := (blk_cell BK285.out 8).trans rfl
              have hfz13_0 := blk_frozen BK285.out 0
              have hfz13_1 := blk_frozen BK285.out 1
              have hfz13_2 := blk_frozen BK285.out 2
              have hfz13_3 := blk_frozen BK285.out 3
              have hfz13_4 := blk_frozen BK285.out 4
              have hfz13_5 := blk_frozen BK285.out 5
              have hfz13_6 := blk_frozen BK285.out 6
              have hfz13_7 := blk_frozen BK285.out 7
              have hfz13_8 := blk_frozen BK285.out 8
              go_wp2
              go_meet
              case rel => exact ⟨_, (true), (by first | rfl | (simp; done) | (simp [*]; done)), H', ⟨by first | omega | exact Nat.le_refl _⟩, ⟨by (with_reducible repeat (first | refine blk_drewN ?_ _ | refine blk_drew ?_ | refine blk_alloc ?_ _)); exact BK285.out⟩, ⟨by repeat (first | (with_reducible first | exact HB.out | apply below_alloc | apply pw_below_drewN | apply below_drew1 | refine below_set ?_ GE285.out) | exact HB.out)⟩⟩
            · rw [if_neg c12] at H
              have c12b0 : decide (a0_1 < 0) = false := decide_eq_false c12
              clear c12
              by_cases c14 : a0_1 > 1000000
              · rw [if_pos c14] at H
                have c14b0 : decide (1000000 < a0_1) = true := decide_eq_true c14
                clear c14
                have H' := Aside0.mk H
                clear H
                have hcz15_0 : w3.cell? ⟨gb285, 0, none⟩ = some (.int .i64 a0_0) := (blk_cell BK285.out 0).trans rfl
                have hcz15_1 : w3.cell? ⟨gb285, 1, none⟩ = some (.int .i64 a0_1) := (blk_cell BK285.out 1).trans rfl
                have hcz15_2 : w3.cell? ⟨gb285, 2, none⟩ = some (.int .i64 a0_2) := (blk_cell BK285.out 2).trans rfl
                have hcz15_3 : w3.cell? ⟨gb285, 3, none⟩ = some (.int .i64 a0_3) := (blk_cell BK285.out 3).trans rfl
                have hcz15_4 : w3.cell? ⟨gb285, 4, none⟩ = some (.int .i64 a0_4) := (blk_cell BK285.out 4).trans rfl
                have hcz15_5 : w3.cell? ⟨gb285, 5, none⟩ = some (.int .i64 a0_5) := (blk_cell BK285.out 5).trans rfl
                have hcz15_6 : w3.cell? ⟨gb285, 6, none⟩ = some (.int .i64 a0_6) := (blk_cell BK285.out 6).trans rfl
                have hcz15_7 : w3.cell? ⟨gb285, 7, none⟩ = some (.int .i64 a0_7) := (blk_cell BK285.out 7).trans rfl
                have hcz15_8 : w3.cell? ⟨gb285, 8, none⟩ = some (.int .u64 a0_8) := (blk_cell BK285.out 8).trans rfl
                have hfz15_0 := blk_frozen BK285.out 0
                have hfz15_1 := blk_frozen BK285.out 1
                have hfz15_2 := blk_frozen BK285.out 2
                have hfz15_3 := blk_frozen BK285.out 3
                have hfz15_4 := blk_frozen BK285.out 4
                have hfz15_5 := blk_frozen BK285.out 5
                have hfz15_6 := blk_frozen BK285.out 6
                have hfz15_7 := blk_frozen BK285.out 7
                have hfz15_8 := blk_frozen BK285.out 8
                go_wp2
                go_meet
                case rel => exact ⟨_, (true), (by first | rfl | (simp; done) | (simp [*]; done)), H', ⟨by first | omega | exact Nat.le_refl _⟩, ⟨by (with_reducible repeat (first | refine blk_drewN ?_ _ | refine blk_drew ?_ | refine blk_alloc ?_ _)); exact BK285.out⟩, ⟨by repeat (first | (with_reducible first | exact HB.out | apply below_alloc | apply pw_below_drewN | apply below_drew1 | refine below_set ?_ GE285.out) | exact HB.out)⟩⟩
              · rw [if_neg c14] at H
                have c14b0 : decide (1000000 < a0_1) = false := decide_eq_false c14
                clear c14
                by_cases c16 : a0_3 < (-1)
                · rw [if_pos c16] at H
                  have c16b0 : decide (a0_3 < (-1)) = true := decide_eq_true c16
                  clear c16
                  have H' := Aside0.mk H
                  clear H
                  have hcz17_0 : w3.cell? ⟨gb285, 0, none⟩ = some (.int .i64 a0_0) := (blk_cell BK285.out 0).trans rfl
                  have hcz17_1 : w3.cell? ⟨gb285, 1, none⟩ = some (.int .i64 a0_1) := (blk_cell BK285.out 1).trans rfl
                  have hcz17_2 : w3.cell? ⟨gb285, 2, none⟩ = some (.int .i64 a0_2) := (blk_cell BK285.out 2).trans rfl
                  have hcz17_3 : w3.cell? ⟨gb285, 3, none⟩ = some (.int .i64 a0_3) := (blk_cell BK285.out 3).trans rfl
                  have hcz17_4 : w3.cell? ⟨gb285, 4, none⟩ = some (.int .i64 a0_4) := (blk_cell BK285.out 4).trans rfl
                  have hcz17_5 : w3.cell? ⟨gb285, 5, none⟩ = some (.int .i64 a0_5) := (blk_cell BK285.out 5).trans rfl
                  have hcz17_6 : w3.cell? ⟨gb285, 6, none⟩ = some (.int .i64 a0_6) := (blk_cell BK285.out 6).trans rfl
                  have hcz17_7 : w3.cell? ⟨gb285, 7, none⟩ = some (.int .i64 a0_7) := (blk_cell BK285.out 7).trans rfl
                  have hcz17_8 : w3.cell? ⟨gb285, 8, none⟩ = some (.int .u64 a0_8) := (blk_cell BK285.out 8).trans rfl
                  have hfz17_0 := blk_frozen BK285.out 0
                  have hfz17_1 := blk_frozen BK285.out 1
                  have hfz17_2 := blk_frozen BK285.out 2
                  have hfz17_3 := blk_frozen BK285.out 3
                  have hfz17_4 := blk_frozen BK285.out 4
                  have hfz17_5 := blk_frozen BK285.out 5
                  have hfz17_6 := blk_frozen BK285.out 6
                  have hfz17_7 := blk_frozen BK285.out 7
                  have hfz17_8 := blk_frozen BK285.out 8
                  go_wp2
                  go_meet
                  case rel => exact ⟨_, (true), (by first | rfl | (simp; done) | (simp [*]; done)), H', ⟨by first | omega | exact Nat.le_refl _⟩, ⟨by (with_reducible repeat (first | refine blk_drewN ?_ _ | refine blk_drew ?_ | refine blk_alloc ?_ _)); exact BK285.out⟩, ⟨by repeat (first | (with_reducible first | exact HB.out | apply below_alloc | apply pw_below_drewN | apply below_drew1 | refine below_set ?_ GE285.out) | exact HB.out)⟩⟩
                · rw [if_neg c16] at H
                  have c16b0 : decide (a0_3 < (-1)) = false := decide_eq_false c16
                  clear c16
                  by_cases c18 : a0_3 > 20000000
                  · rw [if_pos c18] at H
                    have c18b0 : decide (20000000 < a0_3) = true := decide_eq_true c18
                    clear c18
                    have H' := Aside0.mk H
                    clear H
                    have hcz19_0 : w3.cell? ⟨gb285, 0, none⟩ = some (.int .i64 a0_0) := (blk_cell BK285.out 0).trans rfl
                    have hcz19_1 : w3.cell? ⟨gb285, 1, none⟩ = some (.int .i64 a0_1) := (blk_cell BK285.out 1).trans rfl
                    have hcz19_2 : w3.cell? ⟨gb285, 2, none⟩ = some (.int .i64 a0_2) := (blk_cell BK285.out 2).trans rfl
                    have hcz19_3 : w3.cell? ⟨gb285, 3, none⟩ = some (.int .i64 a0_3) := (blk_cell BK285.out 3).trans rfl
                    have hcz19_4 : w3.cell? ⟨gb285, 4, none⟩ = some (.int .i64 a0_4) := (blk_cell BK285.out 4).trans rfl
                    have hcz19_5 : w3.cell? ⟨gb285, 5, none⟩ = some (.int .i64 a0_5) := (blk_cell BK285.out 5).trans rfl
                    have hcz19_6 : w3.cell? ⟨gb285, 6, none⟩ = some (.int .i64 a0_6) := (blk_cell BK285.out 6).trans rfl
                    have hcz19_7 : w3.cell? ⟨gb285, 7, none⟩ = some (.int .i64 a0_7) := (blk_cell BK285.out 7).trans rfl
                    have hcz19_8 : w3.cell? ⟨gb285, 8, none⟩ = some (.int .u64 a0_8) := (blk_cell BK285.out 8).trans rfl
                    have hfz19_0 := blk_frozen BK285.out 0
                    have hfz19_1 := blk_frozen BK285.out 1
                    have hfz19_2 := blk_frozen BK285.out 2
                    have hfz19_3 := blk_frozen BK285.out 3
                    have hfz19_4 := blk_frozen BK285.out 4
                    have hfz19_5 := blk_frozen BK285.out 5
                    have hfz19_6 := blk_frozen BK285.out 6
                    have hfz19_7 := blk_frozen BK285.out 7
                    have hfz19_8 := blk_frozen BK285.out 8
                    go_wp2
                    go_meet
                    case rel => exact ⟨_, (true), (by first | rfl | (simp; done) | (simp [*]; done)), H', ⟨by first | omega | exact Nat.le_refl _⟩, ⟨by (with_reducible repeat (first | refine blk_drewN ?_ _ | refine blk_drew ?_ | refine blk_alloc ?_ _)); exact BK285.out⟩, ⟨by repeat (first | (with_reducible first | exact HB.out | apply below_alloc | apply pw_below_drewN | apply below_drew1 | refine below_set ?_ GE285.out) | exact HB.out)⟩⟩
                  · rw [if_neg c18] at H
                    have c18b0 : decide (20000000 < a0_3) = false := decide_eq_false c18
                    clear c18
                    by_cases c20 : a0_7 < (-1)
                    · rw [if_pos c20] at H
                      have c20b0 : decide (a0_7 < (-1)) = true := decide_eq_true c20
                      clear c20
                      have H' := Aside0.mk H
                      clear H
                      have hcz21_0 : w3.cell? ⟨gb285, 0, none⟩ = some (.int .i64 a0_0) := (blk_cell BK285.out 0).trans rfl
                      have hcz21_1 : w3.cell? ⟨gb285, 1, none⟩ = some (.int .i64 a0_1) := (blk_cell BK285.out 1).trans rfl
                      have hcz21_2 : w3.cell? ⟨gb285, 2, none⟩ = some (.int .i64 a0_2) := (blk_cell BK285.out 2).trans rfl
                      have hcz21_3 : w3.cell? ⟨gb285, 3, none⟩ = some (.int .i64 a0_3) := (blk_cell BK285.out 3).trans rfl
                      have hcz21_4 : w3.cell? ⟨gb285, 4, none⟩ = some (.int .i64 a0_4) := (blk_cell BK285.out 4).trans rfl
                      have hcz21_5 : w3.cell? ⟨gb285, 5, none⟩ = some (.int .i64 a0_5) := (blk_cell BK285.out 5).trans rfl
                      have hcz21_6 : w3.cell? ⟨gb285, 6, none⟩ = some (.int .i64 a0_6) := (blk_cell BK285.out 6).trans rfl
                      have hcz21_7 : w3.cell? ⟨gb285, 7, none⟩ = some (.int .i64 a0_7) := (blk_cell BK285.out 7).trans rfl
                      have hcz21_8 : w3.cell? ⟨gb285, 8, none⟩ = some (.int .u64 a0_8) := (blk_cell BK285.out 8).trans rfl
                      have hfz21_0 := blk_frozen BK285.out 0
                      have hfz21_1 := blk_frozen BK285.out 1
                      have hfz21_2 := blk_frozen BK285.out 2
                      have hfz21_3 := blk_frozen BK285.out 3
                      have hfz21_4 := blk_frozen BK285.out 4
                      have hfz21_5 := blk_frozen BK285.out 5
                      have hfz21_6 := blk_frozen BK285.out 6
                      have hfz21_7 := blk_frozen BK285.out 7
                      have hfz21_8 := blk_frozen BK285.out 8
                      go_wp2
                      go_meet
                      case rel => exact ⟨_, (true), (by first | rfl | (simp; done) | (simp [*]; done)), H', ⟨by first | omega | exact Nat.le_refl _⟩, ⟨by (with_reducible repeat (first | refine blk_drewN ?_ _ | refine blk_drew ?_ | refine blk_alloc ?_ _)); exact BK285.out⟩, ⟨by repeat (first | (with_reducible first | exact HB.out | apply below_alloc | apply pw_below_drewN | apply below_drew1 | refine below_set ?_ GE285.out) | exact HB.out)⟩⟩
                    · rw [if_neg c20] at H
                      have c20b0 : decide (a0_7 < (-1)) = false := decide_eq_false c20
                      clear c20
                      by_cases c22 : a0_7 > 20000000
                      · rw [if_pos c22] at H
                        have c22b0 : decide (20000000 < a0_7) = true := decide_eq_true c22
                        clear c22
                        have H' := Aside0.mk H
                        clear H
                        have hcz23_0 : w3.cell? ⟨gb285, 0, none⟩ = some (.int .i64 a0_0) := (blk_cell BK285.out 0).trans rfl
                        have hcz23_1 : w3.cell? ⟨gb285, 1, none⟩ = some (.int .i64 a0_1) := (blk_cell BK285.out 1).trans rfl
                        have hcz23_2 : w3.cell? ⟨gb285, 2, none⟩ = some (.int .i64 a0_2) := (blk_cell BK285.out 2).trans rfl
                        have hcz23_3 : w3.cell? ⟨gb285, 3, none⟩ = some (.int .i64 a0_3) := (blk_cell BK285.out 3).trans rfl
                        have hcz23_4 : w3.cell? ⟨gb285, 4, none⟩ = some (.int .i64 a0_4) := (blk_cell BK285.out 4).trans rfl
                        have hcz23_5 : w3.cell? ⟨gb285, 5, none⟩ = some (.int .i64 a0_5) := (blk_cell BK285.out 5).trans rfl
                        have hcz23_6 : w3.cell? ⟨gb285, 6, none⟩ = some (.int .i64 a0_6) := (blk_cell BK285.out 6).trans rfl
                        have hcz23_7 : w3.cell? ⟨gb285, 7, none⟩ = some (.int .i64 a0_7) := (blk_cell BK285.out 7).trans rfl
                        have hcz23_8 : w3.cell? ⟨gb285, 8, none⟩ = some (.int .u64 a0_8) := (blk_cell BK285.out 8).trans rfl
                        have hfz23_0 := blk_frozen BK285.out 0
                        have hfz23_1 := blk_frozen BK285.out 1
                        have hfz23_2 := blk_frozen BK285.out 2
                        have hfz23_3 := blk_frozen BK285.out 3
                        have hfz23_4 := blk_frozen BK285.out 4
                        have hfz23_5 := blk_frozen BK285.out 5
                        have hfz23_6 := blk_frozen BK285.out 6
                        have hfz23_7 := blk_frozen BK285.out 7
                        have hfz23_8 := blk_frozen BK285.out 8
                        go_wp2
                        go_meet
                        case rel => exact ⟨_, (true), (by first | rfl | (simp; done) | (simp [*]; done)), H', ⟨by first | omega | exact Nat.le_refl _⟩, ⟨by (with_reducible repeat (first | refine blk_drewN ?_ _ | refine blk_drew ?_ | refine blk_alloc ?_ _)); exact BK285.out⟩, ⟨by repeat (first | (with_reducible first | exact HB.out | apply below_alloc | apply pw_below_drewN | apply below_drew1 | refine below_set ?_ GE285.out) | exact HB.out)⟩⟩
                      · rw [if_neg c22] at H
                        have c22b0 : decide (20000000 < a0_7) = false := decide_eq_false c22
                        clear c22
                        by_cases c24 : a0_4 < 0
                        · rw [if_pos c24] at H
                          have c24b0 : decide (a0_4 < 0) = true := decide_eq_true c24
                          clear c24
                          have H' := Aside0.mk H
                          clear H
                          have hcz25_0 : w3.cell? ⟨gb285, 0, none⟩ = some (.int .i64 a0_0) := (blk_cell BK285.out 0).trans rfl
                          have hcz25_1 : w3.cell? ⟨gb285, 1, none⟩ = some (.int .i64 a0_1) := (blk_cell BK285.out 1).trans rfl
                          have hcz25_2 : w3.cell? ⟨gb285, 2, none⟩ = some (.int .i64 a0_2) := (blk_cell BK285.out 2).trans rfl
                          have hcz25_3 : w3.cell? ⟨gb285, 3, none⟩ = some (.int .i64 a0_3) := (blk_cell BK285.out 3).trans rfl
                          have hcz25_4 : w3.cell? ⟨gb285, 4, none⟩ = some (.int .i64 a0_4) := (blk_cell BK285.out 4).trans rfl
                          have hcz25_5 : w3.cell? ⟨gb285, 5, none⟩ = some (.int .i64 a0_5) := (blk_cell BK285.out 5).trans rfl
                          have hcz25_6 : w3.cell? ⟨gb285, 6, none⟩ = some (.int .i64 a0_6) := (blk_cell BK285.out 6).trans rfl
                          have hcz25_7 : w3.cell? ⟨gb285, 7, none⟩ = some (.int .i64 a0_7) := (blk_cell BK285.out 7).trans rfl
                          have hcz25_8 : w3.cell? ⟨gb285, 8, none⟩ = some (.int .u64 a0_8) := (blk_cell BK285.out 8).trans rfl
                          have hfz25_0 := blk_frozen BK285.out 0
                          have hfz25_1 := blk_frozen BK285.out 1
                          have hfz25_2 := blk_frozen BK285.out 2
                          have hfz25_3 := blk_frozen BK285.out 3
                          have hfz25_4 := blk_frozen BK285.out 4
                          have hfz25_5 := blk_frozen BK285.out 5
                          have hfz25_6 := blk_frozen BK285.out 6
                          have hfz25_7 := blk_frozen BK285.out 7
                          have hfz25_8 := blk_frozen BK285.out 8
                          go_wp2
                          go_meet
                          case rel => exact ⟨_, (true), (by first | rfl | (simp; done) | (simp [*]; done)), H', ⟨by first | omega | exact Nat.le_refl _⟩, ⟨by (with_reducible repeat (first | refine blk_drewN ?_ _ | refine blk_drew ?_ | refine blk_alloc ?_ _)); exact BK285.out⟩, ⟨by repeat (first | (with_reducible first | exact HB.out | apply below_alloc | apply pw_below_drewN | apply below_drew1 | refine below_set ?_ GE285.out) | exact HB.out)⟩⟩
                        · rw [if_neg c24] at H
                          have c24b0 : decide (a0_4 < 0) = false := decide_eq_false c24
                          clear c24
                          by_cases c26 : a0_4 > 100
                          · rw [if_pos c26] at H
                            have c26b0 : decide (100 < a0_4) = true := decide_eq_true c26
                            clear c26
                            have H' := Aside0.mk H
                            clear H
                            have hcz27_0 : w3.cell? ⟨gb285, 0, none⟩ = some (.int .i64 a0_0) := (blk_cell BK285.out 0).trans rfl
                            have hcz27_1 : w3.cell? ⟨gb285, 1, none⟩ = some (.int .i64 a0_1) := (blk_cell BK285.out 1).trans rfl
                            have hcz27_2 : w3.cell? ⟨gb285, 2, none⟩ = some (.int .i64 a0_2) := (blk_cell BK285.out 2).trans rfl
                            have hcz27_3 : w3.cell? ⟨gb285, 3, none⟩ = some (.int .i64 a0_3) := (blk_cell BK285.out 3).trans rfl
                            have hcz27_4 : w3.cell? ⟨gb285, 4, none⟩ = some (.int .i64 a0_4) := (blk_cell BK285.out 4).trans rfl
                            have hcz27_5 : w3.cell? ⟨gb285, 5, none⟩ = some (.int .i64 a0_5) := (blk_cell BK285.out 5).trans rfl
                            have hcz27_6 : w3.cell? ⟨gb285, 6, none⟩ = some (.int .i64 a0_6) := (blk_cell BK285.out 6).trans rfl
                            have hcz27_7 : w3.cell? ⟨gb285, 7, none⟩ = some (.int .i64 a0_7) := (blk_cell BK285.out 7).trans rfl
                            have hcz27_8 : w3.cell? ⟨gb285, 8, none⟩ = some (.int .u64 a0_8) := (blk_cell BK285.out 8).trans rfl
                            have hfz27_0 := blk_frozen BK285.out 0
                            have hfz27_1 := blk_frozen BK285.out 1
                            have hfz27_2 := blk_frozen BK285.out 2
                            have hfz27_3 := blk_frozen BK285.out 3
                            have hfz27_4 := blk_frozen BK285.out 4
                            have hfz27_5 := blk_frozen BK285.out 5
                            have hfz27_6 := blk_frozen BK285.out 6
                            have hfz27_7 := blk_frozen BK285.out 7
                            have hfz27_8 := blk_frozen BK285.out 8
                            go_wp2
                            go_meet
                            case rel => exact ⟨_, (true), (by first | rfl | (simp; done) | (simp [*]; done)), H', ⟨by first | omega | exact Nat.le_refl _⟩, ⟨by (with_reducible repeat (first | refine blk_drewN ?_ _ | refine blk_drew ?_ | refine blk_alloc ?_ _)); exact BK285.out⟩, ⟨by repeat (first | (with_reducible first | exact HB.out | apply below_alloc | apply pw_below_drewN | apply below_drew1 | refine below_set ?_ GE285.out) | exact HB.out)⟩⟩
                          · rw [if_neg c26] at H
                            have c26b0 : decide (100 < a0_4) = false := decide_eq_false c26
                            clear c26
                            by_cases c28 : a0_5 < (-1)
                            · rw [if_pos c28] at H
                              have c28b0 : decide (a0_5 < (-1)) = true := decide_eq_true c28
                              clear c28
                              have H' := Aside0.mk H
                              clear H
                              have hcz29_0 : w3.cell? ⟨gb285, 0, none⟩ = some (.int .i64 a0_0) := (blk_cell BK285.out 0).trans rfl
                              have hcz29_1 : w3.cell? ⟨gb285, 1, none⟩ = some (.int .i64 a0_1) := (blk_cell BK285.out 1).trans rfl
                              have hcz29_2 : w3.cell? ⟨gb285, 2, none⟩ = some (.int .i64 a0_2) := (blk_cell BK285.out 2).trans rfl
                              have hcz29_3 : w3.cell? ⟨gb285, 3, none⟩ = some (.int .i64 a0_3) := (blk_cell BK285.out 3).trans rfl
                              have hcz29_4 : w3.cell? ⟨gb285, 4, none⟩ = some (.int .i64 a0_4) := (blk_cell BK285.out 4).trans rfl
                              have hcz29_5 : w3.cell? ⟨gb285, 5, none⟩ = some (.int .i64 a0_5) := (blk_cell BK285.out 5).trans rfl
                              have hcz29_6 : w3.cell? ⟨gb285, 6, none⟩ = some (.int .i64 a0_6) := (blk_cell BK285.out 6).trans rfl
                              have hcz29_7 : w3.cell? ⟨gb285, 7, none⟩ = some (.int .i64 a0_7) := (blk_cell BK285.out 7).trans rfl
                              have hcz29_8 : w3.cell? ⟨gb285, 8, none⟩ = some (.int .u64 a0_8) := (blk_cell BK285.out 8).trans rfl
                              have hfz29_0 := blk_frozen BK285.out 0
                              have hfz29_1 := blk_frozen BK285.out 1
                              have hfz29_2 := blk_frozen BK285.out 2
                              have hfz29_3 := blk_frozen BK285.out 3
                              have hfz29_4 := blk_frozen BK285.out 4
                              have hfz29_5 := blk_frozen BK285.out 5
                              have hfz29_6 := blk_frozen BK285.out 6
                              have hfz29_7 := blk_frozen BK285.out 7
                              have hfz29_8 := blk_frozen BK285.out 8
                              go_wp2
                              go_meet
                              case rel => exact ⟨_, (true), (by first | rfl | (simp; done) | (simp [*]; done)), H', ⟨by first | omega | exact Nat.le_refl _⟩, ⟨by (with_reducible repeat (first | refine blk_drewN ?_ _ | refine blk_drew ?_ | refine blk_alloc ?_ _)); exact BK285.out⟩, ⟨by repeat (first | (with_reducible first | exact HB.out | apply below_alloc | apply pw_below_drewN | apply below_drew1 | refine below_set ?_ GE285.out) | exact HB.out)⟩⟩
                            · rw [if_neg c28] at H
                              have c28b0 : decide (a0_5 < (-1)) = false := decide_eq_false c28
                              clear c28
                              by_cases c30 : a0_5 > 231
                              · rw [if_pos c30] at H
                                have c30b0 : decide (231 < a0_5) = true := decide_eq_true c30
                                clear c30
                                have H' := Aside0.mk H
                                clear H
                                have hcz31_0 : w3.cell? ⟨gb285, 0, none⟩ = some (.int .i64 a0_0) := (blk_cell BK285.out 0).trans rfl
                                have hcz31_1 : w3.cell? ⟨gb285, 1, none⟩ = some (.int .i64 a0_1) := (blk_cell BK285.out 1).trans rfl
                                have hcz31_2 : w3.cell? ⟨gb285, 2, none⟩ = some (.int .i64 a0_2) := (blk_cell BK285.out 2).trans rfl
                                have hcz31_3 : w3.cell? ⟨gb285, 3, none⟩ = some (.int .i64 a0_3) := (blk_cell BK285.out 3).trans rfl
                                have hcz31_4 : w3.cell? ⟨gb285, 4, none⟩ = some (.int .i64 a0_4) := (blk_cell BK285.out 4).trans rfl
                                have hcz31_5 : w3.cell? ⟨gb285, 5, none⟩ = some (.int .i64 a0_5) := (blk_cell BK285.out 5).trans rfl
                                have hcz31_6 : w3.cell? ⟨gb285, 6, none⟩ = some (.int .i64 a0_6) := (blk_cell BK285.out 6).trans rfl
                                have hcz31_7 : w3.cell? ⟨gb285, 7, none⟩ = some (.int .i64 a0_7) := (blk_cell BK285.out 7).trans rfl
                                have hcz31_8 : w3.cell? ⟨gb285, 8, none⟩ = some (.int .u64 a0_8) := (blk_cell BK285.out 8).trans rfl
                                have hfz31_0 := blk_frozen BK285.out 0
                                have hfz31_1 := blk_frozen BK285.out 1
                                have hfz31_2 := blk_frozen BK285.out 2
                                have hfz31_3 := blk_frozen BK285.out 3
                                have hfz31_4 := blk_frozen BK285.out 4
                                have hfz31_5 := blk_frozen BK285.out 5
                                have hfz31_6 := blk_frozen BK285.out 6
                                have hfz31_7 := blk_frozen BK285.out 7
                                have hfz31_8 := blk_frozen BK285.out 8
                                go_wp2
                                go_meet
                                case rel => exact ⟨_, (true), (by first | rfl | (simp; done) | (simp [*]; done)), H', ⟨by first | omega | exact Nat.le_refl _⟩, ⟨by (with_reducible repeat (first | refine blk_drewN ?_ _ | refine blk_drew ?_ | refine blk_alloc ?_ _)); exact BK285.out⟩, ⟨by repeat (first | (with_reducible first | exact HB.out | apply below_alloc | apply pw_below_drewN | apply below_drew1 | refine below_set ?_ GE285.out) | exact HB.out)⟩⟩
                              · rw [if_neg c30] at H
                                have c30b0 : decide (231 < a0_5) = false := decide_eq_false c30
                                clear c30
                                by_cases c32 : a0_6 < 0
                                · rw [if_pos c32] at H
                                  have c32b0 : decide (a0_6 < 0) = true := decide_eq_true c32
                                  clear c32
                                  have H' := Aside0.mk H
                                  clear H
                                  have hcz33_0 : w3.cell? ⟨gb285, 0, none⟩ = some (.int .i64 a0_0) := (blk_cell BK285.out 0).trans rfl
                                  have hcz33_1 : w3.cell? ⟨gb285, 1, none⟩ = some (.int .i64 a0_1) := (blk_cell BK285.out 1).trans rfl
                                  have hcz33_2 : w3.cell? ⟨gb285, 2, none⟩ = some (.int .i64 a0_2) := (blk_cell BK285.out 2).trans rfl
                                  have hcz33_3 : w3.cell? ⟨gb285, 3, none⟩ = some (.int .i64 a0_3) := (blk_cell BK285.out 3).trans rfl
                                  have hcz33_4 : w3.cell? ⟨gb285, 4, none⟩ = some (.int .i64 a0_4) := (blk_cell BK285.out 4).trans rfl
                                  have hcz33_5 : w3.cell? ⟨gb285, 5, none⟩ = some (.int .i64 a0_5) := (blk_cell BK285.out 5).trans rfl
                                  have hcz33_6 : w3.cell? ⟨gb285, 6, none⟩ = some (.int .i64 a0_6) := (blk_cell BK285.out 6).trans rfl
                                  have hcz33_7 : w3.cell? ⟨gb285, 7, none⟩ = some (.int .i64 a0_7) := (blk_cell BK285.out 7).trans rfl
                                  have hcz33_8 : w3.cell? ⟨gb285, 8, none⟩ = some (.int .u64 a0_8) := (blk_cell BK285.out 8).trans rfl
                                  have hfz33_0 := blk_frozen BK285.out 0
                                  have hfz33_1 := blk_frozen BK285.out 1
                                  have hfz33_2 := blk_frozen BK285.out 2
                                  have hfz33_3 := blk_frozen BK285.out 3
                                  have hfz33_4 := blk_frozen BK285.out 4
                                  have hfz33_5 := blk_frozen BK285.out 5
                                  have hfz33_6 := blk_frozen BK285.out 6
                                  have hfz33_7 := blk_frozen BK285.out 7
                                  have hfz33_8 := blk_frozen BK285.out 8
                                  go_wp2
                                  go_meet
                                  case rel => exact ⟨_, (true), (by first | rfl | (simp; done) | (simp [*]; done)), H', ⟨by first | omega | exact Nat.le_refl _⟩, ⟨by (with_reducible repeat (first | refine blk_drewN ?_ _ | refine blk_drew ?_ | refine blk_alloc ?_ _)); exact BK285.out⟩, ⟨by repeat (first | (with_reducible first | exact HB.out | apply below_alloc | apply pw_below_drewN | apply below_drew1 | refine below_set ?_ GE285.out) | exact HB.out)⟩⟩
                                · rw [if_neg c32] at H
                                  have c32b0 : decide (a0_6 < 0) = false := decide_eq_false c32
                                  clear c32
                                  have H' := Aside0.mk H
                                  clear H
                                  have hcz34_0 : w3.cell? ⟨gb285, 0, none⟩ = some (.int .i64 a0_0) := (blk_cell BK285.out 0).trans rfl
                                  have hcz34_1 : w3.cell? ⟨gb285, 1, none⟩ = some (.int .i64 a0_1) := (blk_cell BK285.out 1).trans rfl
                                  have hcz34_2 : w3.cell? ⟨gb285, 2, none⟩ = some (.int .i64 a0_2) := (blk_cell BK285.out 2).trans rfl
                                  have hcz34_3 : w3.cell? ⟨gb285, 3, none⟩ = some (.int .i64 a0_3) := (blk_cell BK285.out 3).trans rfl
                                  have hcz34_4 : w3.cell? ⟨gb285, 4, none⟩ = some (.int .i64 a0_4) := (blk_cell BK285.out 4).trans rfl
                                  have hcz34_5 : w3.cell? ⟨gb285, 5, none⟩ = some (.int .i64 a0_5) := (blk_cell BK285.out 5).trans rfl
                                  have hcz34_6 : w3.cell? ⟨gb285, 6, none⟩ = some (.int .i64 a0_6) := (blk_cell BK285.out 6).trans rfl
                                  have hcz34_7 : w3.cell? ⟨gb285, 7, none⟩ = some (.int .i64 a0_7) := (blk_cell BK285.out 7).trans rfl
                                  have hcz34_8 : w3.cell? ⟨gb285, 8, none⟩ = some (.int .u64 a0_8) := (blk_cell BK285.out 8).trans rfl
                                  have hfz34_0 := blk_frozen BK285.out 0
                                  have hfz34_1 := blk_frozen BK285.out 1
                                  have hfz34_2 := blk_frozen BK285.out 2
                                  have hfz34_3 := blk_frozen BK285.out 3
                                  have hfz34_4 := blk_frozen BK285.out 4
                                  have hfz34_5 := blk_frozen BK285.out 5
                                  have hfz34_6 := blk_frozen BK285.out 6
                                  have hfz34_7 := blk_frozen BK285.out 7
                                  have hfz34_8 := blk_frozen BK285.out 8
                                  go_wp2
                                  go_meet
                                  case rel => exact ⟨_, (decide (a0_6 > 9999)), (by first | rfl | (simp; done) | (simp [*]; done)), H', ⟨by first | omega | exact Nat.le_refl _⟩, ⟨by (with_reducible repeat (first | refine blk_drewN ?_ _ | refine blk_drew ?_ | refine blk_alloc ?_ _)); exact BK285.out⟩, ⟨by repeat (first | (with_reducible first | exact HB.out | apply below_alloc | apply pw_below_drewN | apply below_drew1 | refine below_set ?_ GE285.out) | exact HB.out)⟩⟩
  case rest =>
    clear HC2
    try clear c1
    try clear c2
    try clear p2
    try clear c3
    try clear c4
    try clear c4b0
    try clear c6
    try clear c6b0
    try clear c8
    try clear c8b0
    try clear c10
    try clear c10b0
    try clear c12
    try clear c12b0
    try clear c14
    try clear c14b0
    try clear c16
    try clear c16b0
    try clear c18
    try clear c18b0
    try clear c20
    try clear c20b0
    try clear c22
    try clear c22b0
    try clear c24
    try clear c24b0
    try clear c26
    try clear c26b0
    try clear c28
    try clear c28b0
    try clear c30
    try clear c30b0
    try clear c32
    try clear c32b0
    try clear hcz11_0
    try clear hcz11_1
    try clear hcz11_2
    try clear hcz11_3
    try clear hcz11_4
    try clear hcz11_5
    try clear hcz11_6
    try clear hcz11_7
    try clear hcz11_8
    try clear hcz13_0
    try clear hcz13_1
    try clear hcz13_2
    try clear hcz13_3
    try clear hcz13_4
    try clear hcz13_5
    try clear hcz13_6
    try clear hcz13_7
    try clear hcz13_8
    try clear hcz15_0
    try clear hcz15_1
    try clear hcz15_2
    try clear hcz15_3
    try clear hcz15_4
    try clear hcz15_5
    try clear hcz15_6
    try clear hcz15_7
    try clear hcz15_8
    try clear hcz17_0
    try clear hcz17_1
    try clear hcz17_2
    try clear hcz17_3
    try clear hcz17_4
    try clear hcz17_5
    try clear hcz17_6
    try clear hcz17_7
    try clear hcz17_8
    try clear hcz19_0
    try clear hcz19_1
    try clear hcz19_2
    try clear hcz19_3
    try clear hcz19_4
    try clear hcz19_5
    try clear hcz19_6
    try clear hcz19_7
    try clear hcz19_8
    try clear hcz21_0
    try clear hcz21_1
    try clear hcz21_2
    try clear hcz21_3
    try clear hcz21_4
    try clear hcz21_5
    try clear hcz21_6
    try clear hcz21_7
    try clear hcz21_8
    try clear hcz23_0
    try clear hcz23_1
    try clear hcz23_2
    try clear hcz23_3
    try clear hcz23_4
    try clear hcz23_5
    try clear hcz23_6
    try clear hcz23_7
    try clear hcz23_8
    try clear hcz25_0
    try clear hcz25_1
    try clear hcz25_2
    try clear hcz25_3
    try clear hcz25_4
    try clear hcz25_5
    try clear hcz25_6
    try clear hcz25_7
    try clear hcz25_8
    try clear hcz27_0
    try clear hcz27_1
    try clear hcz27_2
    try clear hcz27_3
    try clear hcz27_4
    try clear hcz27_5
    try clear hcz27_6
    try clear hcz27_7
    try clear hcz27_8
    try clear hcz29_0
    try clear hcz29_1
    try clear hcz29_2
    try clear hcz29_3
    try clear hcz29_4
    try clear hcz29_5
    try clear hcz29_6
    try clear hcz29_7
    try clear hcz29_8
    try clear hcz31_0
    try clear hcz31_1
    try clear hcz31_2
    try clear hcz31_3
    try clear hcz31_4
    try clear hcz31_5
    try clear hcz31_6
    try clear hcz31_7
    try clear hcz31_8
    try clear hcz33_0
    try clear hcz33_1
    try clear hcz33_2
    try clear hcz33_3
    try clear hcz33_4
    try clear hcz33_5
    try clear hcz33_6
    try clear hcz33_7
    try clear hcz33_8
    try clear hcz34_0
    try clear hcz34_1
    try clear hcz34_2
    try clear hcz34_3
    try clear hcz34_4
    try clear hcz34_5
    try clear hcz34_6
    try clear hcz34_7
    try clear hcz34_8
    try clear hcz5_0
    try clear hcz5_1
    try clear hcz5_2
    try clear hcz5_3
    try clear hcz5_4
    try clear hcz5_5
    try clear hcz5_6
    try clear hcz5_7
    try clear hcz5_8
    try clear hcz7_0
    try clear hcz7_1
    try clear hcz7_2
    try clear hcz7_3
    try clear hcz7_4
    try clear hcz7_5
    try clear hcz7_6
    try clear hcz7_7
    try clear hcz7_8
    try clear hcz9_0
    try clear hcz9_1
    try clear hcz9_2
    try clear hcz9_3
    try clear hcz9_4
    try clear hcz9_5
    try clear hcz9_6
    try clear hcz9_7
    try clear hcz9_8
    try clear hfz11_0
    try clear hfz11_1
    try clear hfz11_2
    try clear hfz11_3
    try clear hfz11_4
    try clear hfz11_5
    try clear hfz11_6
    try clear hfz11_7
    try clear hfz11_8
    try clear hfz13_0
    try clear hfz13_1
    try clear hfz13_2
    try clear hfz13_3
    try clear hfz13_4
    try clear hfz13_5
    try clear hfz13_6
    try clear hfz13_7
    try clear hfz13_8
    try clear hfz15_0
    try clear hfz15_1
    try clear hfz15_2
    try clear hfz15_3
    try clear hfz15_4
    try clear hfz15_5
    try clear hfz15_6
    try clear hfz15_7
    try clear hfz15_8
    try clear hfz17_0
    try clear hfz17_1
    try clear hfz17_2
    try clear hfz17_3
    try clear hfz17_4
    try clear hfz17_5
    try clear hfz17_6
    try clear hfz17_7
    try clear hfz17_8
    try clear hfz19_0
    try clear hfz19_1
    try clear hfz19_2
    try clear hfz19_3
    try clear hfz19_4
    try clear hfz19_5
    try clear hfz19_6
    try clear hfz19_7
    try clear hfz19_8
    try clear hfz21_0
    try clear hfz21_1
    try clear hfz21_2
    try clear hfz21_3
    try clear hfz21_4
    try clear hfz21_5
    try clear hfz21_6
    try clear hfz21_7
    try clear hfz21_8
    try clear hfz23_0
    try clear hfz23_1
    try clear hfz23_2
    try clear hfz23_3
    try clear hfz23_4
    try clear hfz23_5
    try clear hfz23_6
    try clear hfz23_7
    try clear hfz23_8
    try clear hfz25_0
    try clear hfz25_1
    try clear hfz25_2
    try clear hfz25_3
    try clear hfz25_4
    try clear hfz25_5
    try clear hfz25_6
    try clear hfz25_7
    try clear hfz25_8
    try clear hfz27_0
    try clear hfz27_1
    try clear hfz27_2
    try clear hfz27_3
    try clear hfz27_4
    try clear hfz27_5
    try clear hfz27_6
    try clear hfz27_7
    try clear hfz27_8
    try clear hfz29_0
    try clear hfz29_1
    try clear hfz29_2
    try clear hfz29_3
    try clear hfz29_4
    try clear hfz29_5
    try clear hfz29_6
    try clear hfz29_7
    try clear hfz29_8
    try clear hfz31_0
    try clear hfz31_1
    try clear hfz31_2
    try clear hfz31_3
    try clear hfz31_4
    try clear hfz31_5
    try clear hfz31_6
    try clear hfz31_7
    try clear hfz31_8
    try clear hfz33_0
    try clear hfz33_1
    try clear hfz33_2
    try clear hfz33_3
    try clear hfz33_4
    try clear hfz33_5
    try clear hfz33_6
    try clear hfz33_7
    try clear hfz33_8
    try clear hfz34_0
    try clear hfz34_1
    try clear hfz34_2
    try clear hfz34_3
    try clear hfz34_4
    try clear hfz34_5
    try clear hfz34_6
    try clear hfz34_7
    try clear hfz34_8
    try clear hfz5_0
    try clear hfz5_1
    try clear hfz5_2
    try clear hfz5_3
    try clear hfz5_4
    try clear hfz5_5
    try clear hfz5_6
    try clear hfz5_7
    try clear hfz5_8
    try clear hfz7_0
    try clear hfz7_1
    try clear hfz7_2
    try clear hfz7_3
    try clear hfz7_4
    try clear hfz7_5
    try clear hfz7_6
    try clear hfz7_7
    try clear hfz7_8
    try clear hfz9_0
    try clear hfz9_1
    try clear hfz9_2
    try clear hfz9_3
    try clear hfz9_4
    try clear hfz9_5
    try clear hfz9_6
    try clear hfz9_7
    try clear hfz9_8
    obtain ⟨kq, x80_1, rfl, HA, HJ1, BK285, HB⟩ := hcut
    cases kq with
    | zero => exact absurd HA.out (by simp [skiarearef25_Right.j0])
    | succ kj1 =>
      have H := HA.out
      clear HA
      simp only [skiarearef25_Right.j0] at H
      by_cases c35 : x80_1 = true
      · subst c35
        have H1 : (some 2) = some r := by rw [if_pos rfl] at H; exact H
        clear H
        have H := H1
        clear H1
        obtain rfl := Option.some.inj H
        go_wp2
        go_ret
        exact ⟨by first | rfl | (simp [errW_none, errW_some] <;> rfl) | (simp [*, errW_none, errW_some] <;> rfl), by repeat (first | (with_reducible first | exact HB.out | apply below_alloc | apply pw_below_drewN | apply below_drew1 | refine below_set ?_ GE285.out) | exact HB.out)⟩
      · replace c35 := Bool.eq_false_iff.mpr c35
        subst c35
        have H1 : (if a0_3 = (-1) then (if a0_7 = (-1) then (if a0_6 = 0 then (if a0_5 = (-1) then (if a0_3 > a0_7 then (some 10) else (some 0)) else (some 10)) else (some 10)) else (some 10)) else (if a0_7 = (-1) then (if a0_6 = 0 then (if a0_5 = (-1) then (if a0_3 > a0_7 then (some 10) else (some 0)) else (some 10)) else (some 10)) else (if a0_3 > a0_7 then (some 10) else (some 0)))) = some r := by rw [if_neg (show ¬ (false = true) by decide)] at H; exact H
        clear H
        have H := H1
        clear H1
        by_cases c36 : a0_3 = (-1)
        · rw [if_pos c36] at H
          have c36b0 : (a0_3 == (-1)) = true := beq_iff_eq.mpr c36
          have c36b1 : (a0_3 != (-1)) = false := bne_eq_false_iff_eq.mpr c36
          clear c36
          by_cases c37 : a0_7 = (-1)
          · rw [if_pos c37] at H
            have c37b0 : (a0_7 == (-1)) = true := beq_iff_eq.mpr c37
            have c37b1 : (a0_7 != (-1)) = false := bne_eq_false_iff_eq.mpr c37
            clear c37
            by_cases c38 : a0_6 = 0
            · rw [if_pos c38] at H
              have c38b0 : (a0_6 == 0) = true := beq_iff_eq.mpr c38
              have c38b1 : (a0_6 != 0) = false := bne_eq_false_iff_eq.mpr c38
              clear c38
              by_cases c39 : a0_5 = (-1)
              · rw [if_pos c39] at H
                have c39b0 : (a0_5 == (-1)) = true := beq_iff_eq.mpr c39
                have c39b1 : (a0_5 != (-1)) = false := bne_eq_false_iff_eq.mpr c39
                clear c39
                by_cases c40 : a0_3 > a0_7
                · rw [if_pos c40] at H
                  have c40b0 : decide (a0_7 < a0_3) = true := decide_eq_true c40
                  clear c40
                  obtain rfl := Option.some.inj H
                  have hcz41_0 : wc.cell? ⟨gb285, 0, none⟩ = some (.int .i64 a0_0) := (blk_cell BK285.out 0).trans rfl
                  have hcz41_1 : wc.cell? ⟨gb285, 1, none⟩ = some (.int .i64 a0_1) := (blk_cell BK285.out 1).trans rfl
                  have hcz41_2 : wc.cell? ⟨gb285, 2, none⟩ = some (.int .i64 a0_2) := (blk_cell BK285.out 2).trans rfl
                  have hcz41_3 : wc.cell? ⟨gb285, 3, none⟩ = some (.int .i64 a0_3) := (blk_cell BK285.out 3).trans rfl
                  have hcz41_4 : wc.cell? ⟨gb285, 4, none⟩ = some (.int .i64 a0_4) := (blk_cell BK285.out 4).trans rfl
                  have hcz41_5 : wc.cell? ⟨gb285, 5, none⟩ = some (.int .i64 a0_5) := (blk_cell BK285.out 5).trans rfl
                  have hcz41_6 : wc.cell? ⟨gb285, 6, none⟩ = some (.int .i64 a0_6) := (blk_cell BK285.out 6).trans rfl
                  have hcz41_7 : wc.cell? ⟨gb285, 7, none⟩ = some (.int .i64 a0_7) := (blk_cell BK285.out 7).trans rfl
                  have hcz41_8 : wc.cell? ⟨gb285, 8, none⟩ = some (.int .u64 a0_8) := (blk_cell BK285.out 8).trans rfl
                  have hfz41_0 := blk_frozen BK285.out 0
                  have hfz41_1 := blk_frozen BK285.out 1
                  have hfz41_2 := blk_frozen BK285.out 2
                  have hfz41_3 := blk_frozen BK285.out 3
                  have hfz41_4 := blk_frozen BK285.out 4
                  have hfz41_5 := blk_frozen BK285.out 5
                  have hfz41_6 := blk_frozen BK285.out 6
                  have hfz41_7 := blk_frozen BK285.out 7
                  have hfz41_8 := blk_frozen BK285.out 8
                  go_wp2
                  go_ret
                  exact ⟨by first | rfl | (simp [errW_none, errW_some] <;> rfl) | (simp [*, errW_none, errW_some] <;> rfl), by repeat (first | (with_reducible first | exact HB.out | apply below_alloc | apply pw_below_drewN | apply below_drew1 | refine below_set ?_ GE285.out) | exact HB.out)⟩
                · rw [if_neg c40] at H
                  have c40b0 : decide (a0_7 < a0_3) = false := decide_eq_false c40
                  clear c40
                  obtain rfl := Option.some.inj H
                  have hcz42_0 : wc.cell? ⟨gb285, 0, none⟩ = some (.int .i64 a0_0) := (blk_cell BK285.out 0).trans rfl
                  have hcz42_1 : wc.cell? ⟨gb285, 1, none⟩ = some (.int .i64 a0_1) := (blk_cell BK285.out 1).trans rfl
                  have hcz42_2 : wc.cell? ⟨gb285, 2, none⟩ = some (.int .i64 a0_2) := (blk_cell BK285.out 2).trans rfl
                  have hcz42_3 : wc.cell? ⟨gb285, 3, none⟩ = some (.int .i64 a0_3) := (blk_cell BK285.out 3).trans rfl
                  have hcz42_4 : wc.cell? ⟨gb285, 4, none⟩ = some (.int .i64 a0_4) := (blk_cell BK285.out 4).trans rfl
                  have hcz42_5 : wc.cell? ⟨gb285, 5, none⟩ = some (.int .i64 a0_5) := (blk_cell BK285.out 5).trans rfl
                  have hcz42_6 : wc.cell? ⟨gb285, 6, none⟩ = some (.int .i64 a0_6) := (blk_cell BK285.out 6).trans rfl
                  have hcz42_7 : wc.cell? ⟨gb285, 7, none⟩ = some (.int .i64 a0_7) := (blk_cell BK285.out 7).trans rfl
                  have hcz42_8 : wc.cell? ⟨gb285, 8, none⟩ = some (.int .u64 a0_8) := (blk_cell BK285.out 8).trans rfl
                  have hfz42_0 := blk_frozen BK285.out 0
                  have hfz42_1 := blk_frozen BK285.out 1
                  have hfz42_2 := blk_frozen BK285.out 2
                  have hfz42_3 := blk_frozen BK285.out 3
                  have hfz42_4 := blk_frozen BK285.out 4
                  have hfz42_5 := blk_frozen BK285.out 5
                  have hfz42_6 := blk_frozen BK285.out 6
                  have hfz42_7 := blk_frozen BK285.out 7
                  have hfz42_8 := blk_frozen BK285.out 8
                  go_wp2
                  go_ret
                  exact ⟨by first | rfl | (simp [errW_none, errW_some] <;> rfl) | (simp [*, errW_none, errW_some] <;> rfl), by repeat (first | (with_reducible first | exact HB.out | apply below_alloc | apply pw_below_drewN | apply below_drew1 | refine below_set ?_ GE285.out) | exact HB.out)⟩
              · rw [if_neg c39] at H
                have c39b0 : (a0_5 == (-1)) = false := beq_eq_false_iff_ne.mpr c39
                have c39b1 : (a0_5 != (-1)) = true := bne_iff_ne.mpr c39
                obtain rfl := Option.some.inj H
                have hcz43_0 : wc.cell? ⟨gb285, 0, none⟩ = some (.int .i64 a0_0) := (blk_cell BK285.out 0).trans rfl
                have hcz43_1 : wc.cell? ⟨gb285, 1, none⟩ = some (.int .i64 a0_1) := (blk_cell BK285.out 1).trans rfl
                have hcz43_2 : wc.cell? ⟨gb285, 2, none⟩ = some (.int .i64 a0_2) := (blk_cell BK285.out 2).trans rfl
                have hcz43_3 : wc.cell? ⟨gb285, 3, none⟩ = some (.int .i64 a0_3) := (blk_cell BK285.out 3).trans rfl
                have hcz43_4 : wc.cell? ⟨gb285, 4, none⟩ = some (.int .i64 a0_4) := (blk_cell BK285.out 4).trans rfl
                have hcz43_5 : wc.cell? ⟨gb285, 5, none⟩ = some (.int .i64 a0_5) := (blk_cell BK285.out 5).trans rfl
                have hcz43_6 : wc.cell? ⟨gb285, 6, none⟩ = some (.int .i64 a0_6) := (blk_cell BK285.out 6).trans rfl
                have hcz43_7 : wc.cell? ⟨gb285, 7, none⟩ = some (.int .i64 a0_7) := (blk_cell BK285.out 7).trans rfl
                have hcz43_8 : wc.cell? ⟨gb285, 8, none⟩ = some (.int .u64 a0_8) := (blk_cell BK285.out 8).trans rfl
                have hfz43_0 := blk_frozen BK285.out 0
                have hfz43_1 := blk_frozen BK285.out 1
                have hfz43_2 := blk_frozen BK285.out 2
                have hfz43_3 := blk_frozen BK285.out 3
                have hfz43_4 := blk_frozen BK285.out 4
                have hfz43_5 := blk_frozen BK285.out 5
                have hfz43_6 := blk_frozen BK285.out 6
                have hfz43_7 := blk_frozen BK285.out 7
                have hfz43_8 := blk_frozen BK285.out 8
                go_wp2
                go_ret
                exact ⟨by first | rfl | (simp [errW_none, errW_some] <;> rfl) | (simp [*, errW_none, errW_some] <;> rfl), by repeat (first | (with_reducible first | exact HB.out | apply below_alloc | apply pw_below_drewN | apply below_drew1 | refine below_set ?_ GE285.out) | exact HB.out)⟩
            · rw [if_neg c38] at H
              have c38b0 : (a0_6 == 0) = false := beq_eq_false_iff_ne.mpr c38
              have c38b1 : (a0_6 != 0) = true := bne_iff_ne.mpr c38
              obtain rfl := Option.some.inj H
              have hcz44_0 : wc.cell? ⟨gb285, 0, none⟩ = some (.int .i64 a0_0) := (blk_cell BK285.out 0).trans rfl
              have hcz44_1 : wc.cell? ⟨gb285, 1, none⟩ = some (.int .i64 a0_1) := (blk_cell BK285.out 1).trans rfl
              have hcz44_2 : wc.cell? ⟨gb285, 2, none⟩ = some (.int .i64 a0_2) := (blk_cell BK285.out 2).trans rfl
              have hcz44_3 : wc.cell? ⟨gb285, 3, none⟩ = some (.int .i64 a0_3) := (blk_cell BK285.out 3).trans rfl
              have hcz44_4 : wc.cell? ⟨gb285, 4, none⟩ = some (.int .i64 a0_4) := (blk_cell BK285.out 4).trans rfl
              have hcz44_5 : wc.cell? ⟨gb285, 5, none⟩ = some (.int .i64 a0_5) := (blk_cell BK285.out 5).trans rfl
              have hcz44_6 : wc.cell? ⟨gb285, 6, none⟩ = some (.int .i64 a0_6) := (blk_cell BK285.out 6).trans rfl
              have hcz44_7 : wc.cell? ⟨gb285, 7, none⟩ = some (.int .i64 a0_7) := (blk_cell BK285.out 7).trans rfl
              have hcz44_8 : wc.cell? ⟨gb285, 8, none⟩ = some (.int .u64 a0_8) := (blk_cell BK285.out 8).trans rfl
              have hfz44_0 := blk_frozen BK285.out 0
              have hfz44_1 := blk_frozen BK285.out 1
              have hfz44_2 := blk_frozen BK285.out 2
              have hfz44_3 := blk_frozen BK285.out 3
              have hfz44_4 := blk_frozen BK285.out 4
              have hfz44_5 := blk_frozen BK285.out 5
              have hfz44_6 := blk_frozen BK285.out 6
              have hfz44_7 := blk_frozen BK285.out 7
              have hfz44_8 := blk_frozen BK285.out 8
              go_wp2
              go_ret
              exact ⟨by first | rfl | (simp [errW_none, errW_some] <;> rfl) | (simp [*, errW_none, errW_some] <;> rfl), by repeat (first | (with_reducible first | exact HB.out | apply below_alloc | apply pw_below_drewN | apply below_drew1 | refine below_set ?_ GE285.out) | exact HB.out)⟩
          · rw [if_neg c37] at H
            have c37b0 : (a0_7 == (-1)) = false := beq_eq_false_iff_ne.mpr c37
            have c37b1 : (a0_7 != (-1)) = true := bne_iff_ne.mpr c37
            obtain rfl := Option.some.inj H
            have hcz45_0 : wc.cell? ⟨gb285, 0, none⟩ = some (.int .i64 a0_0) := (blk_cell BK285.out 0).trans rfl
            have hcz45_1 : wc.cell? ⟨gb285, 1, none⟩ = some (.int .i64 a0_1) := (blk_cell BK285.out 1).trans rfl
            have hcz45_2 : wc.cell? ⟨gb285, 2, none⟩ = some (.int .i64 a0_2) := (blk_cell BK285.out 2).trans rfl
            have hcz45_3 : wc.cell? ⟨gb285, 3, none⟩ = some (.int .i64 a0_3) := (blk_cell BK285.out 3).trans rfl
            have hcz45_4 : wc.cell? ⟨gb285, 4, none⟩ = some (.int .i64 a0_4) := (blk_cell BK285.out 4).trans rfl
            have hcz45_5 : wc.cell? ⟨gb285, 5, none⟩ = some (.int .i64 a0_5) := (blk_cell BK285.out 5).trans rfl
            have hcz45_6 : wc.cell? ⟨gb285, 6, none⟩ = some (.int .i64 a0_6) := (blk_cell BK285.out 6).trans rfl
            have hcz45_7 : wc.cell? ⟨gb285, 7, none⟩ = some (.int .i64 a0_7) := (blk_cell BK285.out 7).trans rfl
            have hcz45_8 : wc.cell? ⟨gb285, 8, none⟩ = some (.int .u64 a0_8) := (blk_cell BK285.out 8).trans rfl
            have hfz45_0 := blk_frozen BK285.out 0
            have hfz45_1 := blk_frozen BK285.out 1
            have hfz45_2 := blk_frozen BK285.out 2
            have hfz45_3 := blk_frozen BK285.out 3
            have hfz45_4 := blk_frozen BK285.out 4
            have hfz45_5 := blk_frozen BK285.out 5
            have hfz45_6 := blk_frozen BK285.out 6
            have hfz45_7 := blk_frozen BK285.out 7
            have hfz45_8 := blk_frozen BK285.out 8
            go_wp2
            go_ret
            exact ⟨by first | rfl | (simp [errW_none, errW_some] <;> rfl) | (simp [*, errW_none, errW_some] <;> rfl), by repeat (first | (with_reducible first | exact HB.out | apply below_alloc | apply pw_below_drewN | apply below_drew1 | refine below_set ?_ GE285.out) | exact HB.out)⟩
        · rw [if_neg c36] at H
          have c36b0 : (a0_3 == (-1)) = false := beq_eq_false_iff_ne.mpr c36
          have c36b1 : (a0_3 != (-1)) = true := bne_iff_ne.mpr c36
          by_cases c46 : a0_7 = (-1)
          · rw [if_pos c46] at H
            have c46b0 : (a0_7 == (-1)) = true := beq_iff_eq.mpr c46
            have c46b1 : (a0_7 != (-1)) = false := bne_eq_false_iff_eq.mpr c46
            clear c46
            by_cases c47 : a0_6 = 0
            · rw [if_pos c47] at H
              have c47b0 : (a0_6 == 0) = true := beq_iff_eq.mpr c47
              have c47b1 : (a0_6 != 0) = false := bne_eq_false_iff_eq.mpr c47
              clear c47
              by_cases c48 : a0_5 = (-1)
              · rw [if_pos c48] at H
                have c48b0 : (a0_5 == (-1)) = true := beq_iff_eq.mpr c48
                have c48b1 : (a0_5 != (-1)) = false := bne_eq_false_iff_eq.mpr c48
                clear c48
                by_cases c49 : a0_3 > a0_7
                · rw [if_pos c49] at H
                  have c49b0 : decide (a0_7 < a0_3) = true := decide_eq_true c49
                  clear c49
                  obtain rfl := Option.some.inj H
                  have hcz50_0 : wc.cell? ⟨gb285, 0, none⟩ = some (.int .i64 a0_0) := (blk_cell BK285.out 0).trans rfl
                  have hcz50_1 : wc.cell? ⟨gb285, 1, none⟩ = some (.int .i64 a0_1) := (blk_cell BK285.out 1).trans rfl
                  have hcz50_2 : wc.cell? ⟨gb285, 2, none⟩ = some (.int .i64 a0_2) := (blk_cell BK285.out 2).trans rfl
                  have hcz50_3 : wc.cell? ⟨gb285, 3, none⟩ = some (.int .i64 a0_3) := (blk_cell BK285.out 3).trans rfl
                  have hcz50_4 : wc.cell? ⟨gb285, 4, none⟩ = some (.int .i64 a0_4) := (blk_cell BK285.out 4).trans rfl
                  have hcz50_5 : wc.cell? ⟨gb285, 5, none⟩ = some (.int .i64 a0_5) := (blk_cell BK285.out 5).trans rfl
                  have hcz50_6 : wc.cell? ⟨gb285, 6, none⟩ = some (.int .i64 a0_6) := (blk_cell BK285.out 6).trans rfl
                  have hcz50_7 : wc.cell? ⟨gb285, 7, none⟩ = some (.int .i64 a0_7) := (blk_cell BK285.out 7).trans rfl
                  have hcz50_8 : wc.cell? ⟨gb285, 8, none⟩ = some (.int .u64 a0_8) := (blk_cell BK285.out 8).trans rfl
                  have hfz50_0 := blk_frozen BK285.out 0
                  have hfz50_1 := blk_frozen BK285.out 1
                  have hfz50_2 := blk_frozen BK285.out 2
                  have hfz50_3 := blk_frozen BK285.out 3
                  have hfz50_4 := blk_frozen BK285.out 4
                  have hfz50_5 := blk_frozen BK285.out 5
                  have hfz50_6 := blk_frozen BK285.out 6
                  have hfz50_7 := blk_frozen BK285.out 7
                  have hfz50_8 := blk_frozen BK285.out 8
                  go_wp2
                  go_ret
                  exact ⟨by first | rfl | (simp [errW_none, errW_some] <;> rfl) | (simp [*, errW_none, errW_some] <;> rfl), by repeat (first | (with_reducible first | exact HB.out | apply below_alloc | apply pw_below_drewN | apply below_drew1 | refine below_set ?_ GE285.out) | exact HB.out)⟩
                · rw [if_neg c49] at H
                  have c49b0 : decide (a0_7 < a0_3) = false := decide_eq_false c49
                  clear c49
                  obtain rfl := Option.some.inj H
                  have hcz51_0 : wc.cell? ⟨gb285, 0, none⟩ = some (.int .i64 a0_0) := (blk_cell BK285.out 0).trans rfl
                  have hcz51_1 : wc.cell? ⟨gb285, 1, none⟩ = some (.int .i64 a0_1) := (blk_cell BK285.out 1).trans rfl
                  have hcz51_2 : wc.cell? ⟨gb285, 2, none⟩ = some (.int .i64 a0_2) := (blk_cell BK285.out 2).trans rfl
                  have hcz51_3 : wc.cell? ⟨gb285, 3, none⟩ = some (.int .i64 a0_3) := (blk_cell BK285.out 3).trans rfl
                  have hcz51_4 : wc.cell? ⟨gb285, 4, none⟩ = some (.int .i64 a0_4) := (blk_cell BK285.out 4).trans rfl
                  have hcz51_5 : wc.cell? ⟨gb285, 5, none⟩ = some (.int .i64 a0_5) := (blk_cell BK285.out 5).trans rfl
                  have hcz51_6 : wc.cell? ⟨gb285, 6, none⟩ = some (.int .i64 a0_6) := (blk_cell BK285.out 6).trans rfl
                  have hcz51_7 : wc.cell? ⟨gb285, 7, none⟩ = some (.int .i64 a0_7) := (blk_cell BK285.out 7).trans rfl
                  have hcz51_8 : wc.cell? ⟨gb285, 8, none⟩ = some (.int .u64 a0_8) := (blk_cell BK285.out 8).trans rfl
                  have hfz51_0 := blk_frozen BK285.out 0
                  have hfz51_1 := blk_frozen BK285.out 1
                  have hfz51_2 := blk_frozen BK285.out 2
                  have hfz51_3 := blk_frozen BK285.out 3
                  have hfz51_4 := blk_frozen BK285.out 4
                  have hfz51_5 := blk_frozen BK285.out 5
                  have hfz51_6 := blk_frozen BK285.out 6
                  have hfz51_7 := blk_frozen BK285.out 7
                  have hfz51_8 := blk_frozen BK285.out 8
                  go_wp2
                  go_ret
                  exact ⟨by first | rfl | (simp [errW_none, errW_some] <;> rfl) | (simp [*, errW_none, errW_some] <;> rfl), by repeat (first | (with_reducible first | exact HB.out | apply below_alloc | apply pw_below_drewN | apply below_drew1 | refine below_set ?_ GE285.out) | exact HB.out)⟩
              · rw [if_neg c48] at H
                have c48b0 : (a0_5 == (-1)) = false := beq_eq_false_iff_ne.mpr c48
                have c48b1 : (a0_5 != (-1)) = true := bne_iff_ne.mpr c48
                obtain rfl := Option.some.inj H
                have hcz52_0 : wc.cell? ⟨gb285, 0, none⟩ = some (.int .i64 a0_0) := (blk_cell BK285.out 0).trans rfl
                have hcz52_1 : wc.cell? ⟨gb285, 1, none⟩ = some (.int .i64 a0_1) := (blk_cell BK285.out 1).trans rfl
                have hcz52_2 : wc.cell? ⟨gb285, 2, none⟩ = some (.int .i64 a0_2) := (blk_cell BK285.out 2).trans rfl
                have hcz52_3 : wc.cell? ⟨gb285, 3, none⟩ = some (.int .i64 a0_3) := (blk_cell BK285.out 3).trans rfl
                have hcz52_4 : wc.cell? ⟨gb285, 4, none⟩ = some (.int .i64 a0_4) := (blk_cell BK285.out 4).trans rfl
                have hcz52_5 : wc.cell? ⟨gb285, 5, none⟩ = some (.int .i64 a0_5) := (blk_cell BK285.out 5).trans rfl
                have hcz52_6 : wc.cell? ⟨gb285, 6, none⟩ = some (.int .i64 a0_6) := (blk_cell BK285.out 6).trans rfl
                have hcz52_7 : wc.cell? ⟨gb285, 7, none⟩ = some (.int .i64 a0_7) := (blk_cell BK285.out 7).trans rfl
                have hcz52_8 : wc.cell? ⟨gb285, 8, none⟩ = some (.int .u64 a0_8) := (blk_cell BK285.out 8).trans rfl
                have hfz52_0 := blk_frozen BK285.out 0
                have hfz52_1 := blk_frozen BK285.out 1
                have hfz52_2 := blk_frozen BK285.out 2
                have hfz52_3 := blk_frozen BK285.out 3
                have hfz52_4 := blk_frozen BK285.out 4
                have hfz52_5 := blk_frozen BK285.out 5
                have hfz52_6 := blk_frozen BK285.out 6
                have hfz52_7 := blk_frozen BK285.out 7
                have hfz52_8 := blk_frozen BK285.out 8
                go_wp2
                go_ret
                exact ⟨by first | rfl | (simp [errW_none, errW_some] <;> rfl) | (simp [*, errW_none, errW_some] <;> rfl), by repeat (first | (with_reducible first | exact HB.out | apply below_alloc | apply pw_below_drewN | apply below_drew1 | refine below_set ?_ GE285.out) | exact HB.out)⟩
            · rw [if_neg c47] at H
              have c47b0 : (a0_6 == 0) = false := beq_eq_false_iff_ne.mpr c47
              have c47b1 : (a0_6 != 0) = true := bne_iff_ne.mpr c47
              obtain rfl := Option.some.inj H
              have hcz53_0 : wc.cell? ⟨gb285, 0, none⟩ = some (.int .i64 a0_0) := (blk_cell BK285.out 0).trans rfl
              have hcz53_1 : wc.cell? ⟨gb285, 1, none⟩ = some (.int .i64 a0_1) := (blk_cell BK285.out 1).trans rfl
              have hcz53_2 : wc.cell? ⟨gb285, 2, none⟩ = some (.int .i64 a0_2) := (blk_cell BK285.out 2).trans rfl
              have hcz53_3 : wc.cell? ⟨gb285, 3, none⟩ = some (.int .i64 a0_3) := (blk_cell BK285.out 3).trans rfl
              have hcz53_4 : wc.cell? ⟨gb285, 4, none⟩ = some (.int .i64 a0_4) := (blk_cell BK285.out 4).trans rfl
              have hcz53_5 : wc.cell? ⟨gb285, 5, none⟩ = some (.int .i64 a0_5) := (blk_cell BK285.out 5).trans rfl
              have hcz53_6 : wc.cell? ⟨gb285, 6, none⟩ = some (.int .i64 a0_6) := (blk_cell BK285.out 6).trans rfl
              have hcz53_7 : wc.cell? ⟨gb285, 7, none⟩ = some (.int .i64 a0_7) := (blk_cell BK285.out 7).trans rfl
              have hcz53_8 : wc.cell? ⟨gb285, 8, none⟩ = some (.int .u64 a0_8) := (blk_cell BK285.out 8).trans rfl
              have hfz53_0 := blk_frozen BK285.out 0
              have hfz53_1 := blk_frozen BK285.out 1
              have hfz53_2 := blk_frozen BK285.out 2
              have hfz53_3 := blk_frozen BK285.out 3
              have hfz53_4 := blk_frozen BK285.out 4
              have hfz53_5 := blk_frozen BK285.out 5
              have hfz53_6 := blk_frozen BK285.out 6
              have hfz53_7 := blk_frozen BK285.out 7
              have hfz53_8 := blk_frozen BK285.out 8
              go_wp2
              go_ret
              exact ⟨by first | rfl | (simp [errW_none, errW_some] <;> rfl) | (simp [*, errW_none, errW_some] <;> rfl), by repeat (first | (with_reducible first | exact HB.out | apply below_alloc | apply pw_below_drewN | apply below_drew1 | refine below_set ?_ GE285.out) | exact HB.out)⟩
          · rw [if_neg c46] at H
            have c46b0 : (a0_7 == (-1)) = false := beq_eq_false_iff_ne.mpr c46
            have c46b1 : (a0_7 != (-1)) = true := bne_iff_ne.mpr c46
            by_cases c54 : a0_3 > a0_7
            · rw [if_pos c54] at H
              have c54b0 : decide (a0_7 < a0_3) = true := decide_eq_true c54
              clear c54
              obtain rfl := Option.some.inj H
              have hcz55_0 : wc.cell? ⟨gb285, 0, none⟩ = some (.int .i64 a0_0) := (blk_cell BK285.out 0).trans rfl
              have hcz55_1 : wc.cell? ⟨gb285, 1, none⟩ = some (.int .i64 a0_1) := (blk_cell BK285.out 1).trans rfl
              have hcz55_2 : wc.cell? ⟨gb285, 2, none⟩ = some (.int .i64 a0_2) := (blk_cell BK285.out 2).trans rfl
              have hcz55_3 : wc.cell? ⟨gb285, 3, none⟩ = some (.int .i64 a0_3) := (blk_cell BK285.out 3).trans rfl
              have hcz55_4 : wc.cell? ⟨gb285, 4, none⟩ = some (.int .i64 a0_4) := (blk_cell BK285.out 4).trans rfl
              have hcz55_5 : wc.cell? ⟨gb285, 5, none⟩ = some (.int .i64 a0_5) := (blk_cell BK285.out 5).trans rfl
              have hcz55_6 : wc.cell? ⟨gb285, 6, none⟩ = some (.int .i64 a0_6) := (blk_cell BK285.out 6).trans rfl
              have hcz55_7 : wc.cell? ⟨gb285, 7, none⟩ = some (.int .i64 a0_7) := (blk_cell BK285.out 7).trans rfl
              have hcz55_8 : wc.cell? ⟨gb285, 8, none⟩ = some (.int .u64 a0_8) := (blk_cell BK285.out 8).trans rfl
              have hfz55_0 := blk_frozen BK285.out 0
              have hfz55_1 := blk_frozen BK285.out 1
              have hfz55_2 := blk_frozen BK285.out 2
              have hfz55_3 := blk_frozen BK285.out 3
              have hfz55_4 := blk_frozen BK285.out 4
              have hfz55_5 := blk_frozen BK285.out 5
              have hfz55_6 := blk_frozen BK285.out 6
              have hfz55_7 := blk_frozen BK285.out 7
              have hfz55_8 := blk_frozen BK285.out 8
              go_wp2
              go_ret
              exact ⟨by first | rfl | (simp [errW_none, errW_some] <;> rfl) | (simp [*, errW_none, errW_some] <;> rfl), by repeat (first | (with_reducible first | exact HB.out | apply below_alloc | apply pw_below_drewN | apply below_drew1 | refine below_set ?_ GE285.out) | exact HB.out)⟩
            · rw [if_neg c54] at H
              have c54b0 : decide (a0_7 < a0_3) = false := decide_eq_false c54
              clear c54
              obtain rfl := Option.some.inj H
              have hcz56_0 : wc.cell? ⟨gb285, 0, none⟩ = some (.int .i64 a0_0) := (blk_cell BK285.out 0).trans rfl
              have hcz56_1 : wc.cell? ⟨gb285, 1, none⟩ = some (.int .i64 a0_1) := (blk_cell BK285.out 1).trans rfl
              have hcz56_2 : wc.cell? ⟨gb285, 2, none⟩ = some (.int .i64 a0_2) := (blk_cell BK285.out 2).trans rfl
              have hcz56_3 : wc.cell? ⟨gb285, 3, none⟩ = some (.int .i64 a0_3) := (blk_cell BK285.out 3).trans rfl
              have hcz56_4 : wc.cell? ⟨gb285, 4, none⟩ = some (.int .i64 a0_4) := (blk_cell BK285.out 4).trans rfl
              have hcz56_5 : wc.cell? ⟨gb285, 5, none⟩ = some (.int .i64 a0_5) := (blk_cell BK285.out 5).trans rfl
              have hcz56_6 : wc.cell? ⟨gb285, 6, none⟩ = some (.int .i64 a0_6) := (blk_cell BK285.out 6).trans rfl
              have hcz56_7 : wc.cell? ⟨gb285, 7, none⟩ = some (.int .i64 a0_7) := (blk_cell BK285.out 7).trans rfl
              have hcz56_8 : wc.cell? ⟨gb285, 8, none⟩ = some (.int .u64 a0_8) := (blk_cell BK285.out 8).trans rfl
              have hfz56_0 := blk_frozen BK285.out 0
              have hfz56_1 := blk_frozen BK285.out 1
              have hfz56_2 := blk_frozen BK285.out 2
              have hfz56_3 := blk_frozen BK285.out 3
              have hfz56_4 := blk_frozen BK285.out 4
              have hfz56_5 := blk_frozen BK285.out 5
              have hfz56_6 := blk_frozen BK285.out 6
              have hfz56_7 := blk_frozen BK285.out 7
              have hfz56_8 := blk_frozen BK285.out 8
              go_wp2
              go_ret
              exact ⟨by first | rfl | (simp [errW_none, errW_some] <;> rfl) | (simp [*, errW_none, errW_some] <;> rfl), by repeat (first | (with_reducible first | exact HB.out | apply below_alloc | apply pw_below_drewN | apply below_drew1 | refine below_set ?_ GE285.out) | exact HB.out)⟩

end Go.Proofs.Ytdlinojgmllkoaa.Q

namespace Go.Proofs.Ytdlinojgmllkoaa.Q
open Go.RowKit Go.Proofs.YtdlinojgmllkoaaW.PrintWords Go.Proofs.YtdlinojgmllkoaaW.PrintLast Go.Proofs.YtdlinojgmllkoaaW.PrintMore
attribute [local go_sem] max2_int min2_int max_two min_two max_three min_three max_four min_four   -- for this text's walks alone
set_option linter.unusedVariables false
set_option linter.unusedSimpArgs false

attribute [local irreducible] Calls media_Right.f skiarealaw25_alive.f skiarearef25_Right.f
/-! ### skiarealaw25_MediaRight: function 3 -/
def skiarealaw25_MediaRight.f (k : Nat) (a0_0 : Int) (a0_1 : Int) (a0_2 : Int) (a0_3 : Int) (a0_4 : Int) (a0_5 : Int) (a0_6 : Int) (a0_7 : Int) (a0_8 : Int) : Option (Bool) := (skiarealaw25_alive.f k).bind fun t287 => (if t287 = true then ((media_Right.f k a0_0 a0_1 a0_2 a0_3 a0_4 a0_5 a0_6 a0_7 a0_8).bind fun t288 => ((skiarearef25_Right.f k a0_0 a0_1 a0_2 a0_3 a0_4 a0_5 a0_6 a0_7 a0_8).bind fun t289 => (some (t288 == t289)))) else (some false))
theorem skiarealaw25_MediaRight.mono : ∀ a0 a1 a2 a3 a4 a5 a6 a7 a8 k, LeO (skiarealaw25_MediaRight.f k a0 a1 a2 a3 a4 a5 a6 a7 a8) (skiarealaw25_MediaRight.f (k + 1) a0 a1 a2 a3 a4 a5 a6 a7 a8) := by
  intro a0 a1 a2 a3 a4 a5 a6 a7 a8 k
  unfold skiarealaw25_MediaRight.f
  repeat' first
      | (with_reducible exact media_Right.mono _ _ _ _ _ _ _ _ _ _)
      | (with_reducible exact skiarealaw25_alive.mono _)
      | (with_reducible exact skiarearef25_Right.mono _ _ _ _ _ _ _ _ _ _)
      | (with_reducible exact LeO.refl _)
      | (with_reducible exact LeO.none _)
      | (with_reducible refine LeO.ite ?_ ?_)
      | (with_reducible refine LeO.bind ?_ (fun _ => ?_))
      | exact media_Right.mono _ _ _ _ _ _ _ _ _ _
      | exact skiarealaw25_alive.mono _
      | exact skiarearef25_Right.mono _ _ _ _ _ _ _ _ _ _
      | exact LeO.none _
      | refine LeO.ite ?_ ?_
      | refine LeO.bind ?_ (fun _ => ?_)
set_option maxHeartbeats 8000000 in
set_option maxRecDepth 100000 in
theorem skiarealaw25_MediaRight.calls (k : Nat) (a0_0 : Int) (a0_1 : Int) (a0_2 : Int) (a0_3 : Int) (a0_4 : Int) (a0_5 : Int) (a0_6 : Int) (a0_7 : Int) (a0_8 : Int) (r : Bool) (w : World) (h : skiarealaw25_MediaRight.f k a0_0 a0_1 a0_2 a0_3 a0_4 a0_5 a0_6 a0_7 a0_8 = some r) :
    Calls Try.prog 3 #[.agg #[.int .i64 a0_0, .int .i64 a0_1, .int .i64 a0_2, .int .i64 a0_3, .int .i64 a0_4, .int .i64 a0_5, .int .i64 a0_6, .int .i64 a0_7, .int .u64 a0_8]] w fun e w' => e = .returned (.bool r) ∧ Below w.heap.size w w' := by
  have hu24 := Try.underlying24
  have HB := Aside0.mk (Below.refl w.heap.size w)
  have H : ((skiarealaw25_alive.f k).bind fun t287 => (if t287 = true then ((media_Right.f k a0_0 a0_1 a0_2 a0_3 a0_4 a0_5 a0_6 a0_7 a0_8).bind fun t288 => ((skiarearef25_Right.f k a0_0 a0_1 a0_2 a0_3 a0_4 a0_5 a0_6 a0_7 a0_8).bind fun t289 => (some (t288 == t289)))) else (some false))) = some r := h
  clear h
  replace H := Option.bind_eq_some_iff.mp H
  obtain ⟨t287, A20, H⟩ := H
  replace H : (if t287 = true then ((media_Right.f k a0_0 a0_1 a0_2 a0_3 a0_4 a0_5 a0_6 a0_7 a0_8).bind fun t288 => ((skiarearef25_Right.f k a0_0 a0_1 a0_2 a0_3 a0_4 a0_5 a0_6 a0_7 a0_8).bind fun t289 => (some (t288 == t289)))) else (some false)) = some r := H
  have A2 := Aside0.mk A20
  clear A20
  by_cases c3 : t287 = true
  · subst c3
    have H1 : ((media_Right.f k a0_0 a0_1 a0_2 a0_3 a0_4 a0_5 a0_6 a0_7 a0_8).bind fun t288 => ((skiarearef25_Right.f k a0_0 a0_1 a0_2 a0_3 a0_4 a0_5 a0_6 a0_7 a0_8).bind fun t289 => (some (t288 == t289)))) = some r := by rw [if_pos rfl] at H; exact H
    clear H
    have H := H1
    clear H1
    replace H := Option.bind_eq_some_iff.mp H
    obtain ⟨t288, A40, H⟩ := H
    replace H : ((skiarearef25_Right.f k a0_0 a0_1 a0_2 a0_3 a0_4 a0_5 a0_6 a0_7 a0_8).bind fun t289 => (some (t288 == t289))) = some r := H
    have A4 := Aside0.mk A40
    clear A40
    replace H := Option.bind_eq_some_iff.mp H
    obtain ⟨t289, A50, H⟩ := H
    replace H : (some (t288 == t289)) = some r := H
    have A5 := Aside0.mk A50
    clear A50
    obtain rfl := Option.some.inj H
    go_enter Try.func3, Try.ntmps3
    try go_wp2_with (first | ((with_reducible refine gate_dst (N := 1) rfl ?_); refine box_event ?hg (N := 1) ?hd (cs := #[.int .i64 a0_0, .int .i64 a0_1, .int .i64 a0_2, .int .i64 a0_3, .int .i64 a0_4, .int .i64 a0_5, .int .i64 a0_6, .int .i64 a0_7, .int .u64 a0_8]) (t := 24) ?hr ?_; (case hd => rfl); (case hg => rfl); (case hr => first | (go_simp; done) | (go_simp; rfl)); intro gb286 hg w6 hbox hb; have n0_ := Aside0.mk (below_step (by repeat (first | (with_reducible first | exact HB.out | apply below_alloc | apply pw_below_drewN | apply below_drew1) | exact HB.out)) hb); have n1_ := Aside0.mk (hbox); have n2_ := Aside0.mk ((by rw [hg]; exact (below_size (by repeat (first | (with_reducible first | exact HB.out | apply below_alloc | apply pw_below_drewN | apply below_drew1) | exact HB.out))) : w.heap.size ≤ gb286)); have n3_ := Aside0.mk ((by rw [hg]; exact (below_size (by repeat (first | (with_reducible first | exact HB.out | apply below_alloc | apply pw_below_drewN | apply below_drew1) | exact HB.out))) : w.heap.size ≤ gb286)); clear HB; have HB := n0_; have BK286 := n1_; have GW286 := n2_; have GE286 := n3_; clear n0_ n1_ n2_ n3_; clear hb hbox hg) | ((with_reducible refine gate_callee (f := 10) rfl ?_); refine goesL_ (some 3) rfl rfl Try.func10 (by kernel_rfl) rfl #[] rfl (by (try simp only [List.map_toArray, List.map_cons, List.map_nil]); first | done | rfl | (simp only [List.length_drop, List.length_take]; rfl)) ?_; (with_reducible refine (skiarealaw25_alive.calls k  true _ A2.out).mono ?_); rintro e w7 ⟨rfl, hb⟩; refine ⟨_, rfl, ?_⟩; have n0_ := Aside0.mk (blk_below (g := gb286) (o := .cells #[.int .i64 a0_0, .int .i64 a0_1, .int .i64 a0_2, .int .i64 a0_3, .int .i64 a0_4, .int .i64 a0_5, .int .i64 a0_6, .int .i64 a0_7, .int .u64 a0_8] 24 (0, 0)) (by (with_reducible repeat (first | refine blk_drewN ?_ _ | refine blk_drew ?_ | refine blk_alloc ?_ _)); exact BK286.out) hb); have n1_ := Aside0.mk (below_step (by repeat (first | (with_reducible first | exact HB.out | apply below_alloc | apply pw_below_drewN | apply below_drew1 | refine below_set ?_ GE286.out) | exact HB.out)) hb); clear BK286; clear HB; have BK286 := n0_; have HB := n1_; clear n0_ n1_; (try clear hb); (try clear hb2); (try clear hk); (try clear hi)))
    have n0_ := Aside0.mk (blk_drew BK286.out)
    have n1_ := Aside0.mk (below_drew1 HB.out)
    clear BK286
    clear HB
    have BK286 := n0_
    have HB := n1_
    clear n0_ n1_
    refine start_ (n := 6) (S := fun w' => w'.cell? ⟨gb286, 0, none⟩ = some (.int .i64 a0_0) ∧ w'.cell? ⟨gb286, 1, none⟩ = some (.int .i64 a0_1) ∧ w'.cell? ⟨gb286, 2, none⟩ = some (.int .i64 a0_2) ∧ w'.cell? ⟨gb286, 3, none⟩ = some (.int .i64 a0_3) ∧ w'.cell? ⟨gb286, 4, none⟩ = some (.int .i64 a0_4) ∧ w'.cell? ⟨gb286, 5, none⟩ = some (.int .i64 a0_5) ∧ w'.cell? ⟨gb286, 6, none⟩ = some (.int .i64 a0_6) ∧ w'.cell? ⟨gb286, 7, none⟩ = some (.int .i64 a0_7) ∧ w'.cell? ⟨gb286, 8, none⟩ = some (.int .u64 a0_8)) (ds := []) #[false, false, false, false, false, false] (by kernel_rfl) rfl rfl ⟨(blk_cell BK286.out 0).trans rfl, (blk_cell BK286.out 1).trans rfl, (blk_cell BK286.out 2).trans rfl, (blk_cell BK286.out 3).trans rfl, (blk_cell BK286.out 4).trans rfl, (blk_cell BK286.out 5).trans rfl, (blk_cell BK286.out 6).trans rfl, (blk_cell BK286.out 7).trans rfl, (blk_cell BK286.out 8).trans rfl⟩ (fun hHeld => ?_)
    generalize w7.drew = w8 at BK286 HB hHeld ⊢
    refine take_ (i := 0) (N := some 5) (v := ?_) (a' := ?_) #[true, false, false, false, false, false] rfl rfl (by kernel_rfl) (fun _ _ _ h => h) (Or.inl ⟨by rfl, ?_⟩) hHeld ?_ ?_
    rotate_left
    · rintro w' ⟨s0, s1, s2, s3, s4, s5, s6, s7, s8⟩
      go_simp
      with_reducible rfl
    rotate_left
    · simp only [Act.put, List.setIfInBounds_toArray, List.set_cons_zero, List.set_cons_succ, i64_w, i32_w, IntKind.wrap_u8, IntKind.wrap_u32]
      rfl
    refine take_ (i := 2) (N := some 7) (v := ?_) (a' := ?_) #[true, false, true, false, false, false] rfl rfl (by kernel_rfl) (fun _ _ _ h => h) (Or.inl ⟨by rfl, ?_⟩) hHeld ?_ ?_
    rotate_left
    · rintro w' ⟨s0, s1, s2, s3, s4, s5, s6, s7, s8⟩
      go_simp
      with_reducible rfl
    rotate_left
    · simp only [Act.put, List.setIfInBounds_toArray, List.set_cons_zero, List.set_cons_succ, i64_w, i32_w, IntKind.wrap_u8, IntKind.wrap_u32]
      rfl
    refine one_ (i := 1) (N := some 6) #[true, true, true, false, false, false] rfl rfl (by kernel_rfl) (by decide) (fun K hK => ?_)
    refine goes_ Try.func11 (by kernel_rfl) rfl #[.agg #[.int .i64 a0_0, .int .i64 a0_1, .int .i64 a0_2, .int .i64 a0_3, .int .i64 a0_4, .int .i64 a0_5, .int .i64 a0_6, .int .i64 a0_7, .int .u64 a0_8]] (by rfl) rfl rfl (by (try simp only [List.map_toArray, List.map_cons, List.map_nil]); first | done | rfl | (simp only [List.length_drop, List.length_take]; rfl)) ?_
    with_reducible refine (media_Right.calls k a0_0 a0_1 a0_2 a0_3 a0_4 a0_5 a0_6 a0_7 a0_8 t288 _ A4.out).mono ?_
    rintro e w9 ⟨rfl, hb⟩
    refine ⟨_, rfl, ?_⟩
    have n0_ := Aside0.mk (blk_below (g := gb286) (o := .cells #[.int .i64 a0_0, .int .i64 a0_1, .int .i64 a0_2, .int .i64 a0_3, .int .i64 a0_4, .int .i64 a0_5, .int .i64 a0_6, .int .i64 a0_7, .int .u64 a0_8] 24 (0, 0)) (by (with_reducible repeat (first | refine blk_drewN ?_ _ | refine blk_drew ?_ | refine blk_alloc ?_ _)); exact BK286.out) hb)
    have n1_ := Aside0.mk (below_step (by repeat (first | (with_reducible first | exact HB.out | apply below_alloc | apply pw_below_drewN | apply below_drew1 | refine below_set ?_ GE286.out) | exact HB.out)) hb)
    clear BK286
    clear HB
    have BK286 := n0_
    have HB := n1_
    clear n0_ n1_
    (try clear hb)
    (try clear hb2)
    (try clear hk)
    (try clear hi)
    refine hK.out _ _ ⟨(blk_cell BK286.out 0).trans rfl, (blk_cell BK286.out 1).trans rfl, (blk_cell BK286.out 2).trans rfl, (blk_cell BK286.out 3).trans rfl, (blk_cell BK286.out 4).trans rfl, (blk_cell BK286.out 5).trans rfl, (blk_cell BK286.out 6).trans rfl, (blk_cell BK286.out 7).trans rfl, (blk_cell BK286.out 8).trans rfl⟩ (fun hHeld => ?_)
    clear hK K
    refine norm_ (a' := ?_) ?_ ?_
    rotate_left
    · show Act.put _ (some 6) _ = _
      simp only [Act.put, List.setIfInBounds_toArray, List.set_cons_zero, List.set_cons_succ, i64_w, i32_w, IntKind.wrap_u8, IntKind.wrap_u32]
      rfl
    refine one_ (i := 3) (N := some 8) #[true, true, true, true, false, false] rfl rfl (by kernel_rfl) (by decide) (fun K hK => ?_)
    refine goes_ Try.func12 (by kernel_rfl) rfl #[.agg #[.int .i64 a0_0, .int .i64 a0_1, .int .i64 a0_2, .int .i64 a0_3, .int .i64 a0_4, .int .i64 a0_5, .int .i64 a0_6, .int .i64 a0_7, .int .u64 a0_8]] (by rfl) rfl rfl (by (try simp only [List.map_toArray, List.map_cons, List.map_nil]); first | done | rfl | (simp only [List.length_drop, List.length_take]; rfl)) ?_
    with_reducible refine (skiarearef25_Right.calls k a0_0 a0_1 a0_2 a0_3 a0_4 a0_5 a0_6 a0_7 a0_8 t289 _ A5.out).mono ?_
    rintro e w10 ⟨rfl, hb⟩
    refine ⟨_, rfl, ?_⟩
    have n0_ := Aside0.mk (blk_below (g := gb286) (o := .cells #[.int .i64 a0_0, .int .i64 a0_1, .int .i64 a0_2, .int .i64 a0_3, .int .i64 a0_4, .int .i64 a0_5, .int .i64 a0_6, .int .i64 a0_7, .int .u64 a0_8] 24 (0, 0)) (by (with_reducible repeat (first | refine blk_drewN ?_ _ | refine blk_drew ?_ | refine blk_alloc ?_ _)); exact BK286.out) hb)
    have n1_ := Aside0.mk (below_step (by repeat (first | (with_reducible first | exact HB.out | apply below_alloc | apply pw_below_drewN | apply below_drew1 | refine below_set ?_ GE286.out) | exact HB.out)) hb)
    clear BK286
    clear HB
    have BK286 := n0_
    have HB := n1_
    clear n0_ n1_
    (try clear hb)
    (try clear hb2)
    (try clear hk)
    (try clear hi)
    refine hK.out _ _ ⟨(blk_cell BK286.out 0).trans rfl, (blk_cell BK286.out 1).trans rfl, (blk_cell BK286.out 2).trans rfl, (blk_cell BK286.out 3).trans rfl, (blk_cell BK286.out 4).trans rfl, (blk_cell BK286.out 5).trans rfl, (blk_cell BK286.out 6).trans rfl, (blk_cell BK286.out 7).trans rfl, (blk_cell BK286.out 8).trans rfl⟩ (fun hHeld => ?_)
    clear hK K
    refine norm_ (a' := ?_) ?_ ?_
    rotate_left
    · show Act.put _ (some 8) _ = _
      simp only [Act.put, List.setIfInBounds_toArray, List.set_cons_zero, List.set_cons_succ, i64_w, i32_w, IntKind.wrap_u8, IntKind.wrap_u32]
      rfl
    refine pure_ (i := 4) (N := some 9) (v := ?_) (a' := ?_) #[true, true, true, true, true, false] rfl rfl (by kernel_rfl) (fun _ _ _ h => h) (Or.inl ⟨by rfl, ?_⟩) ?_ ?_
    rotate_left
    · intro w'
      go_simp
      with_reducible rfl
    rotate_left
    · simp only [Act.put, List.setIfInBounds_toArray, List.set_cons_zero, List.set_cons_succ, i64_w, i32_w, IntKind.wrap_u8, IntKind.wrap_u32]
      rfl
    refine pure_ (i := 5) (N := some 2) (v := ?_) (a' := ?_) #[true, true, true, true, true, true] rfl rfl (by kernel_rfl) (fun _ _ _ h => h) (Or.inl ⟨by rfl, ?_⟩) ?_ ?_
    rotate_left
    · intro w'
      go_simp
      with_reducible rfl
    rotate_left
    · simp only [Act.put, List.setIfInBounds_toArray, List.set_cons_zero, List.set_cons_succ, i64_w, i32_w, IntKind.wrap_u8, IntKind.wrap_u32]
      rfl
    refine done_ (by kernel_rfl) ?_
    try go_wp2
    go_ret
    exact ⟨by first | rfl | (simp [errW_none, errW_some] <;> rfl) | (simp [*, errW_none, errW_some] <;> rfl), by repeat (first | (with_reducible first | exact HB.out | apply below_alloc | apply pw_below_drewN | apply below_drew1 | refine below_set ?_ GE286.out) | exact HB.out)⟩
  · replace c3 := Bool.eq_false_iff.mpr c3
    subst c3
    have H1 : (some false) = some r := by rw [if_neg (show ¬ (false = true) by decide)] at H; exact H
    clear H
    have H := H1
    clear H1
    obtain rfl := Option.some.inj H
    go_enter Try.func3, Try.ntmps3
    go_wp2_with (first | ((with_reducible refine gate_dst (N := 1) rfl ?_); refine box_event ?hg (N := 1) ?hd (cs := #[.int .i64 a0_0, .int .i64 a0_1, .int .i64 a0_2, .int .i64 a0_3, .int .i64 a0_4, .int .i64 a0_5, .int .i64 a0_6, .int .i64 a0_7, .int .u64 a0_8]) (t := 24) ?hr ?_; (case hd => rfl); (case hg => rfl); (case hr => first | (go_simp; done) | (go_simp; rfl)); intro gb286 hg w11 hbox hb; have n0_ := Aside0.mk (below_step (by repeat (first | (with_reducible first | exact HB.out | apply below_alloc | apply pw_below_drewN | apply below_drew1) | exact HB.out)) hb); have n1_ := Aside0.mk (hbox); have n2_ := Aside0.mk ((by rw [hg]; exact (below_size (by repeat (first | (with_reducible first | exact HB.out | apply below_alloc | apply pw_below_drewN | apply below_drew1) | exact HB.out))) : w.heap.size ≤ gb286)); have n3_ := Aside0.mk ((by rw [hg]; exact (below_size (by repeat (first | (with_reducible first | exact HB.out | apply below_alloc | apply pw_below_drewN | apply below_drew1) | exact HB.out))) : w.heap.size ≤ gb286)); clear HB; have HB := n0_; have BK286 := n1_; have GW286 := n2_; have GE286 := n3_; clear n0_ n1_ n2_ n3_; clear hb hbox hg) | ((with_reducible refine gate_callee (f := 10) rfl ?_); refine goesL_ (some 3) rfl rfl Try.func10 (by kernel_rfl) rfl #[] rfl (by (try simp only [List.map_toArray, List.map_cons, List.map_nil]); first | done | rfl | (simp only [List.length_drop, List.length_take]; rfl)) ?_; (with_reducible refine (skiarealaw25_alive.calls k  false _ A2.out).mono ?_); rintro e w12 ⟨rfl, hb⟩; refine ⟨_, rfl, ?_⟩; have n0_ := Aside0.mk (blk_below (g := gb286) (o := .cells #[.int .i64 a0_0, .int .i64 a0_1, .int .i64 a0_2, .int .i64 a0_3, .int .i64 a0_4, .int .i64 a0_5, .int .i64 a0_6, .int .i64 a0_7, .int .u64 a0_8] 24 (0, 0)) (by (with_reducible repeat (first | refine blk_drewN ?_ _ | refine blk_drew ?_ | refine blk_alloc ?_ _)); exact BK286.out) hb); have n1_ := Aside0.mk (below_step (by repeat (first | (with_reducible first | exact HB.out | apply below_alloc | apply pw_below_drewN | apply below_drew1 | refine below_set ?_ GE286.out) | exact HB.out)) hb); clear BK286; clear HB; have BK286 := n0_; have HB := n1_; clear n0_ n1_; (try clear hb); (try clear hb2); (try clear hk); (try clear hi)))
    go_ret
    exact ⟨by first | rfl | (simp [errW_none, errW_some] <;> rfl) | (simp [*, errW_none, errW_some] <;> rfl), by repeat (first | (with_reducible first | exact HB.out | apply below_alloc | apply pw_below_drewN | apply below_drew1 | refine below_set ?_ GE286.out) | exact HB.out)⟩

end Go.Proofs.Ytdlinojgmllkoaa.Q
