-- Printed by a program of this session (wip/pp), out of Lean's print of the loaded functions, and joined by another (merge.py). Lean checks it.
import Derived.Test.YtdlinojgmllkoaaQmMediaForms2
namespace Go.Proofs.Ytdlinojgmllkoaa.Q
open Go.RowKit Go.Proofs.YtdlinojgmllkoaaW.PrintWords Go.Proofs.YtdlinojgmllkoaaW.PrintLast Go.Proofs.YtdlinojgmllkoaaW.PrintMore
attribute [local go_sem] max2_int min2_int max_two min_two max_three min_three max_four min_four   -- for this text's walks alone
set_option linter.unusedVariables false
set_option linter.unusedSimpArgs false

attribute [local irreducible] Calls codec_Unframe.f media_Body.f media_Decode.f media_Encode.f media_Right.f skiarealaw25_alive.f skiarearef03_Same.f
attribute [local go_sem high] eqA24
/-! ### skiarealaw25_MediaForms: function 9 -/
mutual
def skiarealaw25_MediaForms.j0 : Nat → List Int → List Int → Bool → Int → Int → Int → Int → Int → Int → Int → Int → Int → Option (Bool)
  | 0, _, _, _, _, _, _, _, _, _, _, _, _ => none
  | k + 1, x5, x8, x70, x556000, x556001, x556002, x556003, x556004, x556005, x556006, x556007, x556008 => if x70 = true then (some false) else (skiarealaw25_MediaForms.l0 k x5 0 (x8.length : Int) x556000 x556001 x556002 x556003 x556004 x556005 x556006 x556007 x556008)
def skiarealaw25_MediaForms.l0 : Nat → List Int → Int → Int → Int → Int → Int → Int → Int → Int → Int → Int → Int → Option (Bool)
  | 0, _, _, _, _, _, _, _, _, _, _, _, _ => none
  | k + 1, x5, x9, x10, x556000, x556001, x556002, x556003, x556004, x556005, x556006, x556007, x556008 => if x10 < (x5.length : Int) then (if 0 ≤ x10 then (skiarealaw25_MediaForms.l0 k x5 (Go.bits .or .u64 (IntKind.u64.wrap (x9 * 256)) (IntKind.u64.wrap (rd x5 x10))) (wrap64 (x10 + 1)) x556000 x556001 x556002 x556003 x556004 x556005 x556006 x556007 x556008) else (none)) else (some (x9 == x556008))
end
def skiarealaw25_MediaForms.f (k : Nat) (l0 : List Int) : Option (Bool) := (skiarealaw25_alive.f k).bind fun t544 => (if t544 = true then (if (l0.length : Int) > 1000 then (some true) else ((media_Decode.f k l0).bind fun bt545 => (if bt545.2.2.2.2.2.2.2.2.2 = 0 then ((codec_Unframe.f k l0).bind fun bt556 => ((media_Body.f k bt545.1 bt545.2.1 bt545.2.2.1 bt545.2.2.2.1 bt545.2.2.2.2.1 bt545.2.2.2.2.2.1 bt545.2.2.2.2.2.2.1 bt545.2.2.2.2.2.2.2.1 bt545.2.2.2.2.2.2.2.2.1).bind fun t561 => ((media_Right.f k bt545.1 bt545.2.1 bt545.2.2.1 bt545.2.2.2.1 bt545.2.2.2.2.1 bt545.2.2.2.2.2.1 bt545.2.2.2.2.2.2.1 bt545.2.2.2.2.2.2.2.1 bt545.2.2.2.2.2.2.2.2.1).bind fun t564 => (if t564 = 0 then ((media_Encode.f k bt545.1 bt545.2.1 bt545.2.2.1 bt545.2.2.2.1 bt545.2.2.2.2.1 bt545.2.2.2.2.2.1 bt545.2.2.2.2.2.2.1 bt545.2.2.2.2.2.2.2.1 bt545.2.2.2.2.2.2.2.2.1).bind fun t565 => ((skiarearef03_Same.f t565 l0).bind fun t568 => (if t568 = true then (if bt556.2.2 = 0 then (if bt556.2.1 = (l0.length : Int) then (if (bt556.1.length : Int) = (wrap64 ((t561.length : Int) + 8)) then (if 0 ≤ (t561.length : Int) then (if (t561.length : Int) ≤ (bt556.1.length : Int) then ((skiarearef03_Same.f (bt556.1.take ((t561.length : Int) : Int).toNat) t561).bind fun t573 => (skiarealaw25_MediaForms.j0 k bt556.1 t561 (!t573) bt545.1 bt545.2.1 bt545.2.2.1 bt545.2.2.2.1 bt545.2.2.2.2.1 bt545.2.2.2.2.2.1 bt545.2.2.2.2.2.2.1 bt545.2.2.2.2.2.2.2.1 bt545.2.2.2.2.2.2.2.2.1)) else (none)) else (none)) else (skiarealaw25_MediaForms.j0 k bt556.1 t561 true bt545.1 bt545.2.1 bt545.2.2.1 bt545.2.2.2.1 bt545.2.2.2.2.1 bt545.2.2.2.2.2.1 bt545.2.2.2.2.2.2.1 bt545.2.2.2.2.2.2.2.1 bt545.2.2.2.2.2.2.2.2.1)) else (skiarealaw25_MediaForms.j0 k bt556.1 t561 true bt545.1 bt545.2.1 bt545.2.2.1 bt545.2.2.2.1 bt545.2.2.2.2.1 bt545.2.2.2.2.2.1 bt545.2.2.2.2.2.2.1 bt545.2.2.2.2.2.2.2.1 bt545.2.2.2.2.2.2.2.2.1)) else (skiarealaw25_MediaForms.j0 k bt556.1 t561 true bt545.1 bt545.2.1 bt545.2.2.1 bt545.2.2.2.1 bt545.2.2.2.2.1 bt545.2.2.2.2.2.1 bt545.2.2.2.2.2.2.1 bt545.2.2.2.2.2.2.2.1 bt545.2.2.2.2.2.2.2.2.1)) else (skiarealaw25_MediaForms.j0 k bt556.1 t561 true bt545.1 bt545.2.1 bt545.2.2.1 bt545.2.2.2.1 bt545.2.2.2.2.1 bt545.2.2.2.2.2.1 bt545.2.2.2.2.2.2.1 bt545.2.2.2.2.2.2.2.1 bt545.2.2.2.2.2.2.2.2.1)))) else (skiarealaw25_MediaForms.j0 k bt556.1 t561 true bt545.1 bt545.2.1 bt545.2.2.1 bt545.2.2.2.1 bt545.2.2.2.2.1 bt545.2.2.2.2.2.1 bt545.2.2.2.2.2.2.1 bt545.2.2.2.2.2.2.2.1 bt545.2.2.2.2.2.2.2.2.1))))) else (some (bt545.1 == 0 && (bt545.2.1 == 0 && (bt545.2.2.1 == 0 && (bt545.2.2.2.1 == 0 && (bt545.2.2.2.2.1 == 0 && (bt545.2.2.2.2.2.1 == 0 && (bt545.2.2.2.2.2.2.1 == 0 && (bt545.2.2.2.2.2.2.2.1 == 0 && (bt545.2.2.2.2.2.2.2.2.1 == 0))))))))))))) else (some false))
theorem skiarealaw25_MediaForms.mono_l : ∀ k, (∀ y0 y1 y2 y3 y4 y5 y6 y7 y8 y9 y10 y11, LeO (skiarealaw25_MediaForms.j0 k y0 y1 y2 y3 y4 y5 y6 y7 y8 y9 y10 y11) (skiarealaw25_MediaForms.j0 (k + 1) y0 y1 y2 y3 y4 y5 y6 y7 y8 y9 y10 y11)) ∧ (∀ y0 y1 y2 y3 y4 y5 y6 y7 y8 y9 y10 y11, LeO (skiarealaw25_MediaForms.l0 k y0 y1 y2 y3 y4 y5 y6 y7 y8 y9 y10 y11) (skiarealaw25_MediaForms.l0 (k + 1) y0 y1 y2 y3 y4 y5 y6 y7 y8 y9 y10 y11))
  | 0 => ⟨fun _ _ _ _ _ _ _ _ _ _ _ _ r h => by simp [skiarealaw25_MediaForms.j0] at h, fun _ _ _ _ _ _ _ _ _ _ _ _ r h => by simp [skiarealaw25_MediaForms.l0] at h⟩
  | k + 1 => by
    obtain ⟨ih0, ih1⟩ := skiarealaw25_MediaForms.mono_l k
    refine ⟨?_, ?_⟩
    · intro y0 y1 y2 y3 y4 y5 y6 y7 y8 y9 y10 y11
      unfold skiarealaw25_MediaForms.j0
      repeat' first
      | (with_reducible exact ih0 _ _ _ _ _ _ _ _ _ _ _ _)
      | (with_reducible exact ih1 _ _ _ _ _ _ _ _ _ _ _ _)
      | (with_reducible exact codec_Unframe.mono _ _)
      | (with_reducible exact media_Body.mono _ _ _ _ _ _ _ _ _ _)
      | (with_reducible exact media_Decode.mono _ _)
      | (with_reducible exact media_Encode.mono _ _ _ _ _ _ _ _ _ _)
      | (with_reducible exact media_Right.mono _ _ _ _ _ _ _ _ _ _)
      | (with_reducible exact skiarealaw25_alive.mono _)
      | (with_reducible exact LeO.refl _)
      | (with_reducible exact LeO.none _)
      | (with_reducible refine LeO.ite ?_ ?_)
      | (with_reducible refine LeO.bind ?_ (fun _ => ?_))
      | exact ih0 _ _ _ _ _ _ _ _ _ _ _ _
      | exact ih1 _ _ _ _ _ _ _ _ _ _ _ _
      | exact codec_Unframe.mono _ _
      | exact media_Body.mono _ _ _ _ _ _ _ _ _ _
      | exact media_Decode.mono _ _
      | exact media_Encode.mono _ _ _ _ _ _ _ _ _ _
      | exact media_Right.mono _ _ _ _ _ _ _ _ _ _
      | exact skiarealaw25_alive.mono _
      | exact LeO.none _
      | refine LeO.ite ?_ ?_
      | refine LeO.bind ?_ (fun _ => ?_)
    · intro y0 y1 y2 y3 y4 y5 y6 y7 y8 y9 y10 y11
      unfold skiarealaw25_MediaForms.l0
      repeat' first
      | (with_reducible exact ih0 _ _ _ _ _ _ _ _ _ _ _ _)
      | (with_reducible exact ih1 _ _ _ _ _ _ _ _ _ _ _ _)
      | (with_reducible exact codec_Unframe.mono _ _)
      | (with_reducible exact media_Body.mono _ _ _ _ _ _ _ _ _ _)
      | (with_reducible exact media_Decode.mono _ _)
      | (with_reducible exact media_Encode.mono _ _ _ _ _ _ _ _ _ _)
      | (with_reducible exact media_Right.mono _ _ _ _ _ _ _ _ _ _)
      | (with_reducible exact skiarealaw25_alive.mono _)
      | (with_reducible exact LeO.refl _)
      | (with_reducible exact LeO.none _)
      | (with_reducible refine LeO.ite ?_ ?_)
      | (with_reducible refine LeO.bind ?_ (fun _ => ?_))
      | exact ih0 _ _ _ _ _ _ _ _ _ _ _ _
      | exact ih1 _ _ _ _ _ _ _ _ _ _ _ _
      | exact codec_Unframe.mono _ _
      | exact media_Body.mono _ _ _ _ _ _ _ _ _ _
      | exact media_Decode.mono _ _
      | exact media_Encode.mono _ _ _ _ _ _ _ _ _ _
      | exact media_Right.mono _ _ _ _ _ _ _ _ _ _
      | exact skiarealaw25_alive.mono _
      | exact LeO.none _
      | refine LeO.ite ?_ ?_
      | refine LeO.bind ?_ (fun _ => ?_)
theorem skiarealaw25_MediaForms.mono : ∀ a0 k, LeO (skiarealaw25_MediaForms.f k a0) (skiarealaw25_MediaForms.f (k + 1) a0) := by
  intro a0 k
  obtain ⟨ih0, ih1⟩ := skiarealaw25_MediaForms.mono_l k
  unfold skiarealaw25_MediaForms.f
  repeat' first
      | (with_reducible exact ih0 _ _ _ _ _ _ _ _ _ _ _ _)
      | (with_reducible exact ih1 _ _ _ _ _ _ _ _ _ _ _ _)
      | (with_reducible exact codec_Unframe.mono _ _)
      | (with_reducible exact media_Body.mono _ _ _ _ _ _ _ _ _ _)
      | (with_reducible exact media_Decode.mono _ _)
      | (with_reducible exact media_Encode.mono _ _ _ _ _ _ _ _ _ _)
      | (with_reducible exact media_Right.mono _ _ _ _ _ _ _ _ _ _)
      | (with_reducible exact skiarealaw25_alive.mono _)
      | (with_reducible exact LeO.refl _)
      | (with_reducible exact LeO.none _)
      | (with_reducible refine LeO.ite ?_ ?_)
      | (with_reducible refine LeO.bind ?_ (fun _ => ?_))
      | exact ih0 _ _ _ _ _ _ _ _ _ _ _ _
      | exact ih1 _ _ _ _ _ _ _ _ _ _ _ _
      | exact codec_Unframe.mono _ _
      | exact media_Body.mono _ _ _ _ _ _ _ _ _ _
      | exact media_Decode.mono _ _
      | exact media_Encode.mono _ _ _ _ _ _ _ _ _ _
      | exact media_Right.mono _ _ _ _ _ _ _ _ _ _
      | exact skiarealaw25_alive.mono _
      | exact LeO.none _
      | refine LeO.ite ?_ ?_
      | refine LeO.bind ?_ (fun _ => ?_)
set_option maxHeartbeats 8000000 in
set_option maxRecDepth 100000 in
theorem skiarealaw25_MediaForms.calls (k : Nat) (A0 : Option Addr) (c0 : Nat) (l0 : List Int) (r : Bool) (w : World) (hr0 : Kd.C (Kd.int .u8) w A0 l0.length l0) (hc0 : l0.length ≤ c0) (h : skiarealaw25_MediaForms.f k l0 = some r) :
    Calls Try.prog 9 #[.slice A0 l0.length c0] w fun e w' => e = .returned (.bool r) ∧ Below w.heap.size w w' := by
  have hu24 := Try.underlying24
  have HR0 := Aside0.mk hr0
  have HC0 := Aside0.mk hc0
  clear hr0 hc0
  have HB := Aside0.mk (Below.refl w.heap.size w)
  have H : ((skiarealaw25_alive.f k).bind fun t544 => (if t544 = true then (if (l0.length : Int) > 1000 then (some true) else ((media_Decode.f k l0).bind fun bt545 => (if bt545.2.2.2.2.2.2.2.2.2 = 0 then ((codec_Unframe.f k l0).bind fun bt556 => ((media_Body.f k bt545.1 bt545.2.1 bt545.2.2.1 bt545.2.2.2.1 bt545.2.2.2.2.1 bt545.2.2.2.2.2.1 bt545.2.2.2.2.2.2.1 bt545.2.2.2.2.2.2.2.1 bt545.2.2.2.2.2.2.2.2.1).bind fun t561 => ((media_Right.f k bt545.1 bt545.2.1 bt545.2.2.1 bt545.2.2.2.1 bt545.2.2.2.2.1 bt545.2.2.2.2.2.1 bt545.2.2.2.2.2.2.1 bt545.2.2.2.2.2.2.2.1 bt545.2.2.2.2.2.2.2.2.1).bind fun t564 => (if t564 = 0 then ((media_Encode.f k bt545.1 bt545.2.1 bt545.2.2.1 bt545.2.2.2.1 bt545.2.2.2.2.1 bt545.2.2.2.2.2.1 bt545.2.2.2.2.2.2.1 bt545.2.2.2.2.2.2.2.1 bt545.2.2.2.2.2.2.2.2.1).bind fun t565 => ((skiarearef03_Same.f t565 l0).bind fun t568 => (if t568 = true then (if bt556.2.2 = 0 then (if bt556.2.1 = (l0.length : Int) then (if (bt556.1.length : Int) = (wrap64 ((t561.length : Int) + 8)) then (if 0 ≤ (t561.length : Int) then (if (t561.length : Int) ≤ (bt556.1.length : Int) then ((skiarearef03_Same.f (bt556.1.take ((t561.length : Int) : Int).toNat) t561).bind fun t573 => (skiarealaw25_MediaForms.j0 k bt556.1 t561 (!t573) bt545.1 bt545.2.1 bt545.2.2.1 bt545.2.2.2.1 bt545.2.2.2.2.1 bt545.2.2.2.2.2.1 bt545.2.2.2.2.2.2.1 bt545.2.2.2.2.2.2.2.1 bt545.2.2.2.2.2.2.2.2.1)) else (none)) else (none)) else (skiarealaw25_MediaForms.j0 k bt556.1 t561 true bt545.1 bt545.2.1 bt545.2.2.1 bt545.2.2.2.1 bt545.2.2.2.2.1 bt545.2.2.2.2.2.1 bt545.2.2.2.2.2.2.1 bt545.2.2.2.2.2.2.2.1 bt545.2.2.2.2.2.2.2.2.1)) else (skiarealaw25_MediaForms.j0 k bt556.1 t561 true bt545.1 bt545.2.1 bt545.2.2.1 bt545.2.2.2.1 bt545.2.2.2.2.1 bt545.2.2.2.2.2.1 bt545.2.2.2.2.2.2.1 bt545.2.2.2.2.2.2.2.1 bt545.2.2.2.2.2.2.2.2.1)) else (skiarealaw25_MediaForms.j0 k bt556.1 t561 true bt545.1 bt545.2.1 bt545.2.2.1 bt545.2.2.2.1 bt545.2.2.2.2.1 bt545.2.2.2.2.2.1 bt545.2.2.2.2.2.2.1 bt545.2.2.2.2.2.2.2.1 bt545.2.2.2.2.2.2.2.2.1)) else (skiarealaw25_MediaForms.j0 k bt556.1 t561 true bt545.1 bt545.2.1 bt545.2.2.1 bt545.2.2.2.1 bt545.2.2.2.2.1 bt545.2.2.2.2.2.1 bt545.2.2.2.2.2.2.1 bt545.2.2.2.2.2.2.2.1 bt545.2.2.2.2.2.2.2.2.1)))) else (skiarealaw25_MediaForms.j0 k bt556.1 t561 true bt545.1 bt545.2.1 bt545.2.2.1 bt545.2.2.2.1 bt545.2.2.2.2.1 bt545.2.2.2.2.2.1 bt545.2.2.2.2.2.2.1 bt545.2.2.2.2.2.2.2.1 bt545.2.2.2.2.2.2.2.2.1))))) else (some (bt545.1 == 0 && (bt545.2.1 == 0 && (bt545.2.2.1 == 0 && (bt545.2.2.2.1 == 0 && (bt545.2.2.2.2.1 == 0 && (bt545.2.2.2.2.2.1 == 0 && (bt545.2.2.2.2.2.2.1 == 0 && (bt545.2.2.2.2.2.2.2.1 == 0 && (bt545.2.2.2.2.2.2.2.2.1 == 0))))))))))))) else (some false))) = some r := h
  clear h
  replace H := Option.bind_eq_some_iff.mp H
  obtain ⟨t544, A20, H⟩ := H
  replace H : (if t544 = true then (if (l0.length : Int) > 1000 then (some true) else ((media_Decode.f k l0).bind fun bt545 => (if bt545.2.2.2.2.2.2.2.2.2 = 0 then ((codec_Unframe.f k l0).bind fun bt556 => ((media_Body.f k bt545.1 bt545.2.1 bt545.2.2.1 bt545.2.2.2.1 bt545.2.2.2.2.1 bt545.2.2.2.2.2.1 bt545.2.2.2.2.2.2.1 bt545.2.2.2.2.2.2.2.1 bt545.2.2.2.2.2.2.2.2.1).bind fun t561 => ((media_Right.f k bt545.1 bt545.2.1 bt545.2.2.1 bt545.2.2.2.1 bt545.2.2.2.2.1 bt545.2.2.2.2.2.1 bt545.2.2.2.2.2.2.1 bt545.2.2.2.2.2.2.2.1 bt545.2.2.2.2.2.2.2.2.1).bind fun t564 => (if t564 = 0 then ((media_Encode.f k bt545.1 bt545.2.1 bt545.2.2.1 bt545.2.2.2.1 bt545.2.2.2.2.1 bt545.2.2.2.2.2.1 bt545.2.2.2.2.2.2.1 bt545.2.2.2.2.2.2.2.1 bt545.2.2.2.2.2.2.2.2.1).bind fun t565 => ((skiarearef03_Same.f t565 l0).bind fun t568 => (if t568 = true then (if bt556.2.2 = 0 then (if bt556.2.1 = (l0.length : Int) then (if (bt556.1.length : Int) = (wrap64 ((t561.length : Int) + 8)) then (if 0 ≤ (t561.length : Int) then (if (t561.length : Int) ≤ (bt556.1.length : Int) then ((skiarearef03_Same.f (bt556.1.take ((t561.length : Int) : Int).toNat) t561).bind fun t573 => (skiarealaw25_MediaForms.j0 k bt556.1 t561 (!t573) bt545.1 bt545.2.1 bt545.2.2.1 bt545.2.2.2.1 bt545.2.2.2.2.1 bt545.2.2.2.2.2.1 bt545.2.2.2.2.2.2.1 bt545.2.2.2.2.2.2.2.1 bt545.2.2.2.2.2.2.2.2.1)) else (none)) else (none)) else (skiarealaw25_MediaForms.j0 k bt556.1 t561 true bt545.1 bt545.2.1 bt545.2.2.1 bt545.2.2.2.1 bt545.2.2.2.2.1 bt545.2.2.2.2.2.1 bt545.2.2.2.2.2.2.1 bt545.2.2.2.2.2.2.2.1 bt545.2.2.2.2.2.2.2.2.1)) else (skiarealaw25_MediaForms.j0 k bt556.1 t561 true bt545.1 bt545.2.1 bt545.2.2.1 bt545.2.2.2.1 bt545.2.2.2.2.1 bt545.2.2.2.2.2.1 bt545.2.2.2.2.2.2.1 bt545.2.2.2.2.2.2.2.1 bt545.2.2.2.2.2.2.2.2.1)) else (skiarealaw25_MediaForms.j0 k bt556.1 t561 true bt545.1 bt545.2.1 bt545.2.2.1 bt545.2.2.2.1 bt545.2.2.2.2.1 bt545.2.2.2.2.2.1 bt545.2.2.2.2.2.2.1 bt545.2.2.2.2.2.2.2.1 bt545.2.2.2.2.2.2.2.2.1)) else (skiarealaw25_MediaForms.j0 k bt556.1 t561 true bt545.1 bt545.2.1 bt545.2.2.1 bt545.2.2.2.1 bt545.2.2.2.2.1 bt545.2.2.2.2.2.1 bt545.2.2.2.2.2.2.1 bt545.2.2.2.2.2.2.2.1 bt545.2.2.2.2.2.2.2.2.1)))) else (skiarealaw25_MediaForms.j0 k bt556.1 t561 true bt545.1 bt545.2.1 bt545.2.2.1 bt545.2.2.2.1 bt545.2.2.2.2.1 bt545.2.2.2.2.2.1 bt545.2.2.2.2.2.2.1 bt545.2.2.2.2.2.2.2.1 bt545.2.2.2.2.2.2.2.2.1))))) else (some (bt545.1 == 0 && (bt545.2.1 == 0 && (bt545.2.2.1 == 0 && (bt545.2.2.2.1 == 0 && (bt545.2.2.2.2.1 == 0 && (bt545.2.2.2.2.2.1 == 0 && (bt545.2.2.2.2.2.2.1 == 0 && (bt545.2.2.2.2.2.2.2.1 == 0 && (bt545.2.2.2.2.2.2.2.2.1 == 0))))))))))))) else (some false)) = some r := H
  have A2 := Aside0.mk A20
  clear A20
  by_cases c3 : t544 = true
  · subst c3
    have H1 : (if (l0.length : Int) > 1000 then (some true) else ((media_Decode.f k l0).bind fun bt545 => (if bt545.2.2.2.2.2.2.2.2.2 = 0 then ((codec_Unframe.f k l0).bind fun bt556 => ((media_Body.f k bt545.1 bt545.2.1 bt545.2.2.1 bt545.2.2.2.1 bt545.2.2.2.2.1 bt545.2.2.2.2.2.1 bt545.2.2.2.2.2.2.1 bt545.2.2.2.2.2.2.2.1 bt545.2.2.2.2.2.2.2.2.1).bind fun t561 => ((media_Right.f k bt545.1 bt545.2.1 bt545.2.2.1 bt545.2.2.2.1 bt545.2.2.2.2.1 bt545.2.2.2.2.2.1 bt545.2.2.2.2.2.2.1 bt545.2.2.2.2.2.2.2.1 bt545.2.2.2.2.2.2.2.2.1).bind fun t564 => (if t564 = 0 then ((media_Encode.f k bt545.1 bt545.2.1 bt545.2.2.1 bt545.2.2.2.1 bt545.2.2.2.2.1 bt545.2.2.2.2.2.1 bt545.2.2.2.2.2.2.1 bt545.2.2.2.2.2.2.2.1 bt545.2.2.2.2.2.2.2.2.1).bind fun t565 => ((skiarearef03_Same.f t565 l0).bind fun t568 => (if t568 = true then (if bt556.2.2 = 0 then (if bt556.2.1 = (l0.length : Int) then (if (bt556.1.length : Int) = (wrap64 ((t561.length : Int) + 8)) then (if 0 ≤ (t561.length : Int) then (if (t561.length : Int) ≤ (bt556.1.length : Int) then ((skiarearef03_Same.f (bt556.1.take ((t561.length : Int) : Int).toNat) t561).bind fun t573 => (skiarealaw25_MediaForms.j0 k bt556.1 t561 (!t573) bt545.1 bt545.2.1 bt545.2.2.1 bt545.2.2.2.1 bt545.2.2.2.2.1 bt545.2.2.2.2.2.1 bt545.2.2.2.2.2.2.1 bt545.2.2.2.2.2.2.2.1 bt545.2.2.2.2.2.2.2.2.1)) else (none)) else (none)) else (skiarealaw25_MediaForms.j0 k bt556.1 t561 true bt545.1 bt545.2.1 bt545.2.2.1 bt545.2.2.2.1 bt545.2.2.2.2.1 bt545.2.2.2.2.2.1 bt545.2.2.2.2.2.2.1 bt545.2.2.2.2.2.2.2.1 bt545.2.2.2.2.2.2.2.2.1)) else (skiarealaw25_MediaForms.j0 k bt556.1 t561 true bt545.1 bt545.2.1 bt545.2.2.1 bt545.2.2.2.1 bt545.2.2.2.2.1 bt545.2.2.2.2.2.1 bt545.2.2.2.2.2.2.1 bt545.2.2.2.2.2.2.2.1 bt545.2.2.2.2.2.2.2.2.1)) else (skiarealaw25_MediaForms.j0 k bt556.1 t561 true bt545.1 bt545.2.1 bt545.2.2.1 bt545.2.2.2.1 bt545.2.2.2.2.1 bt545.2.2.2.2.2.1 bt545.2.2.2.2.2.2.1 bt545.2.2.2.2.2.2.2.1 bt545.2.2.2.2.2.2.2.2.1)) else (skiarealaw25_MediaForms.j0 k bt556.1 t561 true bt545.1 bt545.2.1 bt545.2.2.1 bt545.2.2.2.1 bt545.2.2.2.2.1 bt545.2.2.2.2.2.1 bt545.2.2.2.2.2.2.1 bt545.2.2.2.2.2.2.2.1 bt545.2.2.2.2.2.2.2.2.1)))) else (skiarealaw25_MediaForms.j0 k bt556.1 t561 true bt545.1 bt545.2.1 bt545.2.2.1 bt545.2.2.2.1 bt545.2.2.2.2.1 bt545.2.2.2.2.2.1 bt545.2.2.2.2.2.2.1 bt545.2.2.2.2.2.2.2.1 bt545.2.2.2.2.2.2.2.2.1))))) else (some (bt545.1 == 0 && (bt545.2.1 == 0 && (bt545.2.2.1 == 0 && (bt545.2.2.2.1 == 0 && (bt545.2.2.2.2.1 == 0 && (bt545.2.2.2.2.2.1 == 0 && (bt545.2.2.2.2.2.2.1 == 0 && (bt545.2.2.2.2.2.2.2.1 == 0 && (bt545.2.2.2.2.2.2.2.2.1 == 0))))))))))))) = some r := by rw [if_pos rfl] at H; exact H
    clear H
    have H := H1
    clear H1
    by_cases c4 : (l0.length : Int) > 1000
    · rw [if_pos c4] at H
      have c4b0 : decide (1000 < (l0.length : Int)) = true := decide_eq_true c4
      have c4b1 : decide (1000 < l0.length) = true := decide_eq_true (by omega)
      clear c4
      obtain rfl := Option.some.inj H
      go_enter Try.func9, Try.ntmps9
      go_wp2_with (first | ((with_reducible refine gate_callee (f := 10) rfl ?_); refine goesL_ (some 11) rfl rfl Try.func10 (by kernel_rfl) rfl #[] rfl (by (try simp only [List.map_toArray, List.map_cons, List.map_nil]); first | done | rfl | (simp only [List.length_drop, List.length_take]; rfl)) ?_; (with_reducible refine (skiarealaw25_alive.calls k  true _ A2.out).mono ?_); rintro e w5 ⟨rfl, hb⟩; refine ⟨_, rfl, ?_⟩; have n0_ := Aside0.mk (below_step (by repeat (first | (with_reducible first | exact HB.out | apply below_alloc | apply pw_below_drewN | apply below_drew1) | exact HB.out)) hb); clear HB; have HB := n0_; clear n0_; (try clear hb); (try clear hb2); (try clear hk); (try clear hi)))
      go_ret
      exact ⟨by first | rfl | (simp [errW_none, errW_some] <;> rfl) | (simp [*, errW_none, errW_some] <;> rfl), by repeat (first | (with_reducible first | exact HB.out | apply below_alloc | apply pw_below_drewN | apply below_drew1) | exact HB.out)⟩
    · rw [if_neg c4] at H
      have c4b0 : decide (1000 < (l0.length : Int)) = false := decide_eq_false c4
      have c4b1 : decide (1000 < l0.length) = false := decide_eq_false (by omega)
      clear c4
      replace H := Option.bind_eq_some_iff.mp H
      obtain ⟨⟨t545, t546, t547, t548, t549, t550, t551, t552, t553, t554⟩, A60, H⟩ := H
      replace H : (if t554 = 0 then ((codec_Unframe.f k l0).bind fun bt556 => ((media_Body.f k t545 t546 t547 t548 t549 t550 t551 t552 t553).bind fun t561 => ((media_Right.f k t545 t546 t547 t548 t549 t550 t551 t552 t553).bind fun t564 => (if t564 = 0 then ((media_Encode.f k t545 t546 t547 t548 t549 t550 t551 t552 t553).bind fun t565 => ((skiarearef03_Same.f t565 l0).bind fun t568 => (if t568 = true then (if bt556.2.2 = 0 then (if bt556.2.1 = (l0.length : Int) then (if (bt556.1.length : Int) = (wrap64 ((t561.length : Int) + 8)) then (if 0 ≤ (t561.length : Int) then (if (t561.length : Int) ≤ (bt556.1.length : Int) then ((skiarearef03_Same.f (bt556.1.take ((t561.length : Int) : Int).toNat) t561).bind fun t573 => (skiarealaw25_MediaForms.j0 k bt556.1 t561 (!t573) t545 t546 t547 t548 t549 t550 t551 t552 t553)) else (none)) else (none)) else (skiarealaw25_MediaForms.j0 k bt556.1 t561 true t545 t546 t547 t548 t549 t550 t551 t552 t553)) else (skiarealaw25_MediaForms.j0 k bt556.1 t561 true t545 t546 t547 t548 t549 t550 t551 t552 t553)) else (skiarealaw25_MediaForms.j0 k bt556.1 t561 true t545 t546 t547 t548 t549 t550 t551 t552 t553)) else (skiarealaw25_MediaForms.j0 k bt556.1 t561 true t545 t546 t547 t548 t549 t550 t551 t552 t553)))) else (skiarealaw25_MediaForms.j0 k bt556.1 t561 true t545 t546 t547 t548 t549 t550 t551 t552 t553))))) else (some (t545 == 0 && (t546 == 0 && (t547 == 0 && (t548 == 0 && (t549 == 0 && (t550 == 0 && (t551 == 0 && (t552 == 0 && (t553 == 0))))))))))) = some r := H
      have A6 := Aside0.mk A60
      clear A60
      by_cases c7 : t554 = 0
      · rw [if_pos c7] at H
        have c7b0 : (t554 == 0) = true := beq_iff_eq.mpr c7
        have c7b1 : (t554 != 0) = false := bne_eq_false_iff_eq.mpr c7
        clear c7
        replace H := Option.bind_eq_some_iff.mp H
        obtain ⟨⟨t556, t557, t558⟩, A80, H⟩ := H
        replace H : ((media_Body.f k t545 t546 t547 t548 t549 t550 t551 t552 t553).bind fun t561 => ((media_Right.f k t545 t546 t547 t548 t549 t550 t551 t552 t553).bind fun t564 => (if t564 = 0 then ((media_Encode.f k t545 t546 t547 t548 t549 t550 t551 t552 t553).bind fun t565 => ((skiarearef03_Same.f t565 l0).bind fun t568 => (if t568 = true then (if t558 = 0 then (if t557 = (l0.length : Int) then (if (t556.length : Int) = (wrap64 ((t561.length : Int) + 8)) then (if 0 ≤ (t561.length : Int) then (if (t561.length : Int) ≤ (t556.length : Int) then ((skiarearef03_Same.f (t556.take ((t561.length : Int) : Int).toNat) t561).bind fun t573 => (skiarealaw25_MediaForms.j0 k t556 t561 (!t573) t545 t546 t547 t548 t549 t550 t551 t552 t553)) else (none)) else (none)) else (skiarealaw25_MediaForms.j0 k t556 t561 true t545 t546 t547 t548 t549 t550 t551 t552 t553)) else (skiarealaw25_MediaForms.j0 k t556 t561 true t545 t546 t547 t548 t549 t550 t551 t552 t553)) else (skiarealaw25_MediaForms.j0 k t556 t561 true t545 t546 t547 t548 t549 t550 t551 t552 t553)) else (skiarealaw25_MediaForms.j0 k t556 t561 true t545 t546 t547 t548 t549 t550 t551 t552 t553)))) else (skiarealaw25_MediaForms.j0 k t556 t561 true t545 t546 t547 t548 t549 t550 t551 t552 t553)))) = some r := H
        have A8 := Aside0.mk A80
        clear A80
        replace H := Option.bind_eq_some_iff.mp H
        obtain ⟨t561, A90, H⟩ := H
        replace H : ((media_Right.f k t545 t546 t547 t548 t549 t550 t551 t552 t553).bind fun t564 => (if t564 = 0 then ((media_Encode.f k t545 t546 t547 t548 t549 t550 t551 t552 t553).bind fun t565 => ((skiarearef03_Same.f t565 l0).bind fun t568 => (if t568 = true then (if t558 = 0 then (if t557 = (l0.length : Int) then (if (t556.length : Int) = (wrap64 ((t561.length : Int) + 8)) then (if 0 ≤ (t561.length : Int) then (if (t561.length : Int) ≤ (t556.length : Int) then ((skiarearef03_Same.f (t556.take ((t561.length : Int) : Int).toNat) t561).bind fun t573 => (skiarealaw25_MediaForms.j0 k t556 t561 (!t573) t545 t546 t547 t548 t549 t550 t551 t552 t553)) else (none)) else (none)) else (skiarealaw25_MediaForms.j0 k t556 t561 true t545 t546 t547 t548 t549 t550 t551 t552 t553)) else (skiarealaw25_MediaForms.j0 k t556 t561 true t545 t546 t547 t548 t549 t550 t551 t552 t553)) else (skiarealaw25_MediaForms.j0 k t556 t561 true t545 t546 t547 t548 t549 t550 t551 t552 t553)) else (skiarealaw25_MediaForms.j0 k t556 t561 true t545 t546 t547 t548 t549 t550 t551 t552 t553)))) else (skiarealaw25_MediaForms.j0 k t556 t561 true t545 t546 t547 t548 t549 t550 t551 t552 t553))) = some r := H
        have A9 := Aside0.mk A90
        clear A90
        have HC10 := Aside0.mk H
        clear H
        go_enter Try.func9, Try.ntmps9
        go_upto_region 10 with (first | ((with_reducible refine gate_callee (f := 10) rfl ?_); refine goesL_ (some 11) rfl rfl Try.func10 (by kernel_rfl) rfl #[] rfl (by (try simp only [List.map_toArray, List.map_cons, List.map_nil]); first | done | rfl | (simp only [List.length_drop, List.length_take]; rfl)) ?_; (with_reducible refine (skiarealaw25_alive.calls k  true _ A2.out).mono ?_); rintro e w11 ⟨rfl, hb⟩; refine ⟨_, rfl, ?_⟩; have n0_ := Aside0.mk (below_step (by repeat (first | (with_reducible first | exact HB.out | apply below_alloc | apply pw_below_drewN | apply below_drew1) | exact HB.out)) hb); clear HB; have HB := n0_; clear n0_; (try clear hb); (try clear hb2); (try clear hk); (try clear hi)) | ((with_reducible refine gate_callee (f := 24) rfl ?_); refine goesL_ (some 18) rfl rfl Try.func24 (by kernel_rfl) rfl #[.slice A0 l0.length c0] rfl (by (try simp only [List.map_toArray, List.map_cons, List.map_nil]); first | done | rfl | (simp only [List.length_drop, List.length_take]; rfl)) ?_; (with_reducible refine (media_Decode.calls k _ _ l0 t545 t546 t547 t548 t549 t550 t551 t552 t553 t554 _ ?side1 ?side2 A6.out).mono ?_); (case side1 => repeat (first | exact (Kd.C_below HR0.out HB.out) | (with_reducible refine Kd.C_alloc ?_ _) | (with_reducible refine Kd.C_drewN ?_ _) | (with_reducible refine Kd.C_drew ?_))); (case side2 => exact HC0.out); rintro e w12 ⟨rfl, hb⟩; refine ⟨_, rfl, ?_⟩; have n0_ := Aside0.mk (below_step (by repeat (first | (with_reducible first | exact HB.out | apply below_alloc | apply pw_below_drewN | apply below_drew1) | exact HB.out)) hb); clear HB; have HB := n0_; clear n0_; (try clear hb); (try clear hb2); (try clear hk); (try clear hi)) | ((with_reducible refine gate_dst (N := 3) rfl ?_); (try (refine gate_guard (by rfl) ?_; dsimp only)); refine box_event ?hg (N := 3) ?hd (cs := #[.int .i64 0, .int .i64 0, .int .i64 0, .int .i64 0, .int .i64 0, .int .i64 0, .int .i64 0, .int .i64 0, .int .u64 0]) (t := 24) ?hr ?_; (case hd => rfl); (case hg => rfl); (case hr => first | (go_simp; done) | (go_simp; rfl)); intro gb555 hg w13 hbox hb; have n0_ := Aside0.mk (below_step (by repeat (first | (with_reducible first | exact HB.out | apply below_alloc | apply pw_below_drewN | apply below_drew1) | exact HB.out)) hb); have n1_ := Aside0.mk (hbox); have n2_ := Aside0.mk ((by rw [hg]; exact (below_size (by repeat (first | (with_reducible first | exact HB.out | apply below_alloc | apply pw_below_drewN | apply below_drew1) | exact HB.out))) : w.heap.size ≤ gb555)); have n3_ := Aside0.mk ((by rw [hg]; exact (below_size (by repeat (first | (with_reducible first | exact HB.out | apply below_alloc | apply pw_below_drewN | apply below_drew1) | exact HB.out))) : w.heap.size ≤ gb555)); clear HB; have HB := n0_; have BK555 := n1_; have GW555 := n2_; have GE555 := n3_; clear n0_ n1_ n2_ n3_; clear hb hbox hg; have hcz14_0 : w13.cell? ⟨gb555, 0, none⟩ = some (.int .i64 0) := (blk_cell BK555.out 0).trans rfl; have hcz14_1 : w13.cell? ⟨gb555, 1, none⟩ = some (.int .i64 0) := (blk_cell BK555.out 1).trans rfl; have hcz14_2 : w13.cell? ⟨gb555, 2, none⟩ = some (.int .i64 0) := (blk_cell BK555.out 2).trans rfl; have hcz14_3 : w13.cell? ⟨gb555, 3, none⟩ = some (.int .i64 0) := (blk_cell BK555.out 3).trans rfl; have hcz14_4 : w13.cell? ⟨gb555, 4, none⟩ = some (.int .i64 0) := (blk_cell BK555.out 4).trans rfl; have hcz14_5 : w13.cell? ⟨gb555, 5, none⟩ = some (.int .i64 0) := (blk_cell BK555.out 5).trans rfl; have hcz14_6 : w13.cell? ⟨gb555, 6, none⟩ = some (.int .i64 0) := (blk_cell BK555.out 6).trans rfl; have hcz14_7 : w13.cell? ⟨gb555, 7, none⟩ = some (.int .i64 0) := (blk_cell BK555.out 7).trans rfl; have hcz14_8 : w13.cell? ⟨gb555, 8, none⟩ = some (.int .u64 0) := (blk_cell BK555.out 8).trans rfl; have hfz14_0 := blk_frozen BK555.out 0; have hfz14_1 := blk_frozen BK555.out 1; have hfz14_2 := blk_frozen BK555.out 2; have hfz14_3 := blk_frozen BK555.out 3; have hfz14_4 := blk_frozen BK555.out 4; have hfz14_5 := blk_frozen BK555.out 5; have hfz14_6 := blk_frozen BK555.out 6; have hfz14_7 := blk_frozen BK555.out 7; have hfz14_8 := blk_frozen BK555.out 8) | ((with_reducible refine gate_callee (f := 27) rfl ?_); refine goesL_ (some 28) rfl rfl Try.func27 (by kernel_rfl) rfl #[.slice A0 l0.length c0] rfl (by (try simp only [List.map_toArray, List.map_cons, List.map_nil]); first | done | rfl | (simp only [List.length_drop, List.length_take]; rfl)) ?_; (with_reducible refine (codec_Unframe.calls k _ _ l0 t556 t557 t558 _ ?side1 ?side2 A8.out).mono ?_); (case side1 => exact Kd.C_below HR0.out (by repeat (first | (with_reducible first | exact HB.out | apply below_alloc | apply pw_below_drewN | apply below_drew1 | refine below_set ?_ GE555.out) | exact HB.out))); (case side2 => exact HC0.out); rintro e w15 ⟨v559, rfl, ho0, hb⟩; refine ⟨_, rfl, ?_⟩; have n0_ := Aside0.mk (Kd.R_lower ho0 (below_size (by repeat (first | (with_reducible first | exact HB.out | apply below_alloc | apply pw_below_drewN | apply below_drew1 | refine below_set ?_ GE555.out) | exact HB.out)))); have n1_ := Aside0.mk (blk_below (g := gb555) (o := .cells #[.int .i64 t545, .int .i64 t546, .int .i64 t547, .int .i64 t548, .int .i64 t549, .int .i64 t550, .int .i64 t551, .int .i64 t552, .int .u64 t553] 24 (0, 0)) (by (with_reducible repeat (first | refine blk_drewN ?_ _ | refine blk_drew ?_ | refine blk_alloc ?_ _)); refine blk_put (cs := #[.int .i64 t545, .int .i64 t546, .int .i64 t547, .int .i64 t548, .int .i64 t549, .int .i64 t550, .int .i64 t551, .int .i64 t552, .int .u64 0]) ?_ 8 _ rfl; refine blk_put (cs := #[.int .i64 t545, .int .i64 t546, .int .i64 t547, .int .i64 t548, .int .i64 t549, .int .i64 t550, .int .i64 t551, .int .i64 0, .int .u64 0]) ?_ 7 _ rfl; refine blk_put (cs := #[.int .i64 t545, .int .i64 t546, .int .i64 t547, .int .i64 t548, .int .i64 t549, .int .i64 t550, .int .i64 0, .int .i64 0, .int .u64 0]) ?_ 6 _ rfl; refine blk_put (cs := #[.int .i64 t545, .int .i64 t546, .int .i64 t547, .int .i64 t548, .int .i64 t549, .int .i64 0, .int .i64 0, .int .i64 0, .int .u64 0]) ?_ 5 _ rfl; refine blk_put (cs := #[.int .i64 t545, .int .i64 t546, .int .i64 t547, .int .i64 t548, .int .i64 0, .int .i64 0, .int .i64 0, .int .i64 0, .int .u64 0]) ?_ 4 _ rfl; refine blk_put (cs := #[.int .i64 t545, .int .i64 t546, .int .i64 t547, .int .i64 0, .int .i64 0, .int .i64 0, .int .i64 0, .int .i64 0, .int .u64 0]) ?_ 3 _ rfl; refine blk_put (cs := #[.int .i64 t545, .int .i64 t546, .int .i64 0, .int .i64 0, .int .i64 0, .int .i64 0, .int .i64 0, .int .i64 0, .int .u64 0]) ?_ 2 _ rfl; refine blk_put (cs := #[.int .i64 t545, .int .i64 0, .int .i64 0, .int .i64 0, .int .i64 0, .int .i64 0, .int .i64 0, .int .i64 0, .int .u64 0]) ?_ 1 _ rfl; refine blk_put (cs := #[.int .i64 0, .int .i64 0, .int .i64 0, .int .i64 0, .int .i64 0, .int .i64 0, .int .i64 0, .int .i64 0, .int .u64 0]) ?_ 0 _ rfl; (with_reducible repeat (first | refine blk_drewN ?_ _ | refine blk_drew ?_ | refine blk_alloc ?_ _)); exact BK555.out) hb); have n2_ := Aside0.mk (below_step (by repeat (first | (with_reducible first | exact HB.out | apply below_alloc | apply pw_below_drewN | apply below_drew1 | refine below_set ?_ GE555.out) | exact HB.out)) hb); clear BK555; clear HB; have HO560 := n0_; have BK555 := n1_; have HB := n2_; clear n0_ n1_ n2_; (try clear hb); (try clear hb2); (try clear hk); (try clear hi); (try clear ho0); have hcz16_0 : w15.cell? ⟨gb555, 0, none⟩ = some (.int .i64 t545) := (blk_cell BK555.out 0).trans rfl; have hcz16_1 : w15.cell? ⟨gb555, 1, none⟩ = some (.int .i64 t546) := (blk_cell BK555.out 1).trans rfl; have hcz16_2 : w15.cell? ⟨gb555, 2, none⟩ = some (.int .i64 t547) := (blk_cell BK555.out 2).trans rfl; have hcz16_3 : w15.cell? ⟨gb555, 3, none⟩ = some (.int .i64 t548) := (blk_cell BK555.out 3).trans rfl; have hcz16_4 : w15.cell? ⟨gb555, 4, none⟩ = some (.int .i64 t549) := (blk_cell BK555.out 4).trans rfl; have hcz16_5 : w15.cell? ⟨gb555, 5, none⟩ = some (.int .i64 t550) := (blk_cell BK555.out 5).trans rfl; have hcz16_6 : w15.cell? ⟨gb555, 6, none⟩ = some (.int .i64 t551) := (blk_cell BK555.out 6).trans rfl; have hcz16_7 : w15.cell? ⟨gb555, 7, none⟩ = some (.int .i64 t552) := (blk_cell BK555.out 7).trans rfl; have hcz16_8 : w15.cell? ⟨gb555, 8, none⟩ = some (.int .u64 t553) := (blk_cell BK555.out 8).trans rfl; have hfz16_0 := blk_frozen BK555.out 0; have hfz16_1 := blk_frozen BK555.out 1; have hfz16_2 := blk_frozen BK555.out 2; have hfz16_3 := blk_frozen BK555.out 3; have hfz16_4 := blk_frozen BK555.out 4; have hfz16_5 := blk_frozen BK555.out 5; have hfz16_6 := blk_frozen BK555.out 6; have hfz16_7 := blk_frozen BK555.out 7; have hfz16_8 := blk_frozen BK555.out 8) | ((with_reducible refine gate_callee (f := 19) rfl ?_); refine goesL_ (some 33) rfl rfl Try.func19 (by kernel_rfl) rfl #[.agg #[.int .i64 t545, .int .i64 t546, .int .i64 t547, .int .i64 t548, .int .i64 t549, .int .i64 t550, .int .i64 t551, .int .i64 t552, .int .u64 t553]] rfl (by (try simp only [List.map_toArray, List.map_cons, List.map_nil]); first | done | rfl | (simp only [List.length_drop, List.length_take]; rfl)) ?_; (with_reducible refine (media_Body.calls k t545 t546 t547 t548 t549 t550 t551 t552 t553 t561 _ A9.out).mono ?_); rintro e w17 ⟨v562, rfl, ho0, hb⟩; refine ⟨_, rfl, ?_⟩; have n0_ := Aside0.mk (Kd.R_elder' (by (with_reducible repeat (first | apply Kd.R_alloc | apply Kd.R_drewN | apply Kd.R_drew)); exact HO560.out) (Kd.R_base ho0) hb); have n1_ := Aside0.mk (Kd.R_lower (Kd.R_new' ho0 (Kd.R_lt (by (with_reducible repeat (first | apply Kd.R_alloc | apply Kd.R_drewN | apply Kd.R_drew)); exact HO560.out))) (below_size (by repeat (first | (with_reducible first | exact HB.out | apply below_alloc | apply pw_below_drewN | apply below_drew1 | refine below_set ?_ GE555.out) | exact HB.out)))); have n2_ := Aside0.mk (blk_below (g := gb555) (o := .cells #[.int .i64 t545, .int .i64 t546, .int .i64 t547, .int .i64 t548, .int .i64 t549, .int .i64 t550, .int .i64 t551, .int .i64 t552, .int .u64 t553] 24 (0, 0)) (by (with_reducible repeat (first | refine blk_drewN ?_ _ | refine blk_drew ?_ | refine blk_alloc ?_ _)); exact BK555.out) hb); have n3_ := Aside0.mk (below_step (by repeat (first | (with_reducible first | exact HB.out | apply below_alloc | apply pw_below_drewN | apply below_drew1 | refine below_set ?_ GE555.out) | exact HB.out)) hb); clear HO560; clear BK555; clear HB; have HO560 := n0_; have HO563 := n1_; have BK555 := n2_; have HB := n3_; clear n0_ n1_ n2_ n3_; (try clear hb); (try clear hb2); (try clear hk); (try clear hi); (try clear ho0)))
        (try simp only [Act.put, List.setIfInBounds_toArray, List.set_cons_zero, List.set_cons_succ])
        go_cut [70] (fun v70 wc => ∃ (kq : Nat) (x70_9 : Bool), v70 = .bool x70_9 ∧ Aside0 (skiarealaw25_MediaForms.j0 kq t556 t561 x70_9 t545 t546 t547 t548 t549 t550 t551 t552 t553 = some r) ∧ Aside0 (kq ≤ k) ∧ Aside0 (Kd.R (Kd.int .u8) 5 wc w.heap.size (fun k_ => some k_ ≠ (v562 : Value).ownBlock) v559 t556) ∧ Aside0 (Kd.R (Kd.int .u8) 5 wc w.heap.size (fun k_ => some k_ ≠ (v559 : Value).ownBlock) v562 t561) ∧ Aside0 (wc.heap[gb555]? = some (.cells #[.int .i64 t545, .int .i64 t546, .int .i64 t547, .int .i64 t548, .int .i64 t549, .int .i64 t550, .int .i64 t551, .int .i64 t552, .int .u64 t553] 24 (0, 0))) ∧ Aside0 (Below w.heap.size w wc))
        case first =>
          have H := HC10.out
          clear HC10
          replace H := Option.bind_eq_some_iff.mp H
          obtain ⟨t564, A180, H⟩ := H
          replace H : (if t564 = 0 then ((media_Encode.f k t545 t546 t547 t548 t549 t550 t551 t552 t553).bind fun t565 => ((skiarearef03_Same.f t565 l0).bind fun t568 => (if t568 = true then (if t558 = 0 then (if t557 = (l0.length : Int) then (if (t556.length : Int) = (wrap64 ((t561.length : Int) + 8)) then (if 0 ≤ (t561.length : Int) then (if (t561.length : Int) ≤ (t556.length : Int) then ((skiarearef03_Same.f (t556.take ((t561.length : Int) : Int).toNat) t561).bind fun t573 => (skiarealaw25_MediaForms.j0 k t556 t561 (!t573) t545 t546 t547 t548 t549 t550 t551 t552 t553)) else (none)) else (none)) else (skiarealaw25_MediaForms.j0 k t556 t561 true t545 t546 t547 t548 t549 t550 t551 t552 t553)) else (skiarealaw25_MediaForms.j0 k t556 t561 true t545 t546 t547 t548 t549 t550 t551 t552 t553)) else (skiarealaw25_MediaForms.j0 k t556 t561 true t545 t546 t547 t548 t549 t550 t551 t552 t553)) else (skiarealaw25_MediaForms.j0 k t556 t561 true t545 t546 t547 t548 t549 t550 t551 t552 t553)))) else (skiarealaw25_MediaForms.j0 k t556 t561 true t545 t546 t547 t548 t549 t550 t551 t552 t553)) = some r := H
          have A18 := Aside0.mk A180
          clear A180
          by_cases c19 : t564 = 0
          · rw [if_pos c19] at H
            have c19b0 : (t564 == 0) = true := beq_iff_eq.mpr c19
            have c19b1 : (t564 != 0) = false := bne_eq_false_iff_eq.mpr c19
            clear c19
            (first | rw [c19b0] | (simp only [i64_w, i32_w, IntKind.wrap_u8, IntKind.wrap_u32]; rw [c19b0]) | skip)
            replace H := Option.bind_eq_some_iff.mp H
            obtain ⟨t565, A200, H⟩ := H
            replace H : ((skiarearef03_Same.f t565 l0).bind fun t568 => (if t568 = true then (if t558 = 0 then (if t557 = (l0.length : Int) then (if (t556.length : Int) = (wrap64 ((t561.length : Int) + 8)) then (if 0 ≤ (t561.length : Int) then (if (t561.length : Int) ≤ (t556.length : Int) then ((skiarearef03_Same.f (t556.take ((t561.length : Int) : Int).toNat) t561).bind fun t573 => (skiarealaw25_MediaForms.j0 k t556 t561 (!t573) t545 t546 t547 t548 t549 t550 t551 t552 t553)) else (none)) else (none)) else (skiarealaw25_MediaForms.j0 k t556 t561 true t545 t546 t547 t548 t549 t550 t551 t552 t553)) else (skiarealaw25_MediaForms.j0 k t556 t561 true t545 t546 t547 t548 t549 t550 t551 t552 t553)) else (skiarealaw25_MediaForms.j0 k t556 t561 true t545 t546 t547 t548 t549 t550 t551 t552 t553)) else (skiarealaw25_MediaForms.j0 k t556 t561 true t545 t546 t547 t548 t549 t550 t551 t552 t553))) = some r := H
            have A20 := Aside0.mk A200
            clear A200
            replace H := Option.bind_eq_some_iff.mp H
            obtain ⟨t568, A210, H⟩ := H
            replace H : (if t568 = true then (if t558 = 0 then (if t557 = (l0.length : Int) then (if (t556.length : Int) = (wrap64 ((t561.length : Int) + 8)) then (if 0 ≤ (t561.length : Int) then (if (t561.length : Int) ≤ (t556.length : Int) then ((skiarearef03_Same.f (t556.take ((t561.length : Int) : Int).toNat) t561).bind fun t573 => (skiarealaw25_MediaForms.j0 k t556 t561 (!t573) t545 t546 t547 t548 t549 t550 t551 t552 t553)) else (none)) else (none)) else (skiarealaw25_MediaForms.j0 k t556 t561 true t545 t546 t547 t548 t549 t550 t551 t552 t553)) else (skiarealaw25_MediaForms.j0 k t556 t561 true t545 t546 t547 t548 t549 t550 t551 t552 t553)) else (skiarealaw25_MediaForms.j0 k t556 t561 true t545 t546 t547 t548 t549 t550 t551 t552 t553)) else (skiarealaw25_MediaForms.j0 k t556 t561 true t545 t546 t547 t548 t549 t550 t551 t552 t553)) = some r := H
            have A21 := Aside0.mk A210
            clear A210
            by_cases c22 : t568 = true
            · subst c22
              have H1 : (if t558 = 0 then (if t557 = (l0.length : Int) then (if (t556.length : Int) = (wrap64 ((t561.length : Int) + 8)) then (if 0 ≤ (t561.length : Int) then (if (t561.length : Int) ≤ (t556.length : Int) then ((skiarearef03_Same.f (t556.take ((t561.length : Int) : Int).toNat) t561).bind fun t573 => (skiarealaw25_MediaForms.j0 k t556 t561 (!t573) t545 t546 t547 t548 t549 t550 t551 t552 t553)) else (none)) else (none)) else (skiarealaw25_MediaForms.j0 k t556 t561 true t545 t546 t547 t548 t549 t550 t551 t552 t553)) else (skiarealaw25_MediaForms.j0 k t556 t561 true t545 t546 t547 t548 t549 t550 t551 t552 t553)) else (skiarealaw25_MediaForms.j0 k t556 t561 true t545 t546 t547 t548 t549 t550 t551 t552 t553)) = some r := by rw [if_pos rfl] at H; exact H
              clear H
              have H := H1
              clear H1
              by_cases c23 : t558 = 0
              · rw [if_pos c23] at H
                have c23b0 : (t558 == 0) = true := beq_iff_eq.mpr c23
                have c23b1 : (t558 != 0) = false := bne_eq_false_iff_eq.mpr c23
                clear c23
                by_cases c24 : t557 = (l0.length : Int)
                · rw [if_pos c24] at H
                  have c24b0 : (t557 == (l0.length : Int)) = true := beq_iff_eq.mpr c24
                  have c24b1 : (t557 != (l0.length : Int)) = false := bne_eq_false_iff_eq.mpr c24
                  clear c24
                  by_cases c25 : (t556.length : Int) = (wrap64 ((t561.length : Int) + 8))
                  · rw [if_pos c25] at H
                    have c25b0 : ((t556.length : Int) == (wrap64 ((t561.length : Int) + 8))) = true := beq_iff_eq.mpr c25
                    have c25b1 : ((t556.length : Int) != (wrap64 ((t561.length : Int) + 8))) = false := bne_eq_false_iff_eq.mpr c25
                    clear c25
                    by_cases c26 : 0 ≤ (t561.length : Int)
                    · rw [if_pos c26] at H
                      have c26b0 := eq_true c26
                      have c26b1 : decide (0 ≤ (t561.length : Int)) = true := decide_eq_true c26
                      clear c26
                      by_cases c27 : (t561.length : Int) ≤ (t556.length : Int)
                      · rw [if_pos c27] at H
                        have c27b0 := eq_true c27
                        have c27b1 : decide ((t561.length : Int) ≤ (t556.length : Int)) = true := decide_eq_true c27
                        clear c27
                        obtain ⟨y569, hy569⟩ : ∃ y_ : List Int, y_ = (t556.take ((t561.length : Int) : Int).toNat) := ⟨_, rfl⟩
                        replace H : ((skiarearef03_Same.f y569 t561).bind fun t573 => (skiarealaw25_MediaForms.j0 k t556 t561 (!t573) t545 t546 t547 t548 t549 t550 t551 t552 t553)) = some r := by first | (rw [hy569]; with_reducible exact H) | (have H2_ := (Option.bind_some _ _).symm.trans H; rw [hy569]; with_reducible exact H2_) | (have H2_ := (Option.bind_some _ _).symm.trans H; with_reducible exact H2_) | with_reducible exact H | (rw [hy569]; exact H) | exact H
                        have Ny569 := Aside0.mk hy569
                        clear hy569
                        replace H := Option.bind_eq_some_iff.mp H
                        obtain ⟨t573, A280, H⟩ := H
                        replace H : (skiarealaw25_MediaForms.j0 k t556 t561 (!t573) t545 t546 t547 t548 t549 t550 t551 t552 t553) = some r := H
                        have A28 := Aside0.mk A280
                        clear A280
                        have H' := Aside0.mk H
                        clear H
                        have hcz29_0 : w17.cell? ⟨gb555, 0, none⟩ = some (.int .i64 t545) := (blk_cell BK555.out 0).trans rfl
                        have hcz29_1 : w17.cell? ⟨gb555, 1, none⟩ = some (.int .i64 t546) := (blk_cell BK555.out 1).trans rfl
                        have hcz29_2 : w17.cell? ⟨gb555, 2, none⟩ = some (.int .i64 t547) := (blk_cell BK555.out 2).trans rfl
                        have hcz29_3 : w17.cell? ⟨gb555, 3, none⟩ = some (.int .i64 t548) := (blk_cell BK555.out 3).trans rfl
                        have hcz29_4 : w17.cell? ⟨gb555, 4, none⟩ = some (.int .i64 t549) := (blk_cell BK555.out 4).trans rfl
                        have hcz29_5 : w17.cell? ⟨gb555, 5, none⟩ = some (.int .i64 t550) := (blk_cell BK555.out 5).trans rfl
                        have hcz29_6 : w17.cell? ⟨gb555, 6, none⟩ = some (.int .i64 t551) := (blk_cell BK555.out 6).trans rfl
                        have hcz29_7 : w17.cell? ⟨gb555, 7, none⟩ = some (.int .i64 t552) := (blk_cell BK555.out 7).trans rfl
                        have hcz29_8 : w17.cell? ⟨gb555, 8, none⟩ = some (.int .u64 t553) := (blk_cell BK555.out 8).trans rfl
                        have hfz29_0 := blk_frozen BK555.out 0
                        have hfz29_1 := blk_frozen BK555.out 1
                        have hfz29_2 := blk_frozen BK555.out 2
                        have hfz29_3 := blk_frozen BK555.out 3
                        have hfz29_4 := blk_frozen BK555.out 4
                        have hfz29_5 := blk_frozen BK555.out 5
                        have hfz29_6 := blk_frozen BK555.out 6
                        have hfz29_7 := blk_frozen BK555.out 7
                        have hfz29_8 := blk_frozen BK555.out 8
                        go_wp2_with (first | ((with_reducible refine gate_callee (f := 11) rfl ?_); refine goesL_ (some 35) rfl rfl Try.func11 (by kernel_rfl) rfl #[.agg #[.int .i64 t545, .int .i64 t546, .int .i64 t547, .int .i64 t548, .int .i64 t549, .int .i64 t550, .int .i64 t551, .int .i64 t552, .int .u64 t553]] rfl (by (try simp only [List.map_toArray, List.map_cons, List.map_nil]); first | done | rfl | (simp only [List.length_drop, List.length_take]; rfl)) ?_; (with_reducible refine (media_Right.calls k t545 t546 t547 t548 t549 t550 t551 t552 t553 t564 _ A18.out).mono ?_); rintro e w30 ⟨rfl, hb⟩; refine ⟨_, rfl, ?_⟩; have n0_ := Aside0.mk (Kd.R_below (by (with_reducible repeat (first | apply Kd.R_alloc | apply Kd.R_drewN | apply Kd.R_drew)); exact HO560.out) hb); have n1_ := Aside0.mk (Kd.R_below (by (with_reducible repeat (first | apply Kd.R_alloc | apply Kd.R_drewN | apply Kd.R_drew)); exact HO563.out) hb); have n2_ := Aside0.mk (blk_below (g := gb555) (o := .cells #[.int .i64 t545, .int .i64 t546, .int .i64 t547, .int .i64 t548, .int .i64 t549, .int .i64 t550, .int .i64 t551, .int .i64 t552, .int .u64 t553] 24 (0, 0)) (by (with_reducible repeat (first | refine blk_drewN ?_ _ | refine blk_drew ?_ | refine blk_alloc ?_ _)); exact BK555.out) hb); have n3_ := Aside0.mk (below_step (by repeat (first | (with_reducible first | exact HB.out | apply below_alloc | apply pw_below_drewN | apply below_drew1 | refine below_set ?_ GE555.out) | exact HB.out)) hb); clear HO560; clear HO563; clear BK555; clear HB; have HO560 := n0_; have HO563 := n1_; have BK555 := n2_; have HB := n3_; clear n0_ n1_ n2_ n3_; (try clear hb); (try clear hb2); (try clear hk); (try clear hi); have hcz31_0 : w30.cell? ⟨gb555, 0, none⟩ = some (.int .i64 t545) := (blk_cell BK555.out 0).trans rfl; have hcz31_1 : w30.cell? ⟨gb555, 1, none⟩ = some (.int .i64 t546) := (blk_cell BK555.out 1).trans rfl; have hcz31_2 : w30.cell? ⟨gb555, 2, none⟩ = some (.int .i64 t547) := (blk_cell BK555.out 2).trans rfl; have hcz31_3 : w30.cell? ⟨gb555, 3, none⟩ = some (.int .i64 t548) := (blk_cell BK555.out 3).trans rfl; have hcz31_4 : w30.cell? ⟨gb555, 4, none⟩ = some (.int .i64 t549) := (blk_cell BK555.out 4).trans rfl; have hcz31_5 : w30.cell? ⟨gb555, 5, none⟩ = some (.int .i64 t550) := (blk_cell BK555.out 5).trans rfl; have hcz31_6 : w30.cell? ⟨gb555, 6, none⟩ = some (.int .i64 t551) := (blk_cell BK555.out 6).trans rfl; have hcz31_7 : w30.cell? ⟨gb555, 7, none⟩ = some (.int .i64 t552) := (blk_cell BK555.out 7).trans rfl; have hcz31_8 : w30.cell? ⟨gb555, 8, none⟩ = some (.int .u64 t553) := (blk_cell BK555.out 8).trans rfl; have hfz31_0 := blk_frozen BK555.out 0; have hfz31_1 := blk_frozen BK555.out 1; have hfz31_2 := blk_frozen BK555.out 2; have hfz31_3 := blk_frozen BK555.out 3; have hfz31_4 := blk_frozen BK555.out 4; have hfz31_5 := blk_frozen BK555.out 5; have hfz31_6 := blk_frozen BK555.out 6; have hfz31_7 := blk_frozen BK555.out 7; have hfz31_8 := blk_frozen BK555.out 8) | (go_at_call 22; (with_reducible refine (media_Encode.calls k t545 t546 t547 t548 t549 t550 t551 t552 t553 t565 _ A20.out).mono ?_); rintro e w32 ⟨v566, rfl, ho0, hb⟩; have n0_ := Aside0.mk (Kd.R_elder' (by (with_reducible repeat (first | apply Kd.R_alloc | apply Kd.R_drewN | apply Kd.R_drew)); exact HO560.out) (Kd.R_base ho0) hb); have n1_ := Aside0.mk (Kd.R_elder' (by (with_reducible repeat (first | apply Kd.R_alloc | apply Kd.R_drewN | apply Kd.R_drew)); exact HO563.out) (Kd.R_base ho0) hb); have n2_ := Aside0.mk (Kd.R_lower (Kd.R_new' (Kd.R_new' ho0 (Kd.R_lt (by (with_reducible repeat (first | apply Kd.R_alloc | apply Kd.R_drewN | apply Kd.R_drew)); exact HO560.out))) (Kd.R_lt (by (with_reducible repeat (first | apply Kd.R_alloc | apply Kd.R_drewN | apply Kd.R_drew)); exact HO563.out))) (below_size (by repeat (first | (with_reducible first | exact HB.out | apply below_alloc | apply pw_below_drewN | apply below_drew1 | refine below_set ?_ GE555.out) | exact HB.out)))); have n3_ := Aside0.mk (blk_below (g := gb555) (o := .cells #[.int .i64 t545, .int .i64 t546, .int .i64 t547, .int .i64 t548, .int .i64 t549, .int .i64 t550, .int .i64 t551, .int .i64 t552, .int .u64 t553] 24 (0, 0)) (by (with_reducible repeat (first | refine blk_drewN ?_ _ | refine blk_drew ?_ | refine blk_alloc ?_ _)); exact BK555.out) hb); have n4_ := Aside0.mk (below_step (by repeat (first | (with_reducible first | exact HB.out | apply below_alloc | apply pw_below_drewN | apply below_drew1 | refine below_set ?_ GE555.out) | exact HB.out)) hb); clear HO560; clear HO563; clear BK555; clear HB; have HO560 := n0_; have HO563 := n1_; have HO567 := n2_; have BK555 := n3_; have HB := n4_; clear n0_ n1_ n2_ n3_ n4_; (try clear hb); (try clear hb2); (try clear hk); (try clear hi); (try clear ho0); obtain ⟨Ao33, co33, eo33⟩ := Kd.R_slice HO567.out; subst eo33) | (go_at_call 18; (with_reducible refine (skiarearef03_Same.calls _ _ t565 _ _ l0 true _ ?side1 ?side2 ?side3 ?side4 A21.out).mono ?_); (case side1 => repeat (first | exact (Kd.R_reads' HO567.out).2.2 | (with_reducible refine Kd.C_alloc ?_ _) | (with_reducible refine Kd.C_drewN ?_ _) | (with_reducible refine Kd.C_drew ?_))); (case side2 => exact (Kd.R_reads' HO567.out).2.1); (case side3 => repeat (first | exact (Kd.C_below HR0.out HB.out) | (with_reducible refine Kd.C_alloc ?_ _) | (with_reducible refine Kd.C_drewN ?_ _) | (with_reducible refine Kd.C_drew ?_))); (case side4 => exact HC0.out); rintro e w' ⟨rfl, ⟨nd, rfl⟩⟩; obtain ⟨Ao34, co34, eo34⟩ := Kd.R_slice HO560.out; subst eo34; obtain ⟨Ao35, co35, eo35⟩ := Kd.R_slice HO563.out; subst eo35; have q36 : ((t561.length : Int) : Int) ≤ ((t556.length : Int) : Int) := of_decide_eq_true (by first | (with_reducible assumption) | assumption); obtain ⟨i036, hi036, _, hsz36, _⟩ := info_parts info5; have hroom36 : t556.length ≤ co34 := (Kd.R_reads' HO560.out).2.1; have hC36 : Kd.C (Kd.int .u8) _ Ao34 t556.length t556 := (Kd.R_reads' HO560.out).2.2; have hcut36 := cut_to (P := Try.prog) 35 5 .i64 Try.underlying35 hi036 Ao34 t556.length co34 (t561.length : Int) (of_decide_eq_true (by first | (with_reducible assumption) | assumption)) q36 hroom36; have hr36 := Kd.C_take (m := ((t561.length : Int) : Int).toNat) hC36 (by omega); have hy36 : y569.length = ((t561.length : Int) : Int).toNat := (by rw [Ny569.out, List.length_take]; omega); rw [← Ny569.out] at hr36; rw [← hy36] at hcut36; have HR572 := Aside0.mk hr36; have HC572 := Aside0.mk (show y569.length ≤ co34 from by omega); clear hr36 hC36 hroom36 hi036 hsz36; have KY36 := Aside0.mk hy36; clear hy36; have KL36 := Aside0.mk (show ((t561.length : Int) : Int).toNat ≤ t556.length from by omega); replace q36 := eq_true q36) | (go_at_call 18; (with_reducible refine (skiarearef03_Same.calls _ _ y569 _ _ t561 t573 _ ?side1 ?side2 ?side3 ?side4 A28.out).mono ?_); (case side1 => repeat (first | exact (by repeat (first | (with_reducible exact HR572.out) | (with_reducible refine Kd.C_alloc ?_ _) | (with_reducible refine Kd.C_drewN ?_ _) | (with_reducible refine Kd.C_drew ?_) | exact HR572.out)) | (with_reducible refine Kd.C_alloc ?_ _) | (with_reducible refine Kd.C_drewN ?_ _) | (with_reducible refine Kd.C_drew ?_))); (case side2 => exact HC572.out); (case side3 => repeat (first | exact (Kd.R_reads' HO563.out).2.2 | (with_reducible refine Kd.C_alloc ?_ _) | (with_reducible refine Kd.C_drewN ?_ _) | (with_reducible refine Kd.C_drew ?_))); (case side4 => exact (Kd.R_reads' HO563.out).2.1); rintro e w' ⟨rfl, ⟨nd, rfl⟩⟩))
                        go_meet
                        case rel => exact ⟨_, (!t573), (by first | rfl | (simp; done) | (simp [*]; done)), H', ⟨by first | omega | exact Nat.le_refl _⟩, ⟨by (with_reducible repeat (first | apply Kd.R_alloc | apply Kd.R_drewN | apply Kd.R_drew)); exact Kd.R_mono HO560.out (fun _ hk => hk.1.2)⟩, ⟨by (with_reducible repeat (first | apply Kd.R_alloc | apply Kd.R_drewN | apply Kd.R_drew)); exact Kd.R_mono HO563.out (fun _ hk => hk.1.2)⟩, ⟨by (with_reducible repeat (first | refine blk_drewN ?_ _ | refine blk_drew ?_ | refine blk_alloc ?_ _)); exact BK555.out⟩, ⟨by repeat (first | (with_reducible first | exact HB.out | apply below_alloc | apply pw_below_drewN | apply below_drew1 | refine below_set ?_ GE555.out) | exact HB.out)⟩⟩
                      · rw [if_neg c27] at H
                        exact absurd H (by simp)
                    · rw [if_neg c26] at H
                      exact absurd H (by simp)
                  · rw [if_neg c25] at H
                    have c25b0 : ((t556.length : Int) == (wrap64 ((t561.length : Int) + 8))) = false := beq_eq_false_iff_ne.mpr c25
                    have c25b1 : ((t556.length : Int) != (wrap64 ((t561.length : Int) + 8))) = true := bne_iff_ne.mpr c25
                    have H' := Aside0.mk H
                    clear H
                    have hcz37_0 : w17.cell? ⟨gb555, 0, none⟩ = some (.int .i64 t545) := (blk_cell BK555.out 0).trans rfl
                    have hcz37_1 : w17.cell? ⟨gb555, 1, none⟩ = some (.int .i64 t546) := (blk_cell BK555.out 1).trans rfl
                    have hcz37_2 : w17.cell? ⟨gb555, 2, none⟩ = some (.int .i64 t547) := (blk_cell BK555.out 2).trans rfl
                    have hcz37_3 : w17.cell? ⟨gb555, 3, none⟩ = some (.int .i64 t548) := (blk_cell BK555.out 3).trans rfl
                    have hcz37_4 : w17.cell? ⟨gb555, 4, none⟩ = some (.int .i64 t549) := (blk_cell BK555.out 4).trans rfl
                    have hcz37_5 : w17.cell? ⟨gb555, 5, none⟩ = some (.int .i64 t550) := (blk_cell BK555.out 5).trans rfl
                    have hcz37_6 : w17.cell? ⟨gb555, 6, none⟩ = some (.int .i64 t551) := (blk_cell BK555.out 6).trans rfl
                    have hcz37_7 : w17.cell? ⟨gb555, 7, none⟩ = some (.int .i64 t552) := (blk_cell BK555.out 7).trans rfl
                    have hcz37_8 : w17.cell? ⟨gb555, 8, none⟩ = some (.int .u64 t553) := (blk_cell BK555.out 8).trans rfl
                    have hfz37_0 := blk_frozen BK555.out 0
                    have hfz37_1 := blk_frozen BK555.out 1
                    have hfz37_2 := blk_frozen BK555.out 2
                    have hfz37_3 := blk_frozen BK555.out 3
                    have hfz37_4 := blk_frozen BK555.out 4
                    have hfz37_5 := blk_frozen BK555.out 5
                    have hfz37_6 := blk_frozen BK555.out 6
                    have hfz37_7 := blk_frozen BK555.out 7
                    have hfz37_8 := blk_frozen BK555.out 8
                    go_wp2_with (first | ((with_reducible refine gate_callee (f := 11) rfl ?_); refine goesL_ (some 35) rfl rfl Try.func11 (by kernel_rfl) rfl #[.agg #[.int .i64 t545, .int .i64 t546, .int .i64 t547, .int .i64 t548, .int .i64 t549, .int .i64 t550, .int .i64 t551, .int .i64 t552, .int .u64 t553]] rfl (by (try simp only [List.map_toArray, List.map_cons, List.map_nil]); first | done | rfl | (simp only [List.length_drop, List.length_take]; rfl)) ?_; (with_reducible refine (media_Right.calls k t545 t546 t547 t548 t549 t550 t551 t552 t553 t564 _ A18.out).mono ?_); rintro e w38 ⟨rfl, hb⟩; refine ⟨_, rfl, ?_⟩; have n0_ := Aside0.mk (Kd.R_below (by (with_reducible repeat (first | apply Kd.R_alloc | apply Kd.R_drewN | apply Kd.R_drew)); exact HO560.out) hb); have n1_ := Aside0.mk (Kd.R_below (by (with_reducible repeat (first | apply Kd.R_alloc | apply Kd.R_drewN | apply Kd.R_drew)); exact HO563.out) hb); have n2_ := Aside0.mk (blk_below (g := gb555) (o := .cells #[.int .i64 t545, .int .i64 t546, .int .i64 t547, .int .i64 t548, .int .i64 t549, .int .i64 t550, .int .i64 t551, .int .i64 t552, .int .u64 t553] 24 (0, 0)) (by (with_reducible repeat (first | refine blk_drewN ?_ _ | refine blk_drew ?_ | refine blk_alloc ?_ _)); exact BK555.out) hb); have n3_ := Aside0.mk (below_step (by repeat (first | (with_reducible first | exact HB.out | apply below_alloc | apply pw_below_drewN | apply below_drew1 | refine below_set ?_ GE555.out) | exact HB.out)) hb); clear HO560; clear HO563; clear BK555; clear HB; have HO560 := n0_; have HO563 := n1_; have BK555 := n2_; have HB := n3_; clear n0_ n1_ n2_ n3_; (try clear hb); (try clear hb2); (try clear hk); (try clear hi); have hcz39_0 : w38.cell? ⟨gb555, 0, none⟩ = some (.int .i64 t545) := (blk_cell BK555.out 0).trans rfl; have hcz39_1 : w38.cell? ⟨gb555, 1, none⟩ = some (.int .i64 t546) := (blk_cell BK555.out 1).trans rfl; have hcz39_2 : w38.cell? ⟨gb555, 2, none⟩ = some (.int .i64 t547) := (blk_cell BK555.out 2).trans rfl; have hcz39_3 : w38.cell? ⟨gb555, 3, none⟩ = some (.int .i64 t548) := (blk_cell BK555.out 3).trans rfl; have hcz39_4 : w38.cell? ⟨gb555, 4, none⟩ = some (.int .i64 t549) := (blk_cell BK555.out 4).trans rfl; have hcz39_5 : w38.cell? ⟨gb555, 5, none⟩ = some (.int .i64 t550) := (blk_cell BK555.out 5).trans rfl; have hcz39_6 : w38.cell? ⟨gb555, 6, none⟩ = some (.int .i64 t551) := (blk_cell BK555.out 6).trans rfl; have hcz39_7 : w38.cell? ⟨gb555, 7, none⟩ = some (.int .i64 t552) := (blk_cell BK555.out 7).trans rfl; have hcz39_8 : w38.cell? ⟨gb555, 8, none⟩ = some (.int .u64 t553) := (blk_cell BK555.out 8).trans rfl; have hfz39_0 := blk_frozen BK555.out 0; have hfz39_1 := blk_frozen BK555.out 1; have hfz39_2 := blk_frozen BK555.out 2; have hfz39_3 := blk_frozen BK555.out 3; have hfz39_4 := blk_frozen BK555.out 4; have hfz39_5 := blk_frozen BK555.out 5; have hfz39_6 := blk_frozen BK555.out 6; have hfz39_7 := blk_frozen BK555.out 7; have hfz39_8 := blk_frozen BK555.out 8) | (go_at_call 22; (with_reducible refine (media_Encode.calls k t545 t546 t547 t548 t549 t550 t551 t552 t553 t565 _ A20.out).mono ?_); rintro e w40 ⟨v566, rfl, ho0, hb⟩; have n0_ := Aside0.mk (Kd.R_elder' (by (with_reducible repeat (first | apply Kd.R_alloc | apply Kd.R_drewN | apply Kd.R_drew)); exact HO560.out) (Kd.R_base ho0) hb); have n1_ := Aside0.mk (Kd.R_elder' (by (with_reducible repeat (first | apply Kd.R_alloc | apply Kd.R_drewN | apply Kd.R_drew)); exact HO563.out) (Kd.R_base ho0) hb); have n2_ := Aside0.mk (Kd.R_lower (Kd.R_new' (Kd.R_new' ho0 (Kd.R_lt (by (with_reducible repeat (first | apply Kd.R_alloc | apply Kd.R_drewN | apply Kd.R_drew)); exact HO560.out))) (Kd.R_lt (by (with_reducible repeat (first | apply Kd.R_alloc | apply Kd.R_drewN | apply Kd.R_drew)); exact HO563.out))) (below_size (by repeat (first | (with_reducible first | exact HB.out | apply below_alloc | apply pw_below_drewN | apply below_drew1 | refine below_set ?_ GE555.out) | exact HB.out)))); have n3_ := Aside0.mk (blk_below (g := gb555) (o := .cells #[.int .i64 t545, .int .i64 t546, .int .i64 t547, .int .i64 t548, .int .i64 t549, .int .i64 t550, .int .i64 t551, .int .i64 t552, .int .u64 t553] 24 (0, 0)) (by (with_reducible repeat (first | refine blk_drewN ?_ _ | refine blk_drew ?_ | refine blk_alloc ?_ _)); exact BK555.out) hb); have n4_ := Aside0.mk (below_step (by repeat (first | (with_reducible first | exact HB.out | apply below_alloc | apply pw_below_drewN | apply below_drew1 | refine below_set ?_ GE555.out) | exact HB.out)) hb); clear HO560; clear HO563; clear BK555; clear HB; have HO560 := n0_; have HO563 := n1_; have HO567 := n2_; have BK555 := n3_; have HB := n4_; clear n0_ n1_ n2_ n3_ n4_; (try clear hb); (try clear hb2); (try clear hk); (try clear hi); (try clear ho0); obtain ⟨Ao41, co41, eo41⟩ := Kd.R_slice HO567.out; subst eo41) | (go_at_call 18; (with_reducible refine (skiarearef03_Same.calls _ _ t565 _ _ l0 true _ ?side1 ?side2 ?side3 ?side4 A21.out).mono ?_); (case side1 => repeat (first | exact (Kd.R_reads' HO567.out).2.2 | (with_reducible refine Kd.C_alloc ?_ _) | (with_reducible refine Kd.C_drewN ?_ _) | (with_reducible refine Kd.C_drew ?_))); (case side2 => exact (Kd.R_reads' HO567.out).2.1); (case side3 => repeat (first | exact (Kd.C_below HR0.out HB.out) | (with_reducible refine Kd.C_alloc ?_ _) | (with_reducible refine Kd.C_drewN ?_ _) | (with_reducible refine Kd.C_drew ?_))); (case side4 => exact HC0.out); rintro e w' ⟨rfl, ⟨nd, rfl⟩⟩; obtain ⟨Ao42, co42, eo42⟩ := Kd.R_slice HO560.out; subst eo42; obtain ⟨Ao43, co43, eo43⟩ := Kd.R_slice HO563.out; subst eo43))
                    go_meet
                    case rel => exact ⟨_, (true), (by first | rfl | (simp; done) | (simp [*]; done)), H', ⟨by first | omega | exact Nat.le_refl _⟩, ⟨by (with_reducible repeat (first | apply Kd.R_alloc | apply Kd.R_drewN | apply Kd.R_drew)); exact Kd.R_mono HO560.out (fun _ hk => hk.1.2)⟩, ⟨by (with_reducible repeat (first | apply Kd.R_alloc | apply Kd.R_drewN | apply Kd.R_drew)); exact Kd.R_mono HO563.out (fun _ hk => hk.1.2)⟩, ⟨by (with_reducible repeat (first | refine blk_drewN ?_ _ | refine blk_drew ?_ | refine blk_alloc ?_ _)); exact BK555.out⟩, ⟨by repeat (first | (with_reducible first | exact HB.out | apply below_alloc | apply pw_below_drewN | apply below_drew1 | refine below_set ?_ GE555.out) | exact HB.out)⟩⟩
                · rw [if_neg c24] at H
                  have c24b0 : (t557 == (l0.length : Int)) = false := beq_eq_false_iff_ne.mpr c24
                  have c24b1 : (t557 != (l0.length : Int)) = true := bne_iff_ne.mpr c24
                  have H' := Aside0.mk H
                  clear H
                  have hcz44_0 : w17.cell? ⟨gb555, 0, none⟩ = some (.int .i64 t545) := (blk_cell BK555.out 0).trans rfl
                  have hcz44_1 : w17.cell? ⟨gb555, 1, none⟩ = some (.int .i64 t546) := (blk_cell BK555.out 1).trans rfl
                  have hcz44_2 : w17.cell? ⟨gb555, 2, none⟩ = some (.int .i64 t547) := (blk_cell BK555.out 2).trans rfl
                  have hcz44_3 : w17.cell? ⟨gb555, 3, none⟩ = some (.int .i64 t548) := (blk_cell BK555.out 3).trans rfl
                  have hcz44_4 : w17.cell? ⟨gb555, 4, none⟩ = some (.int .i64 t549) := (blk_cell BK555.out 4).trans rfl
                  have hcz44_5 : w17.cell? ⟨gb555, 5, none⟩ = some (.int .i64 t550) := (blk_cell BK555.out 5).trans rfl
                  have hcz44_6 : w17.cell? ⟨gb555, 6, none⟩ = some (.int .i64 t551) := (blk_cell BK555.out 6).trans rfl
                  have hcz44_7 : w17.cell? ⟨gb555, 7, none⟩ = some (.int .i64 t552) := (blk_cell BK555.out 7).trans rfl
                  have hcz44_8 : w17.cell? ⟨gb555, 8, none⟩ = some (.int .u64 t553) := (blk_cell BK555.out 8).trans rfl
                  have hfz44_0 := blk_frozen BK555.out 0
                  have hfz44_1 := blk_frozen BK555.out 1
                  have hfz44_2 := blk_frozen BK555.out 2
                  have hfz44_3 := blk_frozen BK555.out 3
                  have hfz44_4 := blk_frozen BK555.out 4
                  have hfz44_5 := blk_frozen BK555.out 5
                  have hfz44_6 := blk_frozen BK555.out 6
                  have hfz44_7 := blk_frozen BK555.out 7
                  have hfz44_8 := blk_frozen BK555.out 8
                  go_wp2_with (first | ((with_reducible refine gate_callee (f := 11) rfl ?_); refine goesL_ (some 35) rfl rfl Try.func11 (by kernel_rfl) rfl #[.agg #[.int .i64 t545, .int .i64 t546, .int .i64 t547, .int .i64 t548, .int .i64 t549, .int .i64 t550, .int .i64 t551, .int .i64 t552, .int .u64 t553]] rfl (by (try simp only [List.map_toArray, List.map_cons, List.map_nil]); first | done | rfl | (simp only [List.length_drop, List.length_take]; rfl)) ?_; (with_reducible refine (media_Right.calls k t545 t546 t547 t548 t549 t550 t551 t552 t553 t564 _ A18.out).mono ?_); rintro e w45 ⟨rfl, hb⟩; refine ⟨_, rfl, ?_⟩; have n0_ := Aside0.mk (Kd.R_below (by (with_reducible repeat (first | apply Kd.R_alloc | apply Kd.R_drewN | apply Kd.R_drew)); exact HO560.out) hb); have n1_ := Aside0.mk (Kd.R_below (by (with_reducible repeat (first | apply Kd.R_alloc | apply Kd.R_drewN | apply Kd.R_drew)); exact HO563.out) hb); have n2_ := Aside0.mk (blk_below (g := gb555) (o := .cells #[.int .i64 t545, .int .i64 t546, .int .i64 t547, .int .i64 t548, .int .i64 t549, .int .i64 t550, .int .i64 t551, .int .i64 t552, .int .u64 t553] 24 (0, 0)) (by (with_reducible repeat (first | refine blk_drewN ?_ _ | refine blk_drew ?_ | refine blk_alloc ?_ _)); exact BK555.out) hb); have n3_ := Aside0.mk (below_step (by repeat (first | (with_reducible first | exact HB.out | apply below_alloc | apply pw_below_drewN | apply below_drew1 | refine below_set ?_ GE555.out) | exact HB.out)) hb); clear HO560; clear HO563; clear BK555; clear HB; have HO560 := n0_; have HO563 := n1_; have BK555 := n2_; have HB := n3_; clear n0_ n1_ n2_ n3_; (try clear hb); (try clear hb2); (try clear hk); (try clear hi); have hcz46_0 : w45.cell? ⟨gb555, 0, none⟩ = some (.int .i64 t545) := (blk_cell BK555.out 0).trans rfl; have hcz46_1 : w45.cell? ⟨gb555, 1, none⟩ = some (.int .i64 t546) := (blk_cell BK555.out 1).trans rfl; have hcz46_2 : w45.cell? ⟨gb555, 2, none⟩ = some (.int .i64 t547) := (blk_cell BK555.out 2).trans rfl; have hcz46_3 : w45.cell? ⟨gb555, 3, none⟩ = some (.int .i64 t548) := (blk_cell BK555.out 3).trans rfl; have hcz46_4 : w45.cell? ⟨gb555, 4, none⟩ = some (.int .i64 t549) := (blk_cell BK555.out 4).trans rfl; have hcz46_5 : w45.cell? ⟨gb555, 5, none⟩ = some (.int .i64 t550) := (blk_cell BK555.out 5).trans rfl; have hcz46_6 : w45.cell? ⟨gb555, 6, none⟩ = some (.int .i64 t551) := (blk_cell BK555.out 6).trans rfl; have hcz46_7 : w45.cell? ⟨gb555, 7, none⟩ = some (.int .i64 t552) := (blk_cell BK555.out 7).trans rfl; have hcz46_8 : w45.cell? ⟨gb555, 8, none⟩ = some (.int .u64 t553) := (blk_cell BK555.out 8).trans rfl; have hfz46_0 := blk_frozen BK555.out 0; have hfz46_1 := blk_frozen BK555.out 1; have hfz46_2 := blk_frozen BK555.out 2; have hfz46_3 := blk_frozen BK555.out 3; have hfz46_4 := blk_frozen BK555.out 4; have hfz46_5 := blk_frozen BK555.out 5; have hfz46_6 := blk_frozen BK555.out 6; have hfz46_7 := blk_frozen BK555.out 7; have hfz46_8 := blk_frozen BK555.out 8) | (go_at_call 22; (with_reducible refine (media_Encode.calls k t545 t546 t547 t548 t549 t550 t551 t552 t553 t565 _ A20.out).mono ?_); rintro e w47 ⟨v566, rfl, ho0, hb⟩; have n0_ := Aside0.mk (Kd.R_elder' (by (with_reducible repeat (first | apply Kd.R_alloc | apply Kd.R_drewN | apply Kd.R_drew)); exact HO560.out) (Kd.R_base ho0) hb); have n1_ := Aside0.mk (Kd.R_elder' (by (with_reducible repeat (first | apply Kd.R_alloc | apply Kd.R_drewN | apply Kd.R_drew)); exact HO563.out) (Kd.R_base ho0) hb); have n2_ := Aside0.mk (Kd.R_lower (Kd.R_new' (Kd.R_new' ho0 (Kd.R_lt (by (with_reducible repeat (first | apply Kd.R_alloc | apply Kd.R_drewN | apply Kd.R_drew)); exact HO560.out))) (Kd.R_lt (by (with_reducible repeat (first | apply Kd.R_alloc | apply Kd.R_drewN | apply Kd.R_drew)); exact HO563.out))) (below_size (by repeat (first | (with_reducible first | exact HB.out | apply below_alloc | apply pw_below_drewN | apply below_drew1 | refine below_set ?_ GE555.out) | exact HB.out)))); have n3_ := Aside0.mk (blk_below (g := gb555) (o := .cells #[.int .i64 t545, .int .i64 t546, .int .i64 t547, .int .i64 t548, .int .i64 t549, .int .i64 t550, .int .i64 t551, .int .i64 t552, .int .u64 t553] 24 (0, 0)) (by (with_reducible repeat (first | refine blk_drewN ?_ _ | refine blk_drew ?_ | refine blk_alloc ?_ _)); exact BK555.out) hb); have n4_ := Aside0.mk (below_step (by repeat (first | (with_reducible first | exact HB.out | apply below_alloc | apply pw_below_drewN | apply below_drew1 | refine below_set ?_ GE555.out) | exact HB.out)) hb); clear HO560; clear HO563; clear BK555; clear HB; have HO560 := n0_; have HO563 := n1_; have HO567 := n2_; have BK555 := n3_; have HB := n4_; clear n0_ n1_ n2_ n3_ n4_; (try clear hb); (try clear hb2); (try clear hk); (try clear hi); (try clear ho0); obtain ⟨Ao48, co48, eo48⟩ := Kd.R_slice HO567.out; subst eo48) | (go_at_call 18; (with_reducible refine (skiarearef03_Same.calls _ _ t565 _ _ l0 true _ ?side1 ?side2 ?side3 ?side4 A21.out).mono ?_); (case side1 => repeat (first | exact (Kd.R_reads' HO567.out).2.2 | (with_reducible refine Kd.C_alloc ?_ _) | (with_reducible refine Kd.C_drewN ?_ _) | (with_reducible refine Kd.C_drew ?_))); (case side2 => exact (Kd.R_reads' HO567.out).2.1); (case side3 => repeat (first | exact (Kd.C_below HR0.out HB.out) | (with_reducible refine Kd.C_alloc ?_ _) | (with_reducible refine Kd.C_drewN ?_ _) | (with_reducible refine Kd.C_drew ?_))); (case side4 => exact HC0.out); rintro e w' ⟨rfl, ⟨nd, rfl⟩⟩))
                  go_meet
                  case rel => exact ⟨_, (true), (by first | rfl | (simp; done) | (simp [*]; done)), H', ⟨by first | omega | exact Nat.le_refl _⟩, ⟨by (with_reducible repeat (first | apply Kd.R_alloc | apply Kd.R_drewN | apply Kd.R_drew)); exact Kd.R_mono HO560.out (fun _ hk => hk.1.2)⟩, ⟨by (with_reducible repeat (first | apply Kd.R_alloc | apply Kd.R_drewN | apply Kd.R_drew)); exact Kd.R_mono HO563.out (fun _ hk => hk.1.2)⟩, ⟨by (with_reducible repeat (first | refine blk_drewN ?_ _ | refine blk_drew ?_ | refine blk_alloc ?_ _)); exact BK555.out⟩, ⟨by repeat (first | (with_reducible first | exact HB.out | apply below_alloc | apply pw_below_drewN | apply below_drew1 | refine below_set ?_ GE555.out) | exact HB.out)⟩⟩
              · rw [if_neg c23] at H
                have c23b0 : (t558 == 0) = false := beq_eq_false_iff_ne.mpr c23
                have c23b1 : (t558 != 0) = true := bne_iff_ne.mpr c23
                have H' := Aside0.mk H
                clear H
                have hcz49_0 : w17.cell? ⟨gb555, 0, none⟩ = some (.int .i64 t545) := (blk_cell BK555.out 0).trans rfl
                have hcz49_1 : w17.cell? ⟨gb555, 1, none⟩ = some (.int .i64 t546) := (blk_cell BK555.out 1).trans rfl
                have hcz49_2 : w17.cell? ⟨gb555, 2, none⟩ = some (.int .i64 t547) := (blk_cell BK555.out 2).trans rfl
                have hcz49_3 : w17.cell? ⟨gb555, 3, none⟩ = some (.int .i64 t548) := (blk_cell BK555.out 3).trans rfl
                have hcz49_4 : w17.cell? ⟨gb555, 4, none⟩ = some (.int .i64 t549) := (blk_cell BK555.out 4).trans rfl
                have hcz49_5 : w17.cell? ⟨gb555, 5, none⟩ = some (.int .i64 t550) := (blk_cell BK555.out 5).trans rfl
                have hcz49_6 : w17.cell? ⟨gb555, 6, none⟩ = some (.int .i64 t551) := (blk_cell BK555.out 6).trans rfl
                have hcz49_7 : w17.cell? ⟨gb555, 7, none⟩ = some (.int .i64 t552) := (blk_cell BK555.out 7).trans rfl
                have hcz49_8 : w17.cell? ⟨gb555, 8, none⟩ = some (.int .u64 t553) := (blk_cell BK555.out 8).trans rfl
                have hfz49_0 := blk_frozen BK555.out 0
                have hfz49_1 := blk_frozen BK555.out 1
                have hfz49_2 := blk_frozen BK555.out 2
                have hfz49_3 := blk_frozen BK555.out 3
                have hfz49_4 := blk_frozen BK555.out 4
                have hfz49_5 := blk_frozen BK555.out 5
                have hfz49_6 := blk_frozen BK555.out 6
                have hfz49_7 := blk_frozen BK555.out 7
                have hfz49_8 := blk_frozen BK555.out 8
                go_wp2_with (first | ((with_reducible refine gate_callee (f := 11) rfl ?_); refine goesL_ (some 35) rfl rfl Try.func11 (by kernel_rfl) rfl #[.agg #[.int .i64 t545, .int .i64 t546, .int .i64 t547, .int .i64 t548, .int .i64 t549, .int .i64 t550, .int .i64 t551, .int .i64 t552, .int .u64 t553]] rfl (by (try simp only [List.map_toArray, List.map_cons, List.map_nil]); first | done | rfl | (simp only [List.length_drop, List.length_take]; rfl)) ?_; (with_reducible refine (media_Right.calls k t545 t546 t547 t548 t549 t550 t551 t552 t553 t564 _ A18.out).mono ?_); rintro e w50 ⟨rfl, hb⟩; refine ⟨_, rfl, ?_⟩; have n0_ := Aside0.mk (Kd.R_below (by (with_reducible repeat (first | apply Kd.R_alloc | apply Kd.R_drewN | apply Kd.R_drew)); exact HO560.out) hb); have n1_ := Aside0.mk (Kd.R_below (by (with_reducible repeat (first | apply Kd.R_alloc | apply Kd.R_drewN | apply Kd.R_drew)); exact HO563.out) hb); have n2_ := Aside0.mk (blk_below (g := gb555) (o := .cells #[.int .i64 t545, .int .i64 t546, .int .i64 t547, .int .i64 t548, .int .i64 t549, .int .i64 t550, .int .i64 t551, .int .i64 t552, .int .u64 t553] 24 (0, 0)) (by (with_reducible repeat (first | refine blk_drewN ?_ _ | refine blk_drew ?_ | refine blk_alloc ?_ _)); exact BK555.out) hb); have n3_ := Aside0.mk (below_step (by repeat (first | (with_reducible first | exact HB.out | apply below_alloc | apply pw_below_drewN | apply below_drew1 | refine below_set ?_ GE555.out) | exact HB.out)) hb); clear HO560; clear HO563; clear BK555; clear HB; have HO560 := n0_; have HO563 := n1_; have BK555 := n2_; have HB := n3_; clear n0_ n1_ n2_ n3_; (try clear hb); (try clear hb2); (try clear hk); (try clear hi); have hcz51_0 : w50.cell? ⟨gb555, 0, none⟩ = some (.int .i64 t545) := (blk_cell BK555.out 0).trans rfl; have hcz51_1 : w50.cell? ⟨gb555, 1, none⟩ = some (.int .i64 t546) := (blk_cell BK555.out 1).trans rfl; have hcz51_2 : w50.cell? ⟨gb555, 2, none⟩ = some (.int .i64 t547) := (blk_cell BK555.out 2).trans rfl; have hcz51_3 : w50.cell? ⟨gb555, 3, none⟩ = some (.int .i64 t548) := (blk_cell BK555.out 3).trans rfl; have hcz51_4 : w50.cell? ⟨gb555, 4, none⟩ = some (.int .i64 t549) := (blk_cell BK555.out 4).trans rfl; have hcz51_5 : w50.cell? ⟨gb555, 5, none⟩ = some (.int .i64 t550) := (blk_cell BK555.out 5).trans rfl; have hcz51_6 : w50.cell? ⟨gb555, 6, none⟩ = some (.int .i64 t551) := (blk_cell BK555.out 6).trans rfl; have hcz51_7 : w50.cell? ⟨gb555, 7, none⟩ = some (.int .i64 t552) := (blk_cell BK555.out 7).trans rfl; have hcz51_8 : w50.cell? ⟨gb555, 8, none⟩ = some (.int .u64 t553) := (blk_cell BK555.out 8).trans rfl; have hfz51_0 := blk_frozen BK555.out 0; have hfz51_1 := blk_frozen BK555.out 1; have hfz51_2 := blk_frozen BK555.out 2; have hfz51_3 := blk_frozen BK555.out 3; have hfz51_4 := blk_frozen BK555.out 4; have hfz51_5 := blk_frozen BK555.out 5; have hfz51_6 := blk_frozen BK555.out 6; have hfz51_7 := blk_frozen BK555.out 7; have hfz51_8 := blk_frozen BK555.out 8) | (go_at_call 22; (with_reducible refine (media_Encode.calls k t545 t546 t547 t548 t549 t550 t551 t552 t553 t565 _ A20.out).mono ?_); rintro e w52 ⟨v566, rfl, ho0, hb⟩; have n0_ := Aside0.mk (Kd.R_elder' (by (with_reducible repeat (first | apply Kd.R_alloc | apply Kd.R_drewN | apply Kd.R_drew)); exact HO560.out) (Kd.R_base ho0) hb); have n1_ := Aside0.mk (Kd.R_elder' (by (with_reducible repeat (first | apply Kd.R_alloc | apply Kd.R_drewN | apply Kd.R_drew)); exact HO563.out) (Kd.R_base ho0) hb); have n2_ := Aside0.mk (Kd.R_lower (Kd.R_new' (Kd.R_new' ho0 (Kd.R_lt (by (with_reducible repeat (first | apply Kd.R_alloc | apply Kd.R_drewN | apply Kd.R_drew)); exact HO560.out))) (Kd.R_lt (by (with_reducible repeat (first | apply Kd.R_alloc | apply Kd.R_drewN | apply Kd.R_drew)); exact HO563.out))) (below_size (by repeat (first | (with_reducible first | exact HB.out | apply below_alloc | apply pw_below_drewN | apply below_drew1 | refine below_set ?_ GE555.out) | exact HB.out)))); have n3_ := Aside0.mk (blk_below (g := gb555) (o := .cells #[.int .i64 t545, .int .i64 t546, .int .i64 t547, .int .i64 t548, .int .i64 t549, .int .i64 t550, .int .i64 t551, .int .i64 t552, .int .u64 t553] 24 (0, 0)) (by (with_reducible repeat (first | refine blk_drewN ?_ _ | refine blk_drew ?_ | refine blk_alloc ?_ _)); exact BK555.out) hb); have n4_ := Aside0.mk (below_step (by repeat (first | (with_reducible first | exact HB.out | apply below_alloc | apply pw_below_drewN | apply below_drew1 | refine below_set ?_ GE555.out) | exact HB.out)) hb); clear HO560; clear HO563; clear BK555; clear HB; have HO560 := n0_; have HO563 := n1_; have HO567 := n2_; have BK555 := n3_; have HB := n4_; clear n0_ n1_ n2_ n3_ n4_; (try clear hb); (try clear hb2); (try clear hk); (try clear hi); (try clear ho0); obtain ⟨Ao53, co53, eo53⟩ := Kd.R_slice HO567.out; subst eo53) | (go_at_call 18; (with_reducible refine (skiarearef03_Same.calls _ _ t565 _ _ l0 true _ ?side1 ?side2 ?side3 ?side4 A21.out).mono ?_); (case side1 => repeat (first | exact (Kd.R_reads' HO567.out).2.2 | (with_reducible refine Kd.C_alloc ?_ _) | (with_reducible refine Kd.C_drewN ?_ _) | (with_reducible refine Kd.C_drew ?_))); (case side2 => exact (Kd.R_reads' HO567.out).2.1); (case side3 => repeat (first | exact (Kd.C_below HR0.out HB.out) | (with_reducible refine Kd.C_alloc ?_ _) | (with_reducible refine Kd.C_drewN ?_ _) | (with_reducible refine Kd.C_drew ?_))); (case side4 => exact HC0.out); rintro e w' ⟨rfl, ⟨nd, rfl⟩⟩))
                go_meet
                case rel => exact ⟨_, (true), (by first | rfl | (simp; done) | (simp [*]; done)), H', ⟨by first | omega | exact Nat.le_refl _⟩, ⟨by (with_reducible repeat (first | apply Kd.R_alloc | apply Kd.R_drewN | apply Kd.R_drew)); exact Kd.R_mono HO560.out (fun _ hk => hk.1.2)⟩, ⟨by (with_reducible repeat (first | apply Kd.R_alloc | apply Kd.R_drewN | apply Kd.R_drew)); exact Kd.R_mono HO563.out (fun _ hk => hk.1.2)⟩, ⟨by (with_reducible repeat (first | refine blk_drewN ?_ _ | refine blk_drew ?_ | refine blk_alloc ?_ _)); exact BK555.out⟩, ⟨by repeat (first | (with_reducible first | exact HB.out | apply below_alloc | apply pw_below_drewN | apply below_drew1 | refine below_set ?_ GE555.out) | exact HB.out)⟩⟩
            · replace c22 := Bool.eq_false_iff.mpr c22
              subst c22
              have H1 : (skiarealaw25_MediaForms.j0 k t556 t561 true t545 t546 t547 t548 t549 t550 t551 t552 t553) = some r := by rw [if_neg (show ¬ (false = true) by decide)] at H; exact H
              clear H
              have H := H1
              clear H1
              have H' := Aside0.mk H
              clear H
              have hcz54_0 : w17.cell? ⟨gb555, 0, none⟩ = some (.int .i64 t545) := (blk_cell BK555.out 0).trans rfl
              have hcz54_1 : w17.cell? ⟨gb555, 1, none⟩ = some (.int .i64 t546) := (blk_cell BK555.out 1).trans rfl
              have hcz54_2 : w17.cell? ⟨gb555, 2, none⟩ = some (.int .i64 t547) := (blk_cell BK555.out 2).trans rfl
              have hcz54_3 : w17.cell? ⟨gb555, 3, none⟩ = some (.int .i64 t548) := (blk_cell BK555.out 3).trans rfl
              have hcz54_4 : w17.cell? ⟨gb555, 4, none⟩ = some (.int .i64 t549) := (blk_cell BK555.out 4).trans rfl
              have hcz54_5 : w17.cell? ⟨gb555, 5, none⟩ = some (.int .i64 t550) := (blk_cell BK555.out 5).trans rfl
              have hcz54_6 : w17.cell? ⟨gb555, 6, none⟩ = some (.int .i64 t551) := (blk_cell BK555.out 6).trans rfl
              have hcz54_7 : w17.cell? ⟨gb555, 7, none⟩ = some (.int .i64 t552) := (blk_cell BK555.out 7).trans rfl
              have hcz54_8 : w17.cell? ⟨gb555, 8, none⟩ = some (.int .u64 t553) := (blk_cell BK555.out 8).trans rfl
              have hfz54_0 := blk_frozen BK555.out 0
              have hfz54_1 := blk_frozen BK555.out 1
              have hfz54_2 := blk_frozen BK555.out 2
              have hfz54_3 := blk_frozen BK555.out 3
              have hfz54_4 := blk_frozen BK555.out 4
              have hfz54_5 := blk_frozen BK555.out 5
              have hfz54_6 := blk_frozen BK555.out 6
              have hfz54_7 := blk_frozen BK555.out 7
              have hfz54_8 := blk_frozen BK555.out 8
              go_wp2_with (first | ((with_reducible refine gate_callee (f := 11) rfl ?_); refine goesL_ (some 35) rfl rfl Try.func11 (by kernel_rfl) rfl #[.agg #[.int .i64 t545, .int .i64 t546, .int .i64 t547, .int .i64 t548, .int .i64 t549, .int .i64 t550, .int .i64 t551, .int .i64 t552, .int .u64 t553]] rfl (by (try simp only [List.map_toArray, List.map_cons, List.map_nil]); first | done | rfl | (simp only [List.length_drop, List.length_take]; rfl)) ?_; (with_reducible refine (media_Right.calls k t545 t546 t547 t548 t549 t550 t551 t552 t553 t564 _ A18.out).mono ?_); rintro e w55 ⟨rfl, hb⟩; refine ⟨_, rfl, ?_⟩; have n0_ := Aside0.mk (Kd.R_below (by (with_reducible repeat (first | apply Kd.R_alloc | apply Kd.R_drewN | apply Kd.R_drew)); exact HO560.out) hb); have n1_ := Aside0.mk (Kd.R_below (by (with_reducible repeat (first | apply Kd.R_alloc | apply Kd.R_drewN | apply Kd.R_drew)); exact HO563.out) hb); have n2_ := Aside0.mk (blk_below (g := gb555) (o := .cells #[.int .i64 t545, .int .i64 t546, .int .i64 t547, .int .i64 t548, .int .i64 t549, .int .i64 t550, .int .i64 t551, .int .i64 t552, .int .u64 t553] 24 (0, 0)) (by (with_reducible repeat (first | refine blk_drewN ?_ _ | refine blk_drew ?_ | refine blk_alloc ?_ _)); exact BK555.out) hb); have n3_ := Aside0.mk (below_step (by repeat (first | (with_reducible first | exact HB.out | apply below_alloc | apply pw_below_drewN | apply below_drew1 | refine below_set ?_ GE555.out) | exact HB.out)) hb); clear HO560; clear HO563; clear BK555; clear HB; have HO560 := n0_; have HO563 := n1_; have BK555 := n2_; have HB := n3_; clear n0_ n1_ n2_ n3_; (try clear hb); (try clear hb2); (try clear hk); (try clear hi); have hcz56_0 : w55.cell? ⟨gb555, 0, none⟩ = some (.int .i64 t545) := (blk_cell BK555.out 0).trans rfl; have hcz56_1 : w55.cell? ⟨gb555, 1, none⟩ = some (.int .i64 t546) := (blk_cell BK555.out 1).trans rfl; have hcz56_2 : w55.cell? ⟨gb555, 2, none⟩ = some (.int .i64 t547) := (blk_cell BK555.out 2).trans rfl; have hcz56_3 : w55.cell? ⟨gb555, 3, none⟩ = some (.int .i64 t548) := (blk_cell BK555.out 3).trans rfl; have hcz56_4 : w55.cell? ⟨gb555, 4, none⟩ = some (.int .i64 t549) := (blk_cell BK555.out 4).trans rfl; have hcz56_5 : w55.cell? ⟨gb555, 5, none⟩ = some (.int .i64 t550) := (blk_cell BK555.out 5).trans rfl; have hcz56_6 : w55.cell? ⟨gb555, 6, none⟩ = some (.int .i64 t551) := (blk_cell BK555.out 6).trans rfl; have hcz56_7 : w55.cell? ⟨gb555, 7, none⟩ = some (.int .i64 t552) := (blk_cell BK555.out 7).trans rfl; have hcz56_8 : w55.cell? ⟨gb555, 8, none⟩ = some (.int .u64 t553) := (blk_cell BK555.out 8).trans rfl; have hfz56_0 := blk_frozen BK555.out 0; have hfz56_1 := blk_frozen BK555.out 1; have hfz56_2 := blk_frozen BK555.out 2; have hfz56_3 := blk_frozen BK555.out 3; have hfz56_4 := blk_frozen BK555.out 4; have hfz56_5 := blk_frozen BK555.out 5; have hfz56_6 := blk_frozen BK555.out 6; have hfz56_7 := blk_frozen BK555.out 7; have hfz56_8 := blk_frozen BK555.out 8) | (go_at_call 22; (with_reducible refine (media_Encode.calls k t545 t546 t547 t548 t549 t550 t551 t552 t553 t565 _ A20.out).mono ?_); rintro e w57 ⟨v566, rfl, ho0, hb⟩; have n0_ := Aside0.mk (Kd.R_elder' (by (with_reducible repeat (first | apply Kd.R_alloc | apply Kd.R_drewN | apply Kd.R_drew)); exact HO560.out) (Kd.R_base ho0) hb); have n1_ := Aside0.mk (Kd.R_elder' (by (with_reducible repeat (first | apply Kd.R_alloc | apply Kd.R_drewN | apply Kd.R_drew)); exact HO563.out) (Kd.R_base ho0) hb); have n2_ := Aside0.mk (Kd.R_lower (Kd.R_new' (Kd.R_new' ho0 (Kd.R_lt (by (with_reducible repeat (first | apply Kd.R_alloc | apply Kd.R_drewN | apply Kd.R_drew)); exact HO560.out))) (Kd.R_lt (by (with_reducible repeat (first | apply Kd.R_alloc | apply Kd.R_drewN | apply Kd.R_drew)); exact HO563.out))) (below_size (by repeat (first | (with_reducible first | exact HB.out | apply below_alloc | apply pw_below_drewN | apply below_drew1 | refine below_set ?_ GE555.out) | exact HB.out)))); have n3_ := Aside0.mk (blk_below (g := gb555) (o := .cells #[.int .i64 t545, .int .i64 t546, .int .i64 t547, .int .i64 t548, .int .i64 t549, .int .i64 t550, .int .i64 t551, .int .i64 t552, .int .u64 t553] 24 (0, 0)) (by (with_reducible repeat (first | refine blk_drewN ?_ _ | refine blk_drew ?_ | refine blk_alloc ?_ _)); exact BK555.out) hb); have n4_ := Aside0.mk (below_step (by repeat (first | (with_reducible first | exact HB.out | apply below_alloc | apply pw_below_drewN | apply below_drew1 | refine below_set ?_ GE555.out) | exact HB.out)) hb); clear HO560; clear HO563; clear BK555; clear HB; have HO560 := n0_; have HO563 := n1_; have HO567 := n2_; have BK555 := n3_; have HB := n4_; clear n0_ n1_ n2_ n3_ n4_; (try clear hb); (try clear hb2); (try clear hk); (try clear hi); (try clear ho0); obtain ⟨Ao58, co58, eo58⟩ := Kd.R_slice HO567.out; subst eo58) | (go_at_call 18; (with_reducible refine (skiarearef03_Same.calls _ _ t565 _ _ l0 false _ ?side1 ?side2 ?side3 ?side4 A21.out).mono ?_); (case side1 => repeat (first | exact (Kd.R_reads' HO567.out).2.2 | (with_reducible refine Kd.C_alloc ?_ _) | (with_reducible refine Kd.C_drewN ?_ _) | (with_reducible refine Kd.C_drew ?_))); (case side2 => exact (Kd.R_reads' HO567.out).2.1); (case side3 => repeat (first | exact (Kd.C_below HR0.out HB.out) | (with_reducible refine Kd.C_alloc ?_ _) | (with_reducible refine Kd.C_drewN ?_ _) | (with_reducible refine Kd.C_drew ?_))); (case side4 => exact HC0.out); rintro e w' ⟨rfl, ⟨nd, rfl⟩⟩))
              go_meet
              case rel => exact ⟨_, (true), (by first | rfl | (simp; done) | (simp [*]; done)), H', ⟨by first | omega | exact Nat.le_refl _⟩, ⟨by (with_reducible repeat (first | apply Kd.R_alloc | apply Kd.R_drewN | apply Kd.R_drew)); exact Kd.R_mono HO560.out (fun _ hk => hk.1.2)⟩, ⟨by (with_reducible repeat (first | apply Kd.R_alloc | apply Kd.R_drewN | apply Kd.R_drew)); exact Kd.R_mono HO563.out (fun _ hk => hk.1.2)⟩, ⟨by (with_reducible repeat (first | refine blk_drewN ?_ _ | refine blk_drew ?_ | refine blk_alloc ?_ _)); exact BK555.out⟩, ⟨by repeat (first | (with_reducible first | exact HB.out | apply below_alloc | apply pw_below_drewN | apply below_drew1 | refine below_set ?_ GE555.out) | exact HB.out)⟩⟩
          · rw [if_neg c19] at H
            have c19b0 : (t564 == 0) = false := beq_eq_false_iff_ne.mpr c19
            have c19b1 : (t564 != 0) = true := bne_iff_ne.mpr c19
            (first | rw [c19b0] | (simp only [i64_w, i32_w, IntKind.wrap_u8, IntKind.wrap_u32]; rw [c19b0]) | skip)
            have H' := Aside0.mk H
            clear H
            have hcz59_0 : w17.cell? ⟨gb555, 0, none⟩ = some (.int .i64 t545) := (blk_cell BK555.out 0).trans rfl
            have hcz59_1 : w17.cell? ⟨gb555, 1, none⟩ = some (.int .i64 t546) := (blk_cell BK555.out 1).trans rfl
            have hcz59_2 : w17.cell? ⟨gb555, 2, none⟩ = some (.int .i64 t547) := (blk_cell BK555.out 2).trans rfl
            have hcz59_3 : w17.cell? ⟨gb555, 3, none⟩ = some (.int .i64 t548) := (blk_cell BK555.out 3).trans rfl
            have hcz59_4 : w17.cell? ⟨gb555, 4, none⟩ = some (.int .i64 t549) := (blk_cell BK555.out 4).trans rfl
            have hcz59_5 : w17.cell? ⟨gb555, 5, none⟩ = some (.int .i64 t550) := (blk_cell BK555.out 5).trans rfl
            have hcz59_6 : w17.cell? ⟨gb555, 6, none⟩ = some (.int .i64 t551) := (blk_cell BK555.out 6).trans rfl
            have hcz59_7 : w17.cell? ⟨gb555, 7, none⟩ = some (.int .i64 t552) := (blk_cell BK555.out 7).trans rfl
            have hcz59_8 : w17.cell? ⟨gb555, 8, none⟩ = some (.int .u64 t553) := (blk_cell BK555.out 8).trans rfl
            have hfz59_0 := blk_frozen BK555.out 0
            have hfz59_1 := blk_frozen BK555.out 1
            have hfz59_2 := blk_frozen BK555.out 2
            have hfz59_3 := blk_frozen BK555.out 3
            have hfz59_4 := blk_frozen BK555.out 4
            have hfz59_5 := blk_frozen BK555.out 5
            have hfz59_6 := blk_frozen BK555.out 6
            have hfz59_7 := blk_frozen BK555.out 7
            have hfz59_8 := blk_frozen BK555.out 8
            go_wp2_with (first | ((with_reducible refine gate_callee (f := 11) rfl ?_); refine goesL_ (some 35) rfl rfl Try.func11 (by kernel_rfl) rfl #[.agg #[.int .i64 t545, .int .i64 t546, .int .i64 t547, .int .i64 t548, .int .i64 t549, .int .i64 t550, .int .i64 t551, .int .i64 t552, .int .u64 t553]] rfl (by (try simp only [List.map_toArray, List.map_cons, List.map_nil]); first | done | rfl | (simp only [List.length_drop, List.length_take]; rfl)) ?_; (with_reducible refine (media_Right.calls k t545 t546 t547 t548 t549 t550 t551 t552 t553 t564 _ A18.out).mono ?_); rintro e w60 ⟨rfl, hb⟩; refine ⟨_, rfl, ?_⟩; have n0_ := Aside0.mk (Kd.R_below (by (with_reducible repeat (first | apply Kd.R_alloc | apply Kd.R_drewN | apply Kd.R_drew)); exact HO560.out) hb); have n1_ := Aside0.mk (Kd.R_below (by (with_reducible repeat (first | apply Kd.R_alloc | apply Kd.R_drewN | apply Kd.R_drew)); exact HO563.out) hb); have n2_ := Aside0.mk (blk_below (g := gb555) (o := .cells #[.int .i64 t545, .int .i64 t546, .int .i64 t547, .int .i64 t548, .int .i64 t549, .int .i64 t550, .int .i64 t551, .int .i64 t552, .int .u64 t553] 24 (0, 0)) (by (with_reducible repeat (first | refine blk_drewN ?_ _ | refine blk_drew ?_ | refine blk_alloc ?_ _)); exact BK555.out) hb); have n3_ := Aside0.mk (below_step (by repeat (first | (with_reducible first | exact HB.out | apply below_alloc | apply pw_below_drewN | apply below_drew1 | refine below_set ?_ GE555.out) | exact HB.out)) hb); clear HO560; clear HO563; clear BK555; clear HB; have HO560 := n0_; have HO563 := n1_; have BK555 := n2_; have HB := n3_; clear n0_ n1_ n2_ n3_; (try clear hb); (try clear hb2); (try clear hk); (try clear hi)))
            go_meet
            case rel => exact ⟨_, (true), (by first | rfl | (simp; done) | (simp [*]; done)), H', ⟨by first | omega | exact Nat.le_refl _⟩, ⟨by (with_reducible repeat (first | apply Kd.R_alloc | apply Kd.R_drewN | apply Kd.R_drew)); exact Kd.R_mono HO560.out (fun _ hk => hk.2)⟩, ⟨by (with_reducible repeat (first | apply Kd.R_alloc | apply Kd.R_drewN | apply Kd.R_drew)); exact Kd.R_mono HO563.out (fun _ hk => hk.2)⟩, ⟨by (with_reducible repeat (first | refine blk_drewN ?_ _ | refine blk_drew ?_ | refine blk_alloc ?_ _)); exact BK555.out⟩, ⟨by repeat (first | (with_reducible first | exact HB.out | apply below_alloc | apply pw_below_drewN | apply below_drew1 | refine below_set ?_ GE555.out) | exact HB.out)⟩⟩
        case rest =>
          clear HC10
          try clear c1
          try clear c2
          try clear p2
          try clear c3
          try clear q3
          try clear c4
          try clear c4b0
          try clear c4b1
          try clear p6
          try clear c7
          try clear c7b0
          try clear c7b1
          try clear c9
          try clear c10
          try clear c11
          try clear c19
          try clear c19b0
          try clear c19b1
          try clear c22
          try clear c23
          try clear c23b0
          try clear c23b1
          try clear c24
          try clear c24b0
          try clear c24b1
          try clear c25
          try clear c25b0
          try clear c25b1
          try clear c26
          try clear c26b0
          try clear c26b1
          try clear c27
          try clear c27b0
          try clear c27b1
          try clear q36
          try clear hcz14_0
          try clear hcz14_1
          try clear hcz14_2
          try clear hcz14_3
          try clear hcz14_4
          try clear hcz14_5
          try clear hcz14_6
          try clear hcz14_7
          try clear hcz14_8
          try clear hcz16_0
          try clear hcz16_1
          try clear hcz16_2
          try clear hcz16_3
          try clear hcz16_4
          try clear hcz16_5
          try clear hcz16_6
          try clear hcz16_7
          try clear hcz16_8
          try clear hcz29_0
          try clear hcz29_1
          try clear hcz29_2
          try clear hcz29_3
          try clear hcz29_4
          try clear hcz29_5
          try clear hcz29_6
          try clear hcz29_7
          try clear hcz29_8
          try clear hcz31_0
          try clear hcz31_1
          try clear hcz31_2
          try clear hcz31_3
          try clear hcz31_4
          try clear hcz31_5
          try clear hcz31_6
          try clear hcz31_7
          try clear hcz31_8
          try clear hcz37_0
          try clear hcz37_1
          try clear hcz37_2
          try clear hcz37_3
          try clear hcz37_4
          try clear hcz37_5
          try clear hcz37_6
          try clear hcz37_7
          try clear hcz37_8
          try clear hcz39_0
          try clear hcz39_1
          try clear hcz39_2
          try clear hcz39_3
          try clear hcz39_4
          try clear hcz39_5
          try clear hcz39_6
          try clear hcz39_7
          try clear hcz39_8
          try clear hcz44_0
          try clear hcz44_1
          try clear hcz44_2
          try clear hcz44_3
          try clear hcz44_4
          try clear hcz44_5
          try clear hcz44_6
          try clear hcz44_7
          try clear hcz44_8
          try clear hcz46_0
          try clear hcz46_1
          try clear hcz46_2
          try clear hcz46_3
          try clear hcz46_4
          try clear hcz46_5
          try clear hcz46_6
          try clear hcz46_7
          try clear hcz46_8
          try clear hcz49_0
          try clear hcz49_1
          try clear hcz49_2
          try clear hcz49_3
          try clear hcz49_4
          try clear hcz49_5
          try clear hcz49_6
          try clear hcz49_7
          try clear hcz49_8
          try clear hcz51_0
          try clear hcz51_1
          try clear hcz51_2
          try clear hcz51_3
          try clear hcz51_4
          try clear hcz51_5
          try clear hcz51_6
          try clear hcz51_7
          try clear hcz51_8
          try clear hcz54_0
          try clear hcz54_1
          try clear hcz54_2
          try clear hcz54_3
          try clear hcz54_4
          try clear hcz54_5
          try clear hcz54_6
          try clear hcz54_7
          try clear hcz54_8
          try clear hcz56_0
          try clear hcz56_1
          try clear hcz56_2
          try clear hcz56_3
          try clear hcz56_4
          try clear hcz56_5
          try clear hcz56_6
          try clear hcz56_7
          try clear hcz56_8
          try clear hcz59_0
          try clear hcz59_1
          try clear hcz59_2
          try clear hcz59_3
          try clear hcz59_4
          try clear hcz59_5
          try clear hcz59_6
          try clear hcz59_7
          try clear hcz59_8
          try clear hfz14_0
          try clear hfz14_1
          try clear hfz14_2
          try clear hfz14_3
          try clear hfz14_4
          try clear hfz14_5
          try clear hfz14_6
          try clear hfz14_7
          try clear hfz14_8
          try clear hfz16_0
          try clear hfz16_1
          try clear hfz16_2
          try clear hfz16_3
          try clear hfz16_4
          try clear hfz16_5
          try clear hfz16_6
          try clear hfz16_7
          try clear hfz16_8
          try clear hfz29_0
          try clear hfz29_1
          try clear hfz29_2
          try clear hfz29_3
          try clear hfz29_4
          try clear hfz29_5
          try clear hfz29_6
          try clear hfz29_7
          try clear hfz29_8
          try clear hfz31_0
          try clear hfz31_1
          try clear hfz31_2
          try clear hfz31_3
          try clear hfz31_4
          try clear hfz31_5
          try clear hfz31_6
          try clear hfz31_7
          try clear hfz31_8
          try clear hfz37_0
          try clear hfz37_1
          try clear hfz37_2
          try clear hfz37_3
          try clear hfz37_4
          try clear hfz37_5
          try clear hfz37_6
          try clear hfz37_7
          try clear hfz37_8
          try clear hfz39_0
          try clear hfz39_1
          try clear hfz39_2
          try clear hfz39_3
          try clear hfz39_4
          try clear hfz39_5
          try clear hfz39_6
          try clear hfz39_7
          try clear hfz39_8
          try clear hfz44_0
          try clear hfz44_1
          try clear hfz44_2
          try clear hfz44_3
          try clear hfz44_4
          try clear hfz44_5
          try clear hfz44_6
          try clear hfz44_7
          try clear hfz44_8
          try clear hfz46_0
          try clear hfz46_1
          try clear hfz46_2
          try clear hfz46_3
          try clear hfz46_4
          try clear hfz46_5
          try clear hfz46_6
          try clear hfz46_7
          try clear hfz46_8
          try clear hfz49_0
          try clear hfz49_1
          try clear hfz49_2
          try clear hfz49_3
          try clear hfz49_4
          try clear hfz49_5
          try clear hfz49_6
          try clear hfz49_7
          try clear hfz49_8
          try clear hfz51_0
          try clear hfz51_1
          try clear hfz51_2
          try clear hfz51_3
          try clear hfz51_4
          try clear hfz51_5
          try clear hfz51_6
          try clear hfz51_7
          try clear hfz51_8
          try clear hfz54_0
          try clear hfz54_1
          try clear hfz54_2
          try clear hfz54_3
          try clear hfz54_4
          try clear hfz54_5
          try clear hfz54_6
          try clear hfz54_7
          try clear hfz54_8
          try clear hfz56_0
          try clear hfz56_1
          try clear hfz56_2
          try clear hfz56_3
          try clear hfz56_4
          try clear hfz56_5
          try clear hfz56_6
          try clear hfz56_7
          try clear hfz56_8
          try clear hfz59_0
          try clear hfz59_1
          try clear hfz59_2
          try clear hfz59_3
          try clear hfz59_4
          try clear hfz59_5
          try clear hfz59_6
          try clear hfz59_7
          try clear hfz59_8
          try clear q36
          obtain ⟨kq, x70_9, rfl, HA, HJ9, HO_5, HO_8, BK555, HB⟩ := hcut
          cases kq with
          | zero => exact absurd HA.out (by simp [skiarealaw25_MediaForms.j0])
          | succ kj9 =>
            have H := HA.out
            clear HA
            simp only [skiarealaw25_MediaForms.j0] at H
            by_cases c61 : x70_9 = true
            · subst c61
              have H1 : (some false) = some r := by rw [if_pos rfl] at H; exact H
              clear H
              have H := H1
              clear H1
              obtain rfl := Option.some.inj H
              go_wp2
              go_ret
              exact ⟨by first | rfl | (simp [errW_none, errW_some] <;> rfl) | (simp [*, errW_none, errW_some] <;> rfl), by repeat (first | (with_reducible first | exact HB.out | apply below_alloc | apply pw_below_drewN | apply below_drew1 | refine below_set ?_ GE555.out) | exact HB.out)⟩
            · replace c61 := Bool.eq_false_iff.mpr c61
              subst c61
              have H1 : (skiarealaw25_MediaForms.l0 kj9 t556 0 (t561.length : Int) t545 t546 t547 t548 t549 t550 t551 t552 t553) = some r := by rw [if_neg (show ¬ (false = true) by decide)] at H; exact H
              clear H
              have H := H1
              clear H1
              have H' := Aside0.mk H
              clear H
              obtain ⟨Ao62, co62, eo62⟩ := Kd.R_slice HO_8.out
              subst eo62
              go_wp2
              go_loopg [9, 10] kj9 (fun kq v9 v10 w' => ∃ (x9_2 : Int) (x10_2 : Int), v9 = .int .u64 x9_2 ∧ v10 = .int .i64 x10_2 ∧ Aside0 (skiarealaw25_MediaForms.l0 kq t556 x9_2 x10_2 t545 t546 t547 t548 t549 t550 t551 t552 t553 = some r) ∧ Aside0 (kq ≤ kj9) ∧ Aside0 (Kd.R (Kd.int .u8) 5 w' w.heap.size (fun _ => True) v559 t556) ∧ Aside0 (w'.heap[gb555]? = some (.cells #[.int .i64 t545, .int .i64 t546, .int .i64 t547, .int .i64 t548, .int .i64 t549, .int .i64 t550, .int .i64 t551, .int .i64 t552, .int .u64 t553] 24 (0, 0))) ∧ Aside0 (Below w.heap.size w w'))
              case atStart => exact ⟨(0), ((t561.length : Int)), (by first | rfl | (simp; done) | (simp [*]; done)), (by first | rfl | (simp; done) | (simp [*]; done)), H', ⟨Nat.le_refl _⟩, ⟨by (with_reducible repeat (first | apply Kd.R_alloc | apply Kd.R_drewN | apply Kd.R_drew)); exact Kd.R_mono HO_5.out (fun _ hk => trivial)⟩, ⟨by (with_reducible repeat (first | refine blk_drewN ?_ _ | refine blk_drew ?_ | refine blk_alloc ?_ _)); exact BK555.out⟩, ⟨by repeat (first | (with_reducible first | exact HB.out | apply below_alloc | apply pw_below_drewN | apply below_drew1 | refine below_set ?_ GE555.out) | exact HB.out)⟩⟩
              case round =>
                clear H'
                try clear c1
                try clear c2
                try clear p2
                try clear c3
                try clear q3
                try clear c4
                try clear c4b0
                try clear c4b1
                try clear c6
                try clear p6
                try clear c7
                try clear c7b0
                try clear c7b1
                try clear c9
                try clear c10
                try clear c11
                try clear c19
                try clear c19b0
                try clear c19b1
                try clear c22
                try clear c23
                try clear c23b0
                try clear c23b1
                try clear c24
                try clear c24b0
                try clear c24b1
                try clear c25
                try clear c25b0
                try clear c25b1
                try clear c26
                try clear c26b0
                try clear c26b1
                try clear c27
                try clear c27b0
                try clear c27b1
                try clear q36
                try clear c61
                try clear hcz14_0
                try clear hcz14_1
                try clear hcz14_2
                try clear hcz14_3
                try clear hcz14_4
                try clear hcz14_5
                try clear hcz14_6
                try clear hcz14_7
                try clear hcz14_8
                try clear hcz16_0
                try clear hcz16_1
                try clear hcz16_2
                try clear hcz16_3
                try clear hcz16_4
                try clear hcz16_5
                try clear hcz16_6
                try clear hcz16_7
                try clear hcz16_8
                try clear hcz29_0
                try clear hcz29_1
                try clear hcz29_2
                try clear hcz29_3
                try clear hcz29_4
                try clear hcz29_5
                try clear hcz29_6
                try clear hcz29_7
                try clear hcz29_8
                try clear hcz31_0
                try clear hcz31_1
                try clear hcz31_2
                try clear hcz31_3
                try clear hcz31_4
                try clear hcz31_5
                try clear hcz31_6
                try clear hcz31_7
                try clear hcz31_8
                try clear hcz37_0
                try clear hcz37_1
                try clear hcz37_2
                try clear hcz37_3
                try clear hcz37_4
                try clear hcz37_5
                try clear hcz37_6
                try clear hcz37_7
                try clear hcz37_8
                try clear hcz39_0
                try clear hcz39_1
                try clear hcz39_2
                try clear hcz39_3
                try clear hcz39_4
                try clear hcz39_5
                try clear hcz39_6
                try clear hcz39_7
                try clear hcz39_8
                try clear hcz44_0
                try clear hcz44_1
                try clear hcz44_2
                try clear hcz44_3
                try clear hcz44_4
                try clear hcz44_5
                try clear hcz44_6
                try clear hcz44_7
                try clear hcz44_8
                try clear hcz46_0
                try clear hcz46_1
                try clear hcz46_2
                try clear hcz46_3
                try clear hcz46_4
                try clear hcz46_5
                try clear hcz46_6
                try clear hcz46_7
                try clear hcz46_8
                try clear hcz49_0
                try clear hcz49_1
                try clear hcz49_2
                try clear hcz49_3
                try clear hcz49_4
                try clear hcz49_5
                try clear hcz49_6
                try clear hcz49_7
                try clear hcz49_8
                try clear hcz51_0
                try clear hcz51_1
                try clear hcz51_2
                try clear hcz51_3
                try clear hcz51_4
                try clear hcz51_5
                try clear hcz51_6
                try clear hcz51_7
                try clear hcz51_8
                try clear hcz54_0
                try clear hcz54_1
                try clear hcz54_2
                try clear hcz54_3
                try clear hcz54_4
                try clear hcz54_5
                try clear hcz54_6
                try clear hcz54_7
                try clear hcz54_8
                try clear hcz56_0
                try clear hcz56_1
                try clear hcz56_2
                try clear hcz56_3
                try clear hcz56_4
                try clear hcz56_5
                try clear hcz56_6
                try clear hcz56_7
                try clear hcz56_8
                try clear hcz59_0
                try clear hcz59_1
                try clear hcz59_2
                try clear hcz59_3
                try clear hcz59_4
                try clear hcz59_5
                try clear hcz59_6
                try clear hcz59_7
                try clear hcz59_8
                try clear hfz14_0
                try clear hfz14_1
                try clear hfz14_2
                try clear hfz14_3
                try clear hfz14_4
                try clear hfz14_5
                try clear hfz14_6
                try clear hfz14_7
                try clear hfz14_8
                try clear hfz16_0
                try clear hfz16_1
                try clear hfz16_2
                try clear hfz16_3
                try clear hfz16_4
                try clear hfz16_5
                try clear hfz16_6
                try clear hfz16_7
                try clear hfz16_8
                try clear hfz29_0
                try clear hfz29_1
                try clear hfz29_2
                try clear hfz29_3
                try clear hfz29_4
                try clear hfz29_5
                try clear hfz29_6
                try clear hfz29_7
                try clear hfz29_8
                try clear hfz31_0
                try clear hfz31_1
                try clear hfz31_2
                try clear hfz31_3
                try clear hfz31_4
                try clear hfz31_5
                try clear hfz31_6
                try clear hfz31_7
                try clear hfz31_8
                try clear hfz37_0
                try clear hfz37_1
                try clear hfz37_2
                try clear hfz37_3
                try clear hfz37_4
                try clear hfz37_5
                try clear hfz37_6
                try clear hfz37_7
                try clear hfz37_8
                try clear hfz39_0
                try clear hfz39_1
                try clear hfz39_2
                try clear hfz39_3
                try clear hfz39_4
                try clear hfz39_5
                try clear hfz39_6
                try clear hfz39_7
                try clear hfz39_8
                try clear hfz44_0
                try clear hfz44_1
                try clear hfz44_2
                try clear hfz44_3
                try clear hfz44_4
                try clear hfz44_5
                try clear hfz44_6
                try clear hfz44_7
                try clear hfz44_8
                try clear hfz46_0
                try clear hfz46_1
                try clear hfz46_2
                try clear hfz46_3
                try clear hfz46_4
                try clear hfz46_5
                try clear hfz46_6
                try clear hfz46_7
                try clear hfz46_8
                try clear hfz49_0
                try clear hfz49_1
                try clear hfz49_2
                try clear hfz49_3
                try clear hfz49_4
                try clear hfz49_5
                try clear hfz49_6
                try clear hfz49_7
                try clear hfz49_8
                try clear hfz51_0
                try clear hfz51_1
                try clear hfz51_2
                try clear hfz51_3
                try clear hfz51_4
                try clear hfz51_5
                try clear hfz51_6
                try clear hfz51_7
                try clear hfz51_8
                try clear hfz54_0
                try clear hfz54_1
                try clear hfz54_2
                try clear hfz54_3
                try clear hfz54_4
                try clear hfz54_5
                try clear hfz54_6
                try clear hfz54_7
                try clear hfz54_8
                try clear hfz56_0
                try clear hfz56_1
                try clear hfz56_2
                try clear hfz56_3
                try clear hfz56_4
                try clear hfz56_5
                try clear hfz56_6
                try clear hfz56_7
                try clear hfz56_8
                try clear hfz59_0
                try clear hfz59_1
                try clear hfz59_2
                try clear hfz59_3
                try clear hfz59_4
                try clear hfz59_5
                try clear hfz59_6
                try clear hfz59_7
                try clear hfz59_8
                try clear p2
                try clear p6
                try clear q3
                try clear q36
                obtain ⟨x9_2, x10_2, rfl, rfl, HA, HK2, HO_5, BK555, HB⟩ := hrel
                cases gk with
                | zero => exact absurd HA.out (by simp [skiarealaw25_MediaForms.l0])
                | succ k2 =>
                  have H := HA.out
                  clear HA
                  simp only [skiarealaw25_MediaForms.l0] at H
                  by_cases c63 : x10_2 < (t556.length : Int)
                  · rw [if_pos c63] at H
                    have c63b0 : decide (x10_2 < (t556.length : Int)) = true := decide_eq_true c63
                    clear c63
                    by_cases c64 : 0 ≤ x10_2
                    · rw [if_pos c64] at H
                      have c64b0 : decide (0 ≤ x10_2) = true := decide_eq_true c64
                      clear c64
                      have H' := Aside0.mk H
                      clear H
                      obtain ⟨Ao65, co65, eo65⟩ := Kd.R_slice HO_5.out
                      subst eo65
                      have p574 : 0 ≤ (x10_2 : Int) := of_decide_eq_true (by first | (with_reducible assumption) | assumption)
                      have q574 : x10_2 < (t556.length : Int) := of_decide_eq_true (by first | (with_reducible assumption) | assumption)
                      obtain ⟨ad574, e574, hx574_0⟩ := Kd.at_int (Kd.R_reads' HO_5.out).2.2 x10_2 p574 q574
                      cases e574
                      replace p574 := eq_true p574
                      replace q574 := eq_true q574
                      go_wp2
                      go_roundg k2
                      case measure => have := HJ9.out; have := HK2.out; omega
                      case rel => exact ⟨(Go.bits .or .u64 (IntKind.u64.wrap (x9_2 * 256)) (IntKind.u64.wrap (rd t556 x10_2))), (wrap64 (x10_2 + 1)), (by first | rfl | (simp; done) | (simp [*]; done)), (by first | rfl | (simp; done) | (simp [*]; done)), H', ⟨by have := HJ9.out; have := HK2.out; omega⟩, ⟨by (with_reducible repeat (first | apply Kd.R_alloc | apply Kd.R_drewN | apply Kd.R_drew)); exact HO_5.out⟩, ⟨by (with_reducible repeat (first | refine blk_drewN ?_ _ | refine blk_drew ?_ | refine blk_alloc ?_ _)); exact BK555.out⟩, ⟨by repeat (first | (with_reducible first | exact HB.out | apply below_alloc | apply pw_below_drewN | apply below_drew1 | refine below_set ?_ GE555.out) | exact HB.out)⟩⟩
                    · rw [if_neg c64] at H
                      exact absurd H (by simp)
                  · rw [if_neg c63] at H
                    have c63b0 : decide (x10_2 < (t556.length : Int)) = false := decide_eq_false c63
                    clear c63
                    obtain rfl := Option.some.inj H
                    obtain ⟨Ao66, co66, eo66⟩ := Kd.R_slice HO_5.out
                    subst eo66
                    have hcz67_0 : wr.cell? ⟨gb555, 0, none⟩ = some (.int .i64 t545) := (blk_cell BK555.out 0).trans rfl
                    have hcz67_1 : wr.cell? ⟨gb555, 1, none⟩ = some (.int .i64 t546) := (blk_cell BK555.out 1).trans rfl
                    have hcz67_2 : wr.cell? ⟨gb555, 2, none⟩ = some (.int .i64 t547) := (blk_cell BK555.out 2).trans rfl
                    have hcz67_3 : wr.cell? ⟨gb555, 3, none⟩ = some (.int .i64 t548) := (blk_cell BK555.out 3).trans rfl
                    have hcz67_4 : wr.cell? ⟨gb555, 4, none⟩ = some (.int .i64 t549) := (blk_cell BK555.out 4).trans rfl
                    have hcz67_5 : wr.cell? ⟨gb555, 5, none⟩ = some (.int .i64 t550) := (blk_cell BK555.out 5).trans rfl
                    have hcz67_6 : wr.cell? ⟨gb555, 6, none⟩ = some (.int .i64 t551) := (blk_cell BK555.out 6).trans rfl
                    have hcz67_7 : wr.cell? ⟨gb555, 7, none⟩ = some (.int .i64 t552) := (blk_cell BK555.out 7).trans rfl
                    have hcz67_8 : wr.cell? ⟨gb555, 8, none⟩ = some (.int .u64 t553) := (blk_cell BK555.out 8).trans rfl
                    have hfz67_0 := blk_frozen BK555.out 0
                    have hfz67_1 := blk_frozen BK555.out 1
                    have hfz67_2 := blk_frozen BK555.out 2
                    have hfz67_3 := blk_frozen BK555.out 3
                    have hfz67_4 := blk_frozen BK555.out 4
                    have hfz67_5 := blk_frozen BK555.out 5
                    have hfz67_6 := blk_frozen BK555.out 6
                    have hfz67_7 := blk_frozen BK555.out 7
                    have hfz67_8 := blk_frozen BK555.out 8
                    go_wp2
                    go_ret
                    exact ⟨by first | rfl | (simp [errW_none, errW_some] <;> rfl) | (simp [*, errW_none, errW_some] <;> rfl), by repeat (first | (with_reducible first | exact HB.out | apply below_alloc | apply pw_below_drewN | apply below_drew1 | refine below_set ?_ GE555.out) | exact HB.out)⟩
      · rw [if_neg c7] at H
        have c7b0 : (t554 == 0) = false := beq_eq_false_iff_ne.mpr c7
        have c7b1 : (t554 != 0) = true := bne_iff_ne.mpr c7
        obtain rfl := Option.some.inj H
        go_enter Try.func9, Try.ntmps9
        go_wp2_with (first | ((with_reducible refine gate_callee (f := 10) rfl ?_); refine goesL_ (some 11) rfl rfl Try.func10 (by kernel_rfl) rfl #[] rfl (by (try simp only [List.map_toArray, List.map_cons, List.map_nil]); first | done | rfl | (simp only [List.length_drop, List.length_take]; rfl)) ?_; (with_reducible refine (skiarealaw25_alive.calls k  true _ A2.out).mono ?_); rintro e w68 ⟨rfl, hb⟩; refine ⟨_, rfl, ?_⟩; have n0_ := Aside0.mk (below_step (by repeat (first | (with_reducible first | exact HB.out | apply below_alloc | apply pw_below_drewN | apply below_drew1) | exact HB.out)) hb); clear HB; have HB := n0_; clear n0_; (try clear hb); (try clear hb2); (try clear hk); (try clear hi)) | ((with_reducible refine gate_callee (f := 24) rfl ?_); refine goesL_ (some 18) rfl rfl Try.func24 (by kernel_rfl) rfl #[.slice A0 l0.length c0] rfl (by (try simp only [List.map_toArray, List.map_cons, List.map_nil]); first | done | rfl | (simp only [List.length_drop, List.length_take]; rfl)) ?_; (with_reducible refine (media_Decode.calls k _ _ l0 t545 t546 t547 t548 t549 t550 t551 t552 t553 t554 _ ?side1 ?side2 A6.out).mono ?_); (case side1 => repeat (first | exact (Kd.C_below HR0.out HB.out) | (with_reducible refine Kd.C_alloc ?_ _) | (with_reducible refine Kd.C_drewN ?_ _) | (with_reducible refine Kd.C_drew ?_))); (case side2 => exact HC0.out); rintro e w69 ⟨rfl, hb⟩; refine ⟨_, rfl, ?_⟩; have n0_ := Aside0.mk (below_step (by repeat (first | (with_reducible first | exact HB.out | apply below_alloc | apply pw_below_drewN | apply below_drew1) | exact HB.out)) hb); clear HB; have HB := n0_; clear n0_; (try clear hb); (try clear hb2); (try clear hk); (try clear hi)) | ((with_reducible refine gate_dst (N := 3) rfl ?_); (try (refine gate_guard (by rfl) ?_; dsimp only)); refine box_event ?hg (N := 3) ?hd (cs := #[.int .i64 0, .int .i64 0, .int .i64 0, .int .i64 0, .int .i64 0, .int .i64 0, .int .i64 0, .int .i64 0, .int .u64 0]) (t := 24) ?hr ?_; (case hd => rfl); (case hg => rfl); (case hr => first | (go_simp; done) | (go_simp; rfl)); intro gb555 hg w70 hbox hb; have n0_ := Aside0.mk (below_step (by repeat (first | (with_reducible first | exact HB.out | apply below_alloc | apply pw_below_drewN | apply below_drew1) | exact HB.out)) hb); have n1_ := Aside0.mk (hbox); have n2_ := Aside0.mk ((by rw [hg]; exact (below_size (by repeat (first | (with_reducible first | exact HB.out | apply below_alloc | apply pw_below_drewN | apply below_drew1) | exact HB.out))) : w.heap.size ≤ gb555)); have n3_ := Aside0.mk ((by rw [hg]; exact (below_size (by repeat (first | (with_reducible first | exact HB.out | apply below_alloc | apply pw_below_drewN | apply below_drew1) | exact HB.out))) : w.heap.size ≤ gb555)); clear HB; have HB := n0_; have BK555 := n1_; have GW555 := n2_; have GE555 := n3_; clear n0_ n1_ n2_ n3_; clear hb hbox hg; have hcz71_0 : w70.cell? ⟨gb555, 0, none⟩ = some (.int .i64 0) := (blk_cell BK555.out 0).trans rfl; have hcz71_1 : w70.cell? ⟨gb555, 1, none⟩ = some (.int .i64 0) := (blk_cell BK555.out 1).trans rfl; have hcz71_2 : w70.cell? ⟨gb555, 2, none⟩ = some (.int .i64 0) := (blk_cell BK555.out 2).trans rfl; have hcz71_3 : w70.cell? ⟨gb555, 3, none⟩ = some (.int .i64 0) := (blk_cell BK555.out 3).trans rfl; have hcz71_4 : w70.cell? ⟨gb555, 4, none⟩ = some (.int .i64 0) := (blk_cell BK555.out 4).trans rfl; have hcz71_5 : w70.cell? ⟨gb555, 5, none⟩ = some (.int .i64 0) := (blk_cell BK555.out 5).trans rfl; have hcz71_6 : w70.cell? ⟨gb555, 6, none⟩ = some (.int .i64 0) := (blk_cell BK555.out 6).trans rfl; have hcz71_7 : w70.cell? ⟨gb555, 7, none⟩ = some (.int .i64 0) := (blk_cell BK555.out 7).trans rfl; have hcz71_8 : w70.cell? ⟨gb555, 8, none⟩ = some (.int .u64 0) := (blk_cell BK555.out 8).trans rfl; have hfz71_0 := blk_frozen BK555.out 0; have hfz71_1 := blk_frozen BK555.out 1; have hfz71_2 := blk_frozen BK555.out 2; have hfz71_3 := blk_frozen BK555.out 3; have hfz71_4 := blk_frozen BK555.out 4; have hfz71_5 := blk_frozen BK555.out 5; have hfz71_6 := blk_frozen BK555.out 6; have hfz71_7 := blk_frozen BK555.out 7; have hfz71_8 := blk_frozen BK555.out 8))
        go_ret
        exact ⟨by first | rfl | (simp [errW_none, errW_some] <;> rfl) | (simp [*, errW_none, errW_some] <;> rfl), by repeat (first | (with_reducible first | exact HB.out | apply below_alloc | apply pw_below_drewN | apply below_drew1 | refine below_set ?_ GE555.out) | exact HB.out)⟩
  · replace c3 := Bool.eq_false_iff.mpr c3
    subst c3
    have H1 : (some false) = some r := by rw [if_neg (show ¬ (false = true) by decide)] at H; exact H
    clear H
    have H := H1
    clear H1
    obtain rfl := Option.some.inj H
    go_enter Try.func9, Try.ntmps9
    go_wp2_with (first | ((with_reducible refine gate_callee (f := 10) rfl ?_); refine goesL_ (some 11) rfl rfl Try.func10 (by kernel_rfl) rfl #[] rfl (by (try simp only [List.map_toArray, List.map_cons, List.map_nil]); first | done | rfl | (simp only [List.length_drop, List.length_take]; rfl)) ?_; (with_reducible refine (skiarealaw25_alive.calls k  false _ A2.out).mono ?_); rintro e w72 ⟨rfl, hb⟩; refine ⟨_, rfl, ?_⟩; have n0_ := Aside0.mk (below_step (by repeat (first | (with_reducible first | exact HB.out | apply below_alloc | apply pw_below_drewN | apply below_drew1) | exact HB.out)) hb); clear HB; have HB := n0_; clear n0_; (try clear hb); (try clear hb2); (try clear hk); (try clear hi)))
    go_ret
    exact ⟨by first | rfl | (simp [errW_none, errW_some] <;> rfl) | (simp [*, errW_none, errW_some] <;> rfl), by repeat (first | (with_reducible first | exact HB.out | apply below_alloc | apply pw_below_drewN | apply below_drew1) | exact HB.out)⟩

/-- THE ONE PURE STATEMENT of skiarealaw25_MediaForms: yours. -/
def skiarealaw25_MediaForms.Pure : Prop := ∀ (l0 : List Int), l0.length ≤ maxLen → l0.length * 1 ≤ 140737488351232 → (∀ x ∈ l0, (Lit.int .u8 x).wf = true) → ∃ k, skiarealaw25_MediaForms.f k l0 = some true
theorem skiarealaw25_MediaForms.walk (P : skiarealaw25_MediaForms.Pure) (a0 : Option Addr) (len0 cap0 : Nat) (z0 : List Int) (w : World) (w0 : (a0 = none ∧ len0 = 0 ∧ cap0 = 0 ∧ z0 = []) ∨ ∃ x, a0 = some x ∧ len0 ≤ cap0 ∧ cap0 ≤ maxLen ∧ z0.length = cap0 ∧ (∀ i, i < z0.length → w.cell? (x.add i) = some (.int .u8 (z0.getD i 0))) ∧ ∀ n ∈ z0, (Lit.int .u8 n).wf = true) (y0 : len0 * 1 ≤ 140737488351232) :
    Calls Try.prog 9 #[.slice a0 len0 cap0] w fun e w' => e = .returned (.bool true) ∧ Below w.heap.size w w' := by
  obtain ⟨l0, rfl, hr0, hm0, hw0, hc0⟩ := ReadsInt.ofRowC w0
  obtain ⟨k, h⟩ := P l0 hm0 y0 hw0
  refine (skiarealaw25_MediaForms.calls k _ _ l0 true w (Kd.C_of_reads (d := (0 : Int)) (h1 := fun _ => rfl) hr0) hc0 h).mono ?_
  rintro e w' ⟨rfl, hd⟩
  exact ⟨rfl, hd⟩

end Go.Proofs.Ytdlinojgmllkoaa.Q
