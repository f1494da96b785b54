/- journal.Read, Whole, Last: what the reader's cells hold at its end. -/
import Derived.Test.YtohjkgboehnamaaQHAll
namespace Go.Proofs.Ytohjkgboehnamaa.Q
open Go.RowKit Go.Proofs.YtohjkgboehnamaaW.PrintWords Go.Proofs.YtohjkgboehnamaaW.PrintLast Go.Proofs.YtohjkgboehnamaaW.PrintMore
attribute [local irreducible] Calls codec_Get.f codec_Unframe.f journal_frame.f slices_Equal_byte_byte.f
set_option linter.unusedVariables false
set_option linter.unusedSimpArgs false

theorem nextF_mono (k : Nat) (l : List Int) (sz lk : Int) : LeO (nextF k l sz lk) (nextF (k + 1) l sz lk) := by
  unfold nextF
  refine LeO.ite (LeO.ite (LeO.bind (codec_Unframe.mono _ _) (fun u => LeO.ite (LeO.bind (rideF_mono k 7 _ _) (fun o => ?_)) (LeO.refl _))) (LeO.none _)) (LeO.none _)
  cases o with
  | none => exact LeO.refl _
  | some ns => exact LeO.bind (journal_frame.mono _ _ _ _ _ _ _ _ _) (fun f => LeO.ite (LeO.ite (LeO.bind (slices_Equal_byte_byte.mono _ _ _) (fun b => LeO.refl _)) (LeO.none _)) (LeO.none _))
theorem readL_mono (k : Nat) (l : List Int) : ∀ d sz lk rs, LeO (readL k l d sz lk rs) (readL (k + 1) l (d + 1) sz lk rs)
  | 0, _, _, _ => fun r h => by simp [readL] at h
  | d + 1, sz, lk, rs => by
    rw [readL, readL]
    refine LeO.ite (LeO.ite (LeO.bind (nextF_mono k l sz lk) (fun o => ?_)) (LeO.none _)) (LeO.refl _)
    cases o with
    | none => exact LeO.refl _
    | some x => exact readL_mono k l d _ _ _
theorem journal_read.mono : ∀ a0 k, LeO (journal_read.f k a0) (journal_read.f (k + 1) a0) := fun a0 k => readL_mono k a0 k 0 0 []
def journal_Read.f (k : Nat) (l : List Int) : Option (List S39 × Int) := (journal_read.f k l).bind fun t => some (t.1, t.2.1)
theorem journal_Read.mono : ∀ a0 k, LeO (journal_Read.f k a0) (journal_Read.f (k + 1) a0) := fun a0 k => LeO.bind (journal_read.mono a0 k) (fun _ => LeO.refl _)
def journal_Whole.f (k : Nat) (l : List Int) : Option Bool := (journal_read.f k l).bind fun t => some (t.2.1 == (l.length : Int))
theorem journal_Whole.mono : ∀ a0 k, LeO (journal_Whole.f k a0) (journal_Whole.f (k + 1) a0) := fun a0 k => LeO.bind (journal_read.mono a0 k) (fun _ => LeO.refl _)
def journal_Last.f (k : Nat) (l : List Int) : Option Int := (journal_read.f k l).bind fun t => some t.2.2
theorem journal_Last.mono : ∀ a0 k, LeO (journal_Last.f k a0) (journal_Last.f (k + 1) a0) := fun a0 k => LeO.bind (journal_read.mono a0 k) (fun _ => LeO.refl _)
attribute [local irreducible] journal_read.f
set_option maxHeartbeats 4000000 in
set_option maxRecDepth 100000 in
theorem journal_Read.calls (k : Nat) (A0 : Option Addr) (c0 : Nat) (l0 : List Int) (r1 : List S39) (r2 : Int) (w : World) (hr0 : Kd.C (Kd.int .u8) w A0 l0.length l0) (hc0 : l0.length ≤ c0) (h : journal_Read.f k l0 = some (r1, r2)) :
    Calls Try.prog 13 #[.slice A0 l0.length c0] w fun e w' => ∃ v0_ : Value, e = .returned (.tuple #[v0_, .int .i64 r2]) ∧ Kd.R k39 39 w' w.heap.size (fun _ => True) v0_ r1 ∧ Below w.heap.size w w' := by
  obtain ⟨⟨rs, sz, lk⟩, hr, hq⟩ := Option.bind_eq_some_iff.mp h
  simp only [Option.some.injEq, Prod.mk.injEq] at hq
  obtain ⟨rfl, rfl⟩ := hq
  have HR0 := Aside0.mk hr
  have HC := Aside0.mk hr0
  have HL := Aside0.mk hc0
  clear h hr hr0 hc0
  go_enter Try.func13, Try.ntmps13
  go_wp2_with (go_at_call 26; refine (journal_read.calls k A0 c0 l0 rs sz lk w HC.out HL.out HR0.out).mono ?_; rintro e w9 ⟨g, v, rfl, hb, hk, hr, hg⟩; have HB := Aside0.mk hb; have BK := Aside0.mk hk; have HR := Aside0.mk hr; clear hb hk hr)
  obtain ⟨A3, c3, rfl⟩ := Kd.R_slice HR.out
  have hc1 : w9.cell? ⟨g, 1, none⟩ = some (.slice A3 rs.length c3) := (blk_cell BK.out 1).trans rfl
  have hc2 : w9.cell? ⟨g, 2, none⟩ = some (.int .i64 sz) := (blk_cell BK.out 2).trans rfl
  go_quiet (fail)
  go_wp2
  refine bodyPost_ret (results_list (rs := [.tmp 2, .tmp 3]) rfl (by simp) (.tmp (.tmp .nil))) rfl ?_
  exact ⟨_, rfl, Kd.R_drewN HR.out _, pw_below_drewN HB.out _⟩
set_option maxHeartbeats 4000000 in
set_option maxRecDepth 100000 in
theorem journal_Whole.calls (k : Nat) (A0 : Option Addr) (c0 : Nat) (l0 : List Int) (r : Bool) (w : World) (hr0 : Kd.C (Kd.int .u8) w A0 l0.length l0) (hc0 : l0.length ≤ c0) (h : journal_Whole.f k l0 = some r) :
    Calls Try.prog 15 #[.slice A0 l0.length c0] w fun e w' => e = .returned (.bool r) ∧ Below w.heap.size w w' := by
  obtain ⟨⟨rs, sz, lk⟩, hr, hq⟩ := Option.bind_eq_some_iff.mp h
  simp only [Option.some.injEq] at hq
  subst hq
  have HR0 := Aside0.mk hr
  have HC := Aside0.mk hr0
  have HL := Aside0.mk hc0
  clear h hr hr0 hc0
  go_enter Try.func15, Try.ntmps15
  go_wp2_with (go_at_call 26; refine (journal_read.calls k A0 c0 l0 rs sz lk w HC.out HL.out HR0.out).mono ?_; rintro e w9 ⟨g, v, rfl, hb, hk, hr, hg⟩; have HB := Aside0.mk hb; have hc2 : w9.cell? ⟨g, 2, none⟩ = some (.int .i64 sz) := (blk_cell hk 2).trans rfl; clear hb hk hr)
  go_ret
  exact ⟨rfl, HB.out⟩
set_option maxHeartbeats 4000000 in
set_option maxRecDepth 100000 in
theorem journal_Last.calls (k : Nat) (A0 : Option Addr) (c0 : Nat) (l0 : List Int) (r : Int) (w : World) (hr0 : Kd.C (Kd.int .u8) w A0 l0.length l0) (hc0 : l0.length ≤ c0) (h : journal_Last.f k l0 = some r) :
    Calls Try.prog 16 #[.slice A0 l0.length c0] w fun e w' => e = .returned (.int .u64 r) ∧ Below w.heap.size w w' := by
  obtain ⟨⟨rs, sz, lk⟩, hr, hq⟩ := Option.bind_eq_some_iff.mp h
  simp only [Option.some.injEq] at hq
  subst hq
  have HR0 := Aside0.mk hr
  have HC := Aside0.mk hr0
  have HL := Aside0.mk hc0
  clear h hr hr0 hc0
  go_enter Try.func16, Try.ntmps16
  go_wp2_with (go_at_call 26; refine (journal_read.calls k A0 c0 l0 rs sz lk w HC.out HL.out HR0.out).mono ?_; rintro e w9 ⟨g, v, rfl, hb, hk, hr, hg⟩; have HB := Aside0.mk hb; have hc3 : w9.cell? ⟨g, 3, none⟩ = some (.int .u64 lk) := (blk_cell hk 3).trans rfl; clear hb hk hr)
  go_ret
  exact ⟨rfl, HB.out⟩
end Go.Proofs.Ytohjkgboehnamaa.Q
