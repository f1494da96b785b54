/- journal: the ride in a body, the next ride, all rides up to a damaged frame, what Read, Whole and Last return. -/
import Derived.Test.YtohjkgboehnamaaQx0
import Derived.Test.YtohjkgboehnamaaQHRef
import Derived.Test.YtohjkgboehnamaaQx16
import Derived.Test.YtohjkgboehnamaaQx17
import Derived.Test.YtohjkgboehnamaaQx14
import Derived.Test.YtohjkgboehnamaaQx19
import Derived.Deep.WholeRow
import Derived.Defers
import Derived.Recover
import Derived.WalkLawsBesides
import Derived.Tactics2
namespace Go.Proofs.Ytohjkgboehnamaa.Q
open Go.RowKit Go.Proofs.YtohjkgboehnamaaW.PrintWords Go.Proofs.YtohjkgboehnamaaW.PrintLast Go.Proofs.YtohjkgboehnamaaW.PrintMore
attribute [local irreducible] Calls codec_Get.f codec_Unframe.f journal_frame.f slices_Equal_byte_byte.f
set_option linter.unusedVariables false
set_option linter.unusedSimpArgs false

/-- The panic that ends the reading. -/
def dam : PanicEntry := { v := .iface 74 (.agg #[]), recovered := false }
/-- Seven numbers read, or none where the reading ends. -/
def rideF (k : Nat) : Nat → List Int → List Int → Option (Option (List Int))
  | 0, _, ns => some (some ns)
  | d + 1, b, ns => (codec_Get.f k b).bind fun g => if g.2.2 = 0 then (if g.1 ≤ 20000000 then (if 0 ≤ g.2.1 then (if g.2.1 ≤ (b.length : Int) then rideF k d (b.drop g.2.1.toNat) (ns ++ [g.1]) else none) else none) else some none) else some none
theorem rideF_mono (k : Nat) : ∀ d b n, LeO (rideF k d b n) (rideF (k + 1) d b n)
  | 0, b, n => LeO.refl _
  | d + 1, b, n => LeO.bind (codec_Get.mono _ _) (fun g => LeO.ite (LeO.ite (LeO.ite (LeO.ite (rideF_mono k d _ _) (LeO.none _)) (LeO.none _)) (LeO.refl _)) (LeO.refl _))
/-- How ride ends. -/
def rideE : Option (List Int) → Ending
  | some ns => .returned (.agg (arr7 ns))
  | none => .panicked [dam]
set_option maxHeartbeats 4000000 in
set_option maxRecDepth 100000 in
theorem journal_ride.calls (k : Nat) (A0 : Option Addr) (c0 : Nat) (l0 : List Int) (r : Option (List Int)) (w : World) (hr0 : Kd.C (Kd.int .u8) w A0 l0.length l0) (hc0 : l0.length ≤ c0) (h : rideF k 7 l0 [] = some r) :
    Calls Try.prog 58 #[.slice A0 l0.length c0] w fun e w' => e = rideE r ∧ Below w.heap.size w w' := by
  have HP := Aside0.mk h
  have HC := Aside0.mk hr0
  have HL := Aside0.mk hc0
  clear h hr0 hc0
  go_enter Try.func58, Try.ntmps58
  go_wp2
  go_loopg [0, 8] 7 (fun kq v0 v8 w' => ∃ (b ns : List Int) (A : Option Addr) (c : Nat), ns.length + kq = 7 ∧ v0 = .slice A b.length c ∧ v8 = .int .i64 (ns.length : Int) ∧ Aside0 (rideF k kq b ns = some r) ∧ Aside0 (Kd.C (Kd.int .u8) w A b.length b) ∧ Aside0 (b.length ≤ c) ∧ Aside0 (w'.heap[w.heap.size]? = some (.cells (sev 0 0 0 0 0 0 0) 39 (0, 0))) ∧ Aside0 (w'.heap[w.heap.size + 1]? = some (.cells (arr7 ns) 62 (0, 0))) ∧ Aside0 (w.heap.size + 1 < w'.heap.size) ∧ Aside0 (Below w.heap.size w w'))
  case atStart => exact ⟨l0, [], A0, c0, rfl, rfl, rfl, HP, HC, HL, ⟨heap_alloc2_old _ _ _⟩, ⟨heap_alloc2_new _ _ _⟩, ⟨by simp⟩, ⟨below_alloc (below_alloc (Below.refl _ _) _) _⟩⟩
  case round =>
    clear HP HC HL
    obtain ⟨b, ns, A, c, hn, rfl, rfl, HA, HC, HL, HM, HR, HZ, HB⟩ := hrel
    cases gk with
    | zero =>
      have hn7 : ns.length = 7 := by omega
      have hA := HA.out
      simp only [rideF, Option.some.injEq] at hA
      subst hA
      rw [hn7]
      have d7 : decide (((7 : Nat) : Int) < 7) = false := by decide
      obtain ⟨n0, hn0⟩ : ∃ z, rd ns 0 = z := ⟨_, rfl⟩
      obtain ⟨n1, hn1⟩ : ∃ z, rd ns 1 = z := ⟨_, rfl⟩
      obtain ⟨n2, hn2⟩ : ∃ z, rd ns 2 = z := ⟨_, rfl⟩
      obtain ⟨n3, hn3⟩ : ∃ z, rd ns 3 = z := ⟨_, rfl⟩
      obtain ⟨n4, hn4⟩ : ∃ z, rd ns 4 = z := ⟨_, rfl⟩
      obtain ⟨n5, hn5⟩ : ∃ z, rd ns 5 = z := ⟨_, rfl⟩
      obtain ⟨n6, hn6⟩ : ∃ z, rd ns 6 = z := ⟨_, rfl⟩
      have hd0 : wr.cell? ⟨w.heap.size + 1, 0, none⟩ = some (.int .i64 n0) := (blk_cell HR.out 0).trans (by rw [← hn0]; rfl)
      have hd1 : wr.cell? ⟨w.heap.size + 1, 1, none⟩ = some (.int .i64 n1) := (blk_cell HR.out 1).trans (by rw [← hn1]; rfl)
      have hd2 : wr.cell? ⟨w.heap.size + 1, 2, none⟩ = some (.int .i64 n2) := (blk_cell HR.out 2).trans (by rw [← hn2]; rfl)
      have hd3 : wr.cell? ⟨w.heap.size + 1, 3, none⟩ = some (.int .i64 n3) := (blk_cell HR.out 3).trans (by rw [← hn3]; rfl)
      have hd4 : wr.cell? ⟨w.heap.size + 1, 4, none⟩ = some (.int .i64 n4) := (blk_cell HR.out 4).trans (by rw [← hn4]; rfl)
      have hd5 : wr.cell? ⟨w.heap.size + 1, 5, none⟩ = some (.int .i64 n5) := (blk_cell HR.out 5).trans (by rw [← hn5]; rfl)
      have hd6 : wr.cell? ⟨w.heap.size + 1, 6, none⟩ = some (.int .i64 n6) := (blk_cell HR.out 6).trans (by rw [← hn6]; rfl)
      have hc0 : wr.cell? ⟨w.heap.size, 0, none⟩ = some (.int .i64 0) := cell_of_row _ _ 0 _ _ _ HM.out
      have hc1 : wr.cell? ⟨w.heap.size, 1, none⟩ = some (.int .i64 0) := cell_of_row _ _ 1 _ _ _ HM.out
      have hc2 : wr.cell? ⟨w.heap.size, 2, none⟩ = some (.int .i64 0) := cell_of_row _ _ 2 _ _ _ HM.out
      have hc3 : wr.cell? ⟨w.heap.size, 3, none⟩ = some (.int .i64 0) := cell_of_row _ _ 3 _ _ _ HM.out
      have hc4 : wr.cell? ⟨w.heap.size, 4, none⟩ = some (.int .i64 0) := cell_of_row _ _ 4 _ _ _ HM.out
      have hc5 : wr.cell? ⟨w.heap.size, 5, none⟩ = some (.int .i64 0) := cell_of_row _ _ 5 _ _ _ HM.out
      have hc6 : wr.cell? ⟨w.heap.size, 6, none⟩ = some (.int .i64 0) := cell_of_row _ _ 6 _ _ _ HM.out
      have hfr : ∀ j, wr.frozen? ⟨w.heap.size, j, none⟩ = false := fun j => frozen_of_row _ _ j _ _ HM.out
      have hfd : ∀ j, wr.frozen? ⟨w.heap.size + 1, j, none⟩ = false := fun j => frozen_of_row _ _ j _ _ HR.out
      have hE : rideE (some ns) = .returned (.agg (sev n0 n1 n2 n3 n4 n5 n6)) := by rw [← hn0, ← hn1, ← hn2, ← hn3, ← hn4, ← hn5, ← hn6]; rfl
      have HE := Aside0.mk hE
      clear hn0 hn1 hn2 hn3 hn4 hn5 hn6 hn hn7 hE
      go_wp2
      refine bodyPost_ret (v := .agg (sev n0 n1 n2 n3 n4 n5 n6)) (results_cell_row rfl _ _ w.heap.size 39 _ (0, 0) _ rfl (sev_store _ wr w.heap.size 0 0 0 0 0 0 0 n0 n1 n2 n3 n4 n5 n6 HM.out) Try.underlying39 rfl (by kernel_rfl)) rfl ⟨HE.out.symm, ?_⟩
      exact sev_below HB.out (Nat.le_refl _) _ _ _ _ _ _ _
    | succ gk =>
      have H := HA.out
      clear HA
      simp only [rideF] at H
      obtain ⟨⟨x, sz, e⟩, hg, H⟩ := Option.bind_eq_some_iff.mp H
      have HG := Aside0.mk hg
      clear hg
      simp only [] at H
      have hn7 : ns.length < 7 := by omega
      have d7 : decide ((ns.length : Int) < 7) = true := decide_eq_true (by omega)
      have e7 : ((ns.length : Int) < 7) = True := eq_true (by omega)
      have e0 : ((0 : Int) ≤ (ns.length : Int)) = True := eq_true (by omega)
      have hwi : wrap64 ((ns.length : Int) + 1) = ((ns.length + 1 : Nat) : Int) := by unfold wrap64; omega
      have HN := Aside0.mk hn
      have HN7 := Aside0.mk hn7
      clear hn hn7
      have HC1 := Aside0.mk (Kd.C_below HC.out HB.out)
      by_cases c7 : e = 0
      · rw [if_pos c7] at H
        have c7b : (e != 0) = false := by simpa using c7
        by_cases c8 : x ≤ 20000000
        · rw [if_pos c8] at H
          have c8b : decide (20000000 < x) = false := decide_eq_false (by omega)
          by_cases c9 : 0 ≤ sz
          · rw [if_pos c9] at H
            by_cases c10 : sz ≤ (b.length : Int)
            · rw [if_pos c10] at H
              have HA := Aside0.mk H
              clear H
              obtain ⟨i05, hi05, _, hsz5, _⟩ := info_parts info5
              obtain ⟨A', hcut, hA, hC⟩ := print_drop_of (P := Try.prog) (Value.int .u8) 0 24 5 .i64 Try.underlying24 hi05 hsz5 A c b sz c9 c10 HL.out
              have HC2 := Aside0.mk (Kd.C_of_reads (h1 := fun _ => rfl) (hA _ (Kd.reads_of_C HC.out)))
              have HL2 := Aside0.mk hC
              clear hA hC hi05 hsz5
              go_wp2_with (go_at_call 63; (with_reducible refine (codec_Get.calls k A c b x sz e wr HC1.out HL.out HG.out).mono ?_); rintro e9 w11 ⟨rfl, hb⟩)
              have HB2 := Aside0.mk (below_step HB.out hb)
              have HM2 := Aside0.mk ((hb.block _ (Nat.lt_of_succ_lt HZ.out)).trans HM.out)
              have HR2 := Aside0.mk ((hb.block _ HZ.out).trans HR.out)
              have HZ2 := Aside0.mk (Nat.lt_of_lt_of_le HZ.out hb.size)
              have hcell : w11.cell? ⟨w.heap.size + 1, ns.length, none⟩ = some (.int .i64 (rd ns (ns.length : Int))) := by
                rw [cell_of_row _ _ _ _ _ _ HR2.out, arr7_at ns _ HN7.out]
              have hfr : w11.frozen? ⟨w.heap.size + 1, ns.length, none⟩ = false := frozen_of_row _ _ _ _ _ HR2.out
              clear HB HM HR HZ hb
              go_region
              all_goals
                go_wp2
                go_roundg gk
                case measure => omega
                case rel =>
                  refine ⟨b.drop sz.toNat, ns ++ [x], A', c - sz.toNat, by rw [List.length_append]; simp; have := HN.out; omega, ?_, ?_, HA, HC2, HL2, ⟨?_⟩, ⟨?_⟩, ⟨?_⟩, ⟨?_⟩⟩
                  · first | rfl | (rw [List.length_drop]; rfl) | rw [List.length_drop]
                  · rw [List.length_append]; first | rfl | (rw [hwi]; rfl)
                  · exact (heap_setCell_other _ _ _ _ (by simp)).trans HM2.out
                  · exact (heap_setCell_same _ _ _ _ _ _ HR2.out).trans (by rw [arr7_set _ _ HN7.out])
                  · show _ < (w11.setCell _ _).heap.size; rw [World.size_setCell]; exact HZ2.out
                  · exact below_drew (Below.setCell HB2.out (by simp) _)
            · rw [if_neg c10] at H; simp at H
          · rw [if_neg c9] at H; simp at H
        · rw [if_neg c8] at H
          have c8b : decide (20000000 < x) = true := decide_eq_true (by omega)
          simp only [Option.some.injEq] at H
          subst H
          go_wp2_with (go_at_call 63; (with_reducible refine (codec_Get.calls k A c b x sz e wr HC1.out HL.out HG.out).mono ?_); rintro e9 w11 ⟨rfl, hb⟩; have HB2 := Aside0.mk (below_step HB.out hb); clear hb)
          exact ⟨rfl, rfl, HB2.out⟩
      · rw [if_neg c7] at H
        have c7b : (e != 0) = true := by simpa using c7
        simp only [Option.some.injEq] at H
        subst H
        go_wp2_with (go_at_call 63; (with_reducible refine (codec_Get.calls k A c b x sz e wr HC1.out HL.out HG.out).mono ?_); rintro e9 w11 ⟨rfl, hb⟩; have HB2 := Aside0.mk (below_step HB.out hb); clear hb)
        exact ⟨rfl, rfl, HB2.out⟩
end Go.Proofs.Ytohjkgboehnamaa.Q
