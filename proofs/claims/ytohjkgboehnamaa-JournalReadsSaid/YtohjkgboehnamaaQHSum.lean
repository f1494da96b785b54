/- The checksum of bytes, in memory: the table (256 numbers, made by eight steps each), then one round a byte. -/
import Derived.Test.YtohjkgboehnamaaQx0
import Derived.Test.YtohjkgboehnamaaMCrc
import Derived.Deep.WholeRow
namespace Go.Proofs.Ytohjkgboehnamaa.Q
open Go.RowKit Go.Proofs.YtohjkgboehnamaaW.PrintWords Go.Proofs.YtohjkgboehnamaaW.PrintLast Go.Proofs.YtohjkgboehnamaaW.PrintMore Go.Proofs.Ytohjkgboehnamaa.MSeal Go.Proofs.Ytohjkgboehnamaa.MCrc
attribute [local irreducible] Calls
set_option linter.unusedVariables false
set_option linter.unusedSimpArgs false

/-- The table's cells when n of them are filled. -/
def tabCells (n : Nat) : Array Value := ((List.range 256).map fun i => Value.int .u32 (if i < n then (tabN i : Nat) else 0 : Nat)).toArray
theorem tabCells_size (n : Nat) : (tabCells n).size = 256 := by simp [tabCells]
theorem tabCells_zero : Array.replicate 256 (.int .u32 0) = tabCells 0 := by
  apply Array.ext_getElem?
  intro i
  simp only [tabCells, Array.getElem?_replicate, List.getElem?_toArray, List.getElem?_map, List.getElem?_range]
  by_cases h : i < 256
  · rw [if_pos h, List.getElem?_range h]; rfl
  · rw [if_neg h, List.getElem?_eq_none (by simp; omega)]; rfl
theorem tabCells_at (n i : Nat) (h : i < 256) : (tabCells n)[i]? = some (.int .u32 ((if i < n then tabN i else 0 : Nat) : Int)) := by
  simp [tabCells, h]
theorem tabCells_set (n : Nat) (h : n < 256) : (tabCells n).setIfInBounds n (.int .u32 ((tabN n : Nat) : Int)) = tabCells (n + 1) := by
  apply Array.ext_getElem?
  intro i
  by_cases hi : i < 256
  · rw [tabCells_at (n + 1) i hi, Array.getElem?_setIfInBounds]
    by_cases e : n = i
    · subst e; rw [if_pos rfl, if_pos (by rw [tabCells_size]; exact h), if_pos (by omega)]
    · rw [if_neg e, tabCells_at n i hi]
      by_cases hlt : i < n
      · rw [if_pos hlt, if_pos (by omega)]
      · rw [if_neg hlt, if_neg (by omega)]
  · rw [Array.getElem?_eq_none (by simp [tabCells_size]; omega), Array.getElem?_eq_none (by simp [tabCells_size]; omega)]
theorem tabCells_one (n : Nat) : (tabCells n).all (·.oneCell') = true := by
  rw [Array.all_eq_true_iff_forall_mem]
  intro x hx
  simp [tabCells] at hx
  obtain ⟨i, _, rfl⟩ := hx
  rfl
theorem zero_tab : (∀ w, (zeroValue 80).run Try.prog w = .ok (.agg (Array.replicate 256 (.int .u32 0))) w) ∧ (Try.prog.info? 80).map (·.size) = some 256 := zero_of_info (by kernel_rfl)

theorem u32_nat (n : Nat) (h : n < 2 ^ 32) : IntKind.u32.wrap n = n := by rw [IntKind.wrap_u32]; omega
theorem xor_u32 (a b : Nat) (ha : a < 2 ^ 32) (hb : b < 2 ^ 32) : Go.bits .xor .u32 (a : Int) (b : Int) = ((a ^^^ b : Nat) : Int) := by
  rw [bits_xor_nat .u32 a b ha hb]; exact u32_nat _ (Nat.xor_lt_two_pow ha hb)
theorem and1_u32 (r : Nat) (h : r < 2 ^ 32) : Go.bits .and .u32 (r : Int) 1 = ((r % 2 : Nat) : Int) := by
  have e : Go.bits .and .u32 (r : Int) ((1 : Nat) : Int) = IntKind.u32.wrap ((r &&& 1 : Nat) : Int) := bits_and_nat .u32 r 1 h (by decide)
  rw [Nat.and_one_is_mod] at e
  exact e.trans (u32_nat _ (by omega))
theorem step_odd (r : Nat) (hr : r < 2 ^ 32) (h : (Go.bits .and .u32 (r : Int) 1 == 1) = true) : Go.bits .xor .u32 ((r : Int) / 2) 2197175160 = ((stepN r : Nat) : Int) := by
  rw [and1_u32 r hr] at h
  have h1 : r % 2 = 1 := by have := eq_of_beq h; omega
  unfold stepN
  rw [if_pos h1]
  exact xor_u32 (r / 2) 2197175160 (by omega) (by decide)
theorem step_even (r : Nat) (hr : r < 2 ^ 32) (h : (Go.bits .and .u32 (r : Int) 1 == 1) = false) : (r : Int) / 2 = ((stepN r : Nat) : Int) := by
  rw [and1_u32 r hr] at h
  have h1 : ¬ r % 2 = 1 := by have := beq_eq_false_iff_ne.mp h; omega
  unfold stepN
  rw [if_neg h1]; rfl

set_option maxHeartbeats 2000000 in
set_option maxRecDepth 100000 in
theorem codec_table_calls (w : World) : Calls Try.prog 56 #[] w fun e w' => e = .returned (.agg (tabCells 256)) ∧ w' = w.alloc (.cells (tabCells 256) 80) := by
  have hv := zero_tab.1
  go_enter Try.func56, Try.ntmps56
  go_wp2
  rw [tabCells_zero]
  go_loopg [4] 256 (fun g s4 wx => ∃ i : Nat, i + g = 256 ∧ s4 = .int .i64 i ∧ wx = w.alloc (.cells (tabCells i) 80))
  case atStart => exact ⟨0, by omega, rfl, rfl⟩
  case round =>
    obtain ⟨i, hig, rfl, rfl⟩ := hrel
    cases gk with
    | zero =>
      obtain rfl : i = 256 := by omega
      have hs : (Try.prog.info? 80).map (·.size) = some (tabCells 256).size := by rw [tabCells_size]; exact zero_tab.2
      have Hs := Aside0.mk hs
      clear hs
      go_wp2
      rename_i hK
      refine wp_load_row 80 (.tmp 0) rfl w.heap.size rfl 80 (tabCells 256) (0, 0) _ (heap_alloc_last _ _) Try.underlying80 rfl Hs.out ?_
      refine hK _ _ ?_
      refine wpList_plain rfl fun _ hQ => ?_
      refine wp_store_row 80 (.tmp 0) (.tmp 24) rfl w.heap.size (tabCells 256) rfl rfl 80 (tabCells 256) (heap_alloc_last _ _) Hs.out rfl (tabCells_one _) ?_
      rw [World.setRow_alloc_new]
      refine hQ _ _ ?_
      go_wp2
      refine bodyPost_ret (v := .agg (tabCells 256)) (results_cell_row rfl _ _ w.heap.size 80 _ (0, 0) _ rfl (heap_alloc_last _ _) Try.underlying80 rfl Hs.out) rfl ⟨rfl, rfl⟩
    | succ g =>
      have hi : i < 256 := by omega
      have hc := tabCells_at i i hi
      go_wp2
      go_loopg [9, 2] 8 (fun g s9 s2 wx => ∃ k : Nat, k + g = 8 ∧ s9 = .int .i64 k ∧ s2 = .int .u32 ((stepsN k i : Nat) : Int) ∧ wx = w.alloc (.cells (tabCells i) 80))
      case atStart => exact ⟨0, by omega, rfl, rfl, rfl⟩
      case round =>
        obtain ⟨k, hkg, rfl, rfl, rfl⟩ := hrel
        cases gk with
        | zero =>
          obtain rfl : k = 8 := by omega
          have HS := Aside0.mk (tabCells_set i hi)
          go_wp2
          go_roundg g
          case measure => omega
          case rel => exact ⟨i + 1, by omega, rfl, by rw [← HS.out]; rfl⟩
        | succ g2 =>
          have hlt := steps_lt k (r := i) (by omega)
          have Hlt := Aside0.mk hlt
          clear hlt
          go_wp2
          · rename_i hb
            have HB := Aside0.mk (step_odd _ Hlt.out hb)
            clear hb
            go_roundg g2
            case measure => omega
            case rel => exact ⟨k + 1, by omega, rfl, by rw [HB.out]; rfl, rfl⟩
          · rename_i hb
            have HB := Aside0.mk (step_even _ Hlt.out hb)
            clear hb
            go_roundg g2
            case measure => omega
            case rel => exact ⟨k + 1, by omega, rfl, by rw [HB.out]; rfl, rfl⟩

/-- The checksum, where all are bytes, and not too many to be counted. -/
def codec_Sum.f (l0 : List Int) : Option Int := if l0.length < 9223372036854775807 ∧ l0.all (fun x => decide (0 ≤ x) && decide (x < 256)) = true then some ((crcN l0 : Nat) : Int) else none
theorem codec_Sum.f_of {l : List Int} (h : Bytes l) (hl : l.length < 9223372036854775807) : codec_Sum.f l = some ((crcN l : Nat) : Int) := by
  unfold codec_Sum.f
  rw [if_pos]
  refine ⟨hl, ?_⟩
  rw [List.all_eq_true]
  intro x hx
  have := h x hx
  simp [this.1, this.2]
theorem codec_Sum.bytes {l : List Int} {r : Int} (h : codec_Sum.f l = some r) : Bytes l ∧ r = ((crcN l : Nat) : Int) ∧ l.length < 9223372036854775807 := by
  unfold codec_Sum.f at h
  by_cases hb : l.length < 9223372036854775807 ∧ l.all (fun x => decide (0 ≤ x) && decide (x < 256)) = true
  · rw [if_pos hb] at h
    refine ⟨fun x hx => ?_, (Option.some.inj h).symm, hb.1⟩
    have := List.all_eq_true.mp hb.2 x hx
    simpa using this
  · rw [if_neg hb] at h
    simp at h
set_option maxHeartbeats 2000000 in
set_option maxRecDepth 100000 in
theorem codec_Sum.calls (A0 : Option Addr) (c0 : Nat) (l0 : List Int) (r : Int) (w : World) (hr0 : Kd.C (Kd.int .u8) w A0 l0.length l0) (hc0 : l0.length ≤ c0) (h : codec_Sum.f l0 = some r) :
    Calls Try.prog 47 #[.slice A0 l0.length c0] w fun e w' => e = .returned (.int .u32 r) ∧ Below w.heap.size w w' := by
  obtain ⟨hb, hr, hlen⟩ := codec_Sum.bytes h
  have HR := Aside0.mk hr
  clear hr h
  have HC := Aside0.mk hr0
  clear hr0
  have HBY := Aside0.mk hb
  clear hb
  have hv := zero_tab.1
  have hs : (Try.prog.info? 80).map (·.size) = some (tabCells 256).size := by rw [tabCells_size]; exact zero_tab.2
  have Hs := Aside0.mk hs
  clear hs
  go_enter Try.func47, Try.ntmps47
  go_wp2_with (go_at_call 56; refine (codec_table_calls _).mono ?_; rintro e w' ⟨rfl, rfl⟩)
  have hsc : (storeCells ⟨w.heap.size + 1, 0, none⟩ (tabCells 256).toList 0).run Try.prog ((w.alloc (.cells (tabCells 256) 80)).alloc (.cells (Array.replicate 256 (.int .u32 0)) 80)) = .ok () ((w.alloc (.cells (tabCells 256) 80)).alloc (.cells (tabCells 256) 80)) := by
    have h9 := run_storeCells_new (P := Try.prog) (w.alloc (.cells (tabCells 256) 80)) 80 (Array.replicate 256 (.int .u32 0)) (tabCells 256) Hs.out (by rw [tabCells_size]; simp) (tabCells_one _)
    rw [World.size_alloc] at h9
    exact h9
  simp only [hsc, Result.andThen]
  rw [Oper.upon_skip]
  clear hsc hv
  go_wp2
  have HCW := Aside0.mk (Kd.C_alloc (Kd.C_alloc HC.out (.cells (tabCells 256) 80)) (.cells (tabCells 256) 80))
  go_loopg [10, 3] l0.length (fun g s10 s3 wx => ∃ i : Nat, i + g = l0.length ∧ s10 = .int .i64 i ∧ s3 = .int .u32 ((crcR 4294967295 (l0.take i) : Nat) : Int) ∧ wx = (w.alloc (.cells (tabCells 256) 80)).alloc (.cells (tabCells 256) 80))
  case atStart => exact ⟨0, by omega, rfl, rfl, rfl⟩
  case round =>
    obtain ⟨i, hig, rfl, rfl, rfl⟩ := hrel
    cases gk with
    | zero =>
      obtain rfl : i = l0.length := by omega
      go_wp2
      go_ret
      refine ⟨?_, below_alloc (below_alloc (Below.refl _ _) _) _⟩
      have h9 : Go.bits .xor .u32 IntKind.u32.max ((crcR 4294967295 l0 : Nat) : Int) = r := by
        have h8 := xor_u32 4294967295 (crcR 4294967295 l0) (by decide) (crcR_lt (by decide) HBY.out)
        rw [HR.out]; unfold crcN; rw [Nat.xor_comm (crcR _ _)]; exact h8
      rw [h9]
      rfl
    | succ g =>
      have hi : i < l0.length := by omega
      obtain ⟨ad, ea, hx⟩ := Kd.at_int HCW.out (i : Int) (by omega) (by omega)
      cases ea
      have hby := HBY.out.at i
      obtain ⟨x, hxe⟩ := Int.eq_ofNat_of_zero_le hby.1
      have hx256 : x < 256 := by omega
      have hrd : rd l0 (i : Int) = (x : Int) := by unfold rd; rw [Int.toNat_natCast, hxe]
      rw [hrd, Int.toNat_natCast] at hx
      have hR : crcR 4294967295 (l0.take i) < 2 ^ 32 := crcR_lt (by decide) (HBY.out.take i)
      have hS : crcR 4294967295 (l0.take (i + 1)) = tabN (((crcR 4294967295 (l0.take i)) % 256) ^^^ x) ^^^ ((crcR 4294967295 (l0.take i)) / 256) := by
        have ht : l0.take (i + 1) = l0.take i ++ [l0.getD i 0] := by
          rw [List.take_succ_eq_append_getElem hi, List.getD_eq_getElem?_getD, List.getElem?_eq_getElem hi]; rfl
        rw [ht, crcR_snoc, hxe]; rfl
      obtain ⟨R, hRe⟩ : ∃ R, crcR 4294967295 (l0.take i) = R := ⟨_, rfl⟩
      rw [hRe] at hR hS ⊢
      have hj256 : (R % 256) ^^^ x < 256 := Nat.xor_lt_two_pow (n := 8) (by omega) hx256
      have hT := tab_lt _ hj256
      have hc := tabCells_at 256 _ hj256
      rw [if_pos hj256] at hc
      have hix : Go.bits .xor .u8 ((R : Int) % 256) (x : Int) = (((R % 256) ^^^ x : Nat) : Int) := by
        have h8 := bits_xor_nat .u8 (R % 256) x (by simp [IntKind.bits]; omega) (by simp [IntKind.bits]; omega)
        rw [IntKind.wrap_u8] at h8
        have h7 : ((R % 256 : Nat) : Int) = (R : Int) % 256 := by omega
        rw [h7] at h8; rw [h8]; omega
      obtain ⟨T, hTe⟩ : ∃ T, tabN ((R % 256) ^^^ x) = T := ⟨_, rfl⟩
      rw [hTe] at hT hc hS
      obtain ⟨j, hje⟩ : ∃ j, (R % 256) ^^^ x = j := ⟨_, rfl⟩
      rw [hje] at hj256 hc hix
      have HS := Aside0.mk (hS.trans (by rfl : _ = T ^^^ R / 256))
      have hX : Go.bits .xor .u32 (T : Int) ((R : Int) / 256) = ((T ^^^ R / 256 : Nat) : Int) := by
        have h8 := xor_u32 T (R / 256) hT (by omega)
        rw [← h8]; rfl
      have HX := Aside0.mk hX
      have hge : ∀ h : j < (tabCells 256).size, (tabCells 256)[j]'h = .int .u32 (T : Int) := fun h => by
        rw [Array.getElem?_eq_getElem h] at hc; exact Option.some.inj hc
      clear hX hje hTe hS hT hRe hR hxe hrd hby
      go_wp2
      go_roundg g
      case measure => omega
      case rel => exact ⟨i + 1, by omega, rfl, by rw [HS.out, ← HX.out], rfl⟩
end Go.Proofs.Ytohjkgboehnamaa.Q
