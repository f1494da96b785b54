/- The reference's functions over an array of seven numbers: Right, Text, parse. -/
import Derived.Test.YtohjkgboehnamaaQx0
import Derived.Test.YtohjkgboehnamaaQx34
import Derived.Test.YtohjkgboehnamaaQx36
import Derived.Test.YtohjkgboehnamaaQx49
import Derived.Deep.WholeRow
namespace Go.Proofs.Ytohjkgboehnamaa.Q
open Go.RowKit Go.Proofs.YtohjkgboehnamaaW.PrintWords Go.Proofs.YtohjkgboehnamaaW.PrintLast Go.Proofs.YtohjkgboehnamaaW.PrintMore
attribute [local irreducible] Calls skiarearef03_Put.f skiarearef03_Get.f
set_option linter.unusedVariables false
set_option linter.unusedSimpArgs false

/-- Seven numbers in cells. -/
def sev (x0 x1 x2 x3 x4 x5 x6 : Int) : Array Value := #[.int .i64 x0, .int .i64 x1, .int .i64 x2, .int .i64 x3, .int .i64 x4, .int .i64 x5, .int .i64 x6]
theorem sev_at (x0 x1 x2 x3 x4 x5 x6 : Int) (i : Nat) (h : i < 7) : (sev x0 x1 x2 x3 x4 x5 x6)[i]? = some (.int .i64 (rd [x0, x1, x2, x3, x4, x5, x6] (i : Int))) := by
  have hc : i = 0 ∨ i = 1 ∨ i = 2 ∨ i = 3 ∨ i = 4 ∨ i = 5 ∨ i = 6 := by omega
  rcases hc with rfl | rfl | rfl | rfl | rfl | rfl | rfl <;> rfl
/-- Seven cells are written, one behind the other. -/
theorem sev_store (t : TypeId) (W : World) (g : Nat) (z0 z1 z2 z3 z4 z5 z6 x0 x1 x2 x3 x4 x5 x6 : Int) (h : W.heap[g]? = some (.cells (sev z0 z1 z2 z3 z4 z5 z6) t (0, 0))) :
    (((((((W.setCell ⟨g, 0, none⟩ (.int .i64 x0)).setCell ⟨g, 1, none⟩ (.int .i64 x1)).setCell ⟨g, 2, none⟩ (.int .i64 x2)).setCell ⟨g, 3, none⟩ (.int .i64 x3)).setCell ⟨g, 4, none⟩ (.int .i64 x4)).setCell ⟨g, 5, none⟩ (.int .i64 x5)).setCell ⟨g, 6, none⟩ (.int .i64 x6)).heap[g]? = some (.cells (sev x0 x1 x2 x3 x4 x5 x6) t (0, 0)) := by
  refine blk_put (cs := sev x0 x1 x2 x3 x4 x5 z6) ?_ 6 _ rfl
  refine blk_put (cs := sev x0 x1 x2 x3 x4 z5 z6) ?_ 5 _ rfl
  refine blk_put (cs := sev x0 x1 x2 x3 z4 z5 z6) ?_ 4 _ rfl
  refine blk_put (cs := sev x0 x1 x2 z3 z4 z5 z6) ?_ 3 _ rfl
  refine blk_put (cs := sev x0 x1 z2 z3 z4 z5 z6) ?_ 2 _ rfl
  refine blk_put (cs := sev x0 z1 z2 z3 z4 z5 z6) ?_ 1 _ rfl
  refine blk_put (cs := sev z0 z1 z2 z3 z4 z5 z6) h 0 _ rfl
theorem sev_below {w W : World} {n g : Nat} (h : Below n w W) (hg : n ≤ g) (x0 x1 x2 x3 x4 x5 x6 : Int) :
    Below n w (((((((W.setCell ⟨g, 0, none⟩ (.int .i64 x0)).setCell ⟨g, 1, none⟩ (.int .i64 x1)).setCell ⟨g, 2, none⟩ (.int .i64 x2)).setCell ⟨g, 3, none⟩ (.int .i64 x3)).setCell ⟨g, 4, none⟩ (.int .i64 x4)).setCell ⟨g, 5, none⟩ (.int .i64 x5)).setCell ⟨g, 6, none⟩ (.int .i64 x6)) :=
  Below.setCell (Below.setCell (Below.setCell (Below.setCell (Below.setCell (Below.setCell (Below.setCell h hg _) hg _) hg _) hg _) hg _) hg _) hg _
def skiarearef29_Right.f (a0 a1 a2 a3 a4 a5 a6 : Int) : Option Bool := some ([a0, a1, a2, a3, a4, a5, a6].all fun x => decide (0 ≤ x) && decide (x ≤ 20000000))
theorem all_at (l : List Int) (i : Nat) (h : i < l.length) (hi : l.all (fun x => decide (0 ≤ x) && decide (x ≤ 20000000)) = true) : 0 ≤ rd l (i : Int) ∧ rd l (i : Int) ≤ 20000000 := by
  have := List.all_eq_true.mp hi (rd l (i : Int)) (by unfold rd; rw [Int.toNat_natCast, List.getD_eq_getElem?_getD, List.getElem?_eq_getElem h]; exact List.getElem_mem h)
  simpa using this
theorem all_of (l : List Int) (h : ∀ i : Nat, i < l.length → 0 ≤ rd l (i : Int) ∧ rd l (i : Int) ≤ 20000000) : l.all (fun x => decide (0 ≤ x) && decide (x ≤ 20000000)) = true := by
  refine List.all_eq_true.mpr (fun x hx => ?_)
  obtain ⟨i, hi, rfl⟩ := List.getElem_of_mem hx
  have := h i hi
  unfold rd at this
  rw [Int.toNat_natCast, List.getD_eq_getElem?_getD, List.getElem?_eq_getElem hi] at this
  simpa using this
set_option maxHeartbeats 4000000 in
set_option maxRecDepth 100000 in
theorem skiarearef29_Right.calls (a0 a1 a2 a3 a4 a5 a6 : Int) (r : Bool) (w : World) (h : skiarearef29_Right.f a0 a1 a2 a3 a4 a5 a6 = some r) :
    Calls Try.prog 27 #[.agg #[.int .i64 a0, .int .i64 a1, .int .i64 a2, .int .i64 a3, .int .i64 a4, .int .i64 a5, .int .i64 a6]] w fun e w' => e = .returned (.bool r) ∧ Below w.heap.size w w' := by
  have HR := Aside0.mk (Option.some.inj h)
  clear h
  have HB := Aside0.mk (Below.refl w.heap.size w)
  go_enter Try.func27, Try.ntmps27
  go_wp2_with (first
    | ((with_reducible refine gate_dst (N := 1) rfl ?_); refine box_event ?hg (N := 1) ?hd (cs := sev a0 a1 a2 a3 a4 a5 a6) (t := 39) ?hr ?_; (case hd => rfl); (case hg => rfl); (case hr => first | (go_simp; done) | (go_simp; rfl)); intro gb hg w7 hbox hb; have n0_ := Aside0.mk (below_step HB.out hb); clear HB; have HB := n0_; have hz0 : w7.cell? ⟨gb, 0, none⟩ = some (.int .i64 a0) := (blk_cell hbox 0).trans rfl; have hz1 : w7.cell? ⟨gb, 1, none⟩ = some (.int .i64 a1) := (blk_cell hbox 1).trans rfl; have hz2 : w7.cell? ⟨gb, 2, none⟩ = some (.int .i64 a2) := (blk_cell hbox 2).trans rfl; have hz3 : w7.cell? ⟨gb, 3, none⟩ = some (.int .i64 a3) := (blk_cell hbox 3).trans rfl; have hz4 : w7.cell? ⟨gb, 4, none⟩ = some (.int .i64 a4) := (blk_cell hbox 4).trans rfl; have hz5 : w7.cell? ⟨gb, 5, none⟩ = some (.int .i64 a5) := (blk_cell hbox 5).trans rfl; have hz6 : w7.cell? ⟨gb, 6, none⟩ = some (.int .i64 a6) := (blk_cell hbox 6).trans rfl; have hfz : ∀ j, w7.frozen? ⟨gb, j, none⟩ = false := fun j => blk_frozen hbox j; clear n0_ hg hbox hb)
    | (go_at_call 38; (with_reducible refine (skiarearef29_fields.calls a0 a1 a2 a3 a4 a5 a6 a0 a1 a2 a3 a4 a5 a6 _ rfl).mono ?_); rintro e w8 ⟨rfl, hb⟩; have n0_ := Aside0.mk (below_step (by repeat (first | (with_reducible first | exact HB.out | apply below_alloc | apply pw_below_drewN | apply below_drew1) | exact HB.out)) hb); clear HB; have HB := n0_; clear n0_ hb hz0 hz1 hz2 hz3 hz4 hz5 hz6 hfz))
  obtain ⟨L, hL⟩ : ∃ L, L = [a0, a1, a2, a3, a4, a5, a6] := ⟨_, rfl⟩
  have HL := Aside0.mk hL
  have HL7 := Aside0.mk (show L.length = 7 by rw [hL]; rfl)
  go_loopg [4] 7 (fun kq v4 w' => ∃ i : Nat, i + kq = 7 ∧ v4 = .int .i64 (i : Int) ∧ Aside0 (∀ j : Nat, j < i → 0 ≤ rd L (j : Int) ∧ rd L (j : Int) ≤ 20000000) ∧ Aside0 (w'.heap[w8.heap.size]? = some (.cells (sev a0 a1 a2 a3 a4 a5 a6) 62 (0, 0))) ∧ Aside0 (Below w.heap.size w w'))
  case atStart => exact ⟨0, rfl, rfl, ⟨fun j hj => absurd hj (by omega)⟩, ⟨heap_alloc_new _ _⟩, ⟨below_alloc HB.out _⟩⟩
  case round =>
    clear HB
    obtain ⟨i, hi, rfl, HI, HM, HB⟩ := hrel
    cases gk with
    | zero =>
      obtain rfl : i = 7 := by omega
      have hr : r = true := by
        rw [← HR.out, ← HL.out]
        exact all_of L (fun j hj => HI.out j (by have := HL7.out; omega))
      subst hr
      have d7 : decide (((7 : Nat) : Int) < 7) = false := by decide
      clear hi hL
      go_wp2
      go_ret
      exact ⟨rfl, HB.out⟩
    | succ gk =>
      have hi7 : i < 7 := by omega
      obtain ⟨x, hx⟩ : ∃ x, rd L (i : Int) = x := ⟨_, rfl⟩
      have hc : wr.cell? ⟨w8.heap.size, i, none⟩ = some (.int .i64 x) := by
        rw [← hx, hL]
        exact (blk_cell HM.out i).trans (sev_at _ _ _ _ _ _ _ i hi7)
      have hf : wr.frozen? ⟨w8.heap.size, i, none⟩ = false := blk_frozen HM.out i
      have HX := Aside0.mk hx
      have d7 : decide ((i : Int) < 7) = true := decide_eq_true (by omega)
      have e7 : ((i : Int) < 7) = True := eq_true (by omega)
      have e0 : ((0 : Int) ≤ (i : Int)) = True := eq_true (by omega)
      have hwi : wrap64 ((i : Int) + 1) = ((i + 1 : Nat) : Int) := by unfold wrap64; omega
      have HI7 := Aside0.mk hi7
      have HIK := Aside0.mk hi
      clear hx hL hi7 hi
      have hbad : ¬ (0 ≤ x ∧ x ≤ 20000000) → r = false := fun h => by
        rw [← HR.out, ← HL.out]
        refine Bool.eq_false_iff.mpr (fun ha => h ?_)
        have := all_at L i (by have := HL7.out; have := HI7.out; omega) ha
        rw [HX.out] at this
        exact this
      have HBAD := Aside0.mk hbad
      clear hbad
      by_cases c1 : x < 0
      · have c1b : decide (x < 0) = true := decide_eq_true c1
        have hr := HBAD.out (by omega)
        subst hr
        clear c1
        go_wp2
        go_ret
        exact ⟨rfl, HB.out⟩
      · have c1b : decide (x < 0) = false := decide_eq_false c1
        by_cases c2 : 20000000 < x
        · have c2b : decide (20000000 < x) = true := decide_eq_true c2
          have hr := HBAD.out (by omega)
          subst hr
          clear c1 c2
          go_wp2
          go_ret
          exact ⟨rfl, HB.out⟩
        · have c2b : decide (20000000 < x) = false := decide_eq_false c2
          have HXX := Aside0.mk (show 0 ≤ x ∧ x ≤ 20000000 by omega)
          clear c1 c2
          go_wp2
          go_roundg gk
          case measure => omega
          case rel => exact ⟨i + 1, by have := HIK.out; omega, by first | rfl | (rw [hwi]), ⟨fun j hj => by
            by_cases e : j = i
            · subst e; rw [HX.out]; exact HXX.out
            · exact HI.out j (by omega)⟩, HM, HB⟩
/-- Numbers put, one behind the other. -/
def putsF (k : Nat) : List Int → List Int → Option (List Int)
  | [], b => some b
  | x :: r, b => (skiarearef03_Put.f k b x).bind fun c => putsF k r c
theorem putsF_mono (k : Nat) : ∀ l b, LeO (putsF k l b) (putsF (k + 1) l b)
  | [], b => LeO.refl _
  | x :: r, b => LeO.bind (skiarearef03_Put.mono _ _ _) (fun c => putsF_mono k r c)
def skiarearef29_Text.f (k : Nat) (a0 a1 a2 a3 a4 a5 a6 : Int) : Option (List Int) := putsF k [a0, a1, a2, a3, a4, a5, a6] []
theorem skiarearef29_Text.mono : ∀ a0 a1 a2 a3 a4 a5 a6 k, LeO (skiarearef29_Text.f k a0 a1 a2 a3 a4 a5 a6) (skiarearef29_Text.f (k + 1) a0 a1 a2 a3 a4 a5 a6) := fun _ _ _ _ _ _ _ k => putsF_mono k _ _
theorem drop_rd (L : List Int) (i : Nat) (h : i < L.length) : L.drop i = rd L (i : Int) :: L.drop (i + 1) := by
  rw [List.drop_eq_getElem_cons h]
  unfold rd
  rw [Int.toNat_natCast, List.getD_eq_getElem?_getD, List.getElem?_eq_getElem h]; rfl
set_option maxHeartbeats 4000000 in
set_option maxRecDepth 100000 in
theorem skiarearef29_Text.calls (k : Nat) (a0 a1 a2 a3 a4 a5 a6 : Int) (r : List Int) (w : World) (h : skiarearef29_Text.f k a0 a1 a2 a3 a4 a5 a6 = some r) :
    Calls Try.prog 39 #[.agg #[.int .i64 a0, .int .i64 a1, .int .i64 a2, .int .i64 a3, .int .i64 a4, .int .i64 a5, .int .i64 a6]] w fun e w' => ∃ v0_ : Value, e = .returned (v0_) ∧ Kd.R (Kd.int .u8) 5 w' w.heap.size (fun _ => True) v0_ r ∧ Below w.heap.size w w' := by
  have HR := Aside0.mk h
  clear h
  have HB := Aside0.mk (Below.refl w.heap.size w)
  go_enter Try.func39, Try.ntmps39
  go_wp2_with (first
    | ((with_reducible refine gate_dst (N := 1) rfl ?_); refine box_event ?hg (N := 1) ?hd (cs := sev a0 a1 a2 a3 a4 a5 a6) (t := 39) ?hr ?_; (case hd => rfl); (case hg => rfl); (case hr => first | (go_simp; done) | (go_simp; rfl)); intro gb hg w7 hbox hb; have n0_ := Aside0.mk (below_step HB.out hb); clear HB; have HB := n0_; have hz0 : w7.cell? ⟨gb, 0, none⟩ = some (.int .i64 a0) := (blk_cell hbox 0).trans rfl; have hz1 : w7.cell? ⟨gb, 1, none⟩ = some (.int .i64 a1) := (blk_cell hbox 1).trans rfl; have hz2 : w7.cell? ⟨gb, 2, none⟩ = some (.int .i64 a2) := (blk_cell hbox 2).trans rfl; have hz3 : w7.cell? ⟨gb, 3, none⟩ = some (.int .i64 a3) := (blk_cell hbox 3).trans rfl; have hz4 : w7.cell? ⟨gb, 4, none⟩ = some (.int .i64 a4) := (blk_cell hbox 4).trans rfl; have hz5 : w7.cell? ⟨gb, 5, none⟩ = some (.int .i64 a5) := (blk_cell hbox 5).trans rfl; have hz6 : w7.cell? ⟨gb, 6, none⟩ = some (.int .i64 a6) := (blk_cell hbox 6).trans rfl; have hfz : ∀ j, w7.frozen? ⟨gb, j, none⟩ = false := fun j => blk_frozen hbox j; clear n0_ hg hbox hb)
    | (go_at_call 38; (with_reducible refine (skiarearef29_fields.calls a0 a1 a2 a3 a4 a5 a6 a0 a1 a2 a3 a4 a5 a6 _ rfl).mono ?_); rintro e w8 ⟨rfl, hb⟩; have n0_ := Aside0.mk (below_step (by repeat (first | (with_reducible first | exact HB.out | apply below_alloc | apply pw_below_drewN | apply below_drew1) | exact HB.out)) hb); clear HB; have HB := n0_; clear n0_ hb hz0 hz1 hz2 hz3 hz4 hz5 hz6 hfz))
  obtain ⟨L, hL⟩ : ∃ L, L = [a0, a1, a2, a3, a4, a5, a6] := ⟨_, rfl⟩
  have HR2 : putsF k L [] = some r := by rw [hL]; exact HR.out
  have HL := Aside0.mk hL
  have HL7 := Aside0.mk (show L.length = 7 by rw [hL]; rfl)
  have HRA := Aside0.mk HR2
  clear HR2 HR
  go_loopg [3, 5] 7 (fun kq v3 v5 w' => ∃ (i : Nat) (b : List Int), i + kq = 7 ∧ v5 = .int .i64 (i : Int) ∧ Aside0 (putsF k (L.drop i) b = some r) ∧ Aside0 (Kd.R (Kd.int .u8) 5 w' w.heap.size (fun _ => True) v3 b) ∧ Aside0 (w'.heap[w8.heap.size]? = some (.cells (sev a0 a1 a2 a3 a4 a5 a6) 62 (0, 0))) ∧ Aside0 (w.heap.size ≤ w8.heap.size) ∧ Aside0 (Below w.heap.size w w'))
  case atStart => exact ⟨0, [], rfl, rfl, HRA, ⟨Kd.R_nil _ _ _ _ _⟩, ⟨heap_alloc_new _ _⟩, ⟨below_size HB.out⟩, ⟨below_alloc HB.out _⟩⟩
  case round =>
    clear HB HRA
    obtain ⟨i, b, hi, rfl, HI, HO, HM, HG, HB⟩ := hrel
    cases gk with
    | zero =>
      obtain rfl : i = 7 := by omega
      have hr : b = r := by
        have := HI.out
        rw [List.drop_eq_nil_of_le (by have := HL7.out; omega)] at this
        exact Option.some.inj this
      have d7 : decide (((7 : Nat) : Int) < 7) = false := by decide
      subst hr
      clear hi hL
      go_wp2
      go_ret
      exact ⟨_, rfl, HO.out, HB.out⟩
    | succ gk =>
      have hi7 : i < 7 := by omega
      have hq := HI.out
      rw [drop_rd L i (by have := HL7.out; omega)] at hq
      obtain ⟨x, hx⟩ : ∃ x, rd L (i : Int) = x := ⟨_, rfl⟩
      rw [hx] at hq
      obtain ⟨c, hc1, hc2⟩ := Option.bind_eq_some_iff.mp hq
      have HC1 := Aside0.mk hc1
      have HC2 := Aside0.mk hc2
      have hc : wr.cell? ⟨w8.heap.size, i, none⟩ = some (.int .i64 x) := by
        rw [← hx, hL]
        exact (blk_cell HM.out i).trans (sev_at _ _ _ _ _ _ _ i hi7)
      have hf : wr.frozen? ⟨w8.heap.size, i, none⟩ = false := blk_frozen HM.out i
      have d7 : decide ((i : Int) < 7) = true := decide_eq_true (by omega)
      have e7 : ((i : Int) < 7) = True := eq_true (by omega)
      have e0 : ((0 : Int) ≤ (i : Int)) = True := eq_true (by omega)
      have hwi : wrap64 ((i : Int) + 1) = ((i + 1 : Nat) : Int) := by unfold wrap64; omega
      have HI7 := Aside0.mk hi7
      have HIK := Aside0.mk hi
      clear hq hc1 hc2 hx hL hi7 hi
      obtain ⟨A, cc, rfl, hlc, hCC⟩ := Kd.R_reads HO.out
      have HCC := Aside0.mk hCC
      have HLC := Aside0.mk hlc
      clear hCC hlc
      go_wp2_with (go_at_call 50; (with_reducible refine (skiarearef03_Put.calls k A cc b x c _ HCC.out HLC.out HC1.out).mono ?_); rintro e w11 ⟨v0, rfl, ho, hb⟩; have HO2 := Aside0.mk (Kd.R_lower ho (below_size HB.out)); have HB2 := Aside0.mk (below_step HB.out hb); have HM2 := Aside0.mk (blk_below HM.out hb); clear ho hb hc hf)
      go_roundg gk
      case measure => omega
      case rel => exact ⟨i + 1, c, by have := HIK.out; omega, by first | rfl | (rw [hwi]), HC2, HO2, HM2, HG, HB2⟩
theorem rd_snoc (ns : List Int) (x : Int) (j : Nat) : rd (ns ++ [x]) (j : Int) = if j = ns.length then x else rd ns (j : Int) := by
  unfold rd
  rw [Int.toNat_natCast, List.getD_eq_getElem?_getD, List.getD_eq_getElem?_getD]
  by_cases h : j = ns.length
  · rw [if_pos h, h, List.getElem?_append_right (Nat.le_refl _)]; simp
  · rw [if_neg h]
    by_cases h2 : j < ns.length
    · rw [List.getElem?_append_left h2]
    · rw [List.getElem?_append_right (by omega), List.getElem?_eq_none (by simp; omega), List.getElem?_eq_none (by omega)]
/-- The cells of the array when some of its seven numbers are read. -/
def arr7 (ns : List Int) : Array Value := sev (rd ns 0) (rd ns 1) (rd ns 2) (rd ns 3) (rd ns 4) (rd ns 5) (rd ns 6)
theorem arr7_set (ns : List Int) (x : Int) (h : ns.length < 7) : (arr7 ns).setIfInBounds ns.length (.int .i64 x) = arr7 (ns ++ [x]) := by
  have e0 := rd_snoc ns x 0
  have e1 := rd_snoc ns x 1
  have e2 := rd_snoc ns x 2
  have e3 := rd_snoc ns x 3
  have e4 := rd_snoc ns x 4
  have e5 := rd_snoc ns x 5
  have e6 := rd_snoc ns x 6
  unfold arr7 sev
  have hc : ns.length = 0 ∨ ns.length = 1 ∨ ns.length = 2 ∨ ns.length = 3 ∨ ns.length = 4 ∨ ns.length = 5 ∨ ns.length = 6 := by omega
  rcases hc with hc | hc | hc | hc | hc | hc | hc <;> rw [hc] at e0 e1 e2 e3 e4 e5 e6 ⊢ <;> simp at e0 e1 e2 e3 e4 e5 e6 <;> rw [e0, e1, e2, e3, e4, e5, e6] <;> rfl
theorem arr7_at (ns : List Int) (j : Nat) (h : j < 7) : (arr7 ns)[j]? = some (.int .i64 (rd ns (j : Int))) := by
  have hc : j = 0 ∨ j = 1 ∨ j = 2 ∨ j = 3 ∨ j = 4 ∨ j = 5 ∨ j = 6 := by omega
  rcases hc with rfl | rfl | rfl | rfl | rfl | rfl | rfl <;> rfl
/-- Numbers read, one behind the other: the numbers, the place behind them; or none, where one of them is damaged. -/
def parseF (k : Nat) (b : List Int) : Nat → Int → List Int → Option (List Int × Int × Bool)
  | 0, at_, ns => some (ns, at_, true)
  | d + 1, at_, ns => if 0 ≤ at_ then (if at_ ≤ (b.length : Int) then ((skiarearef03_Get.f k (b.drop at_.toNat)).bind fun g => if g.2.2 = 0 then parseF k b d (wrap64 (at_ + g.2.1)) (ns ++ [g.1]) else some ([], 0, false)) else none) else none
theorem parseF_mono (k : Nat) (b : List Int) : ∀ d a n, LeO (parseF k b d a n) (parseF (k + 1) b d a n)
  | 0, a, n => LeO.refl _
  | d + 1, a, n => LeO.ite (LeO.ite (LeO.bind (skiarearef03_Get.mono _ _) (fun g => LeO.ite (parseF_mono k b d _ _) (LeO.refl _))) (LeO.none _)) (LeO.none _)
def skiarearef29_parse.f (k : Nat) (l : List Int) : Option (Int × Int × Int × Int × Int × Int × Int × Int × Bool) :=
  (parseF k l 7 0 []).bind fun t => some (rd t.1 0, rd t.1 1, rd t.1 2, rd t.1 3, rd t.1 4, rd t.1 5, rd t.1 6, t.2.1, t.2.2)
theorem skiarearef29_parse.mono : ∀ a0 k, LeO (skiarearef29_parse.f k a0) (skiarearef29_parse.f (k + 1) a0) := fun a0 k => LeO.bind (parseF_mono k a0 7 0 []) (fun _ => LeO.refl _)
set_option maxHeartbeats 4000000 in
set_option maxRecDepth 100000 in
theorem skiarearef29_parse.calls (k : Nat) (A0 : Option Addr) (c0 : Nat) (l0 : List Int) (r1 r2 r3 r4 r5 r6 r7 r8 : Int) (r9 : Bool) (w : World) (hr0 : Kd.C (Kd.int .u8) w A0 l0.length l0) (hc0 : l0.length ≤ c0) (h : skiarearef29_parse.f k l0 = some (r1, r2, r3, r4, r5, r6, r7, r8, r9)) :
    Calls Try.prog 54 #[.slice A0 l0.length c0] w fun e w' => e = .returned (.tuple #[.agg #[.int .i64 r1, .int .i64 r2, .int .i64 r3, .int .i64 r4, .int .i64 r5, .int .i64 r6, .int .i64 r7], .int .i64 r8, .bool r9]) ∧ Below w.heap.size w w' := by
  obtain ⟨⟨ms, at9, ok9⟩, hp, hq⟩ := Option.bind_eq_some_iff.mp h
  simp only [Option.some.injEq, Prod.mk.injEq] at hq
  have HQ := Aside0.mk hq
  have HP := Aside0.mk hp
  have HC := Aside0.mk hr0
  have HL := Aside0.mk hc0
  clear h hr0 hc0 hp hq
  go_enter Try.func54, Try.ntmps54
  go_wp2
  go_loopg [6, 7] 7 (fun kq v6 v7 w' => ∃ (ns : List Int) (at_ : Int), ns.length + kq = 7 ∧ v6 = .int .i64 at_ ∧ v7 = .int .i64 (ns.length : Int) ∧ Aside0 (parseF k l0 kq at_ ns = some (ms, at9, ok9)) ∧ Aside0 (w'.heap[w.heap.size]? = some (.cells (sev 0 0 0 0 0 0 0) 39 (0, 0))) ∧ Aside0 (w'.heap[w.heap.size + 1]? = some (.cells (arr7 ns) 62 (0, 0))) ∧ Aside0 (w.heap.size + 1 < w'.heap.size) ∧ Aside0 (Below w.heap.size w w'))
  case atStart => exact ⟨[], 0, rfl, rfl, rfl, HP, ⟨heap_alloc2_old _ _ _⟩, ⟨heap_alloc2_new _ _ _⟩, ⟨by simp⟩, ⟨below_alloc (below_alloc (Below.refl _ _) _) _⟩⟩
  case round =>
    clear HP
    obtain ⟨ns, at_, hn, rfl, rfl, HA, HM, HR, HZ, HB⟩ := hrel
    cases gk with
    | zero =>
      have hn7 : ns.length = 7 := by omega
      have hA := HA.out
      simp only [parseF, Option.some.injEq, Prod.mk.injEq] at hA
      obtain ⟨rfl, rfl, rfl⟩ := hA
      obtain ⟨q1, q2, q3, q4, q5, q6, q7, q8, q9⟩ := HQ.out
      subst q8 q9
      rw [hn7]
      have d7 : decide (((7 : Nat) : Int) < 7) = false := by decide
      obtain ⟨n0, hn0⟩ : ∃ z, rd ns 0 = z := ⟨_, rfl⟩
      obtain ⟨n1, hn1⟩ : ∃ z, rd ns 1 = z := ⟨_, rfl⟩
      obtain ⟨n2, hn2⟩ : ∃ z, rd ns 2 = z := ⟨_, rfl⟩
      obtain ⟨n3, hn3⟩ : ∃ z, rd ns 3 = z := ⟨_, rfl⟩
      obtain ⟨n4, hn4⟩ : ∃ z, rd ns 4 = z := ⟨_, rfl⟩
      obtain ⟨n5, hn5⟩ : ∃ z, rd ns 5 = z := ⟨_, rfl⟩
      obtain ⟨n6, hn6⟩ : ∃ z, rd ns 6 = z := ⟨_, rfl⟩
      have hd0 : wr.cell? ⟨w.heap.size + 1, 0, none⟩ = some (.int .i64 n0) := (blk_cell HR.out 0).trans (by rw [← hn0]; rfl)
      have hd1 : wr.cell? ⟨w.heap.size + 1, 1, none⟩ = some (.int .i64 n1) := (blk_cell HR.out 1).trans (by rw [← hn1]; rfl)
      have hd2 : wr.cell? ⟨w.heap.size + 1, 2, none⟩ = some (.int .i64 n2) := (blk_cell HR.out 2).trans (by rw [← hn2]; rfl)
      have hd3 : wr.cell? ⟨w.heap.size + 1, 3, none⟩ = some (.int .i64 n3) := (blk_cell HR.out 3).trans (by rw [← hn3]; rfl)
      have hd4 : wr.cell? ⟨w.heap.size + 1, 4, none⟩ = some (.int .i64 n4) := (blk_cell HR.out 4).trans (by rw [← hn4]; rfl)
      have hd5 : wr.cell? ⟨w.heap.size + 1, 5, none⟩ = some (.int .i64 n5) := (blk_cell HR.out 5).trans (by rw [← hn5]; rfl)
      have hd6 : wr.cell? ⟨w.heap.size + 1, 6, none⟩ = some (.int .i64 n6) := (blk_cell HR.out 6).trans (by rw [← hn6]; rfl)
      have hc0 : wr.cell? ⟨w.heap.size, 0, none⟩ = some (.int .i64 0) := cell_of_row _ _ 0 _ _ _ HM.out
      have hc1 : wr.cell? ⟨w.heap.size, 1, none⟩ = some (.int .i64 0) := cell_of_row _ _ 1 _ _ _ HM.out
      have hc2 : wr.cell? ⟨w.heap.size, 2, none⟩ = some (.int .i64 0) := cell_of_row _ _ 2 _ _ _ HM.out
      have hc3 : wr.cell? ⟨w.heap.size, 3, none⟩ = some (.int .i64 0) := cell_of_row _ _ 3 _ _ _ HM.out
      have hc4 : wr.cell? ⟨w.heap.size, 4, none⟩ = some (.int .i64 0) := cell_of_row _ _ 4 _ _ _ HM.out
      have hc5 : wr.cell? ⟨w.heap.size, 5, none⟩ = some (.int .i64 0) := cell_of_row _ _ 5 _ _ _ HM.out
      have hc6 : wr.cell? ⟨w.heap.size, 6, none⟩ = some (.int .i64 0) := cell_of_row _ _ 6 _ _ _ HM.out
      have hfr : ∀ j, wr.frozen? ⟨w.heap.size, j, none⟩ = false := fun j => frozen_of_row _ _ j _ _ HM.out
      have hfd : ∀ j, wr.frozen? ⟨w.heap.size + 1, j, none⟩ = false := fun j => frozen_of_row _ _ j _ _ HR.out
      rw [hn0] at q1
      rw [hn1] at q2
      rw [hn2] at q3
      rw [hn3] at q4
      rw [hn4] at q5
      rw [hn5] at q6
      rw [hn6] at q7
      subst q1 q2 q3 q4 q5 q6 q7
      clear hn0 hn1 hn2 hn3 hn4 hn5 hn6 hn hn7
      go_wp2
      refine bodyPost_ret (results_list (rs := [.cell 2 39, .tmp 3, .tmp 4]) rfl (by simp) (.cell w.heap.size 39 (sev n0 n1 n2 n3 n4 n5 n6) (0, 0) _ rfl (sev_store _ wr w.heap.size 0 0 0 0 0 0 0 n0 n1 n2 n3 n4 n5 n6 HM.out) Try.underlying39 rfl (by kernel_rfl) (.tmp (.tmp .nil)))) rfl ?_
      exact ⟨rfl, sev_below HB.out (Nat.le_refl _) _ _ _ _ _ _ _⟩
    | succ gk =>
      have H := HA.out
      clear HA
      simp only [parseF] at H
      by_cases c8 : 0 ≤ at_
      · rw [if_pos c8] at H
        by_cases c9 : at_ ≤ (l0.length : Int)
        · rw [if_pos c9] at H
          obtain ⟨⟨x, sz, e⟩, hg, H⟩ := Option.bind_eq_some_iff.mp H
          have HG := Aside0.mk hg
          clear hg
          simp only [] at H
          have hn7 : ns.length < 7 := by omega
          have d7 : decide ((ns.length : Int) < 7) = true := decide_eq_true (by omega)
          have e7 : ((ns.length : Int) < 7) = True := eq_true (by omega)
          have e0 : ((0 : Int) ≤ (ns.length : Int)) = True := eq_true (by omega)
          have hwi : wrap64 ((ns.length : Int) + 1) = ((ns.length + 1 : Nat) : Int) := by unfold wrap64; omega
          obtain ⟨i05, hi05, _, hsz5, _⟩ := info_parts info5
          obtain ⟨A', hcut, hA, hC⟩ := print_drop_of (P := Try.prog) (Value.int .u8) 0 24 5 .i64 Try.underlying24 hi05 hsz5 A0 c0 l0 at_ c8 c9 HL.out
          have HC2 := Aside0.mk (Kd.C_of_reads (h1 := fun _ => rfl) (hA _ (Kd.reads_of_C (Kd.C_below HC.out HB.out))))
          have HL2 := Aside0.mk hC
          have HN := Aside0.mk hn
          have HN7 := Aside0.mk hn7
          clear hA hC hi05 hsz5 hn hn7
          by_cases c7 : e = 0
          · rw [if_pos c7] at H
            have HA := Aside0.mk H
            have c7b : (e != 0) = false := by simpa using c7
            clear H
            go_wp2_with (go_at_call 62; have hgc := skiarearef03_Get.calls k A' (c0 - at_.toNat) (l0.drop at_.toNat) x sz e wr HC2.out HL2.out HG.out; rw [List.length_drop] at hgc; refine hgc.mono ?_; clear hgc; rintro e9 w11 ⟨rfl, hd⟩; have hb := hd.below; have HB2 := Aside0.mk (below_step HB.out hb); have HM2 := Aside0.mk ((hb.block _ (Nat.lt_of_succ_lt HZ.out)).trans HM.out); have HR2 := Aside0.mk ((hb.block _ HZ.out).trans HR.out); have HZ2 := Aside0.mk (Nat.lt_of_lt_of_le HZ.out hb.size); have hcell : w11.cell? ⟨w.heap.size + 1, ns.length, none⟩ = some (.int .i64 (rd ns (ns.length : Int))) := (by rw [cell_of_row _ _ _ _ _ _ HR2.out, arr7_at ns _ HN7.out]); have hfr : w11.frozen? ⟨w.heap.size + 1, ns.length, none⟩ = false := frozen_of_row _ _ _ _ _ HR2.out; clear hb hd)
            go_roundg gk
            case measure => omega
            case rel =>
              refine ⟨ns ++ [x], wrap64 (at_ + sz), by rw [List.length_append]; simp; have := HN.out; omega, rfl, ?_, HA, ⟨?_⟩, ⟨?_⟩, ⟨?_⟩, ⟨?_⟩⟩
              · rw [List.length_append]; first | rfl | (rw [hwi]; rfl)
              · exact (heap_setCell_other _ _ _ _ (by simp)).trans HM2.out
              · exact (heap_setCell_same _ _ _ _ _ _ HR2.out).trans (by rw [arr7_set _ _ HN7.out])
              · show _ < (w11.setCell _ _).heap.size; rw [World.size_setCell]; exact HZ2.out
              · exact Below.setCell HB2.out (by simp) _
          · rw [if_neg c7] at H
            have c7b : (e != 0) = true := by simpa using c7
            simp only [Option.some.injEq, Prod.mk.injEq] at H
            obtain ⟨rfl, rfl, rfl⟩ := H
            obtain ⟨q1, q2, q3, q4, q5, q6, q7, q8, q9⟩ := HQ.out
            subst q1 q2 q3 q4 q5 q6 q7 q8 q9
            go_wp2_with (go_at_call 62; have hgc := skiarearef03_Get.calls k A' (c0 - at_.toNat) (l0.drop at_.toNat) x sz e wr HC2.out HL2.out HG.out; rw [List.length_drop] at hgc; refine hgc.mono ?_; clear hgc; rintro e9 w11 ⟨rfl, hd⟩; have hb := hd.below; have HB2 := Aside0.mk (below_step HB.out hb); have hM2 := (hb.block _ (Nat.lt_of_succ_lt HZ.out)).trans HM.out; have hc0 : w11.cell? ⟨w.heap.size, 0, none⟩ = some (.int .i64 0) := cell_of_row _ _ 0 _ _ _ hM2; have hc1 : w11.cell? ⟨w.heap.size, 1, none⟩ = some (.int .i64 0) := cell_of_row _ _ 1 _ _ _ hM2; have hc2 : w11.cell? ⟨w.heap.size, 2, none⟩ = some (.int .i64 0) := cell_of_row _ _ 2 _ _ _ hM2; have hc3 : w11.cell? ⟨w.heap.size, 3, none⟩ = some (.int .i64 0) := cell_of_row _ _ 3 _ _ _ hM2; have hc4 : w11.cell? ⟨w.heap.size, 4, none⟩ = some (.int .i64 0) := cell_of_row _ _ 4 _ _ _ hM2; have hc5 : w11.cell? ⟨w.heap.size, 5, none⟩ = some (.int .i64 0) := cell_of_row _ _ 5 _ _ _ hM2; have hc6 : w11.cell? ⟨w.heap.size, 6, none⟩ = some (.int .i64 0) := cell_of_row _ _ 6 _ _ _ hM2; have hfr : ∀ j, w11.frozen? ⟨w.heap.size, j, none⟩ = false := fun j => frozen_of_row _ _ j _ _ hM2; have HM2 := Aside0.mk hM2; clear hM2 hb hd)
            refine bodyPost_ret (results_list (rs := [.cell 2 39, .tmp 3, .tmp 4]) rfl (by simp) (.cell w.heap.size 39 (sev 0 0 0 0 0 0 0) (0, 0) _ rfl (sev_store _ w11 w.heap.size 0 0 0 0 0 0 0 0 0 0 0 0 0 0 HM2.out) Try.underlying39 rfl (by kernel_rfl) (.tmp (.tmp .nil)))) rfl ?_
            exact ⟨rfl, sev_below HB2.out (Nat.le_refl _) _ _ _ _ _ _ _⟩
        · rw [if_neg c9] at H; simp at H
      · rw [if_neg c8] at H; simp at H
end Go.Proofs.Ytohjkgboehnamaa.Q
