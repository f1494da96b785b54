/- SealBlocks walked by hand: a copy of the bytes, of which one block is changed. -/
import Derived.Test.YtmfjicpgofdmkaaEx0
import Derived.Test.YtmfjicpgofdmkaaEHTag
import Derived.Test.YtmfjicpgofdmkaaEx6
import Derived.Deep.WholeRow
namespace Go.Proofs.Ytmfjicpgofdmkaa.E
open Go.RowKit Go.Proofs.YtmfjicpgofdmkaaW.PrintWords Go.Proofs.YtmfjicpgofdmkaaW.PrintLast Go.Proofs.YtmfjicpgofdmkaaW.PrintMore
attribute [local irreducible] Calls seal_Tag.f skiarealaw04_alive.f
set_option linter.unusedVariables false
set_option linter.unusedSimpArgs false

/-- The bytes when i of the block's are changed. -/
def mixed (l ch : List Int) (p : Nat) : Nat → List Int
  | 0 => l
  | i + 1 => (mixed l ch p i).set (p + i) (Go.bits .xor .u8 (rd (mixed l ch p i) ((p + i : Nat) : Int)) (rd ch (i : Int)))
/-- Is one of the first i changes no zero. -/
def chg (ch : List Int) : Nat → Bool
  | 0 => false
  | i + 1 => chg ch i || rd ch (i : Int) != 0
theorem mixed_length (l ch : List Int) (p : Nat) : ∀ i, (mixed l ch p i).length = l.length
  | 0 => rfl
  | i + 1 => by rw [mixed, List.length_set]; exact mixed_length l ch p i
/-- The block's place. -/
def placeOf (l ch : List Int) : Int := wrap64 (wrap64 (((wrap64 (wrap64 (rd ch 8) * 8)).tmod (l.length : Int)).tdiv 8) * 8)
/-- The cells of the array. -/
def chCells (ch : List Int) : Array Value := (ch.map (Value.int .u8)).toArray
theorem chCells_at (ch : List Int) (i : Nat) (h : i < ch.length) : (chCells ch)[i]? = some (.int .u8 (rd ch (i : Int))) := by
  unfold chCells rd
  rw [Int.toNat_natCast, List.getElem?_toArray, List.getElem?_map, List.getD_eq_getElem?_getD, List.getElem?_eq_getElem h]; rfl
theorem tag_row {w : World} {base g n cap : Nat} {ok : Nat → Prop} {xs : List Int} (h : Kd.R (Kd.int .u8) 5 w base ok (.slice (some ⟨g, 0, none⟩) n cap) xs) (hn : xs.length = n) (k : Nat) (a0 r : Int) (hf : seal_Tag.f k a0 xs = some r) :
    Calls Try.prog 16 #[.int .u64 a0, .slice (some ⟨g, 0, none⟩) n cap] w fun e w' => e = .returned (.int .u64 r) ∧ Below w.heap.size w w' := by
  subst hn
  have h2 := Kd.R_reads' h
  exact seal_Tag.calls k a0 _ cap xs r w h2.2.2 h2.2.1 hf
set_option maxHeartbeats 4000000 in
set_option maxRecDepth 100000 in
theorem skiarealaw04_SealBlocks.calls (k : Nat) (a0 : Int) (A1 : Option Addr) (c1 : Nat) (l1 ch : List Int) (p : Nat) (t0 t1 : Int) (w : World) (hr1 : Kd.C (Kd.int .u8) w A1 l1.length l1) (hc1 : l1.length ≤ c1) (h9 : ch.length = 9) (hp : l1.length ≠ 0 → placeOf l1 ch = (p : Int)) (hpl : l1.length ≠ 0 → p < l1.length) (ha : skiarealaw04_alive.f k = some true)
    (h0 : l1.length ≤ 500 → seal_Tag.f k a0 l1 = some t0) (h1 : l1.length ≠ 0 → l1.length ≤ 500 → seal_Tag.f k a0 (mixed l1 ch p (min 8 (l1.length - p))) = some t1) (h2 : l1.length ≠ 0 → l1.length ≤ 500 → ((t0 != t1) == chg ch (min 8 (l1.length - p))) = true) :
    Calls Try.prog 9 #[.int .u64 a0, .slice A1 l1.length c1, .agg (chCells ch)] w fun e w' => e = .returned (.bool true) ∧ Below w.heap.size w w' := by
  have HR0 := Aside0.mk hr1
  have HC0 := Aside0.mk hc1
  have HA := Aside0.mk ha
  have HT0 := Aside0.mk h0
  have HT1 := Aside0.mk h1
  have HT2 := Aside0.mk h2
  have HP := Aside0.mk hp
  have HPL := Aside0.mk hpl
  have H9 := Aside0.mk h9
  clear hr1 hc1 ha h0 h1 h2 hp hpl h9
  have HB := Aside0.mk (Below.refl w.heap.size w)
  by_cases c5 : 500 < l1.length
  · have c5b : decide (500 < (l1.length : Int)) = true := decide_eq_true (by omega)
    clear c5
    go_enter Try.func9, Try.ntmps9
    go_wp2_with (first
      | ((with_reducible refine gate_dst (N := 5) rfl ?_); refine box_event ?hg (N := 5) ?hd (cs := chCells ch) (t := 35) ?hr ?_; (case hd => rfl); (case hg => rfl); (case hr => first | (go_simp; done) | (go_simp; rfl)); intro gb hg w7 hbox hb; have n0_ := Aside0.mk (below_step HB.out hb); clear HB; have HB := n0_; clear n0_ hg hbox hb)
      | (go_at_call 11; (with_reducible refine (skiarealaw04_alive.calls k true _ HA.out).mono ?_); rintro e w8 ⟨rfl, hb⟩; have n0_ := Aside0.mk (below_step (by repeat (first | (with_reducible first | exact HB.out | apply below_alloc | apply pw_below_drewN | apply below_drew1) | exact HB.out)) hb); clear HB; have HB := n0_; clear n0_ hb))
    go_ret
    exact ⟨rfl, HB.out⟩
  · have c5b : decide (500 < (l1.length : Int)) = false := decide_eq_false (by omega)
    have HL := Aside0.mk (show l1.length ≤ 500 by omega)
    clear c5
    by_cases c6 : l1.length = 0
    · have c6b : ((l1.length : Int) == 0) = true := by rw [c6]; rfl
      clear c6
      go_enter Try.func9, Try.ntmps9
      go_wp2_with (first
        | ((with_reducible refine gate_dst (N := 5) rfl ?_); refine box_event ?hg (N := 5) ?hd (cs := chCells ch) (t := 35) ?hr ?_; (case hd => rfl); (case hg => rfl); (case hr => first | (go_simp; done) | (go_simp; rfl)); intro gb hg w7 hbox hb; have n0_ := Aside0.mk (below_step HB.out hb); clear HB; have HB := n0_; clear n0_ hg hbox hb)
        | (go_at_call 11; (with_reducible refine (skiarealaw04_alive.calls k true _ HA.out).mono ?_); rintro e w8 ⟨rfl, hb⟩; have n0_ := Aside0.mk (below_step (by repeat (first | (with_reducible first | exact HB.out | apply below_alloc | apply pw_below_drewN | apply below_drew1) | exact HB.out)) hb); clear HB; have HB := n0_; clear n0_ hb))
      go_ret
      exact ⟨rfl, HB.out⟩
    · have c6b : ((l1.length : Int) == 0) = false := by rw [beq_eq_false_iff_ne]; omega
      have HN := Aside0.mk c6
      clear c6
      obtain ⟨hr9, h9p⟩ : (8 < ch.length) ∧ True := ⟨by have := H9.out; omega, trivial⟩
      obtain ⟨x8, hx8⟩ : ∃ x, rd ch 8 = x := ⟨_, rfl⟩
      have hP := HP.out HN.out
      unfold placeOf at hP
      rw [hx8] at hP
      have hnil : (l1 = []) = False := eq_false (fun e => HN.out (by rw [e]; rfl))
      go_enter Try.func9, Try.ntmps9
      go_wp2_with (first
        | ((with_reducible refine gate_dst (N := 5) rfl ?_); refine box_event ?hg (N := 5) ?hd (cs := chCells ch) (t := 35) ?hr ?_; (case hd => rfl); (case hg => rfl); (case hr => first | (go_simp; done) | (go_simp; rfl)); intro gb hg w7 hbox hb; have n0_ := Aside0.mk (below_step HB.out hb); have BK := Aside0.mk hbox; have GW := Aside0.mk (show w.heap.size ≤ gb by rw [hg]; exact Nat.le_refl _); clear HB; have HB := n0_; clear n0_ hg hbox hb)
        | (go_at_call 11; (with_reducible refine (skiarealaw04_alive.calls k true _ HA.out).mono ?_); rintro e w8 ⟨rfl, hb⟩; have n1_ := Aside0.mk (blk_below (by (with_reducible repeat (first | refine blk_drewN ?_ _ | refine blk_drew ?_ | refine blk_alloc ?_ _)); exact BK.out) hb); have n0_ := Aside0.mk (below_step (by repeat (first | (with_reducible first | exact HB.out | apply below_alloc | apply pw_below_drewN | apply below_drew1) | exact HB.out)) hb); clear HB; clear BK; have HB := n0_; have BK := n1_; clear n0_ n1_ hb)
        | ((with_reducible refine gate_dst (N := 21) rfl ?_); refine Kd.R_lit (Kd.int .u8) _ 5 ?hg (N := 21) ?hd (xs := ([] : List Int)) (inner := []) (ok := fun _ => True) (okp := fun _ => True) ?hr ?hp (fun _ hk => hk) trivial (Below.refl _ _) (Nat.le_refl _) (by simp) ?_; (case hd => rfl); (case hg => rfl); (case hr => first | (go_simp; done) | (go_simp; rfl)); (case hp => exact (Reps.none _ _)); intro v128 w9 ho10 hb hg_ hnew_; clear hg_ hnew_; have n0_ := Aside0.mk (Kd.R_lower ho10 (below_size (by repeat (first | (with_reducible first | exact HB.out | apply below_alloc | apply pw_below_drewN | apply below_drew1) | exact HB.out)))); have n1_ := Aside0.mk (below_step (by repeat (first | (with_reducible first | exact HB.out | apply below_alloc | apply pw_below_drewN | apply below_drew1) | exact HB.out)) hb); have n2_ := Aside0.mk (blk_below (by (with_reducible repeat (first | refine blk_drewN ?_ _ | refine blk_drew ?_ | refine blk_alloc ?_ _)); exact BK.out) hb); clear HB; clear BK; have HO129 := n0_; have HB := n1_; have BK := n2_; clear n0_ n1_ n2_; clear hb ho10)
        | ((with_reducible refine gate_builtin (b := .append) (xs := #[.tmp 21, .tmp 22]) rfl ?_); at_builtin; refine Kd.R_append_rows (Kd.int .u8) (w0 := w) w.heap.size rfl (.tmp 21) (.tmp 22) 28 5 (.int .u8 0) 1 rfl Try.underlying28 info5 rfl (by decide) (by omega) v128 [] l1 _ _ _ (fun _ => True) (fun _ => False) rfl rfl ?aO ?aR (fun _ _ h => h) (fun _ h => h.elim) ?aF ?aB ?aS ?aL ?_; (case aR => repeat (first | exact (Kd.C_below HR0.out HB.out) | (with_reducible refine Kd.C_alloc ?_ _) | (with_reducible refine Kd.C_drewN ?_ _) | (with_reducible refine Kd.C_drew ?_))); (case aB => exact (by repeat (first | (with_reducible first | exact HB.out | apply below_alloc | apply pw_below_drewN | apply below_drew1) | exact HB.out))); (case aF => exact (fun _ _ => trivial)); (case aO => exact (by (with_reducible repeat (first | apply Kd.R_alloc | apply Kd.R_drewN | apply Kd.R_drew)); exact HO129.out)); (case aS => exact (below_size (by repeat (first | (with_reducible first | exact HB.out | apply below_alloc | apply pw_below_drewN | apply below_drew1) | exact HB.out)))); (case aL => have := HL.out; simp; omega); intro v131 w11 ho hb hg hat; rw [List.nil_append] at ho; have n2_ := Aside0.mk (blk_grown (by (with_reducible repeat (first | refine blk_drewN ?_ _ | refine blk_drew ?_ | refine blk_alloc ?_ _)); exact BK.out) hg (Kd.R_ne HO129.out BK.out (by decide))); obtain ⟨g, cap, rfl, hge, hgl, _⟩ := Kd.R_form ho (Nat.pos_of_ne_zero HN.out); have n0_ := Aside0.mk (hb); have n1_ := Aside0.mk (ho); have GG := Aside0.mk (show w.heap.size ≤ g from hge); clear hge hgl; clear HB; clear HO129; clear BK; have HB := n0_; have HO := n1_; have BK := n2_; clear n0_ n1_ n2_; clear ho hb hg hat; have hc8 : w11.cell? ⟨gb, 8, none⟩ = some (.int .u8 x8) := (blk_cell BK.out 8).trans ((chCells_at ch 8 hr9).trans (by rw [show rd ch ((8 : Nat) : Int) = x8 from hx8])); have hf8 := blk_frozen BK.out 8))
      rw [hP]
      clear hP hc8 hf8 hnil
      have HPp := Aside0.mk (HPL.out HN.out)
      obtain ⟨m, hm⟩ : ∃ m, min 8 (l1.length - p) = m := ⟨_, rfl⟩
      rw [hm] at HT1 HT2
      have HM := Aside0.mk hm
      clear hm
      go_loopg [9, 10] m (fun kq v9 v10 w' => ∃ i : Nat, i + kq = m ∧ v9 = .bool (chg ch i) ∧ v10 = .int .i64 (i : Int) ∧ Aside0 (Kd.R (Kd.int .u8) 5 w' w.heap.size (fun _ => True) (.slice (some ⟨g, 0, none⟩) l1.length cap) (mixed l1 ch p i)) ∧ Aside0 (w'.heap[gb]? = some (.cells (chCells ch) 35 (0, 0))) ∧ Aside0 (Below w.heap.size w w'))
      case atStart => exact ⟨0, by omega, rfl, rfl, HO, BK, HB⟩
      case round =>
        clear HO BK HB
        obtain ⟨i, hi, rfl, rfl, HO, BK, HB⟩ := hrel
        have HI := Aside0.mk hi
        clear hi
        cases gk with
        | zero =>
          obtain rfl : i = m := by have := HI.out; omega
          by_cases d8 : i = 8
          · have d8b : decide ((i : Int) < 8) = false := decide_eq_false (by omega)
            clear d8
            go_wp2_with (first
              | (go_at_call 16; (with_reducible refine (seal_Tag.calls k a0 A1 c1 l1 t0 _ (Kd.C_below HR0.out HB.out) HC0.out (HT0.out HL.out)).mono ?_); rintro e w14 ⟨rfl, hb⟩; have n0_ := Aside0.mk (Kd.R_below HO.out hb); have n1_ := Aside0.mk (below_step HB.out hb); clear HO HB; have HO := n0_; have HB := n1_; clear n0_ n1_ hb)
              | (go_at_call 16; have hmr := tag_row HO.out (mixed_length l1 ch p i); (with_reducible refine (hmr k a0 t1 (HT1.out HN.out HL.out)).mono ?_); rintro e w15 ⟨rfl, hb⟩; have n1_ := Aside0.mk (below_step HB.out hb); clear HB; have HB := n1_; clear n1_ hb))
            go_ret
            exact ⟨by rw [HT2.out HN.out HL.out]; rfl, HB.out⟩
          · have hi8 : i < 8 := by have := HM.out; omega
            have d8b : decide ((i : Int) < 8) = true := decide_eq_true (by omega)
            have d9b : decide (wrap64 ((p : Int) + (i : Int)) < (l1.length : Int)) = false := decide_eq_false (by have := HM.out; have := HPp.out; have := HL.out; unfold wrap64; omega)
            clear d8 hi8
            go_wp2_with (first
              | (go_at_call 16; (with_reducible refine (seal_Tag.calls k a0 A1 c1 l1 t0 _ (Kd.C_below HR0.out HB.out) HC0.out (HT0.out HL.out)).mono ?_); rintro e w14 ⟨rfl, hb⟩; have n0_ := Aside0.mk (Kd.R_below HO.out hb); have n1_ := Aside0.mk (below_step HB.out hb); clear HO HB; have HO := n0_; have HB := n1_; clear n0_ n1_ hb)
              | (go_at_call 16; have hmr := tag_row HO.out (mixed_length l1 ch p i); (with_reducible refine (hmr k a0 t1 (HT1.out HN.out HL.out)).mono ?_); rintro e w15 ⟨rfl, hb⟩; have n1_ := Aside0.mk (below_step HB.out hb); clear HB; have HB := n1_; clear n1_ hb))
            go_ret
            exact ⟨by rw [HT2.out HN.out HL.out]; rfl, HB.out⟩
        | succ gk =>
          have hi8 : i < 8 := by have := HI.out; have := HM.out; omega
          have hin : p + i < l1.length := by have := HI.out; have := HM.out; have := HPp.out; omega
          obtain ⟨q, hq⟩ : ∃ q, q = p + i := ⟨_, rfl⟩
          have hw : wrap64 ((p : Int) + (i : Int)) = (q : Int) := by rw [hq]; have := HL.out; unfold wrap64; omega
          have d8b : decide ((i : Int) < 8) = true := decide_eq_true (by omega)
          have d9b : decide ((q : Int) < (l1.length : Int)) = true := decide_eq_true (by omega)
          have d9 : ((q : Int) < (l1.length : Int)) = True := eq_true (by omega)
          have d0 : ((0 : Int) ≤ (q : Int)) = True := eq_true (by omega)
          have e9 : ((i : Int) < 9) = True := eq_true (by omega)
          have e0 : ((0 : Int) ≤ (i : Int)) = True := eq_true (by omega)
          have hR := Kd.R_celln (0 : Int) HO.out (q : Int) (by omega) (by omega)
          rw [Int.toNat_natCast] at hR
          obtain ⟨hcq, hfq⟩ := hR
          have hcb : wr.cell? ⟨gb, i, none⟩ = some (.int .u8 (rd ch (i : Int))) := (blk_cell BK.out i).trans (chCells_at ch i (by have := H9.out; omega))
          have hfb : wr.frozen? ⟨gb, i, none⟩ = false := blk_frozen BK.out i
          have HQ := Aside0.mk hq
          clear hq hi8 hin
          go_wp2
          go_region
          all_goals
            have hgb : g ≠ gb := fun e => Kd.R_ne HO.out BK.out (by decide) (by rw [e]; rfl)
            obtain ⟨W2, hW2⟩ : ∃ W2, W2 = (wr.setCell ⟨g, q, none⟩ (Value.int .u8 (bits .xor .u8 (rdOf 0 (mixed l1 ch p i) (q : Int)) (rd ch (i : Int))))).drew := ⟨_, rfl⟩
            have HO2 := Aside0.mk (show Kd.R (Kd.int .u8) 5 W2 w.heap.size (fun _ => True) (.slice (some ⟨g, 0, none⟩) l1.length cap) (mixed l1 ch p (i + 1)) by
              have h := Kd.R_putn (Kd.R_drew HO.out) (q : Int) (bits .xor .u8 (rdOf 0 (mixed l1 ch p i) (q : Int)) (rd ch (i : Int)))
              rw [Int.toNat_natCast, HQ.out] at h
              rw [hW2, mixed, HQ.out]
              exact h)
            have BK2 := Aside0.mk (show W2.heap[gb]? = some (.cells (chCells ch) 35 (0, 0)) by rw [hW2]; exact (heap_setCell_other _ _ _ _ (Ne.symm hgb)).trans BK.out)
            have HB2 := Aside0.mk (show Below w.heap.size w W2 by rw [hW2]; exact below_drew (Below.setCell HB.out GG.out _))
            rw [← hW2]
            clear hW2 hcb hfb hcq hfq d8b d9b d9 d0 hgb
            have hcb : W2.cell? ⟨gb, i, none⟩ = some (.int .u8 (rd ch (i : Int))) := (blk_cell BK2.out i).trans (chCells_at ch i (by have := H9.out; have := HI.out; have := HM.out; omega))
            have hfb : W2.frozen? ⟨gb, i, none⟩ = false := blk_frozen BK2.out i
            have hwi : wrap64 ((i : Int) + 1) = ((i + 1 : Nat) : Int) := by have := HI.out; have := HM.out; unfold wrap64; omega
            obtain ⟨b, hcb1⟩ : ∃ b, chg ch i = b := ⟨_, rfl⟩
            have hcb2 := Aside0.mk (show chg ch (i + 1) = (b || rd ch (i : Int) != 0) by rw [chg, hcb1])
            rw [hcb1]
            clear hcb1
            cases b with
            | true =>
              go_wp2
              go_roundg gk
              case measure => omega
              case rel => exact ⟨i + 1, by have := HI.out; omega, by rw [hcb2.out]; rfl, by first | rfl | (rw [hwi]), HO2, BK2, HB2⟩
            | false =>
              go_wp2
              go_roundg gk
              case measure => omega
              case rel => exact ⟨i + 1, by have := HI.out; omega, by rw [hcb2.out]; rfl, by first | rfl | (rw [hwi]), HO2, BK2, HB2⟩
end Go.Proofs.Ytmfjicpgofdmkaa.E
