/- journal.Append: slices.Concat of two rows of bytes, over slices.Grow of the nil slice. -/
import Derived.Test.YtohjkgboehnamaaQHLast
import Derived.Test.YtohjkgboehnamaaQx5
import Derived.Lib.AppendZerosOnto
import Derived.Lib.Walk
import Derived.Lib.SliceRun
namespace Go.Proofs.Ytohjkgboehnamaa.Q
open Go.RowKit Go.Proofs.YtohjkgboehnamaaW.PrintWords Go.Proofs.YtohjkgboehnamaaW.PrintLast Go.Proofs.YtohjkgboehnamaaW.PrintMore
attribute [local irreducible] Calls codec_Get.f codec_Unframe.f journal_frame.f slices_Equal_byte_byte.f journal_read.f journal_within.f
set_option linter.unusedVariables false
set_option linter.unusedSimpArgs false

set_option maxHeartbeats 4000000 in
set_option maxRecDepth 100000 in
/-- slices.Grow(nil, n): a new row with no bytes, and with room. -/
theorem grow_nil (n : Nat) (w : World) (hn : 0 < n) (hl : n ≤ 140737488355328) :
    Calls Try.prog 43 #[.slice none 0 0, .int .i64 (n : Int)] w fun e w' => ∃ v, e = .returned v ∧ Kd.R (Kd.int .u8) 5 w' w.heap.size (fun _ => True) v [] ∧ Below w.heap.size w w' := by
  obtain ⟨i0, hi, hz, hs, hb⟩ := info_parts info5
  have h1 : ¬ ((n : Int) < 0) := by omega
  have h1b : decide ((n : Int) < 0) = false := decide_eq_false h1
  have h4 : (0 : Int) < (n : Int) := by omega
  have h4b : decide ((0 : Int) < (n : Int)) = true := decide_eq_true h4
  have hw0 : wrap64 ((n : Int) - 0) = (n : Int) := by unfold wrap64; omega
  have hw1 : wrap64 (n : Int) = (n : Int) := by unfold wrap64; omega
  have hrz : ∀ ty, (Builtin.append_ #[24, 3] ty #[.slice none 0 0, .int .i64 (n : Int)]).run Try.prog w =
      .ok (.slice (some ⟨w.heap.size, 0, none⟩) n (grownCap w n 0 5)) (w.drew.alloc (.cells (#[] ++ Builtin.zeroCells (Value.int .u8 0).cells n ++ Builtin.zeroCells (Value.int .u8 0).cells (grownCap w n 0 5 - n)) 5)) := fun ty => by
    have h := Lib.run_append_grow_zeros w 24 3 ty 5 i0 (.int .u8 0) .i64 .i64 Try.underlying24 Try.underlying3 hi hz none 0 0 [] (run_firstCells_none w.drew i0.size 0 0 0) n hn (by omega) (by omega) (by omega) (by rw [hb]; omega) (by rw [hb]; exact growslice_fits (by omega) (by omega))
    simpa using h
  have hGn : n ≤ grownCap w n 0 5 := grownCap_ge w _ _ _
  obtain ⟨G, hG⟩ : ∃ G, G = grownCap w n 0 5 := ⟨_, rfl⟩
  have hGm : grownCap w n 0 5 ≤ maxLen := grownCap_le_maxLen w n 0 5 (by unfold maxLen; omega)
  rw [← hG] at hrz hGn hGm
  have hG63 : G ≤ 9223372036854775807 := by unfold maxLen at hGm; omega
  obtain ⟨Z, hZ⟩ : ∃ Z, Z = #[] ++ Builtin.zeroCells (Value.int .u8 0).cells n ++ Builtin.zeroCells (Value.int .u8 0).cells (G - n) := ⟨_, rfl⟩
  have hZs : Z.size = G := by
    rw [hZ]
    simp only [Array.size_append, size_zeroCells, List.size_toArray, List.length_nil]
    simp [Value.cells]; omega
  rw [← hZ] at hrz
  have HGm := Aside0.mk hGm
  have HZs := Aside0.mk hZs
  clear hG hZ hGm hZs
  go_enter Try.func43, Try.ntmps43
  go_wp2_with (at_builtin; refine Lib.wpList_append_run _ rfl _ _ _ _ rfl _ _ rfl rfl _ _ (hrz _) ?_)
  go_ret
  refine ⟨_, rfl, Kd.R_of_own (xs := []) ?_ (fun _ _ => trivial), below_alloc (below_drew (Below.refl _ _)) _⟩
  exact World.ownsRow_made (base := w.heap.size) (e := 5) (size := 1) w.drew Z G (Nat.le_refl _) HGm.out (by rw [HZs.out]; simp)
/-- The cells of two rows. -/
def two (A : Option Addr) (n c : Nat) (B : Option Addr) (m d : Nat) : Array Value := #[.slice A n c, .slice B m d]
set_option maxHeartbeats 4000000 in
set_option maxRecDepth 100000 in
/-- slices.Concat of two rows of bytes that are not both empty. -/
theorem concat_two (w : World) (g : Nat) (A : Option Addr) (c : Nat) (l : List Int) (B : Option Addr) (d : Nat) (f : List Int) (hb : w.heap[g]? = some (.cells (two A l.length c B f.length d) 24 (0, 0))) (hA : Kd.C (Kd.int .u8) w A l.length l) (hB : Kd.C (Kd.int .u8) w B f.length f)
    (hn : 0 < l.length + f.length) (hl : l.length + f.length ≤ 140737488355328) :
    Calls Try.prog 29 #[.slice (some ⟨g, 0, none⟩) 2 2] w fun e w' => ∃ v, e = .returned v ∧ Kd.R (Kd.int .u8) 5 w' w.heap.size (fun _ => True) v (l ++ f) ∧ Below w.heap.size w w' := by
  have BK := Aside0.mk hb
  have HA := Aside0.mk hA
  have HB := Aside0.mk hB
  have HN := Aside0.mk hn
  have HL := Aside0.mk hl
  clear hb hA hB hn hl
  have hs0 : w.cell? ⟨g, 0, none⟩ = some (.slice A l.length c) := (blk_cell BK.out 0).trans rfl
  have hs1 : w.cell? ⟨g, 1, none⟩ = some (.slice B f.length d) := (blk_cell BK.out 1).trans rfl
  have hw1 : wrap64 (l.length : Int) = (l.length : Int) := by have := HL.out; unfold wrap64; omega
  have hw2 : wrap64 ((l.length : Int) + (f.length : Int)) = ((l.length + f.length : Nat) : Int) := by have := HL.out; unfold wrap64; omega
  have hd1 : decide ((l.length : Int) < 0) = false := decide_eq_false (by omega)
  have hd2 : decide (((l.length + f.length : Nat) : Int) < 0) = false := decide_eq_false (by omega)
  go_enter Try.func29, Try.ntmps29
  go_wp2
  go_loopg [3, 5, 11] 2 (fun kq v3 v5 v11 w' => w' = w ∧ ((kq = 2 ∧ v3 = .int .i64 0 ∧ v11 = .int .i64 0) ∨ (kq = 1 ∧ v3 = .int .i64 (l.length : Int) ∧ v11 = .int .i64 1) ∨ (kq = 0 ∧ v3 = .int .i64 ((l.length + f.length : Nat) : Int) ∧ v11 = .int .i64 2)))
  case atStart => exact ⟨rfl, .inl ⟨rfl, rfl, rfl⟩⟩
  case round =>
    obtain ⟨rfl, hrel⟩ := hrel
    rcases hrel with ⟨hk, rfl, rfl⟩ | ⟨hk, rfl, rfl⟩ | ⟨hk, rfl, rfl⟩
    · obtain ⟨q, rfl⟩ : ∃ q, gk = q + 1 := ⟨gk - 1, by omega⟩
      go_wp2
      go_roundg q
      case measure => omega
      case rel => exact ⟨rfl, .inr (.inl ⟨by omega, by first | rfl | (simp [hw1]; done), rfl⟩)⟩
    · obtain ⟨q, rfl⟩ : ∃ q, gk = q + 1 := ⟨gk - 1, by omega⟩
      go_wp2
      go_roundg q
      case measure => omega
      case rel => exact ⟨rfl, .inr (.inr ⟨by omega, by first | rfl | (rw [hw2]), rfl⟩)⟩
    · go_wp2_with (go_at_call 43; refine (grow_nil (l.length + f.length) wr HN.out HL.out).mono ?_; rintro e w5 ⟨v6, rfl, ho, hb⟩; have HO := Aside0.mk ho; have HBL := Aside0.mk hb; clear ho hb)
      have BKr := Aside0.mk (blk_below BK.out HBL.out)
      clear hs0 hs1
      obtain ⟨w0, hw0⟩ : ∃ w0, w0 = wr := ⟨_, rfl⟩
      subst hw0
      go_loopg [6, 8, 27] 2 (fun kq v6 v8 v27 w' => ∃ q : List Int, Aside0 (Kd.R (Kd.int .u8) 5 w' w0.heap.size (fun _ => True) v6 q) ∧ Aside0 (Below w0.heap.size w0 w') ∧ Aside0 (w'.heap[g]? = some (.cells (two A l.length c B f.length d) 24 (0, 0))) ∧ ((kq = 2 ∧ q = [] ∧ v27 = .int .i64 0) ∨ (kq = 1 ∧ q = l ∧ v27 = .int .i64 1) ∨ (kq = 0 ∧ q = l ++ f ∧ v27 = .int .i64 2)))
      case atStart => exact ⟨[], HO, HBL, BKr, .inl ⟨rfl, rfl, rfl⟩⟩
      case round =>
        clear HO HBL BKr
        obtain ⟨q, HO, HBL, BKr, hrel⟩ := hrel
        rcases hrel with ⟨hk, rfl, rfl⟩ | ⟨hk, hq, rfl⟩ | ⟨hk, rfl, rfl⟩
        · obtain ⟨m, rfl⟩ : ∃ m, gk = m + 1 := ⟨gk - 1, by omega⟩
          have hs0 : wr.cell? ⟨g, 0, none⟩ = some (.slice A l.length c) := (blk_cell BKr.out 0).trans rfl
          go_wp2_with (first | ((with_reducible refine gate_builtin (b := .append) (xs := #[.tmp 31, .tmp 32]) rfl ?_); at_builtin; refine Kd.R_append_rows (Kd.int .u8) (w0 := w0) w0.heap.size rfl (.tmp 31) (.tmp 32) 24 5 (.int .u8 0) 1 rfl Try.underlying24 info5 rfl (by decide) (by omega) u6 [] l _ _ _ (fun _ => True) (fun _ => False) rfl rfl ?aO ?aR (fun _ _ h => h) (fun _ h => h.elim) ?aF ?aB ?aS ?aL ?_; (case aR => exact Kd.C_below HA.out HBL.out); (case aB => exact HBL.out); (case aF => exact (fun _ _ => trivial)); (case aO => exact HO.out); (case aS => exact below_size HBL.out); (case aL => have := HL.out; simp; omega); intro v7 w9 ho hb hg hat; have BK2 := Aside0.mk (blk_grown BKr.out hg (Kd.R_ne HO.out BKr.out (by decide))); have HO2 := Aside0.mk ho; have HBL2 := Aside0.mk hb; clear ho hb hg hat))
          go_roundg m
          case measure => omega
          case rel => exact ⟨l, HO2, HBL2, BK2, .inr (.inl ⟨by omega, rfl, rfl⟩)⟩
        · have hq2 := hq.symm
          subst hq2
          obtain ⟨m, rfl⟩ : ∃ m, gk = m + 1 := ⟨gk - 1, by omega⟩
          have hs1 : wr.cell? ⟨g, 1, none⟩ = some (.slice B f.length d) := (blk_cell BKr.out 1).trans rfl
          go_wp2_with (first | ((with_reducible refine gate_builtin (b := .append) (xs := #[.tmp 31, .tmp 32]) rfl ?_); at_builtin; refine Kd.R_append_rows (Kd.int .u8) (w0 := w0) w0.heap.size rfl (.tmp 31) (.tmp 32) 24 5 (.int .u8 0) 1 rfl Try.underlying24 info5 rfl (by decide) (by omega) u6 l f _ _ _ (fun _ => True) (fun _ => False) rfl rfl ?aO ?aR (fun _ _ h => h) (fun _ h => h.elim) ?aF ?aB ?aS ?aL ?_; (case aR => exact Kd.C_below HB.out HBL.out); (case aB => exact HBL.out); (case aF => exact (fun _ _ => trivial)); (case aO => exact HO.out); (case aS => exact below_size HBL.out); (case aL => have := HL.out; simp; omega); intro v7 w9 ho hb hg hat; have BK2 := Aside0.mk (blk_grown BKr.out hg (Kd.R_ne HO.out BKr.out (by decide))); have HO2 := Aside0.mk ho; have HBL2 := Aside0.mk hb; clear ho hb hg hat))
          go_roundg m
          case measure => omega
          case rel => exact ⟨_, HO2, HBL2, BK2, .inr (.inr ⟨by omega, rfl, rfl⟩)⟩
        · go_wp2
          go_ret
          exact ⟨_, rfl, HO.out, HBL.out⟩
def journal_Append.f (k : Nat) (l : List Int) (a0 a1 a2 a3 a4 a5 a6 : Int) : Option (List Int × Int) :=
  (journal_read.f k l).bind fun t => if t.2.1 < (l.length : Int) then some ([], 3) else (journal_within.f k a0 a1 a2 a3 a4 a5 a6).bind fun b => if b = false then some ([], 2) else (journal_frame.f k a0 a1 a2 a3 a4 a5 a6 t.2.2).bind fun f => if 0 < l.length + f.1.length then (if l.length + f.1.length ≤ 140737488355328 then some (l ++ f.1, 0) else none) else none
theorem journal_Append.mono : ∀ l a0 a1 a2 a3 a4 a5 a6 k, LeO (journal_Append.f k l a0 a1 a2 a3 a4 a5 a6) (journal_Append.f (k + 1) l a0 a1 a2 a3 a4 a5 a6) := fun l a0 a1 a2 a3 a4 a5 a6 k =>
  LeO.bind (journal_read.mono l k) (fun t => LeO.ite (LeO.refl _) (LeO.bind (journal_within.mono _ _ _ _ _ _ _ _) (fun b => LeO.ite (LeO.refl _) (LeO.bind (journal_frame.mono _ _ _ _ _ _ _ _ _) (fun f => LeO.refl _)))))
set_option maxHeartbeats 4000000 in
set_option maxRecDepth 100000 in
theorem journal_Append.calls (k : Nat) (A0 : Option Addr) (c0 : Nat) (l0 : List Int) (a0 a1 a2 a3 a4 a5 a6 : Int) (r1 : List Int) (r2 : Int) (w : World) (hr0 : Kd.C (Kd.int .u8) w A0 l0.length l0) (hc0 : l0.length ≤ c0) (h : journal_Append.f k l0 a0 a1 a2 a3 a4 a5 a6 = some (r1, r2)) :
    Calls Try.prog 18 #[.slice A0 l0.length c0, .agg #[.int .i64 a0, .int .i64 a1, .int .i64 a2, .int .i64 a3, .int .i64 a4, .int .i64 a5, .int .i64 a6]] w fun e w' => ∃ v0_ : Value, e = .returned (.tuple #[v0_, .int .i64 r2]) ∧ Kd.R (Kd.int .u8) 5 w' w.heap.size (fun _ => True) v0_ r1 ∧ Below w.heap.size w w' := by
  obtain ⟨⟨rs, sz, lk⟩, hr, hq⟩ := Option.bind_eq_some_iff.mp h
  have HRD := Aside0.mk hr
  have HC := Aside0.mk hr0
  have HL := Aside0.mk hc0
  have HQ := Aside0.mk hq
  clear h hr hr0 hc0 hq
  by_cases c1 : sz < (l0.length : Int)
  · have c1b : decide (sz < (l0.length : Int)) = true := decide_eq_true c1
    have hq := HQ.out
    rw [if_pos c1] at hq
    simp only [Option.some.injEq, Prod.mk.injEq] at hq
    obtain ⟨rfl, rfl⟩ := hq
    clear c1
    go_enter Try.func18, Try.ntmps18
    go_wp2_with (first | ((with_reducible refine gate_dst (N := 3) rfl ?_); refine box_event ?hg (N := 3) ?hd (cs := sev a0 a1 a2 a3 a4 a5 a6) (t := 39) ?hr ?_; (case hd => rfl); (case hg => rfl); (case hr => first | (go_simp; done) | (go_simp; rfl)); intro gb hg w7 hbox hb; have BR := Aside0.mk hbox; have HB := Aside0.mk hb; clear hg hbox hb) | (go_at_call 26; refine (journal_read.calls k A0 c0 l0 rs sz lk _ (Kd.C_below HC.out HB.out) HL.out HRD.out).mono ?_; rintro e w9 ⟨g, v, rfl, hb, hk, hrr, hg⟩; have n0_ := Aside0.mk (below_step HB.out hb); have n1_ := Aside0.mk (blk_below BR.out hb); have BK := Aside0.mk hk; clear HB BR; have HB := n0_; have BR := n1_; clear n0_ n1_ hb hk hrr hg; have hc2 : w9.cell? ⟨g, 2, none⟩ = some (.int .i64 sz) := (blk_cell BK.out 2).trans rfl; have hz0 : w9.cell? ⟨gb, 0, none⟩ = some (.int .i64 a0) := (blk_cell BR.out 0).trans rfl; have hz1 : w9.cell? ⟨gb, 1, none⟩ = some (.int .i64 a1) := (blk_cell BR.out 1).trans rfl; have hz2 : w9.cell? ⟨gb, 2, none⟩ = some (.int .i64 a2) := (blk_cell BR.out 2).trans rfl; have hz3 : w9.cell? ⟨gb, 3, none⟩ = some (.int .i64 a3) := (blk_cell BR.out 3).trans rfl; have hz4 : w9.cell? ⟨gb, 4, none⟩ = some (.int .i64 a4) := (blk_cell BR.out 4).trans rfl; have hz5 : w9.cell? ⟨gb, 5, none⟩ = some (.int .i64 a5) := (blk_cell BR.out 5).trans rfl; have hz6 : w9.cell? ⟨gb, 6, none⟩ = some (.int .i64 a6) := (blk_cell BR.out 6).trans rfl))
    refine bodyPost_ret (results_list (rs := [.tmp 4, .tmp 5]) rfl (by simp) (.tmp (.tmp .nil))) rfl ?_
    exact ⟨_, rfl, Kd.R_nil _ _ _ _ _, HB.out⟩
  have c1b : decide (sz < (l0.length : Int)) = false := decide_eq_false c1
  have hq := HQ.out
  rw [if_neg c1] at hq
  obtain ⟨b, hwi, hq⟩ := Option.bind_eq_some_iff.mp hq
  have HWI := Aside0.mk hwi
  clear c1 hwi
  cases b with
  | false =>
    simp only [if_true, Option.some.injEq, Prod.mk.injEq] at hq
    obtain ⟨rfl, rfl⟩ := hq
    go_enter Try.func18, Try.ntmps18
    go_wp2_with (first | ((with_reducible refine gate_dst (N := 3) rfl ?_); refine box_event ?hg (N := 3) ?hd (cs := sev a0 a1 a2 a3 a4 a5 a6) (t := 39) ?hr ?_; (case hd => rfl); (case hg => rfl); (case hr => first | (go_simp; done) | (go_simp; rfl)); intro gb hg w7 hbox hb; have BR := Aside0.mk hbox; have HB := Aside0.mk hb; clear hg hbox hb) | (go_at_call 26; refine (journal_read.calls k A0 c0 l0 rs sz lk _ (Kd.C_below HC.out HB.out) HL.out HRD.out).mono ?_; rintro e w9 ⟨g, v, rfl, hb, hk, hrr, hg⟩; have n0_ := Aside0.mk (below_step HB.out hb); have n1_ := Aside0.mk (blk_below BR.out hb); have BK := Aside0.mk hk; clear HB BR; have HB := n0_; have BR := n1_; clear n0_ n1_ hb hk hrr hg; have hc2 : w9.cell? ⟨g, 2, none⟩ = some (.int .i64 sz) := (blk_cell BK.out 2).trans rfl; have hz0 : w9.cell? ⟨gb, 0, none⟩ = some (.int .i64 a0) := (blk_cell BR.out 0).trans rfl; have hz1 : w9.cell? ⟨gb, 1, none⟩ = some (.int .i64 a1) := (blk_cell BR.out 1).trans rfl; have hz2 : w9.cell? ⟨gb, 2, none⟩ = some (.int .i64 a2) := (blk_cell BR.out 2).trans rfl; have hz3 : w9.cell? ⟨gb, 3, none⟩ = some (.int .i64 a3) := (blk_cell BR.out 3).trans rfl; have hz4 : w9.cell? ⟨gb, 4, none⟩ = some (.int .i64 a4) := (blk_cell BR.out 4).trans rfl; have hz5 : w9.cell? ⟨gb, 5, none⟩ = some (.int .i64 a5) := (blk_cell BR.out 5).trans rfl; have hz6 : w9.cell? ⟨gb, 6, none⟩ = some (.int .i64 a6) := (blk_cell BR.out 6).trans rfl) | (go_at_call 24; refine (journal_within.calls k a0 a1 a2 a3 a4 a5 a6 _ _ HWI.out).mono ?_; rintro e w11 ⟨rfl, hb⟩; have n0_ := Aside0.mk (below_step HB.out hb); have n1_ := Aside0.mk (blk_below BR.out hb); have n2_ := Aside0.mk (blk_below BK.out hb); clear HB BR BK hc2 hz0 hz1 hz2 hz3 hz4 hz5 hz6; have HB := n0_; have BR := n1_; have BK := n2_; clear n0_ n1_ n2_ hb))
    refine bodyPost_ret (results_list (rs := [.tmp 4, .tmp 5]) rfl (by simp) (.tmp (.tmp .nil))) rfl ?_
    exact ⟨_, rfl, Kd.R_nil _ _ _ _ _, HB.out⟩
  | true =>
    rw [if_neg (by decide)] at hq
    obtain ⟨⟨f1, f2⟩, hf, hq⟩ := Option.bind_eq_some_iff.mp hq
    simp only [] at hq
    by_cases c2 : 0 < l0.length + f1.length
    case neg => rw [if_neg c2] at hq; simp at hq
    rw [if_pos c2] at hq
    by_cases c3 : l0.length + f1.length ≤ 140737488355328
    case neg => rw [if_neg c3] at hq; simp at hq
    rw [if_pos c3] at hq
    simp only [Option.some.injEq, Prod.mk.injEq] at hq
    obtain ⟨rfl, rfl⟩ := hq
    have HF := Aside0.mk hf
    have H2 := Aside0.mk c2
    have H3 := Aside0.mk c3
    clear hf c2 c3
    go_enter Try.func18, Try.ntmps18
    go_wp2_with (first | ((with_reducible refine gate_dst (N := 3) rfl ?_); refine box_event ?hg (N := 3) ?hd (cs := sev a0 a1 a2 a3 a4 a5 a6) (t := 39) ?hr ?_; (case hd => rfl); (case hg => rfl); (case hr => first | (go_simp; done) | (go_simp; rfl)); intro gb hg w7 hbox hb; have BR := Aside0.mk hbox; have HB := Aside0.mk hb; clear hg hbox hb) | (go_at_call 26; refine (journal_read.calls k A0 c0 l0 rs sz lk _ (Kd.C_below HC.out HB.out) HL.out HRD.out).mono ?_; rintro e w9 ⟨g, v, rfl, hb, hk, hrr, hg⟩; have n0_ := Aside0.mk (below_step HB.out hb); have n1_ := Aside0.mk (blk_below BR.out hb); have BK := Aside0.mk hk; clear HB BR; have HB := n0_; have BR := n1_; clear n0_ n1_ hb hk hrr hg; have hc2 : w9.cell? ⟨g, 2, none⟩ = some (.int .i64 sz) := (blk_cell BK.out 2).trans rfl; have hz0 : w9.cell? ⟨gb, 0, none⟩ = some (.int .i64 a0) := (blk_cell BR.out 0).trans rfl; have hz1 : w9.cell? ⟨gb, 1, none⟩ = some (.int .i64 a1) := (blk_cell BR.out 1).trans rfl; have hz2 : w9.cell? ⟨gb, 2, none⟩ = some (.int .i64 a2) := (blk_cell BR.out 2).trans rfl; have hz3 : w9.cell? ⟨gb, 3, none⟩ = some (.int .i64 a3) := (blk_cell BR.out 3).trans rfl; have hz4 : w9.cell? ⟨gb, 4, none⟩ = some (.int .i64 a4) := (blk_cell BR.out 4).trans rfl; have hz5 : w9.cell? ⟨gb, 5, none⟩ = some (.int .i64 a5) := (blk_cell BR.out 5).trans rfl; have hz6 : w9.cell? ⟨gb, 6, none⟩ = some (.int .i64 a6) := (blk_cell BR.out 6).trans rfl) | (go_at_call 24; refine (journal_within.calls k a0 a1 a2 a3 a4 a5 a6 _ _ HWI.out).mono ?_; rintro e w11 ⟨rfl, hb⟩; have n0_ := Aside0.mk (below_step HB.out hb); have n1_ := Aside0.mk (blk_below BR.out hb); have n2_ := Aside0.mk (blk_below BK.out hb); clear HB BR BK hc2 hz0 hz1 hz2 hz3 hz4 hz5 hz6; have HB := n0_; have BR := n1_; have BK := n2_; clear n0_ n1_ n2_ hb))
    refine start_ (n := 11) (S := fun w' => w'.cell? ⟨gb, 0, none⟩ = some (.int .i64 a0) ∧ w'.cell? ⟨gb, 1, none⟩ = some (.int .i64 a1) ∧ w'.cell? ⟨gb, 2, none⟩ = some (.int .i64 a2) ∧ w'.cell? ⟨gb, 3, none⟩ = some (.int .i64 a3) ∧ w'.cell? ⟨gb, 4, none⟩ = some (.int .i64 a4) ∧ w'.cell? ⟨gb, 5, none⟩ = some (.int .i64 a5) ∧ w'.cell? ⟨gb, 6, none⟩ = some (.int .i64 a6) ∧ w'.cell? ⟨g, 3, none⟩ = some (.int .u64 lk)) (ds := []) #[false, false, false, false, false, false, false, false, false, false, false] (by kernel_rfl) rfl rfl ⟨(blk_cell BR.out 0).trans rfl, (blk_cell BR.out 1).trans rfl, (blk_cell BR.out 2).trans rfl, (blk_cell BR.out 3).trans rfl, (blk_cell BR.out 4).trans rfl, (blk_cell BR.out 5).trans rfl, (blk_cell BR.out 6).trans rfl, (blk_cell BK.out 3).trans rfl⟩ (fun hHeld => ?_)
    have n0_ := Aside0.mk (below_drew1 HB.out)
    have n1_ := Aside0.mk (blk_drew BR.out)
    have n2_ := Aside0.mk (blk_drew BK.out)
    clear HB BR BK
    have HB := n0_
    have BR := n1_
    have BK := n2_
    clear n0_ n1_ n2_
    generalize w11.drew = wd at HB BR BK hHeld ⊢
    refine pure_ (i := 1) (N := some 25) (v := ?_) (a' := ?_) #[false, true, false, false, false, false, false, false, false, false, false] rfl rfl (by kernel_rfl) (fun _ _ _ h => h) (Or.inl ⟨by rfl, ?_⟩) ?_ ?_
    rotate_left
    · intro w'
      go_simp
      with_reducible rfl
    rotate_left
    · simp only [Act.put, List.setIfInBounds_toArray, List.set_cons_zero, List.set_cons_succ, i64_w, i32_w]
      rfl
    refine pure_ (i := 2) (N := some 26) (v := ?_) (a' := ?_) #[false, true, true, false, false, false, false, false, false, false, false] rfl rfl (by kernel_rfl) (fun _ _ _ h => h) (Or.inl ⟨by rfl, ?_⟩) ?_ ?_
    rotate_left
    · intro w'
      go_simp
      with_reducible rfl
    rotate_left
    · simp only [Act.put, List.setIfInBounds_toArray, List.set_cons_zero, List.set_cons_succ, i64_w, i32_w]
      rfl
    refine pure_ (i := 3) (N := some 27) (v := ?_) (a' := ?_) #[false, true, true, true, false, false, false, false, false, false, false] rfl rfl (by kernel_rfl) (fun _ _ _ h => h) (Or.inl ⟨by rfl, ?_⟩) ?_ ?_
    rotate_left
    · intro w'
      go_simp
      with_reducible rfl
    rotate_left
    · simp only [Act.put, List.setIfInBounds_toArray, List.set_cons_zero, List.set_cons_succ, i64_w, i32_w]
      rfl
    refine take_ (i := 0) (N := some 24) (v := ?_) (a' := ?_) #[true, true, true, true, false, false, false, false, false, false, false] rfl rfl (by kernel_rfl) (fun _ _ _ h => h) (Or.inl ⟨by rfl, ?_⟩) hHeld ?_ ?_
    rotate_left
    · rintro w' ⟨s0, s1, s2, s3, s4, s5, s6, s7⟩
      go_simp
      with_reducible rfl
    rotate_left
    · simp only [Act.put, List.setIfInBounds_toArray, List.set_cons_zero, List.set_cons_succ, i64_w, i32_w]
      rfl
    refine take_ (i := 4) (N := some 28) (v := ?_) (a' := ?_) #[true, true, true, true, true, false, false, false, false, false, false] rfl rfl (by kernel_rfl) (fun _ _ _ h => h) (Or.inl ⟨by rfl, ?_⟩) hHeld ?_ ?_
    rotate_left
    · rintro w' ⟨s0, s1, s2, s3, s4, s5, s6, s7⟩
      go_simp
      with_reducible rfl
    rotate_left
    · simp only [Act.put, List.setIfInBounds_toArray, List.set_cons_zero, List.set_cons_succ, i64_w, i32_w]
      rfl
    refine one_ (i := 5) (N := some 29) #[true, true, true, true, true, true, false, false, false, false, false] rfl rfl (by kernel_rfl) (by decide) (fun K hK => ?_)
    refine goes_ Try.func25 (by kernel_rfl) rfl #[.agg #[.int .i64 a0, .int .i64 a1, .int .i64 a2, .int .i64 a3, .int .i64 a4, .int .i64 a5, .int .i64 a6], .int .u64 lk] (by rfl) rfl rfl (by (try simp only [List.map_toArray, List.map_cons, List.map_nil]); first | done | rfl | (simp only [List.length_drop, List.length_take]; rfl)) ?_
    refine (journal_frame.calls k a0 a1 a2 a3 a4 a5 a6 lk f1 f2 _ HF.out).mono ?_
    rintro e w14 ⟨vf, rfl, ho, hb⟩
    refine ⟨_, rfl, ?_⟩
    have HO := Aside0.mk (Kd.R_lower ho (below_size HB.out))
    have n0_ := Aside0.mk (below_step HB.out hb)
    have n1_ := Aside0.mk (blk_below BR.out hb)
    have n2_ := Aside0.mk (blk_below BK.out hb)
    clear HB BR BK
    have HB := n0_
    have BR := n1_
    have BK := n2_
    clear n0_ n1_ n2_ ho hb
    refine hK.out _ _ ⟨(blk_cell BR.out 0).trans rfl, (blk_cell BR.out 1).trans rfl, (blk_cell BR.out 2).trans rfl, (blk_cell BR.out 3).trans rfl, (blk_cell BR.out 4).trans rfl, (blk_cell BR.out 5).trans rfl, (blk_cell BR.out 6).trans rfl, (blk_cell BK.out 3).trans rfl⟩ (fun hHeld => ?_)
    clear hK K
    refine norm_ (a' := ?_) ?_ ?_
    rotate_left
    · show Act.put _ (some 29) _ = _
      simp only [Act.put, List.setIfInBounds_toArray, List.set_cons_zero, List.set_cons_succ, i64_w, i32_w]
      rfl
    refine pure_ (i := 6) (N := some 23) (v := ?_) (a' := ?_) #[true, true, true, true, true, true, true, false, false, false, false] rfl rfl (by kernel_rfl) (fun _ _ _ h => h) (Or.inl ⟨by rfl, ?_⟩) ?_ ?_
    rotate_left
    · intro w'
      go_simp
      with_reducible rfl
    rotate_left
    · simp only [Act.put, List.setIfInBounds_toArray, List.set_cons_zero, List.set_cons_succ, i64_w, i32_w]
      rfl
    refine pure_ (i := 7) (N := some 30) (v := ?_) (a' := ?_) #[true, true, true, true, true, true, true, true, false, false, false] rfl rfl (by kernel_rfl) (fun _ _ _ h => h) (Or.inl ⟨by rfl, ?_⟩) ?_ ?_
    rotate_left
    · intro w'
      go_simp
      with_reducible rfl
    rotate_left
    · simp only [Act.put, List.setIfInBounds_toArray, List.set_cons_zero, List.set_cons_succ, i64_w, i32_w]
      rfl
    refine pure_ (i := 8) (N := some 31) (v := ?_) (a' := ?_) #[true, true, true, true, true, true, true, true, true, false, false] rfl rfl (by kernel_rfl) (fun _ _ _ h => h) (Or.inl ⟨by rfl, ?_⟩) ?_ ?_
    rotate_left
    · intro w'
      go_simp
      with_reducible rfl
    rotate_left
    · simp only [Act.put, List.setIfInBounds_toArray, List.set_cons_zero, List.set_cons_succ, i64_w, i32_w]
      rfl
    refine pure_ (i := 9) (N := some 7) (v := ?_) (a' := ?_) #[true, true, true, true, true, true, true, true, true, true, false] rfl rfl (by kernel_rfl) (fun _ _ _ h => h) (Or.inl ⟨by rfl, ?_⟩) ?_ ?_
    rotate_left
    · intro w'
      go_simp
      with_reducible rfl
    rotate_left
    · simp only [Act.put, List.setIfInBounds_toArray, List.set_cons_zero, List.set_cons_succ, i64_w, i32_w]
      rfl
    refine pure_ (i := 10) (N := some 8) (v := ?_) (a' := ?_) #[true, true, true, true, true, true, true, true, true, true, true] rfl rfl (by kernel_rfl) (fun _ _ _ h => h) (Or.inl ⟨by rfl, ?_⟩) ?_ ?_
    rotate_left
    · intro w'
      go_simp
      with_reducible rfl
    rotate_left
    · simp only [Act.put, List.setIfInBounds_toArray, List.set_cons_zero, List.set_cons_succ, i64_w, i32_w]
      rfl
    refine done_ (by kernel_rfl) ?_

    clear hHeld
    obtain ⟨Af, cf, rfl, hlf, hCf⟩ := Kd.R_reads HO.out
    have HCf := Aside0.mk hCf
    clear hlf hCf
    go_wp2_with (go_at_call 29; refine (concat_two _ w14.heap.size A0 c0 l0 Af cf f1 (by first | exact blk_new _ _ | exact blk_drew (blk_new _ _)) (Kd.C_alloc (Kd.C_below HC.out HB.out) _) (Kd.C_alloc HCf.out _) H2.out H3.out).mono ?_; rintro e w16 ⟨vr, rfl, ho, hb⟩)
    refine bodyPost_ret (results_list (rs := [.tmp 4, .tmp 5]) rfl (by simp) (.tmp (.tmp .nil))) rfl ?_
    exact ⟨_, rfl, Kd.R_lower ho (by have := below_size HB.out; simp; omega), below_step (below_alloc HB.out _) hb⟩
end Go.Proofs.Ytohjkgboehnamaa.Q
