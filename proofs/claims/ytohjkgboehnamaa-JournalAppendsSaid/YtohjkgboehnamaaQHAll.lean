/- journal: all rides up to the first damaged frame: the loop, and the deferred recover. -/
import Derived.Test.YtohjkgboehnamaaQHNext
namespace Go.Proofs.Ytohjkgboehnamaa.Q
open Go.RowKit Go.Proofs.YtohjkgboehnamaaW.PrintWords Go.Proofs.YtohjkgboehnamaaW.PrintLast Go.Proofs.YtohjkgboehnamaaW.PrintMore
attribute [local irreducible] Calls codec_Get.f codec_Unframe.f journal_frame.f slices_Equal_byte_byte.f nextF
set_option linter.unusedVariables false
set_option linter.unusedSimpArgs false

theorem neq_dam (w : World) : (binOp .neq 20 (.iface 74 (.agg #[])) (.iface 74 (.agg #[]))).run Try.prog w = .ok (.bool false) w := by
  obtain ⟨ms, ht⟩ : ∃ ms, Try.prog.underlying 20 = some (.interface ms) := ⟨_, Try.underlying20⟩
  have hc : (Try.prog.info? 74).map (·.comparable) = some true := by kernel_rfl
  have hf : Try.prog.fieldsOf 74 = #[] := by kernel_rfl
  have hu : Try.prog.underlying 74 = some (.struct (Try.prog.fieldsOf 74)) := by kernel_rfl
  have hu2 : Try.prog.underlying 74 = some (.struct #[]) := by rw [hu, hf]
  have hp : Try.prog.stoodInHeld 74 = false := by kernel_rfl
  cases hi : Try.prog.info? 74 with
  | none => simp [hi] at hc
  | some i =>
    have hcc : i.comparable = true := by simpa [hi] using hc
    have h : ∀ d : Nat, (Op.equalIn (d + 2) 20 (.iface 74 (.agg #[])) (.iface 74 (.agg #[]))).run Try.prog w = .ok true w := fun d => by
      simp [Op.equalIn, run_underlying ht, run_underlying hu2, typeInfo, hi, hcc, hp]
    simp only [binOp]
    simp [Op.equal, Op.maxDepth, h 9998]
theorem catch_pan (older : List PanicEntry) (w : World) :
    CallsD Try.prog 48 #[] (.panicking (dam :: older)) w fun e u' w' =>
      e = .returned (.tuple #[]) ∧ u' = .panicking ({ dam with recovered := true } :: older) ∧ w' = w := by
  refine callsD_of_wpS Try.func48 rfl fun c₀ cs hu => ?_
  apply wpS_seq
  apply wpS_region
  simp [wpOpsS, go_sem, recoverD, hu, Try.ntmps48, Exit.thenS, dam]
  refine wpS_of_wp ?_
  have ht : ((Array.replicate 11 undef).setIfInBounds 1 (Value.iface 74 (Value.agg #[]))).setIfInBounds 0 (Value.iface 74 (Value.agg #[])) = #[Value.iface 74 (Value.agg #[]), Value.iface 74 (Value.agg #[]), undef, undef, undef, undef, undef, undef, undef, undef, undef] := rfl
  rw [ht]
  have hnd := neq_dam
  go_wp2
  cases c₀
  simp_all [bodyPostS, results, Try.results48]
theorem catch_idle (w : World) :
    CallsD Try.prog 48 #[] .returning w fun e u' w' => e = .returned (.tuple #[]) ∧ u' = .returning ∧ w' = w := by
  refine callsD_of_wpS Try.func48 rfl fun c₀ cs hu => ?_
  apply wpS_seq
  apply wpS_region
  simp [wpOpsS, go_sem, recoverD, hu, Try.ntmps48, Exit.thenS]
  refine wpS_of_wp ?_
  have ht : ((Array.replicate 11 undef).setIfInBounds 1 Value.nilIface).setIfInBounds 0 Value.nilIface = #[Value.nilIface, Value.nilIface, undef, undef, undef, undef, undef, undef, undef, undef, undef] := rfl
  first | rw [ht] | skip
  go_wp2
  cases c₀
  simp_all [bodyPostS, results, Try.results48]
/-- All rides from a place on: the rides, the place behind them, the last link. -/
def readL (k : Nat) (l : List Int) : Nat → Int → Int → List S39 → Option (List S39 × Int × Int)
  | 0, _, _, _ => none
  | d + 1, sz, lk, rs => if sz < (l.length : Int) then (if (rs.length + 1) * 56 ≤ 140737488355328 then ((nextF k l sz lk).bind fun o => match o with
      | none => some (rs, sz, lk)
      | some x => readL k l d (wrap64 (sz + x.2.1)) x.2.2 (rs ++ [x.1])) else none) else some (rs, sz, lk)
set_option maxHeartbeats 4000000 in
set_option maxRecDepth 100000 in
theorem journal_all.calls (k fuel : Nat) (w0 w : World) (g : Nat) (A : Option Addr) (c : Nat) (l : List Int) (v1 : Value) (rs : List S39) (sz lk : Int) (rs' : List S39) (sz' lk' : Int) (hc : Kd.C (Kd.int .u8) w0 A l.length l) (hl : l.length ≤ c)
    (hbk : w.heap[g]? = some (.cells (rdr A l.length c v1 sz lk) 52 (0, 0))) (hR : Kd.R k39 39 w w0.heap.size (fun _ => True) v1 rs) (hB : Below w0.heap.size w0 w) (hg : w0.heap.size ≤ g) (h : readL k l fuel sz lk rs = some (rs', sz', lk')) :
    Calls Try.prog 37 #[.pointer (some ⟨g, 0, none⟩)] w fun e w' => e = .returned (.tuple #[]) ∧ Below w0.heap.size w0 w' ∧ ∃ v2, w'.heap[g]? = some (.cells (rdr A l.length c v2 sz' lk') 52 (0, 0)) ∧ Kd.R k39 39 w' w0.heap.size (fun _ => True) v2 rs' := by
  have HH := Aside0.mk h
  have HC := Aside0.mk hc
  have HL := Aside0.mk hl
  have BK := Aside0.mk hbk
  have HR := Aside0.mk hR
  have HB := Aside0.mk hB
  have HG := Aside0.mk hg
  clear h hc hl hbk hR hB hg
  go_enter_defers Try.func37, Try.ntmps37
  go_wp2
  go_loopg [] fuel (fun kq w' => ∃ (v : Value) (rs : List S39) (sz lk : Int), Aside0 (readL k l kq sz lk rs = some (rs', sz', lk')) ∧ Aside0 (w'.heap[g]? = some (.cells (rdr A l.length c v sz lk) 52 (0, 0))) ∧ Aside0 (Kd.R k39 39 w' w0.heap.size (fun _ => True) v rs) ∧ Aside0 (Below w0.heap.size w0 w'))
  case atStart => exact ⟨v1, rs, sz, lk, HH, BK, HR, HB⟩
  case round =>
    clear HH BK HR HB
    obtain ⟨v, rs, sz, lk, HH, BK, HR, HB⟩ := hrel
    cases gk with
    | zero => exact absurd HH.out (by simp [readL])
    | succ gk =>
      have hc0 : wr.cell? ⟨g, 0, none⟩ = some (.slice A l.length c) := (blk_cell BK.out 0).trans rfl
      have hc2 : wr.cell? ⟨g, 2, none⟩ = some (.int .i64 sz) := (blk_cell BK.out 2).trans rfl
      have hh := HH.out
      simp only [readL] at hh
      by_cases c1 : sz < (l.length : Int)
      · have c1b : decide (sz < (l.length : Int)) = true := decide_eq_true c1
        rw [if_pos c1] at hh
        by_cases c2 : (rs.length + 1) * 56 ≤ 140737488355328
        · rw [if_pos c2] at hh
          obtain ⟨o, ho, hh⟩ := Option.bind_eq_some_iff.mp hh
          have HO := Aside0.mk ho
          have HX := Aside0.mk hh
          have H2 := Aside0.mk c2
          clear hh ho c2 c1
          go_wp2
          go_quiet (fail)
          cases o with
          | none =>
            obtain ⟨rfl, rfl, rfl⟩ : rs = rs' ∧ sz = sz' ∧ lk = lk' := by simpa using HX.out
            go_wp2_with (go_at_call 49; refine (journal_next.calls k w0 _ g A c l v rs sz lk none ?_ HL.out ?_ ?_ ?_ HG.out H2.out HO.out).mono ?_; rotate_right; (rintro e w12 ⟨hb, rfl, hk, hr⟩); rotate_left; (· exact Kd.C_below HC.out (pw_below_drewN HB.out _)); (· exact blk_drewN BK.out _); (· exact Kd.R_drewN HR.out _); (· exact pw_below_drewN HB.out _))
            refine leaves_cons (f := 48) (args := #[]) (by simp) (by simp [go_sem]) ?_
            refine (catch_pan [] _).mono ?_
            rintro e u' w'' ⟨rfl, rfl, rfl⟩
            simp [Leaves, settle, results, Try.results37, go_sem]
            exact ⟨hb, v, hk, hr⟩
          | some x =>
            have hx := HX.out
            simp only [] at hx
            have HX2 := Aside0.mk hx
            clear hx HX
            go_wp2_with (go_at_call 49; refine (journal_next.calls k w0 _ g A c l v rs sz lk (some x) ?_ HL.out ?_ ?_ ?_ HG.out H2.out HO.out).mono ?_; rotate_right; (rintro e w12 ⟨hb, rfl, v2, hk, hr⟩; have BK2 := Aside0.mk hk; have HR2 := Aside0.mk hr; have HB2 := Aside0.mk hb; clear hb hk hr); rotate_left; (· exact Kd.C_below HC.out (pw_below_drewN HB.out _)); (· exact blk_drewN BK.out _); (· exact Kd.R_drewN HR.out _); (· exact pw_below_drewN HB.out _))
            go_roundg gk
            case measure => omega
            case rel => exact ⟨v2, rs ++ [x.1], wrap64 (sz + x.2.1), x.2.2, HX2, BK2, HR2, HB2⟩
        · rw [if_neg c2] at hh; simp at hh
      · have c1b : decide (sz < (l.length : Int)) = false := decide_eq_false c1
        rw [if_neg c1] at hh
        obtain ⟨rfl, rfl, rfl⟩ : rs = rs' ∧ sz = sz' ∧ lk = lk' := by simpa using hh
        clear hh c1
        go_wp2
        go_quiet (fail)
        go_wp2
        refine leaves_cons (f := 48) (args := #[]) (by simp) (by simp [go_sem]) ?_
        refine (catch_idle _).mono ?_
        rintro e u' w'' ⟨rfl, rfl, rfl⟩
        simp [Leaves, settle, results, Try.results37, go_sem]
        exact ⟨pw_below_drewN HB.out _, v, BK.out, Kd.R_drewN HR.out _⟩
def journal_read.f (k : Nat) (l : List Int) : Option (List S39 × Int × Int) := readL k l k 0 0 []
set_option maxHeartbeats 4000000 in
set_option maxRecDepth 100000 in
theorem journal_read.calls (k : Nat) (A : Option Addr) (c : Nat) (l : List Int) (rs : List S39) (sz lk : Int) (w : World) (hc : Kd.C (Kd.int .u8) w A l.length l) (hl : l.length ≤ c) (h : journal_read.f k l = some (rs, sz, lk)) :
    Calls Try.prog 26 #[.slice A l.length c] w fun e w' => ∃ (g : Nat) (v : Value), e = .returned (.pointer (some ⟨g, 0, none⟩)) ∧ Below w.heap.size w w' ∧ w'.heap[g]? = some (.cells (rdr A l.length c v sz lk) 52 (0, 0)) ∧ Kd.R k39 39 w' w.heap.size (fun _ => True) v rs ∧ w.heap.size ≤ g := by
  have HH := Aside0.mk h
  have HC := Aside0.mk hc
  have HL := Aside0.mk hl
  clear h hc hl
  go_enter Try.func26, Try.ntmps26
  go_wp2_with (first
    | ((with_reducible refine gate_dst (N := 6) rfl ?_); refine box_event ?hg (N := 6) ?hd (cs := rdr A l.length c (.slice none 0 0) 0 0) (t := 52) ?hr ?_; (case hd => rfl); (case hg => rfl); (case hr => first | (go_simp; done) | (go_simp; rfl)); intro g hg w7 hbox hb; have HG := Aside0.mk (show w.heap.size ≤ g by rw [hg]; exact Nat.le_refl _); have BK := Aside0.mk hbox; have HB := Aside0.mk hb; clear hg hbox hb)
    | (go_at_call 37; refine (journal_all.calls k k w _ g A c l (.slice none 0 0) [] 0 0 rs sz lk HC.out HL.out BK.out (Kd.R_nil _ _ _ _ _) HB.out HG.out HH.out).mono ?_; rintro e w9 ⟨rfl, hb, v, hk, hr⟩))
  go_ret
  exact ⟨g, v, rfl, hb, hk, hr, HG.out⟩
end Go.Proofs.Ytohjkgboehnamaa.Q
