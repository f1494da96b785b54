import Derived.Test.YtdlinojgmllkoaaRows
import Derived.WalkKit
import Derived.ProofKit
import Derived.OpenShut
import Derived.ShutString
import Derived.ChangeOld
import Derived.Below
import Derived.SizedLaws
namespace Go.Proofs.Ytdlinojgmllkoaa.Med
open Go.ChangeShapes Go.WideShapes Go.ChangeAt Go.RowKit
set_option linter.unusedVariables false
theorem array9 {α : Type} {cs : Array α} (h : cs.size = 9) : ∃ c0 c1 c2 c3 c4 c5 c6 c7 c8, cs = #[c0, c1, c2, c3, c4, c5, c6, c7, c8] := by
  obtain ⟨l⟩ := cs
  match l, h with
  | [c0, c1, c2, c3, c4, c5, c6, c7, c8], _ => exact ⟨c0, c1, c2, c3, c4, c5, c6, c7, c8, rfl⟩
theorem list9 {α : Type} {l : List α} (h : l.length = 9) : ∃ c0 c1 c2 c3 c4 c5 c6 c7 c8, l = [c0, c1, c2, c3, c4, c5, c6, c7, c8] := by
  match l, h with
  | [c0, c1, c2, c3, c4, c5, c6, c7, c8], _ => exact ⟨c0, c1, c2, c3, c4, c5, c6, c7, c8, rfl⟩
theorem c24 : Try.prog.cellsOf 24 = 9 := by kernel_rfl
theorem c3 : Try.prog.cellsOf 3 = 1 := by kernel_rfl
theorem c22 : Try.prog.cellsOf 22 = 1 := by kernel_rfl
/-- A medium's value. -/
def vm (a0 a1 a2 a3 a4 a5 a6 a7 a8 : Int) : Value := .agg #[.int .i64 a0, .int .i64 a1, .int .i64 a2, .int .i64 a3, .int .i64 a4, .int .i64 a5, .int .i64 a6, .int .i64 a7, .int .u64 a8]
/-- What is read of it. -/
def dm {H : Type} (a0 a1 a2 a3 a4 a5 a6 a7 a8 : Int) : DataW H := .agg [.lit (.int .i64 a0), .lit (.int .i64 a1), .lit (.int .i64 a2), .lit (.int .i64 a3), .lit (.int .i64 a4), .lit (.int .i64 a5), .lit (.int .i64 a6), .lit (.int .i64 a7), .lit (.int .u64 a8)]
theorem open_med {H : Type} {enc : TypeId × Value → H} {W : World} {b0 base : Nat} {r : Reach} {spare : Nat → Bool} {held : Bool} {v : Value} {d : DataW H} {p : List MemPlace}
    (hv : Value.okWide Try.prog W r b0 24 v) (h : DataW.Trod enc Try.prog W base spare held 24 v d p) :
    ∃ a0 a1 a2 a3 a4 a5 a6 a7 a8 : Int, v = vm a0 a1 a2 a3 a4 a5 a6 a7 a8 ∧ d = dm a0 a1 a2 a3 a4 a5 a6 a7 a8 ∧ p = [] ∧
      (Lit.int .i64 a0).wf = true ∧ (Lit.int .i64 a1).wf = true ∧ (Lit.int .i64 a2).wf = true ∧ (Lit.int .i64 a3).wf = true ∧ (Lit.int .i64 a4).wf = true ∧ (Lit.int .i64 a5).wf = true ∧ (Lit.int .i64 a6).wf = true ∧ (Lit.int .i64 a7).wf = true ∧ (Lit.int .u64 a8).wf = true := by
  obtain ⟨cs, rfl, hsz⟩ := okWide_struct Try.underlying24 hv
  obtain ⟨c0, c1, c2, c3', c4, c5, c6, c7, c8, rfl⟩ := array9 (hsz.trans c24)
  obtain ⟨fuel, hf⟩ := h
  obtain ⟨xs, n, _, hx, hl, hlen, hg⟩ := DataW.trod_struct Try.underlying24 hf
  obtain ⟨y0, y1, y2, y3, y4, y5, y6, y7, y8, rfl⟩ := list9 hlen
  have h0 := hg 0 { name := "Serial", type := 3, offset := 0, embedded := false, tag := "", pkgPath := "", byteOffset := 0 } rfl
  have h1 := hg 1 { name := "Counter", type := 3, offset := 1, embedded := false, tag := "", pkgPath := "", byteOffset := 8 } rfl
  have h2 := hg 2 { name := "Product", type := 3, offset := 2, embedded := false, tag := "", pkgPath := "", byteOffset := 16 } rfl
  have h3 := hg 3 { name := "First", type := 3, offset := 3, embedded := false, tag := "", pkgPath := "", byteOffset := 24 } rfl
  have h4 := hg 4 { name := "Left", type := 3, offset := 4, embedded := false, tag := "", pkgPath := "", byteOffset := 32 } rfl
  have h5 := hg 5 { name := "Today", type := 3, offset := 5, embedded := false, tag := "", pkgPath := "", byteOffset := 40 } rfl
  have h6 := hg 6 { name := "Lift", type := 3, offset := 6, embedded := false, tag := "", pkgPath := "", byteOffset := 48 } rfl
  have h7 := hg 7 { name := "At", type := 3, offset := 7, embedded := false, tag := "", pkgPath := "", byteOffset := 56 } rfl
  have h8 := hg 8 { name := "Tag", type := 22, offset := 8, embedded := false, tag := "", pkgPath := "", byteOffset := 64 } rfl
  simp only [c3, c22, Value.cells, List.drop_succ_cons, List.drop_zero, List.take_succ_cons, List.take_zero, List.getElem?_cons_zero, List.getElem?_cons_succ] at h0 h1 h2 h3 h4 h5 h6 h7 h8
  obtain ⟨a0, e0, x0, w0⟩ := DataW.trod_int Try.underlying3 h0
  obtain ⟨a1, e1, x1, w1⟩ := DataW.trod_int Try.underlying3 h1
  obtain ⟨a2, e2, x2, w2⟩ := DataW.trod_int Try.underlying3 h2
  obtain ⟨a3, e3, x3, w3⟩ := DataW.trod_int Try.underlying3 h3
  obtain ⟨a4, e4, x4, w4⟩ := DataW.trod_int Try.underlying3 h4
  obtain ⟨a5, e5, x5, w5⟩ := DataW.trod_int Try.underlying3 h5
  obtain ⟨a6, e6, x6, w6⟩ := DataW.trod_int Try.underlying3 h6
  obtain ⟨a7, e7, x7, w7⟩ := DataW.trod_int Try.underlying3 h7
  obtain ⟨a8, e8, x8, w8⟩ := DataW.trod_int Try.underlying22 h8
  simp only [List.cons.injEq, and_true] at e0 e1 e2 e3 e4 e5 e6 e7 e8
  subst e0 e1 e2 e3 e4 e5 e6 e7 e8 x0 x1 x2 x3 x4 x5 x6 x7 x8
  simp only [Prod.mk.injEq] at hx
  exact ⟨a0, a1, a2, a3, a4, a5, a6, a7, a8, rfl, hx.1, hx.2, w0, w1, w2, w3, w4, w5, w6, w7, w8⟩
theorem shut_med {H : Type} {enc : TypeId × Value → H} {W : World} {base : Nat} {spare : Nat → Bool} {held : Bool} {a0 a1 a2 a3 a4 a5 a6 a7 a8 : Int}
    (w0 : (Lit.int .i64 a0).wf = true) (w1 : (Lit.int .i64 a1).wf = true) (w2 : (Lit.int .i64 a2).wf = true) (w3 : (Lit.int .i64 a3).wf = true) (w4 : (Lit.int .i64 a4).wf = true) (w5 : (Lit.int .i64 a5).wf = true) (w6 : (Lit.int .i64 a6).wf = true) (w7 : (Lit.int .i64 a7).wf = true) (w8 : (Lit.int .u64 a8).wf = true) :
    DataW.Trod enc Try.prog W base spare held 24 (vm a0 a1 a2 a3 a4 a5 a6 a7 a8) (dm a0 a1 a2 a3 a4 a5 a6 a7 a8) [] := by
  have I : ∀ a : Int, (Lit.int .i64 a).wf = true → DataW.trod enc Try.prog W base spare held 1 3 [.int .i64 a] = some (.lit (.int .i64 a), []) := fun a h => trod_int_mk 0 Try.underlying3 h
  have U : DataW.trod enc Try.prog W base spare held 1 22 [.int .u64 a8] = some (.lit (.int .u64 a8), []) := trod_int_mk 0 Try.underlying22 w8
  have := trod_struct_mk (enc := enc) (w := W) (base := base) (spare := spare) (held := held) (n := 1) (cs := (vm a0 a1 a2 a3 a4 a5 a6 a7 a8).cells.toList) (xs := [(.lit (.int .i64 a0), []), (.lit (.int .i64 a1), []), (.lit (.int .i64 a2), []), (.lit (.int .i64 a3), []), (.lit (.int .i64 a4), []), (.lit (.int .i64 a5), []), (.lit (.int .i64 a6), []), (.lit (.int .i64 a7), []), (.lit (.int .u64 a8), [])]) Try.underlying24 c24.symm
    (by simp [vm, Value.cells, c3, c22, I _ w0, I _ w1, I _ w2, I _ w3, I _ w4, I _ w5, I _ w6, I _ w7, U])
  exact ⟨2, this⟩
end Go.Proofs.Ytdlinojgmllkoaa.Med
