/- The bytes of a constant string as a row of their own, which bears a mark behind its last cell: how they are made, and read. -/
import Derived.Test.YtiifecmecphaeaaQx0
import Derived.Lib.SlBytesConst
namespace Go.Proofs.Ytiifecmecphaeaa.Q
open Go.RowKit Go.Proofs.YtiifecmecphaeaaW.PrintWords Go.Proofs.YtiifecmecphaeaaW.PrintLast Go.Proofs.YtiifecmecphaeaaW.PrintMore
set_option linter.unusedVariables false
set_option linter.unusedSimpArgs false
def nine : Array Value := #[.int .u8 49, .int .u8 50, .int .u8 51, .int .u8 52, .int .u8 53, .int .u8 54, .int .u8 55, .int .u8 56, .int .u8 57]
theorem nine_conv (W : World) : (convert 22 22 (.slice (some ⟨W.heap.size, 0, none⟩) 9 9)).run Try.prog (W.alloc (.cells #[.int .u8 49, .int .u8 50, .int .u8 51, .int .u8 52, .int .u8 53, .int .u8 54, .int .u8 55, .int .u8 56, .int .u8 57] 5)) =
    .ok (.slice (some ⟨W.heap.size, 0, none⟩) 9 9) (W.alloc (.cells nine 5 (9, 10))) :=
  Lib.run_convert_bytes_const (P := Try.prog) W 22 5 nine 9 9 Try.underlying22 Try.underlying5
theorem nine_C (W : World) : Kd.C (Kd.int .u8) (W.alloc (.cells nine 5 (9, 10))) (some ⟨W.heap.size, 0, none⟩) ([49, 50, 51, 52, 53, 54, 55, 56, 57] : List Int).length [49, 50, 51, 52, 53, 54, 55, 56, 57] := by
  refine Kd.C_of_reads (d := (0 : Int)) (h1 := fun _ => rfl) ⟨rfl, by decide, fun _ => ⟨_, rfl, fun j hj => ?_⟩⟩
  have hc : ∀ i, (W.alloc (.cells nine 5 (9, 10))).cell? ⟨W.heap.size, i, none⟩ = nine[i]? := fun i => cell_of_row _ W.heap.size i nine 5 (9, 10) (heap_alloc_new W _)
  have hadd : (⟨W.heap.size, 0, none⟩ : Addr).add j = ⟨W.heap.size, j, none⟩ := by unfold Addr.add; split <;> simp_all
  rw [hadd, hc]
  have h9 : j < 9 := hj
  have : j = 0 ∨ j = 1 ∨ j = 2 ∨ j = 3 ∨ j = 4 ∨ j = 5 ∨ j = 6 ∨ j = 7 ∨ j = 8 := by omega
  rcases this with rfl | rfl | rfl | rfl | rfl | rfl | rfl | rfl | rfl <;> rfl
theorem nine_conv_drewN (W : World) (m : Nat) : (convert 22 22 (.slice (some ⟨W.heap.size, 0, none⟩) 9 9)).run Try.prog ((W.drewN m).alloc (.cells #[.int .u8 49, .int .u8 50, .int .u8 51, .int .u8 52, .int .u8 53, .int .u8 54, .int .u8 55, .int .u8 56, .int .u8 57] 5)) =
    .ok (.slice (some ⟨W.heap.size, 0, none⟩) 9 9) ((W.drewN m).alloc (.cells nine 5 (9, 10))) := nine_conv (W.drewN m)
theorem nine_C_drewN (W : World) (m : Nat) : Kd.C (Kd.int .u8) ((W.drewN m).alloc (.cells nine 5 (9, 10))) (some ⟨W.heap.size, 0, none⟩) ([49, 50, 51, 52, 53, 54, 55, 56, 57] : List Int).length [49, 50, 51, 52, 53, 54, 55, 56, 57] := nine_C (W.drewN m)
end Go.Proofs.Ytiifecmecphaeaa.Q
