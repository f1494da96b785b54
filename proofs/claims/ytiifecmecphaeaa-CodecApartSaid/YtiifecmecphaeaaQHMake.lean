/- make([]byte, 0, n): a row of one's own with no bytes yet, and with room. -/
import Derived.Test.YtiifecmecphaeaaQx0
namespace Go.Proofs.Ytiifecmecphaeaa.Q
open Go.RowKit Go.Proofs.YtiifecmecphaeaaW.PrintWords Go.Proofs.YtiifecmecphaeaaW.PrintLast Go.Proofs.YtiifecmecphaeaaW.PrintMore
theorem R_makecap {P : Program} {ops : Array Oper} {rest : List Oper} {o : Oper} {a : Act} {Q : Exit → Act → World → Prop} {w0 W : World} {base e : TypeId} {N : Tmp} (hgd : o.guard = none) (_hd : o.dst = some N) (t : TypeId) (x y : Operand) (ho : o.op = .makeSlice t x y) (c : Nat)
    (hx : a.eval x = .int .i64 0) (hy : a.eval y = .int .i64 (c : Int)) (ht : P.underlying t = some (.slice e)) (hinfo : (P.info? e).map (fun i => (i.zero, i.size, i.bytes)) = some (some (.int .u8 0), 1, 1))
    (hl : c ≤ 140737488355400) (HB : Below base w0 W) (hbase : base ≤ W.heap.size)
    (h : ∀ v1 w1, Kd.R (Kd.int .u8) e w1 base (fun _ => True) v1 [] → Below base w0 w1 → W.grownBy w1 none → (∃ b, v1.ownBlock = some b ∧ W.heap.size ≤ b) → wpList P ops Q rest (a.put o.dst v1) w1) : wpList P ops Q (o :: rest) a W := by
  obtain ⟨i, hi, hzz⟩ := Option.map_eq_some_iff.1 hinfo
  simp only [Prod.mk.injEq] at hzz
  obtain ⟨hz, hs, hb⟩ := hzz
  have hr := run_make (P := P) (w := W) t e i (.int .u8 0) ht hi hz .i64 .i64 0 (c : Int) (by omega) (by omega) (by rw [hb]; omega) (by omega)
  refine Kd.event_run hgd (v := .slice (some ⟨W.heap.size, 0, none⟩) 0 c) (w1 := W.alloc (.cells (madeCells (Value.int .u8 0).cells (c * i.size)) e)) ?_ (h _ _ ?_ (HB.alloc hbase _) (World.grownBy_alloc W _ none) ⟨W.heap.size, by simp [Value.ownBlock], Nat.le_refl _⟩)
  · have hr' := hr
    simp only [Int.toNat_natCast] at hr'
    simp [execOp, ho, hx, hy, hr']
  · refine Kd.R_of_own (xs := []) ?_ (fun _ _ => trivial)
    have := World.ownsRow_made (base := base) (e := e) (size := 1) W (madeCells (Value.int .u8 0).cells (c * i.size)) c hbase (by unfold maxLen; omega) (by rw [hs]; simp [madeCells])
    exact this
theorem mk_cap (n : Nat) (h : n ≤ 140737488355328) : Value.int .i64 (wrap64 ((n : Int) + 40)) = .int .i64 ((n + 40 : Nat) : Int) := by
  have : wrap64 ((n : Int) + 40) = ((n + 40 : Nat) : Int) := by unfold wrap64; omega
  rw [this]
end Go.Proofs.Ytiifecmecphaeaa.Q
