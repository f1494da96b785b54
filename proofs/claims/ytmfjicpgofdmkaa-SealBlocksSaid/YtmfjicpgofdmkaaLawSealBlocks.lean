/- The row of SealBlocks: its parameters are a number, bytes, an array of nine bytes. The pattern is the printed row of SealTags. -/
import Derived.Test.YtmfjicpgofdmkaaRows
import Derived.Test.YtmfjicpgofdmkaaEHBlocks
import Derived.Test.YtmfjicpgofdmkaaPureSealBlocks
import Derived.WalkKit
import Derived.WideKeyPair
import Derived.ProofKit
import Derived.OpenShut
import Derived.ShutString
import Derived.ChangeOld
import Derived.Below
import Derived.SizedLaws
import Derived.Test.YtmfjicpgofdmkaaWSized
namespace Go.Proofs.Ytmfjicpgofdmkaa.sealBlocks
open Go.ChangeShapes Go.WideShapes Go.ChangeAt Go.RowKit
open Go.ChangeMaps (open_string shut_string)
set_option linter.unusedVariables false
theorem own : ownKnob Try.prog.godebug = none := by kernel_rfl
theorem laidOut : laidOutB Try.prog = true := by kernel_rfl
def IsRow (k : IntKind) (w : World) (a : Option Addr) (len cap : Nat) (zs : List Int) : Prop :=
  (a = none ∧ len = 0 ∧ cap = 0 ∧ zs = []) ∨
  ∃ x, a = some x ∧ len ≤ cap ∧ cap ≤ maxLen ∧ zs.length = cap ∧ (∀ i, i < zs.length → w.cell? (x.add i) = some (.int k (zs.getD i 0))) ∧ ∀ n ∈ zs, (Lit.int k n).wf = true
theorem nineKey : Go.WideMaps.ArrKey Try.prog 35 5 9 := ⟨by kernel_rfl, by kernel_rfl, by kernel_rfl, by kernel_rfl⟩
theorem open_nine {H : Type} {enc : TypeId × Value → H} {P : Program} {k e : TypeId} {q : IntKind} {W : World} {base : Nat} {sp : Nat → Bool} {held : Bool} (A : Go.WideMaps.ArrKey P k e 9) (he : P.underlying e = some (.int q)) {r : Reach} {b0 : Nat} {v : Value} {d : DataW H} {ps : List MemPlace} (hval : Value.okWide P W r b0 k v) (hd : DataW.Trod enc P W base sp held k v d ps) :
    ∃ ch : List Int, ch.length = 9 ∧ v = .agg (ch.map (Value.int q)).toArray ∧ d = .agg (ch.map fun x => .lit (.int q x)) ∧ ps = [] ∧ ∀ x ∈ ch, (Lit.int q x).wf = true := by
  obtain ⟨c0, c1, c2, c3, c4, c5, c6, c7, c8, rfl⟩ : ∃ c0 c1 c2 c3 c4 c5 c6 c7 c8, v = .agg #[c0, c1, c2, c3, c4, c5, c6, c7, c8] := by
    simp only [Value.okWide, A.hu] at hval
    obtain ⟨cs, h1, h2, _⟩ := hval
    rw [A.size] at h2
    obtain ⟨l⟩ := cs
    match l, h2 with
    | [c0, c1, c2, c3, c4, c5, c6, c7, c8], _ => exact ⟨c0, c1, c2, c3, c4, c5, c6, c7, c8, h1⟩
  obtain ⟨fuel, hf⟩ := hd
  cases fuel with
  | zero => simp [DataW.trod] at hf
  | succ n =>
    rw [DataW.trod_step] at hf
    unfold DataW.trodStep at hf
    simp only [A.hu, Value.cells] at hf
    rw [if_pos (by rw [A.size]; rfl)] at hf
    simp only [Option.map_eq_some_iff] at hf
    obtain ⟨xs, hx, e1⟩ := hf
    rw [show List.range 9 = [0, 1, 2, 3, 4, 5, 6, 7, 8] from rfl, List.mapM_cons, List.mapM_cons, List.mapM_cons, List.mapM_cons, List.mapM_cons, List.mapM_cons, List.mapM_cons, List.mapM_cons, List.mapM_cons, List.mapM_nil] at hx
    simp only [bind, Option.bind_eq_some_iff, pure, Option.some.injEq, A.one] at hx
    obtain ⟨y0, h0, _, ⟨y1, h1, _, ⟨y2, h2, _, ⟨y3, h3, _, ⟨y4, h4, _, ⟨y5, h5, _, ⟨y6, h6, _, ⟨y7, h7, _, ⟨y8, h8, _, rfl, rfl⟩, rfl⟩, rfl⟩, rfl⟩, rfl⟩, rfl⟩, rfl⟩, rfl⟩, rfl⟩ := hx
    obtain ⟨a0, ea0, rfl, wa0⟩ := DataW.trod_int he h0
    obtain ⟨a1, ea1, rfl, wa1⟩ := DataW.trod_int he h1
    obtain ⟨a2, ea2, rfl, wa2⟩ := DataW.trod_int he h2
    obtain ⟨a3, ea3, rfl, wa3⟩ := DataW.trod_int he h3
    obtain ⟨a4, ea4, rfl, wa4⟩ := DataW.trod_int he h4
    obtain ⟨a5, ea5, rfl, wa5⟩ := DataW.trod_int he h5
    obtain ⟨a6, ea6, rfl, wa6⟩ := DataW.trod_int he h6
    obtain ⟨a7, ea7, rfl, wa7⟩ := DataW.trod_int he h7
    obtain ⟨a8, ea8, rfl, wa8⟩ := DataW.trod_int he h8
    simp at ea0 ea1 ea2 ea3 ea4 ea5 ea6 ea7 ea8
    subst ea0
    subst ea1
    subst ea2
    subst ea3
    subst ea4
    subst ea5
    subst ea6
    subst ea7
    subst ea8
    simp only [Prod.mk.injEq] at e1
    exact ⟨[a0, a1, a2, a3, a4, a5, a6, a7, a8], rfl, rfl, by rw [← e1.1]; rfl, by rw [← e1.2]; rfl, by simp only [List.mem_cons, List.not_mem_nil, or_false]; rintro x (rfl | rfl | rfl | rfl | rfl | rfl | rfl | rfl | rfl) <;> assumption⟩
theorem shut_nine {H : Type} {enc : TypeId × Value → H} {P : Program} {k e : TypeId} {q : IntKind} {W : World} {base : Nat} {sp : Nat → Bool} {held : Bool} (A : Go.WideMaps.ArrKey P k e 9) (he : P.underlying e = some (.int q)) {ch : List Int} (h9 : ch.length = 9) (hw : ∀ x ∈ ch, (Lit.int q x).wf = true) :
    DataW.Trod enc P W base sp held k (.agg (ch.map (Value.int q)).toArray) (.agg (ch.map fun x => .lit (.int q x))) [] := by
  match ch, h9 with
  | [a0, a1, a2, a3, a4, a5, a6, a7, a8], _ =>
    have wa0 := hw a0 (by simp)
    have wa1 := hw a1 (by simp)
    have wa2 := hw a2 (by simp)
    have wa3 := hw a3 (by simp)
    have wa4 := hw a4 (by simp)
    have wa5 := hw a5 (by simp)
    have wa6 := hw a6 (by simp)
    have wa7 := hw a7 (by simp)
    have wa8 := hw a8 (by simp)
    exact ⟨2, by
      show DataW.trod enc P W base sp held (1 + 1) k [.int q a0, .int q a1, .int q a2, .int q a3, .int q a4, .int q a5, .int q a6, .int q a7, .int q a8] = _
      rw [DataW.trod_step]
      unfold DataW.trodStep
      simp only [A.hu]
      rw [if_pos (by rw [A.size]; rfl), show List.range 9 = [0, 1, 2, 3, 4, 5, 6, 7, 8] from rfl, List.mapM_cons, List.mapM_cons, List.mapM_cons, List.mapM_cons, List.mapM_cons, List.mapM_cons, List.mapM_cons, List.mapM_cons, List.mapM_cons, List.mapM_nil]
      simp [A.one, DataW.trod, he, wa0, wa1, wa2, wa3, wa4, wa5, wa6, wa7, wa8]⟩
open Go.RowKit Go.Proofs.YtmfjicpgofdmkaaW.PrintWords Go.Proofs.YtmfjicpgofdmkaaW.PrintLast Go.Proofs.YtmfjicpgofdmkaaW.PrintMore in
theorem walk (a0 : Int) (a1 : Option Addr) (len1 cap1 : Nat) (z1 : List Int) (ch : List Int) (w : World) (w0 : (Lit.int .u64 a0).wf = true) (w1 : IsRow .u8 w a1 len1 cap1 z1) (y1 : len1 * 1 ≤ 140737488351232) (h9 : ch.length = 9) (w2 : ∀ x ∈ ch, (Lit.int .u8 x).wf = true) :
    Calls Try.prog 9 #[.int .u64 a0, .slice a1 len1 cap1, .agg (ch.map (Value.int .u8)).toArray] w fun e w' => e = .returned (.bool true) ∧ Below w.heap.size w w' := by
  obtain ⟨l1, rfl, hr1, hm1, hw1, hc1⟩ := ReadsInt.ofRowC w1
  obtain ⟨a0, rfl, hK⟩ := Pure.u64_of w0
  obtain ⟨k, p, t0, t1, hp, hpl, hA, H0, H1, H2⟩ := Pure.SealBlocks a0 hK l1 hw1 (by omega) ch (MSeal.Bytes.of_wf w2)
  exact E.skiarealaw04_SealBlocks.calls k (a0 : Int) a1 cap1 l1 ch p t0 t1 w (Kd.C_of_reads (d := (0 : Int)) (h1 := fun _ => rfl) hr1) hc1 h9 hp hpl hA H0 H1 H2
set_option maxRecDepth 100000 in
theorem lifted (os : Os) (started : os.Started) (H : Type) (enc : TypeId × Value → H) :
    ReturnsInHanded {} Try.checked os 9 .any (Rows.sealBlocksSpec.pre6 enc Try.prog Try.f9 Rows.sealBlocksRow.domain false) (Rows.sealBlocksSpec.post enc Try.prog Try.f9 false true false false) := by
  refine returnsInHanded_of_change_sized (C := Try.checked) own started (by kernel_rfl) Try.func9
    (ChangeSpec.witness6 (enc := enc) (C := Try.checked) false ⟨#[], #[.int .u64 0, .slice none 0 0, .agg #[.int .u8 0, .int .u8 0, .int .u8 0, .int .u8 0, .int .u8 0, .int .u8 0, .int .u8 0, .int .u8 0, .int .u8 0]], []⟩ 8 (by kernel_rfl) (by kernel_rfl) (by kernel_rfl) (by kernel_rfl)) ?_
  intro W base args ds gs before hval0 hW hcnd hsz0 _
  have hsz : (DataW.weightsEach Try.prog (Try.f9.params.toList ++ Rows.sealBlocksSpec.plain.varTypes Try.prog) (ds ++ gs)).all (· ≤ reachBytes) = true := hsz0
  have hval : ∀ (j : Nat) t v, Try.f9.params[j]? = some t → args[j]? = some v → Value.okWide Try.prog W .any base t v := hval0
  have hW' := hW
  obtain ⟨p, q, hA0, hV, rfl, hfz, hnd⟩ := hW
  have hA : DataW.TrodAll enc Try.prog W 0 (fun _ => true) true Try.f9.params.toList args.toList ds p := hA0
  rw [Try.params9] at hA hval hsz
  obtain ⟨v0, vs0, d0, ds0, p0, q0, hargs, rfl, rfl, h0, r0⟩ := trodAll_cons hA
  obtain ⟨v1, vs1, d1, ds1, p1, q1, rfl, rfl, rfl, h1, r1⟩ := trodAll_cons r0
  obtain ⟨vp, vsp, dp, dsp, pp, qp, rfl, rfl, rfl, hp, rp⟩ := trodAll_cons r1
  obtain ⟨rfl, rfl, rfl⟩ := trodAll_nil rp
  obtain rfl : args = #[v0, v1, vp] := by cases args; simp_all
  obtain ⟨rfl, rfl⟩ := trodVars_none hV
  obtain ⟨a0, rfl, rfl, rfl, w0⟩ := open_int Try.underlying22 (hval 0 22 v0 rfl rfl) h0
  obtain ⟨ch, h9, rfl, rfl, rfl, w2⟩ := open_nine nineKey Try.underlying5 (hval 2 35 vp rfl rfl) hp
  obtain ⟨a1, len1, cap1, rfl⟩ := okWide_slice Try.underlying28 (hval 1 28 v1 rfl rfl)
  have k1 := h1
  have lt1 : ∀ x ∈ p1, x.block < W.heap.size := by obtain ⟨m, hm⟩ := k1; exact DataW.trod_lt m _ _ _ hm
  obtain ⟨z1, w1⟩ : ∃ zs, IsRow .u8 W a1 len1 cap1 zs := by
    obtain ⟨fuel, hf⟩ := h1
    rcases open_ints Try.underlying28 Try.underlying5 (by kernel_rfl) hf with ⟨hcs, _⟩ | ⟨x, l, c, zs, hcs, _, hl, hm, hz, _, hcell, hwz⟩
    · simp [Value.cells] at hcs
      obtain ⟨rfl, rfl, rfl⟩ := hcs
      exact ⟨[], .inl ⟨rfl, rfl, rfl, rfl⟩⟩
    · simp [Value.cells] at hcs
      obtain ⟨rfl, rfl, rfl⟩ := hcs
      exact ⟨zs, .inr ⟨_, rfl, hl, hm, by simpa using hz, hcell, hwz⟩⟩
  have y1 : len1 * 1 ≤ 140737488351232 := Go.Proofs.YtmfjicpgofdmkaaW.PrintWords.sized_ints hsz (j := 1) (t := 28) rfl rfl Try.underlying28 Try.underlying5 (by kernel_rfl) (by kernel_rfl) h1
  clear hA0 hval0 hsz0 hsz
  refine (walk a0 a1 len1 cap1 z1 ch W w0 w1 y1 h9 w2).mono fun e W' ⟨he, bel⟩ => ?_
  subst he
  exact ⟨_, rfl, _, _, _, [], _, [], hW', trodAll_mk1 (shut_bool Try.underlying4 _), (trodAll_cons_mk (shut_int Try.underlying22 w0) (trodAll_cons_mk (Below.trod laidOut (by kernel_rfl) (of_decide_eq_true (by kernel_rfl)) k1 bel lt1) (trodAll_cons_mk (shut_nine nineKey Try.underlying5 h9 w2) trodAll_mk0))), rfl, bel.frame _, fun h => by cases h⟩
theorem over : Rows.sealBlocksRow.holds Try.pinned (OpenSpec.ofChange Rows.sealBlocksSpec) :=
  OpenClaim.holds_of_wide 9 Try.f9 rfl rfl rfl rfl rfl rfl rfl ⟨rfl, rfl, rfl, rfl, rfl⟩ rfl rfl rfl rfl rfl (by kernel_rfl) Try.func9 (by kernel_rfl)
    (of_decide_eq_true (by kernel_rfl)) (by unfold Func.isWrapper; first | (rw [if_pos (by decide +kernel)]; kernel_rfl) | (rw [if_neg (by decide +kernel)]; exact ⟨rfl, rfl⟩))
    (fun os started H enc _ => lifted os started H enc)
theorem proved : Rows.SealBlocksSaid := over
#print axioms proved
end Go.Proofs.Ytmfjicpgofdmkaa.sealBlocks
namespace Go.Proofs.Ytmfjicpgofdmkaa
/-- The row, under a short name, for the claim. -/
theorem sealBlocks_holds : Rows.SealBlocksSaid := sealBlocks.proved
end Go.Proofs.Ytmfjicpgofdmkaa
