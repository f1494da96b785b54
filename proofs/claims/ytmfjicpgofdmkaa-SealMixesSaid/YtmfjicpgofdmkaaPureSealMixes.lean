/- Mix returns the number that is specified, and different ones for different numbers. No condition. -/
import Derived.Test.YtmfjicpgofdmkaaQx8
import Derived.Test.YtmfjicpgofdmkaaMSeal
namespace Go.Proofs.Ytmfjicpgofdmkaa.Pure
open Go.RowKit Go.Proofs.Ytmfjicpgofdmkaa.Q Go.Proofs.YtmfjicpgofdmkaaW.PrintWords Go.Proofs.YtmfjicpgofdmkaaW.PrintLast Go.Proofs.YtmfjicpgofdmkaaW.PrintMore Go.Proofs.Ytmfjicpgofdmkaa.MSeal

theorem u64_of {a : Int} (h : (Lit.int .u64 a).wf = true) : ∃ n : Nat, a = n ∧ n < 2 ^ 64 := by
  simp [Lit.wf, IntKind.min, IntKind.max, IntKind.bits, IntKind.signed] at h
  exact ⟨a.toNat, by omega, by omega⟩
theorem mix_f (a : Nat) (ha : a < 2 ^ 64) : seal_Mix.f (a : Int) = some ((mixN a : Nat) : Int) := by
  unfold seal_Mix.f; rw [mix_text a ha]
theorem mix_xor (a b : Nat) (ha : a < 2 ^ 64) (hb : b < 2 ^ 64) : seal_Mix.f (Go.bits .xor .u64 (a : Int) (b : Int)) = some ((mixN (a ^^^ b) : Nat) : Int) := by
  rw [xor_u64 a b ha hb, mix_f _ (Nat.xor_lt_two_pow ha hb)]
theorem alive_ev : Ev (fun k => skiarealaw04_alive.f k) true := Ev.of skiarealaw04_alive.mono (k := 40) (by decide +kernel)
theorem rmix_f (a : Nat) (ha : a < 2 ^ 64) : skiarearef04_Mix.f (a : Int) = some ((mixN a : Nat) : Int) := by
  unfold skiarearef04_Mix.f; rw [mix_text a ha]
theorem same_same (x y a b : Nat) (h : x = y ↔ a = b) : (((x : Int) == (y : Int)) == ((a : Int) == (b : Int))) = true := by
  by_cases e : a = b
  · have := h.mpr e; subst this; subst e; simp
  · have e2 : ¬ x = y := fun z => e (h.mp z)
    have h3 : ((x : Int) == (y : Int)) = false := by rw [beq_eq_false_iff_ne]; omega
    have h4 : ((a : Int) == (b : Int)) = false := by rw [beq_eq_false_iff_ne]; omega
    rw [h3, h4]; rfl
theorem SealMixes : skiarealaw04_SealMixes.Pure := by
  intro a b ha hb
  obtain ⟨a, rfl, hA⟩ := u64_of ha
  obtain ⟨b, rfl, hB⟩ := u64_of hb
  refine Ev.rounds ?_
  unfold skiarealaw04_SealMixes.f
  refine Ev.bind alive_ev ?_
  refine Ev.congr (fun k => ?_) (Ev.now true)
  have e := same_same (mixN a) (mixN b) a b ⟨fun h => mixN_inj hA hB h, fun h => by rw [h]⟩
  rw [if_pos rfl, mix_f a hA, rmix_f a hA, mix_f b hB]
  generalize mixN a = x at e ⊢
  generalize mixN b = y at e ⊢
  rw [Option.bind_some, Option.bind_some, if_pos rfl, Option.bind_some, Option.bind_some, e]
end Go.Proofs.Ytmfjicpgofdmkaa.Pure
