/- Key returns the key of any number. No condition. -/
import Derived.Test.YtmfjicpgofdmkaaQx10
import Derived.Test.YtmfjicpgofdmkaaMSeal
namespace Go.Proofs.Ytmfjicpgofdmkaa.Pure
open Go.RowKit Go.Proofs.Ytmfjicpgofdmkaa.Q Go.Proofs.YtmfjicpgofdmkaaW.PrintWords Go.Proofs.YtmfjicpgofdmkaaW.PrintLast Go.Proofs.YtmfjicpgofdmkaaW.PrintMore Go.Proofs.Ytmfjicpgofdmkaa.MSeal

theorem u64_of {a : Int} (h : (Lit.int .u64 a).wf = true) : ∃ n : Nat, a = n ∧ n < 2 ^ 64 := by
  simp [Lit.wf, IntKind.min, IntKind.max, IntKind.bits, IntKind.signed] at h
  exact ⟨a.toNat, by omega, by omega⟩
theorem mix_f (a : Nat) (ha : a < 2 ^ 64) : seal_Mix.f (a : Int) = some ((mixN a : Nat) : Int) := by
  unfold seal_Mix.f; rw [mix_text a ha]
theorem mix_xor (a b : Nat) (ha : a < 2 ^ 64) (hb : b < 2 ^ 64) : seal_Mix.f (Go.bits .xor .u64 (a : Int) (b : Int)) = some ((mixN (a ^^^ b) : Nat) : Int) := by
  rw [xor_u64 a b ha hb, mix_f _ (Nat.xor_lt_two_pow ha hb)]
theorem alive_ev : Ev (fun k => skiarealaw04_alive.f k) true := Ev.of skiarealaw04_alive.mono (k := 40) (by decide +kernel)
theorem SealKeys : skiarealaw04_SealKeys.Pure := by
  intro a i ha hi
  obtain ⟨a, rfl, hA⟩ := u64_of ha
  refine Ev.rounds ?_
  unfold skiarealaw04_SealKeys.f
  refine Ev.bind alive_ev ?_
  have hs : skiarearef04_Key.f (a : Int) i = seal_Key.f (a : Int) i := rfl
  rw [hs]
  have hk : ∃ r, seal_Key.f (a : Int) i = some r := by
    unfold seal_Key.f seal_Mix.f
    exact ⟨_, rfl⟩
  obtain ⟨r, hr⟩ := hk
  simp only [if_true, hr, Option.bind_some, BEq.rfl]
  exact Ev.now true
end Go.Proofs.Ytmfjicpgofdmkaa.Pure
