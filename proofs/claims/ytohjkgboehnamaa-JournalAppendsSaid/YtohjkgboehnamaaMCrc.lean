/- Plain arithmetic of the checksum of layer 3: one step, eight steps, a table of 256 numbers; what one changed byte does. No program and no memory in it. -/
import Derived.Test.YtohjkgboehnamaaMSeal
namespace Go.Proofs.Ytohjkgboehnamaa.MCrc
open Go.RowKit Go.Proofs.YtohjkgboehnamaaW.PrintWords Go.Proofs.YtohjkgboehnamaaW.PrintMore Go.Proofs.Ytohjkgboehnamaa.MSeal

/-- One step of the register. -/
def stepN (r : Nat) : Nat := if r % 2 = 1 then r / 2 ^^^ 2197175160 else r / 2
/-- Some steps. -/
def stepsN : Nat → Nat → Nat
  | 0, r => r
  | k + 1, r => stepN (stepsN k r)
/-- The change of the register for a byte. -/
def tabN (i : Nat) : Nat := stepsN 8 i
/-- The register behind one byte more. -/
def crcS (r : Nat) (c : Int) : Nat := tabN ((r % 256) ^^^ c.toNat) ^^^ (r / 256)
/-- The register behind some bytes. -/
def crcR (r : Nat) (l : List Int) : Nat := l.foldl crcS r
/-- The checksum of bytes. -/
def crcN (l : List Int) : Nat := crcR 4294967295 l ^^^ 4294967295

theorem xor_div2 (a b : Nat) : (a ^^^ b) / 2 = a / 2 ^^^ b / 2 := by
  have := Nat.shiftRight_xor_distrib (a := a) (b := b) (i := 1)
  simpa [Nat.shiftRight_eq_div_pow] using this
theorem xor_mod2 (a b : Nat) : (a ^^^ b) % 2 = (a % 2 + b % 2) % 2 := by
  have h := Nat.testBit_xor a b 0
  simp only [Nat.testBit_zero] at h
  rcases Nat.mod_two_eq_zero_or_one a with ha | ha <;> rcases Nat.mod_two_eq_zero_or_one b with hb | hb <;> rcases Nat.mod_two_eq_zero_or_one (a ^^^ b) with hc | hc <;> simp [ha, hb, hc] at h ⊢
theorem step_xor (a b : Nat) : stepN (a ^^^ b) = stepN a ^^^ stepN b := by
  unfold stepN
  rw [xor_mod2, xor_div2]
  rcases Nat.mod_two_eq_zero_or_one a with ha | ha <;> rcases Nat.mod_two_eq_zero_or_one b with hb | hb <;> simp only [ha, hb]
  · simp
  · show a / 2 ^^^ b / 2 ^^^ 2197175160 = a / 2 ^^^ (b / 2 ^^^ 2197175160)
    rw [Nat.xor_assoc]
  · show a / 2 ^^^ b / 2 ^^^ 2197175160 = a / 2 ^^^ 2197175160 ^^^ b / 2
    rw [Nat.xor_assoc, Nat.xor_assoc, Nat.xor_comm (b / 2)]
  · show a / 2 ^^^ b / 2 = a / 2 ^^^ 2197175160 ^^^ (b / 2 ^^^ 2197175160)
    have : a / 2 ^^^ 2197175160 ^^^ (b / 2 ^^^ 2197175160) = a / 2 ^^^ b / 2 ^^^ (2197175160 ^^^ 2197175160) := by
      rw [Nat.xor_assoc, Nat.xor_assoc, ← Nat.xor_assoc 2197175160, Nat.xor_comm 2197175160 (b / 2), Nat.xor_assoc (b / 2)]
    rw [this, Nat.xor_self, Nat.xor_zero]
theorem steps_xor (k a b : Nat) : stepsN k (a ^^^ b) = stepsN k a ^^^ stepsN k b := by
  induction k with
  | zero => rfl
  | succ k ih => simp only [stepsN, ih, step_xor]
theorem step_two (m : Nat) : stepN (2 * m) = m := by
  unfold stepN; rw [if_neg (by omega)]; omega
theorem steps_step (k r : Nat) : stepsN k (stepN r) = stepN (stepsN k r) := by
  induction k with
  | zero => rfl
  | succ k ih => simp only [stepsN, ih]
theorem steps_pow (k q : Nat) : stepsN k (2 ^ k * q) = q := by
  induction k generalizing q with
  | zero => simp [stepsN]
  | succ k ih =>
    show stepN (stepsN k (2 ^ (k + 1) * q)) = q
    have : 2 ^ (k + 1) * q = 2 ^ k * (2 * q) := by rw [Nat.pow_succ, Nat.mul_assoc]
    rw [this, ih, step_two]
theorem split256 (r : Nat) : r = (r % 256) ^^^ (2 ^ 8 * (r / 256)) := by
  apply Nat.eq_of_testBit_eq
  intro i
  rw [Nat.testBit_xor, show (256 : Nat) = 2 ^ 8 by rfl, Nat.testBit_mod_two_pow, Nat.testBit_two_pow_mul, Nat.testBit_div_two_pow]
  by_cases h : i < 8
  · simp [h, show ¬ 8 ≤ i by omega]
  · simp [h, show 8 ≤ i by omega, show i - 8 + 8 = i by omega]
/-- The table's way is the plain one. -/
theorem crc_plain (r c : Nat) : stepsN 8 (r ^^^ c) = tabN ((r % 256) ^^^ c) ^^^ (r / 256) := by
  have e : r ^^^ c = ((r % 256) ^^^ c) ^^^ (2 ^ 8 * (r / 256)) := by
    rw [Nat.xor_assoc, Nat.xor_comm c, ← Nat.xor_assoc, ← split256]
  rw [e, steps_xor, steps_pow]; rfl
theorem step_lt {r : Nat} (h : r < 2 ^ 32) : stepN r < 2 ^ 32 := by
  unfold stepN; split
  · exact Nat.xor_lt_two_pow (by omega) (by decide)
  · omega
theorem steps_lt (k : Nat) {r : Nat} (h : r < 2 ^ 32) : stepsN k r < 2 ^ 32 := by
  induction k with
  | zero => exact h
  | succ k ih => exact step_lt ih
theorem tab_lt (i : Nat) (h : i < 256) : tabN i < 2 ^ 32 := steps_lt 8 (by omega)
theorem crcS_plain (r : Nat) (c : Int) : crcS r c = stepsN 8 (r ^^^ c.toNat) := (crc_plain r c.toNat).symm
theorem crcS_lt {r : Nat} {c : Int} (h : r < 2 ^ 32) (h0 : 0 ≤ c) (h1 : c < 256) : crcS r c < 2 ^ 32 := by
  rw [crcS_plain]
  exact steps_lt 8 (Nat.xor_lt_two_pow h (by omega))
theorem crcR_lt {l : List Int} : ∀ {r : Nat}, r < 2 ^ 32 → Bytes l → crcR r l < 2 ^ 32 := by
  induction l with
  | nil => intro r h _; exact h
  | cons c l ih =>
    intro r h hb
    have hc := hb c (by simp)
    exact ih (crcS_lt h hc.1 hc.2) (fun x hx => hb x (by simp [hx]))
theorem crcR_append (r : Nat) (a b : List Int) : crcR r (a ++ b) = crcR (crcR r a) b := by unfold crcR; rw [List.foldl_append]
theorem crcR_snoc (r : Nat) (a : List Int) (c : Int) : crcR r (a ++ [c]) = crcS (crcR r a) c := by rw [crcR_append]; rfl
theorem crcN_lt {l : List Int} (h : Bytes l) : crcN l < 2 ^ 32 := Nat.xor_lt_two_pow (crcR_lt (by decide) h) (by decide)
/-! One changed byte. -/
theorem poly_high (x : Nat) (h : x < 2 ^ 31) : 2 ^ 31 ≤ x ^^^ 2197175160 := by
  have h1 : (x ^^^ 2197175160).testBit 31 = true := by
    rw [Nat.testBit_xor, Nat.testBit_lt_two_pow h]; decide
  exact Nat.ge_two_pow_of_testBit h1
theorem step_inj {a b : Nat} (ha : a < 2 ^ 32) (hb : b < 2 ^ 32) (h : stepN a = stepN b) : a = b := by
  unfold stepN at h
  by_cases pa : a % 2 = 1 <;> by_cases pb : b % 2 = 1
  · rw [if_pos pa, if_pos pb] at h
    have := xor_inj' _ _ _ h
    omega
  · rw [if_pos pa, if_neg pb] at h
    have := poly_high (a / 2) (by omega)
    omega
  · rw [if_neg pa, if_pos pb] at h
    have := poly_high (b / 2) (by omega)
    omega
  · rw [if_neg pa, if_neg pb] at h
    omega
theorem steps_inj (k : Nat) {a b : Nat} (ha : a < 2 ^ 32) (hb : b < 2 ^ 32) (h : stepsN k a = stepsN k b) : a = b := by
  induction k with
  | zero => exact h
  | succ k ih => exact ih (step_inj (steps_lt k ha) (steps_lt k hb) h)
theorem crcS_inj_r {r s : Nat} {c : Int} (hr : r < 2 ^ 32) (hs : s < 2 ^ 32) (h0 : 0 ≤ c) (h1 : c < 256) (h : crcS r c = crcS s c) : r = s := by
  rw [crcS_plain, crcS_plain] at h
  exact xor_inj' _ _ _ (steps_inj 8 (Nat.xor_lt_two_pow hr (by omega)) (Nat.xor_lt_two_pow hs (by omega)) h)
theorem crcS_inj_c {r : Nat} {c d : Int} (hr : r < 2 ^ 32) (h0 : 0 ≤ c) (h1 : c < 256) (g0 : 0 ≤ d) (g1 : d < 256) (h : crcS r c = crcS r d) : c = d := by
  rw [crcS_plain, crcS_plain] at h
  have := xor_inj _ _ _ (steps_inj 8 (Nat.xor_lt_two_pow hr (by omega)) (Nat.xor_lt_two_pow hr (by omega)) h)
  omega
theorem crcR_inj {l : List Int} : ∀ {r s : Nat}, r < 2 ^ 32 → s < 2 ^ 32 → Bytes l → crcR r l = crcR s l → r = s := by
  induction l with
  | nil => intro r s _ _ _ h; exact h
  | cons c l ih =>
    intro r s hr hs hb h
    have hc := hb c (by simp)
    exact crcS_inj_r hr hs hc.1 hc.2 (ih (crcS_lt hr hc.1 hc.2) (crcS_lt hs hc.1 hc.2) (fun x hx => hb x (by simp [hx])) h)
/-- Two strings that differ in one byte have different sums. -/
theorem crc_change (p q : List Int) (c d : Int) (bp : Bytes p) (bq : Bytes q) (h0 : 0 ≤ c) (h1 : c < 256) (g0 : 0 ≤ d) (g1 : d < 256) (h : crcN (p ++ c :: q) = crcN (p ++ d :: q)) : c = d := by
  unfold crcN at h
  have h2 := xor_inj' _ _ _ h
  rw [crcR_append, crcR_append] at h2
  have hr : crcR 4294967295 p < 2 ^ 32 := crcR_lt (by decide) bp
  have h3 : crcR (crcS (crcR 4294967295 p) c) q = crcR (crcS (crcR 4294967295 p) d) q := h2
  exact crcS_inj_c hr h0 h1 g0 g1 (crcR_inj (crcS_lt hr h0 h1) (crcS_lt hr g0 g1) bq h3)
end Go.Proofs.Ytohjkgboehnamaa.MCrc
