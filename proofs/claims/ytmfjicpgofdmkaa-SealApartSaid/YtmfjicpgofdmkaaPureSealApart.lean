/- Different ids have different keys for one master key, and one string has different tags for different keys. Condition: the statement's own bound of 500 bytes. -/
import Derived.Test.YtmfjicpgofdmkaaRx7
import Derived.Test.YtmfjicpgofdmkaaMSeal
namespace Go.Proofs.Ytmfjicpgofdmkaa.Pure
open Go.RowKit Go.Proofs.Ytmfjicpgofdmkaa.R Go.Proofs.YtmfjicpgofdmkaaW.PrintWords Go.Proofs.YtmfjicpgofdmkaaW.PrintLast Go.Proofs.YtmfjicpgofdmkaaW.PrintMore Go.Proofs.Ytmfjicpgofdmkaa.MSeal

theorem u64_of {a : Int} (h : (Lit.int .u64 a).wf = true) : ∃ n : Nat, a = n ∧ n < 2 ^ 64 := by
  simp [Lit.wf, IntKind.min, IntKind.max, IntKind.bits, IntKind.signed] at h
  exact ⟨a.toNat, by omega, by omega⟩
/-- The key with a number. -/
def keyN (key : Nat) (i : Int) : Nat := mixN ((key + (i % 18446744073709551616).toNat * 11400714819323198485) % 2 ^ 64)
theorem keyN_lt (key : Nat) (i : Int) : keyN key i < 2 ^ 64 := mixN_lt _
theorem mix_f (a : Nat) (ha : a < 2 ^ 64) : seal_Mix.f (a : Int) = some ((mixN a : Nat) : Int) := by
  unfold seal_Mix.f; rw [mix_text a ha]
theorem mix_xor (a b : Nat) (ha : a < 2 ^ 64) (hb : b < 2 ^ 64) : seal_Mix.f (Go.bits .xor .u64 (a : Int) (b : Int)) = some ((mixN (a ^^^ b) : Nat) : Int) := by
  rw [xor_u64 a b ha hb, mix_f _ (Nat.xor_lt_two_pow ha hb)]
theorem alive_ev : Ev (fun k => skiarealaw04_alive.f k) true := Ev.of skiarealaw04_alive.mono (k := 40) (by decide +kernel)
theorem wrap_at {i : Int} (h0 : 0 ≤ i) (h : i ≤ 140737488351240) : wrap64 i = i := by unfold wrap64; omega
/-- One byte more of a block. -/
theorem or_byte (b : List Int) (i : Nat) (hb : Bytes b) (hi : i < b.length) (h8 : b.length ≤ 8) :
    Go.bits .or .u64 ((blk (b.take i) : Nat) : Int) (shl .u64 (IntKind.u64.wrap (rd b i)) (wrap64 (8 * (i : Int)))) = ((blk (b.take (i + 1)) : Nat) : Int) := by
  have hx := hb.at i
  have hrd : rd b (i : Int) = b.getD i 0 := by unfold rd; simp
  obtain ⟨x, hxe⟩ := Int.eq_ofNat_of_zero_le hx.1
  have hx256 : x < 256 := by omega
  rw [hrd, hxe]
  have hw : wrap64 (8 * (i : Int)) = 8 * (i : Int) := wrap_at (by omega) (by omega)
  rw [hw, u64_nat x (by omega)]
  have hp : (256 : Nat) ^ i = 2 ^ (8 * i) := by rw [Nat.pow_mul]
  have hs : shl .u64 (x : Int) (8 * (i : Int)) = ((2 ^ (8 * i) * x : Nat) : Int) := by
    unfold shl
    have e1 : (8 * (i : Int)).toNat = 8 * i := by omega
    have e2 : min (8 * i) IntKind.u64.bits = 8 * i := Nat.min_eq_left (by simp [IntKind.bits]; omega)
    rw [e1, e2]
    have hlt : 2 ^ (8 * i) * x < 2 ^ 64 := by
      have h1 : 2 ^ (8 * i) * x < 2 ^ (8 * i) * 256 := Nat.mul_lt_mul_of_pos_left hx256 (Nat.two_pow_pos _)
      have h2 : 2 ^ (8 * i) * 256 = 2 ^ (8 * i + 8) := by rw [Nat.pow_add]
      have h3 : 2 ^ (8 * i + 8) ≤ 2 ^ 64 := Nat.pow_le_pow_right (by decide) (by omega)
      omega
    have e3 : (x : Int) * 2 ^ (8 * i) = ((2 ^ (8 * i) * x : Nat) : Int) := by push_cast; rw [Int.mul_comm]
    rw [e3, u64_nat _ hlt]
  have hl : (b.take i).length = i := by simp; omega
  have ha : blk (b.take i) < 2 ^ (8 * i) := by
    have := blk_lt (hb.take i); rw [hl, hp] at this; exact this
  have h64 : 2 ^ (8 * i) ≤ 2 ^ 64 := Nat.pow_le_pow_right (by decide) (by omega)
  have hlt : 2 ^ (8 * i) * x < 2 ^ 64 := by
    have h1 : 2 ^ (8 * i) * x < 2 ^ (8 * i) * 256 := Nat.mul_lt_mul_of_pos_left hx256 (Nat.two_pow_pos _)
    have h2 : 2 ^ (8 * i) * 256 = 2 ^ (8 * i + 8) := by rw [Nat.pow_add]
    have h3 : 2 ^ (8 * i + 8) ≤ 2 ^ 64 := Nat.pow_le_pow_right (by decide) (by omega)
    omega
  rw [hs, or_u64 _ _ (by omega) hlt, Nat.or_comm, ← Nat.two_pow_add_eq_or_of_lt ha]
  have ht : b.take (i + 1) = b.take i ++ [b.getD i 0] := by
    rw [List.take_succ_eq_append_getElem hi, List.getD_eq_getElem?_getD, List.getElem?_eq_getElem hi]; rfl
  rw [ht, blk_snoc, hl, hp, hxe]
  simp [Nat.add_comm]
theorem tag_l1 (l b : List Int) (hb : Bytes b) (h8 : b.length ≤ 8) (h : Nat) (hh : h < 2 ^ 64) (n sz : Int) (hs : 0 ≤ sz) (hsl : sz ≤ l.length) (R : Int)
    (H : Ev (fun k => seal_Tag.l0 k (l.drop sz.toNat) ((mixN (h ^^^ blk b) : Nat) : Int) n) R) :
    ∀ d i : Nat, i + d = b.length → Ev (fun k => seal_Tag.l1 k l (h : Int) n sz ((blk (b.take i) : Nat) : Int) b (b.length : Int) (i : Int)) R := by
  intro d
  induction d with
  | zero =>
    intro i hi
    refine Ev.step (fun k => ?_) H
    simp only [seal_Tag.l1]
    rw [if_neg (by omega), List.take_of_length_le (by omega), mix_xor _ _ hh (blk_lt64 hb h8)]
    simp only [Option.bind_some]
    rw [if_pos hs, if_pos hsl]
  | succ d ih =>
    intro i hi
    refine Ev.step (fun k => ?_) (ih (i + 1) (by omega))
    simp only [seal_Tag.l1]
    have hw : wrap64 (8 * (i : Int)) = 8 * (i : Int) := wrap_at (by omega) (by omega)
    have hw2 : wrap64 ((i : Int) + 1) = ((i + 1 : Nat) : Int) := by rw [wrap_at (by omega) (by omega)]; rfl
    rw [if_pos (by omega), if_pos (by omega), if_pos (by omega), if_pos (by rw [hw]; omega), or_byte b i hb (by omega) h8, hw2]
theorem tag_l0 (n : Nat) (hn : n < 2 ^ 64) (l : List Int) : ∀ (h : Nat), h < 2 ^ 64 → Bytes l → Ev (fun k => seal_Tag.l0 k l (h : Int) (n : Int)) ((mixN (tags h l ^^^ n) : Nat) : Int) := by
  refine tags_ind (P := fun l => ∀ (h : Nat), h < 2 ^ 64 → Bytes l → Ev (fun k => seal_Tag.l0 k l (h : Int) (n : Int)) ((mixN (tags h l ^^^ n) : Nat) : Int)) ?_ ?_ l
  · intro h hh _
    refine ⟨1, fun k hk => ?_⟩
    obtain ⟨k, rfl⟩ : ∃ m, k = m + 1 := ⟨k - 1, by omega⟩
    simp only [seal_Tag.l0]
    rw [if_neg (by simp), mix_xor _ _ hh hn, tags_nil]; rfl
  · intro l hl ih h hh hb
    have hlen : 0 < l.length := List.length_pos_iff.mpr hl
    have hm : 0 ≤ mn 8 (l.length : Int) ∧ mn 8 (l.length : Int) ≤ l.length ∧ (mn 8 (l.length : Int)).toNat ≤ 8 := by unfold mn; split <;> omega
    have hbt := hb.take (mn 8 (l.length : Int)).toNat
    have ht : l.take (mn 8 (l.length : Int)).toNat = l.take 8 := by
      unfold mn
      by_cases h8 : (l.length : Int) < 8
      · rw [if_pos h8, List.take_of_length_le (by omega), List.take_of_length_le (by omega)]
      · rw [if_neg h8]; rfl
    have hd : l.drop (mn 8 (l.length : Int)).toNat = l.drop 8 := by
      unfold mn
      by_cases h8 : (l.length : Int) < 8
      · rw [if_pos h8, List.drop_eq_nil_of_le (by omega), List.drop_eq_nil_of_le (by omega)]
      · rw [if_neg h8]; rfl
    rw [tags_cons _ _ hl]
    have H : Ev (fun k => seal_Tag.l0 k (l.drop (mn 8 (l.length : Int)).toNat) ((mixN (h ^^^ blk (l.take 8)) : Nat) : Int) (n : Int)) ((mixN (tags (mixN (h ^^^ blk (l.take 8))) (l.drop 8) ^^^ n) : Nat) : Int) := by
      rw [hd]; exact ih (mixN (h ^^^ blk (l.take 8))) (mixN_lt _) (hb.drop 8)
    rw [ht] at hbt
    refine Ev.step (fun k => ?_) (tag_l1 l (l.take 8) hbt (List.length_take_le _ _) h hh n _ hm.1 hm.2.1 _ H (l.take 8).length 0 (by omega))
    simp only [seal_Tag.l0]
    rw [if_pos (by omega), if_pos hm.1, if_pos hm.2.1, ht]
    rfl
theorem tag_ev (key : Nat) (l : List Int) (hk : key < 2 ^ 64) (hb : Bytes l) (hl : l.length ≤ 140737488351232) : Ev (fun k => seal_Tag.f k (key : Int) l) ((tagN key l : Nat) : Int) := by
  unfold seal_Tag.f tagN
  rw [mix_f _ hk]
  simp only [Option.bind_some]
  rw [u64_nat l.length (by omega)]
  exact tag_l0 l.length (by omega) l (mixN key) (mixN_lt _) hb
theorem key_text (key : Nat) (i : Int) : (IntKind.u64.wrap ((key : Int) + (IntKind.u64.wrap ((IntKind.u64.wrap i) * 11400714819323198485)))) = (((key + (i % 18446744073709551616).toNat * 11400714819323198485) % 2 ^ 64 : Nat) : Int) := by
  rw [u64_wrap, u64_wrap, u64_wrap]
  omega
theorem key_f (key : Nat) (i : Int) : seal_Key.f (key : Int) i = some ((keyN key i : Nat) : Int) := by
  unfold seal_Key.f keyN
  rw [key_text, mix_f _ (Nat.mod_lt _ (by decide))]
  rfl
theorem odd_core (key a b T C D M : Nat) (hCD : C * D = 1 + T * M) (ha : a < T) (hb : b < T) (e : (key + a * C) % T = (key + b * C) % T) : a = b := by
  have e1 : ((key + a * C : Nat) : Int) % (T : Int) = ((key + b * C : Nat) : Int) % (T : Int) := by exact_mod_cast e
  have e2 := Int.emod_eq_emod_iff_emod_sub_eq_zero.mp e1
  have d1 : (T : Int) ∣ ((a : Int) - b) * C := by
    have : ((key + a * C : Nat) : Int) - ((key + b * C : Nat) : Int) = ((a : Int) - b) * C := by
      rw [Int.sub_mul]; push_cast; omega
    rw [← this]; exact Int.dvd_of_emod_eq_zero e2
  have hI : (C : Int) * D = 1 + (T : Int) * M := by exact_mod_cast hCD
  have d2 : (T : Int) ∣ ((a : Int) - b) := by
    have h := Int.dvd_mul_of_dvd_left (c := (D : Int)) d1
    rw [Int.mul_assoc, hI, Int.mul_add, Int.mul_one] at h
    have h3 : (T : Int) ∣ ((a : Int) - b) * ((T : Int) * M) := ⟨((a : Int) - b) * M, by rw [Int.mul_left_comm]⟩
    exact (Int.dvd_add_left h3).mp h
  obtain ⟨k, hk⟩ := d2
  have : k = 0 := by
    rcases Int.lt_trichotomy k 0 with h | h | h
    · have : (T : Int) * k ≤ (T : Int) * (-1) := Int.mul_le_mul_of_nonneg_left (by omega) (by omega)
      omega
    · exact h
    · have : (T : Int) * 1 ≤ (T : Int) * k := Int.mul_le_mul_of_nonneg_left (by omega) (by omega)
      omega
  subst this; omega
theorem odd_inj (key a b : Nat) (ha : a < 18446744073709551616) (hb : b < 18446744073709551616) (e : (key + a * 11400714819323198485) % 2 ^ 64 = (key + b * 11400714819323198485) % 2 ^ 64) : a = b := by
  rw [show (2 : Nat) ^ 64 = 18446744073709551616 from rfl] at e
  exact odd_core key a b 18446744073709551616 11400714819323198485 17428512612931826493 10771413168148108919 (by decide +kernel) ha hb e
/-- The odd number by which an id is multiplied has an inverse. -/
theorem keyN_inj {key : Nat} {i j : Int} (i0 : -9223372036854775808 ≤ i) (i1 : i < 9223372036854775808) (j0 : -9223372036854775808 ≤ j) (j1 : j < 9223372036854775808) (e : keyN key i = keyN key j) : i = j := by
  unfold keyN at e
  have e1 := mixN_inj (Nat.mod_lt _ (by decide)) (Nat.mod_lt _ (by decide)) e
  obtain ⟨a, ha⟩ : ∃ a : Nat, a = (i % 18446744073709551616).toNat := ⟨_, rfl⟩
  obtain ⟨b, hb⟩ : ∃ b : Nat, b = (j % 18446744073709551616).toNat := ⟨_, rfl⟩
  rw [← ha, ← hb] at e1
  have ab : a = b := by
    have hal : a < 18446744073709551616 := by clear e e1; omega
    have hbl : b < 18446744073709551616 := by clear e e1; omega
    exact odd_inj key a b hal hbl e1
  clear e e1
  omega
/-- The law over any two keys that are equal exactly where the ids are. -/
theorem apart_ev (i j : Int) (a b : Nat) (ha : a < 2 ^ 64) (hb : b < 2 ^ 64) (hab : a = b ↔ i = j) (l : List Int) (hw : Bytes l) (h2 : l.length ≤ 500) :
    Ev (fun k => if (((a : Int) == (b : Int)) == (i == j)) = true then ((seal_Tag.f k (a : Int) l).bind fun t135 => ((seal_Tag.f k (b : Int) l).bind fun t136 => (some ((t135 == t136) == ((a : Int) == (b : Int)))))) else (some false)) true := by
  have T1 := tag_ev a l ha hw (by omega)
  have T2 := tag_ev b l hb hw (by omega)
  by_cases hij : i = j
  · have e := hab.mpr hij
    subst e; subst hij
    simp only [BEq.rfl, if_true]
    refine Ev.bind T1 ?_
    refine Ev.bind T1 ?_
    simp only [BEq.rfl]
    exact Ev.now true
  · have ne : a ≠ b := fun e => hij (hab.mp e)
    have n1 : ((a : Int) == (b : Int)) = false := beq_eq_false_iff_ne.mpr (fun e => ne (Int.ofNat.inj e))
    have n2 : (i == j) = false := beq_eq_false_iff_ne.mpr hij
    simp only [n1, n2, BEq.rfl, if_true]
    refine Ev.bind T1 ?_
    refine Ev.bind T2 ?_
    have n3 : ¬ tagN a l = tagN b l := fun e => ne (tagN_inj ha hb hw (Nat.lt_of_le_of_lt h2 (by decide)) e)
    have n4 : (((tagN a l : Nat) : Int) == ((tagN b l : Nat) : Int)) = false := beq_eq_false_iff_ne.mpr (fun e => n3 (Int.ofNat.inj e))
    simp only [n4, BEq.rfl]
    exact Ev.now true
theorem key_ev (key : Nat) (i : Int) : Ev (fun _ => seal_Key.f (key : Int) i) ((keyN key i : Nat) : Int) := by
  rw [key_f]; exact Ev.now _
theorem SealApart (key : Nat) (_hK : key < 2 ^ 64) (i j : Int) (hi : (Lit.int .i64 i).wf = true) (hj : (Lit.int .i64 j).wf = true) (l : List Int) (hw : ∀ x ∈ l, (Lit.int .u8 x).wf = true) : ∃ k, skiarealaw04_SealApart.f k (key : Int) i j l = some true := by
  have hb := Bytes.of_wf hw
  obtain ⟨i0, i1⟩ : -9223372036854775808 ≤ i ∧ i < 9223372036854775808 := by
    simp [Lit.wf, IntKind.min, IntKind.max, IntKind.signed, IntKind.bits] at hi; omega
  obtain ⟨j0, j1⟩ : -9223372036854775808 ≤ j ∧ j < 9223372036854775808 := by
    simp [Lit.wf, IntKind.min, IntKind.max, IntKind.signed, IntKind.bits] at hj; omega
  have hab : keyN key i = keyN key j ↔ i = j := ⟨fun e => keyN_inj i0 i1 j0 j1 e, fun e => by rw [e]⟩
  have la := keyN_lt key i
  have lb := keyN_lt key j
  refine Ev.rounds ?_
  unfold skiarealaw04_SealApart.f
  have ka := key_ev key i
  have kb := key_ev key j
  generalize keyN key i = a at *
  generalize keyN key j = b at *
  refine Ev.bind alive_ev ?_
  simp only [if_true]
  by_cases h2 : (l.length : Int) > 500
  · simp only [if_pos h2]; exact Ev.now true
  · simp only [if_neg h2]
    refine Ev.bind ka ?_
    refine Ev.bind kb ?_
    exact apart_ev i j a b la lb hab l hb (by omega)
end Go.Proofs.Ytmfjicpgofdmkaa.Pure
