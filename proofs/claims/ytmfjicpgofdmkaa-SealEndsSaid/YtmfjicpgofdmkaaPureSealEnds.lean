/- Zero bytes that are added within the last block change the tag. Condition: the statement's own bound of 500 bytes. -/
import Derived.Test.YtmfjicpgofdmkaaEx8
import Derived.Test.YtmfjicpgofdmkaaMSeal
namespace Go.Proofs.Ytmfjicpgofdmkaa.Pure
open Go.RowKit Go.Proofs.Ytmfjicpgofdmkaa.E Go.Proofs.YtmfjicpgofdmkaaW.PrintWords Go.Proofs.YtmfjicpgofdmkaaW.PrintLast Go.Proofs.YtmfjicpgofdmkaaW.PrintMore Go.Proofs.Ytmfjicpgofdmkaa.MSeal

theorem u64_of {a : Int} (h : (Lit.int .u64 a).wf = true) : ∃ n : Nat, a = n ∧ n < 2 ^ 64 := by
  simp [Lit.wf, IntKind.min, IntKind.max, IntKind.bits, IntKind.signed] at h
  exact ⟨a.toNat, by omega, by omega⟩
theorem mix_f (a : Nat) (ha : a < 2 ^ 64) : seal_Mix.f (a : Int) = some ((mixN a : Nat) : Int) := by
  unfold seal_Mix.f; rw [mix_text a ha]
theorem mix_xor (a b : Nat) (ha : a < 2 ^ 64) (hb : b < 2 ^ 64) : seal_Mix.f (Go.bits .xor .u64 (a : Int) (b : Int)) = some ((mixN (a ^^^ b) : Nat) : Int) := by
  rw [xor_u64 a b ha hb, mix_f _ (Nat.xor_lt_two_pow ha hb)]
theorem alive_ev : Ev (fun k => skiarealaw04_alive.f k) true := Ev.of skiarealaw04_alive.mono (k := 40) (by decide +kernel)
theorem wrap_at {i : Int} (h0 : 0 ≤ i) (h : i ≤ 140737488351240) : wrap64 i = i := by unfold wrap64; omega
/-- One byte more of a block. -/
theorem or_byte (b : List Int) (i : Nat) (hb : Bytes b) (hi : i < b.length) (h8 : b.length ≤ 8) :
    Go.bits .or .u64 ((blk (b.take i) : Nat) : Int) (shl .u64 (IntKind.u64.wrap (rd b i)) (wrap64 (8 * (i : Int)))) = ((blk (b.take (i + 1)) : Nat) : Int) := by
  have hx := hb.at i
  have hrd : rd b (i : Int) = b.getD i 0 := by unfold rd; simp
  obtain ⟨x, hxe⟩ := Int.eq_ofNat_of_zero_le hx.1
  have hx256 : x < 256 := by omega
  rw [hrd, hxe]
  have hw : wrap64 (8 * (i : Int)) = 8 * (i : Int) := wrap_at (by omega) (by omega)
  rw [hw, u64_nat x (by omega)]
  have hp : (256 : Nat) ^ i = 2 ^ (8 * i) := by rw [Nat.pow_mul]
  have hs : shl .u64 (x : Int) (8 * (i : Int)) = ((2 ^ (8 * i) * x : Nat) : Int) := by
    unfold shl
    have e1 : (8 * (i : Int)).toNat = 8 * i := by omega
    have e2 : min (8 * i) IntKind.u64.bits = 8 * i := Nat.min_eq_left (by simp [IntKind.bits]; omega)
    rw [e1, e2]
    have hlt : 2 ^ (8 * i) * x < 2 ^ 64 := by
      have h1 : 2 ^ (8 * i) * x < 2 ^ (8 * i) * 256 := Nat.mul_lt_mul_of_pos_left hx256 (Nat.two_pow_pos _)
      have h2 : 2 ^ (8 * i) * 256 = 2 ^ (8 * i + 8) := by rw [Nat.pow_add]
      have h3 : 2 ^ (8 * i + 8) ≤ 2 ^ 64 := Nat.pow_le_pow_right (by decide) (by omega)
      omega
    have e3 : (x : Int) * 2 ^ (8 * i) = ((2 ^ (8 * i) * x : Nat) : Int) := by push_cast; rw [Int.mul_comm]
    rw [e3, u64_nat _ hlt]
  have hl : (b.take i).length = i := by simp; omega
  have ha : blk (b.take i) < 2 ^ (8 * i) := by
    have := blk_lt (hb.take i); rw [hl, hp] at this; exact this
  have h64 : 2 ^ (8 * i) ≤ 2 ^ 64 := Nat.pow_le_pow_right (by decide) (by omega)
  have hlt : 2 ^ (8 * i) * x < 2 ^ 64 := by
    have h1 : 2 ^ (8 * i) * x < 2 ^ (8 * i) * 256 := Nat.mul_lt_mul_of_pos_left hx256 (Nat.two_pow_pos _)
    have h2 : 2 ^ (8 * i) * 256 = 2 ^ (8 * i + 8) := by rw [Nat.pow_add]
    have h3 : 2 ^ (8 * i + 8) ≤ 2 ^ 64 := Nat.pow_le_pow_right (by decide) (by omega)
    omega
  rw [hs, or_u64 _ _ (by omega) hlt, Nat.or_comm, ← Nat.two_pow_add_eq_or_of_lt ha]
  have ht : b.take (i + 1) = b.take i ++ [b.getD i 0] := by
    rw [List.take_succ_eq_append_getElem hi, List.getD_eq_getElem?_getD, List.getElem?_eq_getElem hi]; rfl
  rw [ht, blk_snoc, hl, hp, hxe]
  simp [Nat.add_comm]
theorem tag_l1 (l b : List Int) (hb : Bytes b) (h8 : b.length ≤ 8) (h : Nat) (hh : h < 2 ^ 64) (n sz : Int) (hs : 0 ≤ sz) (hsl : sz ≤ l.length) (R : Int)
    (H : Ev (fun k => seal_Tag.l0 k (l.drop sz.toNat) ((mixN (h ^^^ blk b) : Nat) : Int) n) R) :
    ∀ d i : Nat, i + d = b.length → Ev (fun k => seal_Tag.l1 k l (h : Int) n sz ((blk (b.take i) : Nat) : Int) b (b.length : Int) (i : Int)) R := by
  intro d
  induction d with
  | zero =>
    intro i hi
    refine Ev.step (fun k => ?_) H
    simp only [seal_Tag.l1]
    rw [if_neg (by omega), List.take_of_length_le (by omega), mix_xor _ _ hh (blk_lt64 hb h8)]
    simp only [Option.bind_some]
    rw [if_pos hs, if_pos hsl]
  | succ d ih =>
    intro i hi
    refine Ev.step (fun k => ?_) (ih (i + 1) (by omega))
    simp only [seal_Tag.l1]
    have hw : wrap64 (8 * (i : Int)) = 8 * (i : Int) := wrap_at (by omega) (by omega)
    have hw2 : wrap64 ((i : Int) + 1) = ((i + 1 : Nat) : Int) := by rw [wrap_at (by omega) (by omega)]; rfl
    rw [if_pos (by omega), if_pos (by omega), if_pos (by omega), if_pos (by rw [hw]; omega), or_byte b i hb (by omega) h8, hw2]
theorem tag_l0 (n : Nat) (hn : n < 2 ^ 64) (l : List Int) : ∀ (h : Nat), h < 2 ^ 64 → Bytes l → Ev (fun k => seal_Tag.l0 k l (h : Int) (n : Int)) ((mixN (tags h l ^^^ n) : Nat) : Int) := by
  refine tags_ind (P := fun l => ∀ (h : Nat), h < 2 ^ 64 → Bytes l → Ev (fun k => seal_Tag.l0 k l (h : Int) (n : Int)) ((mixN (tags h l ^^^ n) : Nat) : Int)) ?_ ?_ l
  · intro h hh _
    refine ⟨1, fun k hk => ?_⟩
    obtain ⟨k, rfl⟩ : ∃ m, k = m + 1 := ⟨k - 1, by omega⟩
    simp only [seal_Tag.l0]
    rw [if_neg (by simp), mix_xor _ _ hh hn, tags_nil]; rfl
  · intro l hl ih h hh hb
    have hlen : 0 < l.length := List.length_pos_iff.mpr hl
    have hm : 0 ≤ mn 8 (l.length : Int) ∧ mn 8 (l.length : Int) ≤ l.length ∧ (mn 8 (l.length : Int)).toNat ≤ 8 := by unfold mn; split <;> omega
    have hbt := hb.take (mn 8 (l.length : Int)).toNat
    have ht : l.take (mn 8 (l.length : Int)).toNat = l.take 8 := by
      unfold mn
      by_cases h8 : (l.length : Int) < 8
      · rw [if_pos h8, List.take_of_length_le (by omega), List.take_of_length_le (by omega)]
      · rw [if_neg h8]; rfl
    have hd : l.drop (mn 8 (l.length : Int)).toNat = l.drop 8 := by
      unfold mn
      by_cases h8 : (l.length : Int) < 8
      · rw [if_pos h8, List.drop_eq_nil_of_le (by omega), List.drop_eq_nil_of_le (by omega)]
      · rw [if_neg h8]; rfl
    rw [tags_cons _ _ hl]
    have H : Ev (fun k => seal_Tag.l0 k (l.drop (mn 8 (l.length : Int)).toNat) ((mixN (h ^^^ blk (l.take 8)) : Nat) : Int) (n : Int)) ((mixN (tags (mixN (h ^^^ blk (l.take 8))) (l.drop 8) ^^^ n) : Nat) : Int) := by
      rw [hd]; exact ih (mixN (h ^^^ blk (l.take 8))) (mixN_lt _) (hb.drop 8)
    rw [ht] at hbt
    refine Ev.step (fun k => ?_) (tag_l1 l (l.take 8) hbt (List.length_take_le _ _) h hh n _ hm.1 hm.2.1 _ H (l.take 8).length 0 (by omega))
    simp only [seal_Tag.l0]
    rw [if_pos (by omega), if_pos hm.1, if_pos hm.2.1, ht]
    rfl
theorem tag_ev (key : Nat) (l : List Int) (hk : key < 2 ^ 64) (hb : Bytes l) (hl : l.length ≤ 140737488351232) : Ev (fun k => seal_Tag.f k (key : Int) l) ((tagN key l : Nat) : Int) := by
  unfold seal_Tag.f tagN
  rw [mix_f _ hk]
  simp only [Option.bind_some]
  rw [u64_nat l.length (by omega)]
  exact tag_l0 l.length (by omega) l (mixN key) (mixN_lt _) hb
/-- With zeros behind that do not fill the last block, the tag is another one for every number of zeros. -/
theorem tag_zeros_ne {key : Nat} {l : List Int} (hb : Bytes l) (hl : l.length ≤ 500) {a b : Nat} (ha : a = 0 ∨ (0 < l.length % 8 ∧ l.length % 8 + a ≤ 8)) (hbb : b = 0 ∨ (0 < l.length % 8 ∧ l.length % 8 + b ≤ 8)) (hab : a ≠ b) (a8 : a ≤ 8) (b8 : b ≤ 8) :
    ¬ tagN key (l ++ List.replicate a 0) = tagN key (l ++ List.replicate b 0) := by
  intro e
  unfold tagN at e
  have ta := tags_zeros l (mixN key) a (by omega)
  have tb := tags_zeros l (mixN key) b (by omega)
  have hT := tags_lt (mixN_lt key) hb
  rw [ta, tb] at e
  generalize tags (mixN key) l = T at e hT
  have la : (l ++ List.replicate a 0).length < 2 ^ 64 := by rw [List.length_append, List.length_replicate]; exact Nat.lt_of_le_of_lt (by omega : _ ≤ 600) (by decide)
  have lb : (l ++ List.replicate b 0).length < 2 ^ 64 := by rw [List.length_append, List.length_replicate]; exact Nat.lt_of_le_of_lt (by omega : _ ≤ 600) (by decide)
  have e2 := xor_inj _ _ _ (mixN_inj (Nat.xor_lt_two_pow hT la) (Nat.xor_lt_two_pow hT lb) e)
  rw [List.length_append, List.length_append, List.length_replicate, List.length_replicate] at e2
  omega
theorem bytes_zeros (n : Nat) : Bytes (List.replicate n 0) := fun x hx => by
  have := List.eq_of_mem_replicate hx
  subst this; decide
theorem ends_l0 (key : Nat) (hk : key < 2 ^ 64) (l : List Int) (hb : Bytes l) (hl : l.length ≤ 500) : ∀ d j : Nat, d = (8 - (l.length + j) % 8) % 8 → (j = 0 ∨ (0 < l.length % 8 ∧ l.length % 8 + j ≤ 8)) →
    Ev (fun k => skiarealaw04_SealEnds.l0 k (key : Int) l (l ++ List.replicate j 0)) true := by
  intro d
  induction d with
  | zero =>
    intro j hd hj
    refine Ev.step (fun k => ?_) (Ev.now true)
    simp only [skiarealaw04_SealEnds.l0]
    rw [if_pos (by rw [List.length_append, List.length_replicate]; omega)]
  | succ d ih =>
    intro j hd hj
    have hj2 : 0 < l.length % 8 ∧ l.length % 8 + (j + 1) ≤ 8 := by omega
    have hy : l ++ List.replicate j 0 ++ [0] = l ++ List.replicate (j + 1) 0 := by rw [List.append_assoc, List.replicate_succ']
    have hyl : (l ++ List.replicate (j + 1) (0 : Int)).length = l.length + j + 1 := by rw [List.length_append, List.length_replicate]; omega
    have hw : wrap64 (((l ++ List.replicate (j + 1) (0 : Int)).length : Int) - 1) = ((l.length + j : Nat) : Int) := by rw [hyl]; unfold wrap64; omega
    have ht : (l ++ List.replicate (j + 1) (0 : Int)).take (l.length + j) = l ++ List.replicate j 0 := by
      rw [← hy, List.take_append_of_le_length (by rw [List.length_append, List.length_replicate]; exact Nat.le_refl _), List.take_of_length_le (by rw [List.length_append, List.length_replicate]; exact Nat.le_refl _)]
    have b1 := hb.append (bytes_zeros (j + 1))
    have b0 := hb.append (bytes_zeros j)
    have n0 := tag_zeros_ne (key := key) hb hl (a := j + 1) (b := 0) (by omega) (by omega) (by omega) (by omega) (by omega)
    have n1 := tag_zeros_ne (key := key) hb hl (a := j + 1) (b := j) (by omega) (by omega) (by omega) (by omega) (by omega)
    have T2 := tag_ev key _ hk b1 (by rw [hyl]; omega)
    have T1 := tag_ev key _ hk b0 (by rw [List.length_append, List.length_replicate]; omega)
    have T0 := tag_ev key l hk hb (by omega)
    have e0 : l ++ List.replicate 0 (0 : Int) = l := by simp
    rw [e0] at n0
    generalize tagN key (l ++ List.replicate (j + 1) 0) = t2 at *
    generalize tagN key (l ++ List.replicate j 0) = t1 at *
    generalize tagN key l = t0 at *
    have n0' : ¬ ((t2 : Int) = (t0 : Int)) := fun e => n0 (Int.ofNat.inj e)
    have n1' : ¬ ((t2 : Int) = (t1 : Int)) := fun e => n1 (Int.ofNat.inj e)
    refine Ev.step (f := fun k => (seal_Tag.f k (key : Int) (l ++ List.replicate (j + 1) 0)).bind fun t136 => (seal_Tag.f k (key : Int) l).bind fun t137 => if t136 = t137 then some false else (seal_Tag.f k (key : Int) (l ++ List.replicate (j + 1) 0)).bind fun t138 => (seal_Tag.f k (key : Int) (l ++ List.replicate j 0)).bind fun t143 => if t138 = t143 then some false else skiarealaw04_SealEnds.l0 k (key : Int) l (l ++ List.replicate (j + 1) 0)) (fun k => ?_) ?_
    · simp only [skiarealaw04_SealEnds.l0]
      rw [if_neg (by rw [List.length_append, List.length_replicate]; omega), if_pos (by rw [List.length_append, List.length_replicate]; omega), hy]
      have g0 : (0 : Int) ≤ ((l.length + j : Nat) : Int) := by omega
      have g1 : ((l.length + j : Nat) : Int) ≤ ((l ++ List.replicate (j + 1) (0 : Int)).length : Int) := by rw [hyl]; omega
      simp only [Option.bind_some, hw, Int.toNat_natCast, ht, if_pos g0, if_pos g1]
    · refine Ev.bind T2 ?_
      refine Ev.bind T0 ?_
      simp only [if_neg n0']
      refine Ev.bind T2 ?_
      refine Ev.bind T1 ?_
      simp only [if_neg n1']
      exact ih (j + 1) (by omega) (by omega)
theorem SealEnds : skiarealaw04_SealEnds.Pure := by
  intro a0 l ha _ _ hw
  obtain ⟨key, rfl, hk⟩ := u64_of ha
  have hb := Bytes.of_wf hw
  refine Ev.rounds ?_
  unfold skiarealaw04_SealEnds.f
  refine Ev.bind alive_ev ?_
  simp only [if_true]
  by_cases h2 : (l.length : Int) > 500
  · simp only [if_pos h2]; exact Ev.now true
  · simp only [if_neg h2, Option.bind_some, List.length_nil, List.nil_append]
    have hl2 : 0 + l.length < 140737488355328 := by omega
    simp only [if_pos hl2]
    have := ends_l0 key hk l hb (by omega) _ 0 rfl (.inl rfl)
    rw [List.replicate_zero, List.append_nil] at this
    exact this
end Go.Proofs.Ytmfjicpgofdmkaa.Pure
