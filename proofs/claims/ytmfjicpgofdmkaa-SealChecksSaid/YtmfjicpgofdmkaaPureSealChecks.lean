/- Check accepts exactly the tag of a string. Condition: the statement's own bound of 2000 bytes. -/
import Derived.Test.YtmfjicpgofdmkaaQx14
import Derived.Test.YtmfjicpgofdmkaaMSeal
namespace Go.Proofs.Ytmfjicpgofdmkaa.Pure
open Go.RowKit Go.Proofs.Ytmfjicpgofdmkaa.Q Go.Proofs.YtmfjicpgofdmkaaW.PrintWords Go.Proofs.YtmfjicpgofdmkaaW.PrintLast Go.Proofs.YtmfjicpgofdmkaaW.PrintMore Go.Proofs.Ytmfjicpgofdmkaa.MSeal

theorem u64_of {a : Int} (h : (Lit.int .u64 a).wf = true) : ∃ n : Nat, a = n ∧ n < 2 ^ 64 := by
  simp [Lit.wf, IntKind.min, IntKind.max, IntKind.bits, IntKind.signed] at h
  exact ⟨a.toNat, by omega, by omega⟩
theorem mix_f (a : Nat) (ha : a < 2 ^ 64) : seal_Mix.f (a : Int) = some ((mixN a : Nat) : Int) := by
  unfold seal_Mix.f; rw [mix_text a ha]
theorem mix_xor (a b : Nat) (ha : a < 2 ^ 64) (hb : b < 2 ^ 64) : seal_Mix.f (Go.bits .xor .u64 (a : Int) (b : Int)) = some ((mixN (a ^^^ b) : Nat) : Int) := by
  rw [xor_u64 a b ha hb, mix_f _ (Nat.xor_lt_two_pow ha hb)]
theorem alive_ev : Ev (fun k => skiarealaw04_alive.f k) true := Ev.of skiarealaw04_alive.mono (k := 40) (by decide +kernel)
theorem rmix_f (a : Nat) (ha : a < 2 ^ 64) : skiarearef04_Mix.f (a : Int) = some ((mixN a : Nat) : Int) := by
  unfold skiarearef04_Mix.f; rw [mix_text a ha]
theorem wrap_at {i : Int} (h0 : 0 ≤ i) (h : i ≤ 140737488351240) : wrap64 i = i := by unfold wrap64; omega
/-- One byte more of a block. -/
theorem or_byte (b : List Int) (i : Nat) (hb : Bytes b) (hi : i < b.length) (h8 : b.length ≤ 8) :
    Go.bits .or .u64 ((blk (b.take i) : Nat) : Int) (shl .u64 (IntKind.u64.wrap (rd b i)) (wrap64 (8 * (i : Int)))) = ((blk (b.take (i + 1)) : Nat) : Int) := by
  have hx := hb.at i
  have hrd : rd b (i : Int) = b.getD i 0 := by unfold rd; simp
  obtain ⟨x, hxe⟩ := Int.eq_ofNat_of_zero_le hx.1
  have hx256 : x < 256 := by omega
  rw [hrd, hxe]
  have hw : wrap64 (8 * (i : Int)) = 8 * (i : Int) := wrap_at (by omega) (by omega)
  rw [hw, u64_nat x (by omega)]
  have hp : (256 : Nat) ^ i = 2 ^ (8 * i) := by rw [Nat.pow_mul]
  have hs : shl .u64 (x : Int) (8 * (i : Int)) = ((2 ^ (8 * i) * x : Nat) : Int) := by
    unfold shl
    have e1 : (8 * (i : Int)).toNat = 8 * i := by omega
    have e2 : min (8 * i) IntKind.u64.bits = 8 * i := Nat.min_eq_left (by simp [IntKind.bits]; omega)
    rw [e1, e2]
    have hlt : 2 ^ (8 * i) * x < 2 ^ 64 := by
      have h1 : 2 ^ (8 * i) * x < 2 ^ (8 * i) * 256 := Nat.mul_lt_mul_of_pos_left hx256 (Nat.two_pow_pos _)
      have h2 : 2 ^ (8 * i) * 256 = 2 ^ (8 * i + 8) := by rw [Nat.pow_add]
      have h3 : 2 ^ (8 * i + 8) ≤ 2 ^ 64 := Nat.pow_le_pow_right (by decide) (by omega)
      omega
    have e3 : (x : Int) * 2 ^ (8 * i) = ((2 ^ (8 * i) * x : Nat) : Int) := by push_cast; rw [Int.mul_comm]
    rw [e3, u64_nat _ hlt]
  have hl : (b.take i).length = i := by simp; omega
  have ha : blk (b.take i) < 2 ^ (8 * i) := by
    have := blk_lt (hb.take i); rw [hl, hp] at this; exact this
  have h64 : 2 ^ (8 * i) ≤ 2 ^ 64 := Nat.pow_le_pow_right (by decide) (by omega)
  have hlt : 2 ^ (8 * i) * x < 2 ^ 64 := by
    have h1 : 2 ^ (8 * i) * x < 2 ^ (8 * i) * 256 := Nat.mul_lt_mul_of_pos_left hx256 (Nat.two_pow_pos _)
    have h2 : 2 ^ (8 * i) * 256 = 2 ^ (8 * i + 8) := by rw [Nat.pow_add]
    have h3 : 2 ^ (8 * i + 8) ≤ 2 ^ 64 := Nat.pow_le_pow_right (by decide) (by omega)
    omega
  rw [hs, or_u64 _ _ (by omega) hlt, Nat.or_comm, ← Nat.two_pow_add_eq_or_of_lt ha]
  have ht : b.take (i + 1) = b.take i ++ [b.getD i 0] := by
    rw [List.take_succ_eq_append_getElem hi, List.getD_eq_getElem?_getD, List.getElem?_eq_getElem hi]; rfl
  rw [ht, blk_snoc, hl, hp, hxe]
  simp [Nat.add_comm]
theorem tag_l1 (l b : List Int) (hb : Bytes b) (h8 : b.length ≤ 8) (h : Nat) (hh : h < 2 ^ 64) (n sz : Int) (hs : 0 ≤ sz) (hsl : sz ≤ l.length) (R : Int)
    (H : Ev (fun k => seal_Tag.l0 k (l.drop sz.toNat) ((mixN (h ^^^ blk b) : Nat) : Int) n) R) :
    ∀ d i : Nat, i + d = b.length → Ev (fun k => seal_Tag.l1 k l (h : Int) n sz ((blk (b.take i) : Nat) : Int) b (b.length : Int) (i : Int)) R := by
  intro d
  induction d with
  | zero =>
    intro i hi
    refine Ev.step (fun k => ?_) H
    simp only [seal_Tag.l1]
    rw [if_neg (by omega), List.take_of_length_le (by omega), mix_xor _ _ hh (blk_lt64 hb h8)]
    simp only [Option.bind_some]
    rw [if_pos hs, if_pos hsl]
  | succ d ih =>
    intro i hi
    refine Ev.step (fun k => ?_) (ih (i + 1) (by omega))
    simp only [seal_Tag.l1]
    have hw : wrap64 (8 * (i : Int)) = 8 * (i : Int) := wrap_at (by omega) (by omega)
    have hw2 : wrap64 ((i : Int) + 1) = ((i + 1 : Nat) : Int) := by rw [wrap_at (by omega) (by omega)]; rfl
    rw [if_pos (by omega), if_pos (by omega), if_pos (by omega), if_pos (by rw [hw]; omega), or_byte b i hb (by omega) h8, hw2]
theorem tag_l0 (n : Nat) (hn : n < 2 ^ 64) (l : List Int) : ∀ (h : Nat), h < 2 ^ 64 → Bytes l → Ev (fun k => seal_Tag.l0 k l (h : Int) (n : Int)) ((mixN (tags h l ^^^ n) : Nat) : Int) := by
  refine tags_ind (P := fun l => ∀ (h : Nat), h < 2 ^ 64 → Bytes l → Ev (fun k => seal_Tag.l0 k l (h : Int) (n : Int)) ((mixN (tags h l ^^^ n) : Nat) : Int)) ?_ ?_ l
  · intro h hh _
    refine ⟨1, fun k hk => ?_⟩
    obtain ⟨k, rfl⟩ : ∃ m, k = m + 1 := ⟨k - 1, by omega⟩
    simp only [seal_Tag.l0]
    rw [if_neg (by simp), mix_xor _ _ hh hn, tags_nil]; rfl
  · intro l hl ih h hh hb
    have hlen : 0 < l.length := List.length_pos_iff.mpr hl
    have hm : 0 ≤ mn 8 (l.length : Int) ∧ mn 8 (l.length : Int) ≤ l.length ∧ (mn 8 (l.length : Int)).toNat ≤ 8 := by unfold mn; split <;> omega
    have hbt := hb.take (mn 8 (l.length : Int)).toNat
    have ht : l.take (mn 8 (l.length : Int)).toNat = l.take 8 := by
      unfold mn
      by_cases h8 : (l.length : Int) < 8
      · rw [if_pos h8, List.take_of_length_le (by omega), List.take_of_length_le (by omega)]
      · rw [if_neg h8]; rfl
    have hd : l.drop (mn 8 (l.length : Int)).toNat = l.drop 8 := by
      unfold mn
      by_cases h8 : (l.length : Int) < 8
      · rw [if_pos h8, List.drop_eq_nil_of_le (by omega), List.drop_eq_nil_of_le (by omega)]
      · rw [if_neg h8]; rfl
    rw [tags_cons _ _ hl]
    have H : Ev (fun k => seal_Tag.l0 k (l.drop (mn 8 (l.length : Int)).toNat) ((mixN (h ^^^ blk (l.take 8)) : Nat) : Int) (n : Int)) ((mixN (tags (mixN (h ^^^ blk (l.take 8))) (l.drop 8) ^^^ n) : Nat) : Int) := by
      rw [hd]; exact ih (mixN (h ^^^ blk (l.take 8))) (mixN_lt _) (hb.drop 8)
    rw [ht] at hbt
    refine Ev.step (fun k => ?_) (tag_l1 l (l.take 8) hbt (List.length_take_le _ _) h hh n _ hm.1 hm.2.1 _ H (l.take 8).length 0 (by omega))
    simp only [seal_Tag.l0]
    rw [if_pos (by omega), if_pos hm.1, if_pos hm.2.1, ht]
    rfl
theorem tag_ev (key : Nat) (l : List Int) (hk : key < 2 ^ 64) (hb : Bytes l) (hl : l.length ≤ 140737488351232) : Ev (fun k => seal_Tag.f k (key : Int) l) ((tagN key l : Nat) : Int) := by
  unfold seal_Tag.f tagN
  rw [mix_f _ hk]
  simp only [Option.bind_some]
  rw [u64_nat l.length (by omega)]
  exact tag_l0 l.length (by omega) l (mixN key) (mixN_lt _) hb
theorem block_l0 (l : List Int) (hb : Bytes l) (hl : l.length ≤ 140737488351232) (p : Nat) : ∀ (d j : Nat), j + d = min 8 (l.length - p) → p ≤ l.length →
    Ev (fun k => skiarearef04_Block.l0 k l (p : Int) ((blk ((l.drop p).take j) : Nat) : Int) ((256 ^ j % 2 ^ 64 : Nat) : Int) ((p + j : Nat) : Int)) ((blk ((l.drop p).take 8) : Nat) : Int) := by
  intro d
  induction d with
  | zero =>
    intro j hj hp
    refine ⟨1, fun k hk => ?_⟩
    obtain ⟨k, rfl⟩ : ∃ m, k = m + 1 := ⟨k - 1, by omega⟩
    have e : (l.drop p).take j = (l.drop p).take 8 := by
      by_cases h8 : j = 8
      · rw [h8]
      · rw [List.take_of_length_le (by simp; omega), List.take_of_length_le (by simp; omega)]
    simp only [skiarearef04_Block.l0]
    by_cases h1 : ((p + j : Nat) : Int) < (l.length : Int)
    · rw [if_pos h1, if_neg (by rw [wrap_at (by omega) (by omega)]; omega), e]
    · rw [if_neg h1, e]
  | succ d ih =>
    intro j hj hp
    refine Ev.step (fun k => ?_) (ih (j + 1) (by omega) hp)
    simp only [skiarearef04_Block.l0]
    have hw : wrap64 ((p : Int) + 8) = (p : Int) + 8 := wrap_at (by omega) (by omega)
    have hw2 : wrap64 (((p + j : Nat) : Int) + 1) = ((p + (j + 1) : Nat) : Int) := by rw [wrap_at (by omega) (by omega)]; rfl
    rw [if_pos (by omega), if_pos (by rw [hw]; omega), if_pos (by omega), hw2]
    have hx := hb.at (p + j)
    have hrd : rd l ((p + j : Nat) : Int) = l.getD (p + j) 0 := by unfold rd; rw [Int.toNat_natCast]
    obtain ⟨x, hxe⟩ := Int.eq_ofNat_of_zero_le hx.1
    have hx256 : x < 256 := by omega
    have hj8 : j < 8 := by omega
    have hlt : p + j < l.length := by omega
    have ht : (l.drop p).take (j + 1) = (l.drop p).take j ++ [l.getD (p + j) 0] := by
      rw [List.take_succ_eq_append_getElem (by simp; omega), List.getD_eq_getElem?_getD, List.getElem?_eq_getElem hlt]; simp
    have hlj : ((l.drop p).take j).length = j := by simp; omega
    have hbj := blk_lt ((hb.drop p).take j)
    rw [hlj] at hbj
    have hp8 : (256 : Nat) ^ j * 256 ≤ 2 ^ 64 := by
      rw [← Nat.pow_succ]
      exact Nat.le_trans (Nat.pow_le_pow_right (by decide) (show j + 1 ≤ 8 by omega)) (by decide)
    have hm : 256 ^ j % 2 ^ 64 = 256 ^ j := Nat.mod_eq_of_lt (by have : 0 < 256 ^ j := Nat.pow_pos (by decide); omega)
    have hmul : x * 256 ^ j ≤ 255 * 256 ^ j := Nat.mul_le_mul_right _ (by omega)
    rw [hrd, hxe, u64_nat x (by omega), hm, ht, blk_snoc, hlj, hxe]
    have e1 : (x : Int) * ((256 ^ j : Nat) : Int) = ((x * 256 ^ j : Nat) : Int) := (Int.natCast_mul _ _).symm
    rw [e1, u64_nat _ (by omega)]
    have e2 : ((blk ((l.drop p).take j) : Nat) : Int) + ((x * 256 ^ j : Nat) : Int) = ((blk ((l.drop p).take j) + 256 ^ j * x : Nat) : Int) := by rw [Nat.mul_comm (256 ^ j) x]; exact (Int.natCast_add _ _).symm
    have hmul2 : 256 ^ j * x = x * 256 ^ j := Nat.mul_comm _ _
    rw [e2, u64_nat _ (by rw [hmul2]; omega)]
    have e3 : IntKind.u64.wrap (((256 ^ j : Nat) : Int) * 256) = ((256 ^ (j + 1) % 2 ^ 64 : Nat) : Int) := by
      rw [Nat.pow_succ]
      generalize 256 ^ j = m
      rw [u64_wrap]; omega
    rw [e3, Int.toNat_natCast]
theorem block_ev (l : List Int) (hb : Bytes l) (hl : l.length ≤ 140737488351232) (p : Nat) (hp : p ≤ l.length) : Ev (fun k => skiarearef04_Block.f k l (p : Int)) ((blk ((l.drop p).take 8) : Nat) : Int) := by
  unfold skiarearef04_Block.f
  exact block_l0 l hb hl p (min 8 (l.length - p)) 0 (by omega) hp
theorem rtag_l0 (l : List Int) (hb : Bytes l) (hl : l.length ≤ 140737488351232) : ∀ (d p h : Nat), l.length - p ≤ d → h < 2 ^ 64 → p ≤ l.length + 8 →
    Ev (fun k => skiarearef04_Tag.l0 k l (h : Int) (p : Int)) ((mixN (tags h (l.drop p) ^^^ l.length) : Nat) : Int) := by
  intro d
  induction d with
  | zero =>
    intro p h hd hh hp
    refine ⟨1, fun k hk => ?_⟩
    obtain ⟨k, rfl⟩ : ∃ m, k = m + 1 := ⟨k - 1, by omega⟩
    simp only [skiarearef04_Tag.l0]
    rw [if_neg (by omega), u64_nat l.length (by omega), xor_u64 _ _ hh (by omega), rmix_f _ (Nat.xor_lt_two_pow hh (by omega)), List.drop_eq_nil_of_le (by omega), tags_nil]
    rfl
  | succ d ih =>
    intro p h hd hh hp
    by_cases hlt : p < l.length
    · have hk8 : blk ((l.drop p).take 8) < 2 ^ 64 := blk_lt64 ((hb.drop p).take 8) (by simp; omega)
      have hB := block_ev l hb hl p (by omega)
      have hne : l.drop p ≠ [] := by rw [← List.length_pos_iff]; simp; omega
      have H := ih (p + 8) (mixN (h ^^^ blk ((l.drop p).take 8))) (by omega) (mixN_lt _) (by omega)
      rw [tags_cons _ _ hne]
      rw [show List.drop 8 (List.drop p l) = l.drop (p + 8) by rw [List.drop_drop]]
      refine Ev.step (f := fun k => (skiarearef04_Block.f k l (p : Int)).bind fun t => (skiarearef04_Mix.f (Go.bits .xor .u64 (h : Int) t)).bind fun t' => skiarearef04_Tag.l0 k l t' ((p + 8 : Nat) : Int)) (fun k => ?_) ?_
      · simp only [skiarearef04_Tag.l0]
        have hw : wrap64 ((p : Int) + 8) = ((p + 8 : Nat) : Int) := by rw [wrap_at (by omega) (by omega)]; rfl
        rw [if_pos (by omega), hw]
      · refine Ev.bind hB ?_
        refine Ev.congr (fun k => ?_) H
        rw [xor_u64 _ _ hh hk8, rmix_f _ (Nat.xor_lt_two_pow hh hk8)]
        rfl
    · refine ⟨1, fun k hk => ?_⟩
      obtain ⟨k, rfl⟩ : ∃ m, k = m + 1 := ⟨k - 1, by omega⟩
      simp only [skiarearef04_Tag.l0]
      rw [if_neg (by omega), u64_nat l.length (by omega), xor_u64 _ _ hh (by omega), rmix_f _ (Nat.xor_lt_two_pow hh (by omega)), List.drop_eq_nil_of_le (by omega), tags_nil]
      rfl
theorem rtag_ev (key : Nat) (l : List Int) (hk : key < 2 ^ 64) (hb : Bytes l) (hl : l.length ≤ 140737488351232) : Ev (fun k => skiarearef04_Tag.f k (key : Int) l) ((tagN key l : Nat) : Int) := by
  unfold skiarearef04_Tag.f tagN
  rw [rmix_f _ hk]
  simp only [Option.bind_some]
  have := rtag_l0 l hb hl l.length 0 (mixN key) (by omega) (mixN_lt _) (by omega)
  exact this
theorem check_ev (key : Nat) (l : List Int) (t : Int) (hk : key < 2 ^ 64) (hb : Bytes l) (hl : l.length ≤ 140737488351232) : Ev (fun k => seal_Check.f k (key : Int) l t) (((tagN key l : Nat) : Int) == t) := by
  unfold seal_Check.f
  exact Ev.bind (tag_ev key l hk hb hl) (Ev.now _)
theorem SealChecks : skiarealaw04_SealChecks.Pure := by
  intro a l t ha hm hl hw ht
  obtain ⟨a, rfl, hA⟩ := u64_of ha
  have hb := Bytes.of_wf hw
  refine Ev.rounds ?_
  unfold skiarealaw04_SealChecks.f
  refine Ev.bind alive_ev ?_
  simp only [if_true]
  by_cases h2 : (l.length : Int) > 2000
  · simp only [if_pos h2]; exact Ev.now true
  · simp only [if_neg h2]
    refine Ev.bind (tag_ev a l hA hb (by omega)) ?_
    refine Ev.bind (check_ev a l _ hA hb (by omega)) ?_
    simp only [BEq.rfl, if_true]
    refine Ev.bind (check_ev a l _ hA hb (by omega)) ?_
    refine Ev.bind (rtag_ev a l hA hb (by omega)) ?_
    refine Ev.congr (fun k => ?_) (Ev.now true)
    have : (((tagN a l : Nat) : Int) == t) = (t == ((tagN a l : Nat) : Int)) := BEq.comm
    rw [this, BEq.rfl]
end Go.Proofs.Ytmfjicpgofdmkaa.Pure
