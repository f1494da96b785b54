/- A change within one block of eight bytes changes the tag. Condition: the statement's own bound of 500 bytes. -/
import Derived.Test.YtmfjicpgofdmkaaEHBlocks
import Derived.Test.YtmfjicpgofdmkaaMSeal
namespace Go.Proofs.Ytmfjicpgofdmkaa.Pure
open Go.RowKit Go.Proofs.Ytmfjicpgofdmkaa.E Go.Proofs.YtmfjicpgofdmkaaW.PrintWords Go.Proofs.YtmfjicpgofdmkaaW.PrintLast Go.Proofs.YtmfjicpgofdmkaaW.PrintMore Go.Proofs.Ytmfjicpgofdmkaa.MSeal

theorem u64_of {a : Int} (h : (Lit.int .u64 a).wf = true) : ∃ n : Nat, a = n ∧ n < 2 ^ 64 := by
  simp [Lit.wf, IntKind.min, IntKind.max, IntKind.bits, IntKind.signed] at h
  exact ⟨a.toNat, by omega, by omega⟩
theorem mix_f (a : Nat) (ha : a < 2 ^ 64) : seal_Mix.f (a : Int) = some ((mixN a : Nat) : Int) := by
  unfold seal_Mix.f; rw [mix_text a ha]
theorem mix_xor (a b : Nat) (ha : a < 2 ^ 64) (hb : b < 2 ^ 64) : seal_Mix.f (Go.bits .xor .u64 (a : Int) (b : Int)) = some ((mixN (a ^^^ b) : Nat) : Int) := by
  rw [xor_u64 a b ha hb, mix_f _ (Nat.xor_lt_two_pow ha hb)]
theorem alive_ev : Ev (fun k => skiarealaw04_alive.f k) true := Ev.of skiarealaw04_alive.mono (k := 40) (by decide +kernel)
theorem wrap_at {i : Int} (h0 : 0 ≤ i) (h : i ≤ 140737488351240) : wrap64 i = i := by unfold wrap64; omega
/-- One byte more of a block. -/
theorem or_byte (b : List Int) (i : Nat) (hb : Bytes b) (hi : i < b.length) (h8 : b.length ≤ 8) :
    Go.bits .or .u64 ((blk (b.take i) : Nat) : Int) (shl .u64 (IntKind.u64.wrap (rd b i)) (wrap64 (8 * (i : Int)))) = ((blk (b.take (i + 1)) : Nat) : Int) := by
  have hx := hb.at i
  have hrd : rd b (i : Int) = b.getD i 0 := by unfold rd; simp
  obtain ⟨x, hxe⟩ := Int.eq_ofNat_of_zero_le hx.1
  have hx256 : x < 256 := by omega
  rw [hrd, hxe]
  have hw : wrap64 (8 * (i : Int)) = 8 * (i : Int) := wrap_at (by omega) (by omega)
  rw [hw, u64_nat x (by omega)]
  have hp : (256 : Nat) ^ i = 2 ^ (8 * i) := by rw [Nat.pow_mul]
  have hs : shl .u64 (x : Int) (8 * (i : Int)) = ((2 ^ (8 * i) * x : Nat) : Int) := by
    unfold shl
    have e1 : (8 * (i : Int)).toNat = 8 * i := by omega
    have e2 : min (8 * i) IntKind.u64.bits = 8 * i := Nat.min_eq_left (by simp [IntKind.bits]; omega)
    rw [e1, e2]
    have hlt : 2 ^ (8 * i) * x < 2 ^ 64 := by
      have h1 : 2 ^ (8 * i) * x < 2 ^ (8 * i) * 256 := Nat.mul_lt_mul_of_pos_left hx256 (Nat.two_pow_pos _)
      have h2 : 2 ^ (8 * i) * 256 = 2 ^ (8 * i + 8) := by rw [Nat.pow_add]
      have h3 : 2 ^ (8 * i + 8) ≤ 2 ^ 64 := Nat.pow_le_pow_right (by decide) (by omega)
      omega
    have e3 : (x : Int) * 2 ^ (8 * i) = ((2 ^ (8 * i) * x : Nat) : Int) := by push_cast; rw [Int.mul_comm]
    rw [e3, u64_nat _ hlt]
  have hl : (b.take i).length = i := by simp; omega
  have ha : blk (b.take i) < 2 ^ (8 * i) := by
    have := blk_lt (hb.take i); rw [hl, hp] at this; exact this
  have h64 : 2 ^ (8 * i) ≤ 2 ^ 64 := Nat.pow_le_pow_right (by decide) (by omega)
  have hlt : 2 ^ (8 * i) * x < 2 ^ 64 := by
    have h1 : 2 ^ (8 * i) * x < 2 ^ (8 * i) * 256 := Nat.mul_lt_mul_of_pos_left hx256 (Nat.two_pow_pos _)
    have h2 : 2 ^ (8 * i) * 256 = 2 ^ (8 * i + 8) := by rw [Nat.pow_add]
    have h3 : 2 ^ (8 * i + 8) ≤ 2 ^ 64 := Nat.pow_le_pow_right (by decide) (by omega)
    omega
  rw [hs, or_u64 _ _ (by omega) hlt, Nat.or_comm, ← Nat.two_pow_add_eq_or_of_lt ha]
  have ht : b.take (i + 1) = b.take i ++ [b.getD i 0] := by
    rw [List.take_succ_eq_append_getElem hi, List.getD_eq_getElem?_getD, List.getElem?_eq_getElem hi]; rfl
  rw [ht, blk_snoc, hl, hp, hxe]
  simp [Nat.add_comm]
theorem tag_l1 (l b : List Int) (hb : Bytes b) (h8 : b.length ≤ 8) (h : Nat) (hh : h < 2 ^ 64) (n sz : Int) (hs : 0 ≤ sz) (hsl : sz ≤ l.length) (R : Int)
    (H : Ev (fun k => seal_Tag.l0 k (l.drop sz.toNat) ((mixN (h ^^^ blk b) : Nat) : Int) n) R) :
    ∀ d i : Nat, i + d = b.length → Ev (fun k => seal_Tag.l1 k l (h : Int) n sz ((blk (b.take i) : Nat) : Int) b (b.length : Int) (i : Int)) R := by
  intro d
  induction d with
  | zero =>
    intro i hi
    refine Ev.step (fun k => ?_) H
    simp only [seal_Tag.l1]
    rw [if_neg (by omega), List.take_of_length_le (by omega), mix_xor _ _ hh (blk_lt64 hb h8)]
    simp only [Option.bind_some]
    rw [if_pos hs, if_pos hsl]
  | succ d ih =>
    intro i hi
    refine Ev.step (fun k => ?_) (ih (i + 1) (by omega))
    simp only [seal_Tag.l1]
    have hw : wrap64 (8 * (i : Int)) = 8 * (i : Int) := wrap_at (by omega) (by omega)
    have hw2 : wrap64 ((i : Int) + 1) = ((i + 1 : Nat) : Int) := by rw [wrap_at (by omega) (by omega)]; rfl
    rw [if_pos (by omega), if_pos (by omega), if_pos (by omega), if_pos (by rw [hw]; omega), or_byte b i hb (by omega) h8, hw2]
theorem tag_l0 (n : Nat) (hn : n < 2 ^ 64) (l : List Int) : ∀ (h : Nat), h < 2 ^ 64 → Bytes l → Ev (fun k => seal_Tag.l0 k l (h : Int) (n : Int)) ((mixN (tags h l ^^^ n) : Nat) : Int) := by
  refine tags_ind (P := fun l => ∀ (h : Nat), h < 2 ^ 64 → Bytes l → Ev (fun k => seal_Tag.l0 k l (h : Int) (n : Int)) ((mixN (tags h l ^^^ n) : Nat) : Int)) ?_ ?_ l
  · intro h hh _
    refine ⟨1, fun k hk => ?_⟩
    obtain ⟨k, rfl⟩ : ∃ m, k = m + 1 := ⟨k - 1, by omega⟩
    simp only [seal_Tag.l0]
    rw [if_neg (by simp), mix_xor _ _ hh hn, tags_nil]; rfl
  · intro l hl ih h hh hb
    have hlen : 0 < l.length := List.length_pos_iff.mpr hl
    have hm : 0 ≤ mn 8 (l.length : Int) ∧ mn 8 (l.length : Int) ≤ l.length ∧ (mn 8 (l.length : Int)).toNat ≤ 8 := by unfold mn; split <;> omega
    have hbt := hb.take (mn 8 (l.length : Int)).toNat
    have ht : l.take (mn 8 (l.length : Int)).toNat = l.take 8 := by
      unfold mn
      by_cases h8 : (l.length : Int) < 8
      · rw [if_pos h8, List.take_of_length_le (by omega), List.take_of_length_le (by omega)]
      · rw [if_neg h8]; rfl
    have hd : l.drop (mn 8 (l.length : Int)).toNat = l.drop 8 := by
      unfold mn
      by_cases h8 : (l.length : Int) < 8
      · rw [if_pos h8, List.drop_eq_nil_of_le (by omega), List.drop_eq_nil_of_le (by omega)]
      · rw [if_neg h8]; rfl
    rw [tags_cons _ _ hl]
    have H : Ev (fun k => seal_Tag.l0 k (l.drop (mn 8 (l.length : Int)).toNat) ((mixN (h ^^^ blk (l.take 8)) : Nat) : Int) (n : Int)) ((mixN (tags (mixN (h ^^^ blk (l.take 8))) (l.drop 8) ^^^ n) : Nat) : Int) := by
      rw [hd]; exact ih (mixN (h ^^^ blk (l.take 8))) (mixN_lt _) (hb.drop 8)
    rw [ht] at hbt
    refine Ev.step (fun k => ?_) (tag_l1 l (l.take 8) hbt (List.length_take_le _ _) h hh n _ hm.1 hm.2.1 _ H (l.take 8).length 0 (by omega))
    simp only [seal_Tag.l0]
    rw [if_pos (by omega), if_pos hm.1, if_pos hm.2.1, ht]
    rfl
theorem tag_ev (key : Nat) (l : List Int) (hk : key < 2 ^ 64) (hb : Bytes l) (hl : l.length ≤ 140737488351232) : Ev (fun k => seal_Tag.f k (key : Int) l) ((tagN key l : Nat) : Int) := by
  unfold seal_Tag.f tagN
  rw [mix_f _ hk]
  simp only [Option.bind_some]
  rw [u64_nat l.length (by omega)]
  exact tag_l0 l.length (by omega) l (mixN key) (mixN_lt _) hb
theorem xor8 {a b : Int} (ha : 0 ≤ a ∧ a < 256) (hb : 0 ≤ b ∧ b < 256) : ∃ c : Nat, Go.bits .xor .u8 a b = (c : Int) ∧ c < 256 ∧ ((c : Int) = a ↔ b = 0) := by
  obtain ⟨x, rfl⟩ := Int.eq_ofNat_of_zero_le ha.1
  obtain ⟨y, rfl⟩ := Int.eq_ofNat_of_zero_le hb.1
  have hx : x < 2 ^ 8 := by have := ha.2; omega
  have hy : y < 2 ^ 8 := by have := hb.2; omega
  have hc := Nat.xor_lt_two_pow hx hy
  refine ⟨x ^^^ y, ?_, by omega, ?_⟩
  · rw [bits_xor_nat .u8 x y hx hy]
    generalize x ^^^ y = z at hc
    simp [IntKind.wrap, IntKind.bits, IntKind.signed]
    omega
  · constructor
    · intro e
      have e2 : x ^^^ y = x ^^^ 0 := by rw [Nat.xor_zero]; exact Int.ofNat.inj e
      rw [xor_inj _ _ _ e2]; rfl
    · intro e
      have : y = 0 := by omega
      rw [this, Nat.xor_zero]
theorem rd_nat (l : List Int) (j : Nat) : rd l (j : Int) = l.getD j 0 := by unfold rd; rw [Int.toNat_natCast]
theorem getD_set (l : List Int) (i j : Nat) (v : Int) (hi : i < l.length) : (l.set i v).getD j 0 = if j = i then v else l.getD j 0 := by
  rw [List.getD_eq_getElem?_getD, List.getD_eq_getElem?_getD, List.getElem?_set]
  by_cases h : i = j
  · subst h; rw [if_pos rfl, if_pos rfl, if_pos hi]; rfl
  · rw [if_neg h, if_neg (fun e => h e.symm)]
theorem ext_getD {a b : List Int} (hl : a.length = b.length) (h : ∀ j, j < a.length → a.getD j 0 = b.getD j 0) : a = b := by
  apply List.ext_getElem hl
  intro i h1 h2
  have := h i h1
  rw [List.getD_eq_getElem?_getD, List.getD_eq_getElem?_getD, List.getElem?_eq_getElem h1, List.getElem?_eq_getElem h2] at this
  exact this
theorem mixed_getD (l ch : List Int) (p : Nat) : ∀ i, p + i ≤ l.length → ∀ j, (mixed l ch p i).getD j 0 = if p ≤ j ∧ j < p + i then Go.bits .xor .u8 (l.getD j 0) (ch.getD (j - p) 0) else l.getD j 0
  | 0, _, j => by rw [mixed, if_neg (by omega)]
  | i + 1, h, j => by
    have ih := mixed_getD l ch p i (by omega)
    rw [mixed, getD_set _ _ _ _ (by rw [mixed_length]; omega)]
    by_cases e : j = p + i
    · subst e
      rw [if_pos rfl, if_pos (by omega), rd_nat, rd_nat, ih, if_neg (by omega), Nat.add_sub_cancel_left]
    · rw [if_neg e, ih]
      by_cases c : p ≤ j ∧ j < p + i
      · rw [if_pos c, if_pos (by omega)]
      · rw [if_neg c, if_neg (by omega)]
theorem chg_iff (ch : List Int) : ∀ m, chg ch m = true ↔ ∃ i, i < m ∧ ch.getD i 0 ≠ 0
  | 0 => by simp [chg]
  | m + 1 => by
    rw [chg, Bool.or_eq_true, chg_iff ch m, rd_nat, bne_iff_ne]
    constructor
    · rintro (⟨i, h, e⟩ | e)
      · exact ⟨i, by omega, e⟩
      · exact ⟨m, by omega, e⟩
    · rintro ⟨i, h, e⟩
      by_cases hm : i = m
      · subst hm; exact .inr e
      · exact .inl ⟨i, by omega, e⟩
/-- Strings that agree outside of one block, and have one tag, are one. -/
theorem tagN_same {key : Nat} {x y : List Int} (p : Nat) (hp : p % 8 = 0) (hl : x.length ≤ 500) (hpl : p < x.length) (hxy : x.length = y.length) (bx : Bytes x) (bY : Bytes y) (ht : x.take p = y.take p) (hd : x.drop (p + 8) = y.drop (p + 8)) (e : tagN key x = tagN key y) : x = y := by
  unfold tagN at e
  rw [← hxy] at e
  have h1 := tags_lt (mixN_lt key) bx
  have h2 := tags_lt (mixN_lt key) bY
  have hn : x.length < 2 ^ 64 := Nat.lt_of_le_of_lt hl (by decide)
  have e2 := xor_inj' _ _ _ (mixN_inj (Nat.xor_lt_two_pow h1 hn) (Nat.xor_lt_two_pow h2 hn) e)
  clear e h1 h2 hn
  have ex : x = x.take p ++ ((x.drop p).take 8 ++ (x.drop p).drop 8) := by rw [List.take_append_drop, List.take_append_drop]
  have ey : y = x.take p ++ ((y.drop p).take 8 ++ (x.drop p).drop 8) := by
    rw [List.drop_drop, hd, ht, ← List.drop_drop, List.take_append_drop, List.take_append_drop]
  rw [ex, ey] at e2
  have hpl8 : (x.take p).length % 8 = 0 := by rw [List.length_take]; omega
  have hab : ((x.drop p).take 8).length = ((y.drop p).take 8).length := by rw [List.length_take, List.length_take, List.length_drop, List.length_drop, hxy]
  have h88 : ((x.drop p).take 8).length = 8 ∨ (((x.drop p).take 8).length < 8 ∧ (x.drop p).drop 8 = []) := by
    by_cases h : 8 ≤ (x.drop p).length
    · left; rw [List.length_take]; omega
    · right; exact ⟨by rw [List.length_take]; omega, List.drop_eq_nil_of_le (by omega)⟩
  have e3 := tags_block _ _ _ _ _ (mixN_lt key) hpl8 hab h88 ((bx.drop _).take 8) ((bY.drop _).take 8) ((bx.drop _).drop 8) (bx.take _) e2
  rw [ex, ey, e3]
/-- The tag of the changed bytes is another one exactly where something is changed. -/
theorem mixed_tag {key : Nat} {l ch : List Int} {p m : Nat} (hb : Bytes l) (hc : Bytes ch) (hl : l.length ≤ 500) (hp : p % 8 = 0) (hpl : p < l.length) (hm : min 8 (l.length - p) = m) :
    Bytes (mixed l ch p m) ∧ (tagN key (mixed l ch p m) = tagN key l ↔ chg ch m = false) := by
  have hml := mixed_length l ch p m
  have hg := mixed_getD l ch p m (by omega)
  have hby : Bytes (mixed l ch p m) := fun x hx => by
    obtain ⟨j, hj, rfl⟩ := List.getElem_of_mem hx
    have h := hg j
    rw [List.getD_eq_getElem?_getD, List.getElem?_eq_getElem hj] at h
    have h' : (mixed l ch p m)[j] = _ := h
    rw [h']
    split
    · obtain ⟨c, e, c8, _⟩ := xor8 (hb.at j) (hc.at (j - p))
      rw [e]; omega
    · exact hb.at j
  refine ⟨hby, ?_⟩
  constructor
  · intro e
    have ht : (mixed l ch p m).take p = l.take p := by
      apply ext_getD (by rw [List.length_take, List.length_take, hml])
      intro j hj
      rw [List.length_take] at hj
      rw [List.getD_eq_getElem?_getD, List.getD_eq_getElem?_getD, List.getElem?_take_of_lt (by omega), List.getElem?_take_of_lt (by omega), ← List.getD_eq_getElem?_getD, ← List.getD_eq_getElem?_getD, hg, if_neg (by omega)]
    have hd : (mixed l ch p m).drop (p + 8) = l.drop (p + 8) := by
      apply ext_getD (by rw [List.length_drop, List.length_drop, hml])
      intro j hj
      rw [List.length_drop] at hj
      rw [List.getD_eq_getElem?_getD, List.getD_eq_getElem?_getD, List.getElem?_drop, List.getElem?_drop, ← List.getD_eq_getElem?_getD, ← List.getD_eq_getElem?_getD, hg, if_neg (by omega)]
    have es := tagN_same p hp (by rw [hml]; exact hl) (by rw [hml]; exact hpl) hml hby hb ht hd e
    refine Bool.eq_false_iff.mpr (fun h => ?_)
    obtain ⟨i, hi, hne⟩ := (chg_iff ch m).mp h
    have h1 := hg (p + i)
    rw [if_pos (by omega), Nat.add_sub_cancel_left, es] at h1
    obtain ⟨c, e, _, h3⟩ := xor8 (hb.at (p + i)) (hc.at i)
    rw [e] at h1
    exact hne (h3.mp h1.symm)
  · intro h
    have : mixed l ch p m = l := by
      apply ext_getD hml
      intro j _
      rw [hg]
      split
      · rename_i hj
        have hz : ch.getD (j - p) 0 = 0 := Classical.byContradiction fun hne => by
          have := (chg_iff ch m).mpr ⟨j - p, by omega, hne⟩
          rw [h] at this; cases this
        obtain ⟨c, e, _, h3⟩ := xor8 (hb.at j) (hc.at (j - p))
        rw [e]; exact h3.mpr hz
      · rfl
    rw [this]
theorem place_of {l ch : List Int} (hc : Bytes ch) (hl : l.length ≤ 140737488351232) (h0 : l.length ≠ 0) : ∃ p : Nat, placeOf l ch = (p : Int) ∧ p < l.length ∧ p % 8 = 0 := by
  obtain ⟨c0, c1⟩ := hc.at 8
  have hr : rd ch 8 = ch.getD 8 0 := rd_nat ch 8
  unfold placeOf
  rw [hr]
  obtain ⟨x, hx⟩ := Int.eq_ofNat_of_zero_le c0
  rw [hx] at c1 ⊢
  have w0 : wrap64 (x : Int) = (x : Int) := by unfold wrap64; omega
  have w1 : wrap64 ((x : Int) * 8) = ((x * 8 : Nat) : Int) := by unfold wrap64; omega
  have hq : x * 8 % l.length < l.length := Nat.mod_lt _ (Nat.pos_of_ne_zero h0)
  rw [w0, w1, ← Int.ofNat_tmod]
  generalize x * 8 % l.length = q at hq
  have w2 : Int.tdiv (q : Int) 8 = ((q / 8 : Nat) : Int) := (Int.ofNat_tdiv q 8).symm
  rw [w2]
  have w3 : wrap64 ((q / 8 : Nat) : Int) = ((q / 8 : Nat) : Int) := by unfold wrap64; omega
  rw [w3]
  exact ⟨q / 8 * 8, by unfold wrap64; omega, by omega, by omega⟩
/-- The law's side: what the walk asks. -/
theorem SealBlocks (key : Nat) (hK : key < 2 ^ 64) (l : List Int) (hw : ∀ x ∈ l, (Lit.int .u8 x).wf = true) (hlen : l.length ≤ 140737488351232) (ch : List Int) (hc : Bytes ch) :
    ∃ (k p : Nat) (t0 t1 : Int), (l.length ≠ 0 → placeOf l ch = (p : Int)) ∧ (l.length ≠ 0 → p < l.length) ∧ skiarealaw04_alive.f k = some true ∧
      (l.length ≤ 500 → seal_Tag.f k (key : Int) l = some t0) ∧ (l.length ≠ 0 → l.length ≤ 500 → seal_Tag.f k (key : Int) (mixed l ch p (min 8 (l.length - p))) = some t1) ∧ (l.length ≠ 0 → l.length ≤ 500 → ((t0 != t1) == chg ch (min 8 (l.length - p))) = true) := by
  have hb := Bytes.of_wf hw
  obtain ⟨ka, hA⟩ := alive_ev
  obtain ⟨k0, h0⟩ := tag_ev key l hK hb hlen
  by_cases hz : l.length = 0
  · exact ⟨max ka k0, 0, _, 0, fun h => absurd hz h, fun h => absurd hz h, hA _ (by omega), fun _ => h0 _ (by omega), fun h => absurd hz h, fun h => absurd hz h⟩
  · obtain ⟨p, hp, hpl, hp8⟩ := place_of hc hlen hz
    by_cases h5 : l.length ≤ 500
    · obtain ⟨hbm, hiff⟩ := mixed_tag (key := key) hb hc h5 hp8 hpl rfl
      obtain ⟨k1, h1⟩ := tag_ev key _ hK hbm (by rw [mixed_length]; omega)
      refine ⟨max ka (max k0 k1), p, _, _, fun _ => hp, fun _ => hpl, hA _ (by omega), fun _ => h0 _ (by omega), fun _ _ => h1 _ (by omega), fun _ _ => ?_⟩
      clear h0 h1 hA
      generalize chg ch (min 8 (l.length - p)) = b at hiff
      generalize tagN key (mixed l ch p (min 8 (l.length - p))) = y at hiff
      generalize tagN key l = x at hiff
      by_cases e : y = x
      · rw [hiff.mp e, e]
        simp
      · have : b = true := by
          cases b with
          | true => rfl
          | false => exact absurd (hiff.mpr rfl) e
        rw [this]
        have hne : ((x : Int) != (y : Int)) = true := bne_iff_ne.mpr (fun h => e (Int.ofNat.inj h.symm))
        rw [hne]; rfl
    · exact ⟨max ka k0, p, _, 0, fun _ => hp, fun _ => hpl, hA _ (by omega), fun _ => h0 _ (by omega), fun _ h => absurd h h5, fun _ h => absurd h h5⟩
end Go.Proofs.Ytmfjicpgofdmkaa.Pure
