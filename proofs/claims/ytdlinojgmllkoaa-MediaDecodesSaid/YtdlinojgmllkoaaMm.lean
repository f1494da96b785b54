-- The plain maths of this seat (MSeal, MCrc, MCodec, MMedia), joined by wip/pp/prune.py.
import Derived.Laws.BitsLemmas
import Derived.Lib.Bytes
import Derived.Test.YtdlinojgmllkoaaWp
namespace Go.Proofs.Ytdlinojgmllkoaa.MSeal
open Go.RowKit Go.Proofs.YtdlinojgmllkoaaW.PrintWords Go.Proofs.YtdlinojgmllkoaaW.PrintMore
theorem xor_cancel4 (a b c d : Nat) (h : a ^^^ b = c ^^^ d) : a ^^^ c = b ^^^ d := by
  have e : (a ^^^ b) ^^^ (b ^^^ c) = (c ^^^ d) ^^^ (b ^^^ c) := by rw [h]
  have e1 : (a ^^^ b) ^^^ (b ^^^ c) = a ^^^ c := by rw [Nat.xor_assoc, ← Nat.xor_assoc b b c, Nat.xor_self, Nat.zero_xor]
  have e2 : (c ^^^ d) ^^^ (b ^^^ c) = b ^^^ d := by
    rw [Nat.xor_comm b c, Nat.xor_comm c d, Nat.xor_assoc, ← Nat.xor_assoc c c b, Nat.xor_self, Nat.zero_xor, Nat.xor_comm]
  rw [← e1, e, e2]
theorem xor_eq_zero (x y : Nat) (h : x ^^^ y = 0) : x = y := by
  have : x ^^^ y ^^^ y = 0 ^^^ y := by rw [h]
  rwa [Nat.xor_assoc, Nat.xor_self, Nat.xor_zero, Nat.zero_xor] at this
theorem xor_inj (h x y : Nat) (e : h ^^^ x = h ^^^ y) : x = y := by
  apply xor_eq_zero
  have := xor_cancel4 h x h y e
  rw [← this, Nat.xor_self]
theorem xor_inj' (h x y : Nat) (e : x ^^^ h = y ^^^ h) : x = y := by
  rw [Nat.xor_comm x, Nat.xor_comm y] at e; exact xor_inj h x y e
theorem xorshift_inj (s : Nat) (hs : 0 < s) (x y : Nat) (h : x ^^^ x / 2 ^ s = y ^^^ y / 2 ^ s) : x = y := by
  have h2 : (x ^^^ y) = (x ^^^ y) / 2 ^ s := by
    rw [← Nat.shiftRight_eq_div_pow, Nat.shiftRight_xor_distrib, Nat.shiftRight_eq_div_pow, Nat.shiftRight_eq_div_pow]
    exact xor_cancel4 _ _ _ _ h
  have h5 : x ^^^ y = 0 := by
    by_cases hz : x ^^^ y = 0
    · exact hz
    · have : (x ^^^ y) / 2 ^ s < x ^^^ y := Nat.div_lt_self (by omega) (by have := Nat.one_lt_two_pow (n := s) (by omega); omega)
      omega
  exact xor_eq_zero _ _ h5
theorem mul_inj (c d : Nat) (hcd : c * d % 2 ^ 64 = 1) (x y : Nat) (hx : x < 2 ^ 64) (hy : y < 2 ^ 64) (h : x * c % 2 ^ 64 = y * c % 2 ^ 64) : x = y := by
  have k : ∀ z, z < 2 ^ 64 → (z * c % 2 ^ 64) * d % 2 ^ 64 = z := fun z hz => by
    rw [Nat.mod_mul_mod, Nat.mul_assoc, Nat.mul_mod, hcd, Nat.mul_one, Nat.mod_mod, Nat.mod_eq_of_lt hz]
  rw [← k x hx, h, k y hy]
theorem div_lt (x s : Nat) (h : x < 2 ^ 64) : x / 2 ^ s < 2 ^ 64 := Nat.lt_of_le_of_lt (Nat.div_le_self _ _) h
theorem xs_lt (x s : Nat) (h : x < 2 ^ 64) : x ^^^ x / 2 ^ s < 2 ^ 64 := Nat.xor_lt_two_pow h (div_lt x s h)
def mixN (x : Nat) : Nat :=
  let a := (x ^^^ x / 2 ^ 30) * 13787848793156543929 % 2 ^ 64
  let b := (a ^^^ a / 2 ^ 27) * 10723151780598845931 % 2 ^ 64
  b ^^^ b / 2 ^ 31
theorem mixN_lt (x : Nat) : mixN x < 2 ^ 64 := by
  unfold mixN
  exact xs_lt _ _ (Nat.mod_lt _ (by decide))
theorem mixN_inj {x y : Nat} (hx : x < 2 ^ 64) (hy : y < 2 ^ 64) (h : mixN x = mixN y) : x = y := by
  unfold mixN at h
  have h1 := xorshift_inj 31 (by decide) _ _ h
  have h2 := mul_inj 10723151780598845931 3573116690164977347 (by decide) _ _ (xs_lt _ _ (Nat.mod_lt _ (by decide))) (xs_lt _ _ (Nat.mod_lt _ (by decide))) h1
  have h3 := xorshift_inj 27 (by decide) _ _ h2
  have h4 := mul_inj 13787848793156543929 10871156337175269513 (by decide) _ _ (xs_lt _ _ hx) (xs_lt _ _ hy) h3
  exact xorshift_inj 30 (by decide) _ _ h4
theorem u64_wrap (n : Int) : IntKind.u64.wrap n = n % 18446744073709551616 := by simp [IntKind.wrap, IntKind.bits, IntKind.signed]
theorem u64_nat (n : Nat) (h : n < 2 ^ 64) : IntKind.u64.wrap n = n := by rw [u64_wrap]; omega
theorem bits_xor_nat (k : IntKind) (a b : Nat) (ha : a < 2 ^ k.bits) (hb : b < 2 ^ k.bits) : bits .xor k a b = k.wrap ((a ^^^ b : Nat) : Int) := by
  simp only [bits, BitVec.ofInt_natCast, BitVec.toNat_xor, BitVec.toNat_ofNat, Nat.mod_eq_of_lt ha, Nat.mod_eq_of_lt hb]
theorem bits_or_nat (k : IntKind) (a b : Nat) (ha : a < 2 ^ k.bits) (hb : b < 2 ^ k.bits) : bits .or k a b = k.wrap ((a ||| b : Nat) : Int) := by
  simp only [bits, BitVec.ofInt_natCast, BitVec.toNat_or, BitVec.toNat_ofNat, Nat.mod_eq_of_lt ha, Nat.mod_eq_of_lt hb]
theorem bits_and_nat (k : IntKind) (a b : Nat) (ha : a < 2 ^ k.bits) (hb : b < 2 ^ k.bits) : bits .and k a b = k.wrap ((a &&& b : Nat) : Int) := by
  simp only [bits, BitVec.ofInt_natCast, BitVec.toNat_and, BitVec.toNat_ofNat, Nat.mod_eq_of_lt ha, Nat.mod_eq_of_lt hb]
theorem xor_u64 (a b : Nat) (ha : a < 2 ^ 64) (hb : b < 2 ^ 64) : bits .xor .u64 a b = ((a ^^^ b : Nat) : Int) := by
  rw [bits_xor_nat .u64 a b ha hb]; exact u64_nat _ (Nat.xor_lt_two_pow ha hb)
theorem or_u64 (a b : Nat) (ha : a < 2 ^ 64) (hb : b < 2 ^ 64) : bits .or .u64 a b = ((a ||| b : Nat) : Int) := by
  rw [bits_or_nat .u64 a b ha hb]; exact u64_nat _ (Nat.or_lt_two_pow ha hb)
theorem xs_u64 (a s : Nat) (m : Int) (hm : m = ((2 ^ s : Nat) : Int)) (ha : a < 2 ^ 64) : bits .xor .u64 (a : Int) ((a : Int) / m) = ((a ^^^ a / 2 ^ s : Nat) : Int) := by
  subst hm
  rw [← Int.natCast_ediv, xor_u64 _ _ ha (div_lt _ _ ha)]
theorem mul1_u64 (a : Nat) : IntKind.u64.wrap ((a : Int) * 13787848793156543929) = ((a * 13787848793156543929 % 2 ^ 64 : Nat) : Int) := by
  rw [u64_wrap]; omega
theorem mul2_u64 (a : Nat) : IntKind.u64.wrap ((a : Int) * 10723151780598845931) = ((a * 10723151780598845931 % 2 ^ 64 : Nat) : Int) := by
  rw [u64_wrap]; omega
theorem mix_text (a : Nat) (ha : a < 2 ^ 64) :
    (Go.bits .xor .u64 (IntKind.u64.wrap ((Go.bits .xor .u64 (IntKind.u64.wrap ((Go.bits .xor .u64 (a : Int) ((a : Int) / 1073741824)) * 13787848793156543929)) ((IntKind.u64.wrap ((Go.bits .xor .u64 (a : Int) ((a : Int) / 1073741824)) * 13787848793156543929)) / 134217728)) * 10723151780598845931)) ((IntKind.u64.wrap ((Go.bits .xor .u64 (IntKind.u64.wrap ((Go.bits .xor .u64 (a : Int) ((a : Int) / 1073741824)) * 13787848793156543929)) ((IntKind.u64.wrap ((Go.bits .xor .u64 (a : Int) ((a : Int) / 1073741824)) * 13787848793156543929)) / 134217728)) * 10723151780598845931)) / 2147483648)) = ((mixN a : Nat) : Int) := by
  rw [xs_u64 a 30 1073741824 (by decide) ha, mul1_u64]
  rw [xs_u64 _ 27 134217728 (by decide) (Nat.mod_lt _ (by decide)), mul2_u64]
  rw [xs_u64 _ 31 2147483648 (by decide) (Nat.mod_lt _ (by decide))]
  rfl
def blk : List Int → Nat
  | [] => 0
  | x :: r => x.toNat + 256 * blk r
def Bytes (l : List Int) : Prop := ∀ x ∈ l, 0 ≤ x ∧ x < 256
theorem Bytes.take {l : List Int} (h : Bytes l) (n : Nat) : Bytes (l.take n) := fun x hx => h x (List.mem_of_mem_take hx)
theorem Bytes.drop {l : List Int} (h : Bytes l) (n : Nat) : Bytes (l.drop n) := fun x hx => h x (List.mem_of_mem_drop hx)
theorem Bytes.append {l m : List Int} (h : Bytes l) (g : Bytes m) : Bytes (l ++ m) := fun x hx => by
  rcases List.mem_append.mp hx with k | k
  · exact h x k
  · exact g x k
theorem Bytes.of_wf {l : List Int} (h : ∀ x ∈ l, (Lit.int .u8 x).wf = true) : Bytes l := fun x hx => by
  have := h x hx
  simp [Lit.wf, IntKind.min, IntKind.max, IntKind.bits, IntKind.signed] at this
  omega
theorem Bytes.at {l : List Int} (h : Bytes l) (i : Nat) : 0 ≤ l.getD i 0 ∧ l.getD i 0 < 256 := by
  by_cases hi : i < l.length
  · rw [List.getD_eq_getElem?_getD, List.getElem?_eq_getElem hi]; exact h _ (List.getElem_mem hi)
  · rw [List.getD_eq_getElem?_getD, List.getElem?_eq_none (by omega)]; simp
theorem blk_lt {l : List Int} (h : Bytes l) : blk l < 256 ^ l.length := by
  induction l with
  | nil => simp [blk]
  | cons x r ih =>
    have hx := h x (by simp)
    have := ih (fun y hy => h y (by simp [hy]))
    simp only [blk, List.length_cons, Nat.pow_succ]
    omega
theorem blk_snoc (l : List Int) (x : Int) : blk (l ++ [x]) = blk l + 256 ^ l.length * x.toNat := by
  induction l with
  | nil => simp [blk]
  | cons y r ih =>
    simp only [List.cons_append, blk, ih, List.length_cons, Nat.pow_succ, Nat.mul_add]
    have : 256 * (256 ^ r.length * x.toNat) = 256 ^ r.length * 256 * x.toNat := by
      rw [← Nat.mul_assoc, Nat.mul_comm 256 (256 ^ r.length)]
    omega
theorem blk_inj : ∀ {l m : List Int}, Bytes l → Bytes m → l.length = m.length → blk l = blk m → l = m
  | [], [], _, _, _, _ => rfl
  | x :: r, y :: s, hl, hm, hn, h => by
    have hx := hl x (by simp)
    have hy := hm y (by simp)
    simp only [blk] at h
    have e : r = s := blk_inj (fun z hz => hl z (by simp [hz])) (fun z hz => hm z (by simp [hz])) (by simpa using hn) (by omega)
    subst e
    have : x = y := by omega
    rw [this]
  | [], _ :: _, _, _, hn, _ => by simp at hn
  | _ :: _, [], _, _, hn, _ => by simp at hn
theorem blk_zeros (l : List Int) (n : Nat) : blk (l ++ List.replicate n 0) = blk l := by
  induction l with
  | nil => induction n with
    | zero => rfl
    | succ n ih => simp only [List.nil_append] at ih; simp only [List.nil_append, List.replicate_succ, blk, ih]; rfl
  | cons x r ih => simp only [List.cons_append, blk, ih]
theorem blk_lt64 {l : List Int} (h : Bytes l) (hl : l.length ≤ 8) : blk l < 2 ^ 64 :=
  Nat.lt_of_lt_of_le (blk_lt h) (Nat.le_trans (Nat.pow_le_pow_right (by decide) hl) (by decide))
def tags (h : Nat) (l : List Int) : Nat := if l = [] then h else tags (mixN (h ^^^ blk (l.take 8))) (l.drop 8)
  termination_by l.length
  decreasing_by
    rename_i hl
    have : 0 < l.length := List.length_pos_iff.mpr hl
    simp; omega
def tagN (key : Nat) (l : List Int) : Nat := mixN (tags (mixN key) l ^^^ l.length)
theorem tags_nil (h : Nat) : tags h [] = h := by rw [tags]; simp
theorem tags_cons (h : Nat) (l : List Int) (hl : l ≠ []) : tags h l = tags (mixN (h ^^^ blk (l.take 8))) (l.drop 8) := by rw [tags, if_neg hl]
theorem tags_ind {P : List Int → Prop} (h0 : P []) (h1 : ∀ l, l ≠ [] → P (l.drop 8) → P l) : ∀ l, P l := by
  intro l
  generalize hn : l.length = n
  induction n using Nat.strongRecOn generalizing l with
  | ind n ih =>
    by_cases hl : l = []
    · subst hl; exact h0
    · have : 0 < l.length := List.length_pos_iff.mpr hl
      exact h1 l hl (ih (l.drop 8).length (by simp; omega) _ rfl)
theorem tags_lt {l : List Int} : ∀ {h : Nat}, h < 2 ^ 64 → Bytes l → tags h l < 2 ^ 64 := by
  refine tags_ind (P := fun l => ∀ {h : Nat}, h < 2 ^ 64 → Bytes l → tags h l < 2 ^ 64) ?_ ?_ l
  · intro h hh _; rw [tags_nil]; exact hh
  · intro l hl ih h hh hb
    rw [tags_cons _ _ hl]; exact ih (mixN_lt _) (hb.drop 8)
theorem tags_inj {l : List Int} : ∀ {h g : Nat}, h < 2 ^ 64 → g < 2 ^ 64 → Bytes l → tags h l = tags g l → h = g := by
  refine tags_ind (P := fun l => ∀ {h g : Nat}, h < 2 ^ 64 → g < 2 ^ 64 → Bytes l → tags h l = tags g l → h = g) ?_ ?_ l
  · intro h g _ _ _ e; rwa [tags_nil, tags_nil] at e
  · intro l hl ih h g hh hg hb e
    rw [tags_cons _ _ hl, tags_cons _ _ hl] at e
    have e1 := ih (mixN_lt _) (mixN_lt _) (hb.drop 8) e
    have hk : blk (l.take 8) < 2 ^ 64 := blk_lt64 (hb.take 8) (by simp; omega)
    have e2 := mixN_inj (Nat.xor_lt_two_pow hh hk) (Nat.xor_lt_two_pow hg hk) e1
    exact xor_inj' _ _ _ e2
theorem tagN_lt (key : Nat) (l : List Int) : tagN key l < 2 ^ 64 := mixN_lt _
theorem tagN_inj {key k2 : Nat} {l : List Int} (hk : key < 2 ^ 64) (hk2 : k2 < 2 ^ 64) (hb : Bytes l) (hl : l.length < 2 ^ 64) (e : tagN key l = tagN k2 l) : key = k2 := by
  unfold tagN at e
  have h1 := tags_lt (mixN_lt key) hb
  have h2 := tags_lt (mixN_lt k2) hb
  have e1 := mixN_inj (Nat.xor_lt_two_pow h1 hl) (Nat.xor_lt_two_pow h2 hl) e
  exact mixN_inj hk hk2 (tags_inj (mixN_lt _) (mixN_lt _) hb (xor_inj' _ _ _ e1))
theorem tags_append (p : List Int) : ∀ (h : Nat) (l : List Int), p.length % 8 = 0 → tags h (p ++ l) = tags (tags h p) l := by
  refine tags_ind (P := fun p => ∀ (h : Nat) (l : List Int), p.length % 8 = 0 → tags h (p ++ l) = tags (tags h p) l) ?_ ?_ p
  · intro h l _; rw [tags_nil]; rfl
  · intro p hp ih h l h8
    have hlen : 0 < p.length := List.length_pos_iff.mpr hp
    have : p ++ l ≠ [] := by simp [hp]
    rw [tags_cons _ _ this, tags_cons _ _ hp, List.take_append_of_le_length (by omega), List.drop_append_of_le_length (by omega), ih _ _ (by simp; omega)]
theorem tags_block (p a b r : List Int) (h : Nat) (hh : h < 2 ^ 64) (hp : p.length % 8 = 0) (hab : a.length = b.length) (ha8 : a.length = 8 ∨ (a.length < 8 ∧ r = [])) (ba : Bytes a) (bb : Bytes b) (br : Bytes r) (bp : Bytes p)
    (e : tags h (p ++ (a ++ r)) = tags h (p ++ (b ++ r))) : a = b := by
  rw [tags_append _ _ _ hp, tags_append _ _ _ hp] at e
  have hq : tags h p < 2 ^ 64 := tags_lt hh bp
  generalize tags h p = q at e hq
  by_cases ha : a = []
  · subst ha
    exact (List.length_eq_zero_iff.mp (by simpa using hab.symm)).symm
  · have hla : 0 < a.length := List.length_pos_iff.mpr ha
    have hb : b ≠ [] := by rw [← List.length_pos_iff]; omega
    rw [tags_cons q (a ++ r) (by simp [ha]), tags_cons q (b ++ r) (by simp [hb])] at e
    have ta : (a ++ r).take 8 = a ∧ (a ++ r).drop 8 = r := by
      rcases ha8 with h8 | ⟨h8, rfl⟩
      · exact ⟨by rw [List.take_append_of_le_length (by omega), List.take_of_length_le (by omega)], by rw [List.drop_append_of_le_length (by omega), List.drop_eq_nil_of_le (by omega)]; rfl⟩
      · rw [List.append_nil]; exact ⟨List.take_of_length_le (by omega), List.drop_eq_nil_of_le (by omega)⟩
    have tb : (b ++ r).take 8 = b ∧ (b ++ r).drop 8 = r := by
      rcases ha8 with h8 | ⟨h8, rfl⟩
      · exact ⟨by rw [List.take_append_of_le_length (by omega), List.take_of_length_le (by omega)], by rw [List.drop_append_of_le_length (by omega), List.drop_eq_nil_of_le (by omega)]; rfl⟩
      · rw [List.append_nil]; exact ⟨List.take_of_length_le (by omega), List.drop_eq_nil_of_le (by omega)⟩
    rw [ta.1, ta.2, tb.1, tb.2] at e
    have e1 := tags_inj (mixN_lt _) (mixN_lt _) br e
    have l8 : a.length ≤ 8 := by omega
    have e2 := mixN_inj (Nat.xor_lt_two_pow hq (blk_lt64 ba l8)) (Nat.xor_lt_two_pow hq (blk_lt64 bb (by omega))) e1
    exact blk_inj ba bb hab (xor_inj _ _ _ e2)
theorem tags_zeros (l : List Int) : ∀ (h n : Nat), (l.length % 8 + n ≤ 8 ∧ 0 < l.length % 8) ∨ n = 0 → tags h (l ++ List.replicate n 0) = tags h l := by
  refine tags_ind (P := fun l => ∀ (h n : Nat), (l.length % 8 + n ≤ 8 ∧ 0 < l.length % 8) ∨ n = 0 → tags h (l ++ List.replicate n 0) = tags h l) ?_ ?_ l
  · intro h n hn
    rcases hn with hn | rfl
    · simp at hn
    · simp
  · intro l hl ih h n hn
    have hlen : 0 < l.length := List.length_pos_iff.mpr hl
    rw [tags_cons _ _ (by simp [hl]), tags_cons _ _ hl]
    by_cases h8 : 8 ≤ l.length
    · rw [List.take_append_of_le_length h8, List.drop_append_of_le_length h8]
      exact ih _ _ (by simp; omega)
    · have t1 : (l ++ List.replicate n 0).take 8 = l ++ List.replicate n 0 := List.take_of_length_le (by simp; omega)
      have t2 : (l ++ List.replicate n 0).drop 8 = [] := List.drop_eq_nil_of_le (by simp; omega)
      rw [t1, t2, List.take_of_length_le (by omega), List.drop_eq_nil_of_le (by omega), blk_zeros]
end Go.Proofs.Ytdlinojgmllkoaa.MSeal
namespace Go.Proofs.Ytdlinojgmllkoaa.MCrc
open Go.RowKit Go.Proofs.YtdlinojgmllkoaaW.PrintWords Go.Proofs.YtdlinojgmllkoaaW.PrintMore Go.Proofs.Ytdlinojgmllkoaa.MSeal
def stepN (r : Nat) : Nat := if r % 2 = 1 then r / 2 ^^^ 2197175160 else r / 2
def stepsN : Nat → Nat → Nat
  | 0, r => r
  | k + 1, r => stepN (stepsN k r)
def tabN (i : Nat) : Nat := stepsN 8 i
def crcS (r : Nat) (c : Int) : Nat := tabN ((r % 256) ^^^ c.toNat) ^^^ (r / 256)
def crcR (r : Nat) (l : List Int) : Nat := l.foldl crcS r
def crcN (l : List Int) : Nat := crcR 4294967295 l ^^^ 4294967295
theorem xor_div2 (a b : Nat) : (a ^^^ b) / 2 = a / 2 ^^^ b / 2 := by
  have := Nat.shiftRight_xor_distrib (a := a) (b := b) (i := 1)
  simpa [Nat.shiftRight_eq_div_pow] using this
theorem xor_mod2 (a b : Nat) : (a ^^^ b) % 2 = (a % 2 + b % 2) % 2 := by
  have h := Nat.testBit_xor a b 0
  simp only [Nat.testBit_zero] at h
  rcases Nat.mod_two_eq_zero_or_one a with ha | ha <;> rcases Nat.mod_two_eq_zero_or_one b with hb | hb <;> rcases Nat.mod_two_eq_zero_or_one (a ^^^ b) with hc | hc <;> simp [ha, hb, hc] at h ⊢
theorem step_xor (a b : Nat) : stepN (a ^^^ b) = stepN a ^^^ stepN b := by
  unfold stepN
  rw [xor_mod2, xor_div2]
  rcases Nat.mod_two_eq_zero_or_one a with ha | ha <;> rcases Nat.mod_two_eq_zero_or_one b with hb | hb <;> simp only [ha, hb]
  · simp
  · show a / 2 ^^^ b / 2 ^^^ 2197175160 = a / 2 ^^^ (b / 2 ^^^ 2197175160)
    rw [Nat.xor_assoc]
  · show a / 2 ^^^ b / 2 ^^^ 2197175160 = a / 2 ^^^ 2197175160 ^^^ b / 2
    rw [Nat.xor_assoc, Nat.xor_assoc, Nat.xor_comm (b / 2)]
  · show a / 2 ^^^ b / 2 = a / 2 ^^^ 2197175160 ^^^ (b / 2 ^^^ 2197175160)
    have : a / 2 ^^^ 2197175160 ^^^ (b / 2 ^^^ 2197175160) = a / 2 ^^^ b / 2 ^^^ (2197175160 ^^^ 2197175160) := by
      rw [Nat.xor_assoc, Nat.xor_assoc, ← Nat.xor_assoc 2197175160, Nat.xor_comm 2197175160 (b / 2), Nat.xor_assoc (b / 2)]
    rw [this, Nat.xor_self, Nat.xor_zero]
theorem steps_xor (k a b : Nat) : stepsN k (a ^^^ b) = stepsN k a ^^^ stepsN k b := by
  induction k with
  | zero => rfl
  | succ k ih => simp only [stepsN, ih, step_xor]
theorem step_two (m : Nat) : stepN (2 * m) = m := by
  unfold stepN; rw [if_neg (by omega)]; omega
theorem steps_step (k r : Nat) : stepsN k (stepN r) = stepN (stepsN k r) := by
  induction k with
  | zero => rfl
  | succ k ih => simp only [stepsN, ih]
theorem steps_pow (k q : Nat) : stepsN k (2 ^ k * q) = q := by
  induction k generalizing q with
  | zero => simp [stepsN]
  | succ k ih =>
    show stepN (stepsN k (2 ^ (k + 1) * q)) = q
    have : 2 ^ (k + 1) * q = 2 ^ k * (2 * q) := by rw [Nat.pow_succ, Nat.mul_assoc]
    rw [this, ih, step_two]
theorem split256 (r : Nat) : r = (r % 256) ^^^ (2 ^ 8 * (r / 256)) := by
  apply Nat.eq_of_testBit_eq
  intro i
  rw [Nat.testBit_xor, show (256 : Nat) = 2 ^ 8 by rfl, Nat.testBit_mod_two_pow, Nat.testBit_two_pow_mul, Nat.testBit_div_two_pow]
  by_cases h : i < 8
  · simp [h, show ¬ 8 ≤ i by omega]
  · simp [h, show 8 ≤ i by omega, show i - 8 + 8 = i by omega]
theorem crc_plain (r c : Nat) : stepsN 8 (r ^^^ c) = tabN ((r % 256) ^^^ c) ^^^ (r / 256) := by
  have e : r ^^^ c = ((r % 256) ^^^ c) ^^^ (2 ^ 8 * (r / 256)) := by
    rw [Nat.xor_assoc, Nat.xor_comm c, ← Nat.xor_assoc, ← split256]
  rw [e, steps_xor, steps_pow]; rfl
theorem step_lt {r : Nat} (h : r < 2 ^ 32) : stepN r < 2 ^ 32 := by
  unfold stepN; split
  · exact Nat.xor_lt_two_pow (by omega) (by decide)
  · omega
theorem steps_lt (k : Nat) {r : Nat} (h : r < 2 ^ 32) : stepsN k r < 2 ^ 32 := by
  induction k with
  | zero => exact h
  | succ k ih => exact step_lt ih
theorem tab_lt (i : Nat) (h : i < 256) : tabN i < 2 ^ 32 := steps_lt 8 (by omega)
theorem crcS_plain (r : Nat) (c : Int) : crcS r c = stepsN 8 (r ^^^ c.toNat) := (crc_plain r c.toNat).symm
theorem crcS_lt {r : Nat} {c : Int} (h : r < 2 ^ 32) (h0 : 0 ≤ c) (h1 : c < 256) : crcS r c < 2 ^ 32 := by
  rw [crcS_plain]
  exact steps_lt 8 (Nat.xor_lt_two_pow h (by omega))
theorem crcR_lt {l : List Int} : ∀ {r : Nat}, r < 2 ^ 32 → Bytes l → crcR r l < 2 ^ 32 := by
  induction l with
  | nil => intro r h _; exact h
  | cons c l ih =>
    intro r h hb
    have hc := hb c (by simp)
    exact ih (crcS_lt h hc.1 hc.2) (fun x hx => hb x (by simp [hx]))
theorem crcR_append (r : Nat) (a b : List Int) : crcR r (a ++ b) = crcR (crcR r a) b := by unfold crcR; rw [List.foldl_append]
theorem crcR_snoc (r : Nat) (a : List Int) (c : Int) : crcR r (a ++ [c]) = crcS (crcR r a) c := by rw [crcR_append]; rfl
theorem crcN_lt {l : List Int} (h : Bytes l) : crcN l < 2 ^ 32 := Nat.xor_lt_two_pow (crcR_lt (by decide) h) (by decide)
theorem poly_high (x : Nat) (h : x < 2 ^ 31) : 2 ^ 31 ≤ x ^^^ 2197175160 := by
  have h1 : (x ^^^ 2197175160).testBit 31 = true := by
    rw [Nat.testBit_xor, Nat.testBit_lt_two_pow h]; decide
  exact Nat.ge_two_pow_of_testBit h1
theorem step_inj {a b : Nat} (ha : a < 2 ^ 32) (hb : b < 2 ^ 32) (h : stepN a = stepN b) : a = b := by
  unfold stepN at h
  by_cases pa : a % 2 = 1 <;> by_cases pb : b % 2 = 1
  · rw [if_pos pa, if_pos pb] at h
    have := xor_inj' _ _ _ h
    omega
  · rw [if_pos pa, if_neg pb] at h
    have := poly_high (a / 2) (by omega)
    omega
  · rw [if_neg pa, if_pos pb] at h
    have := poly_high (b / 2) (by omega)
    omega
  · rw [if_neg pa, if_neg pb] at h
    omega
theorem steps_inj (k : Nat) {a b : Nat} (ha : a < 2 ^ 32) (hb : b < 2 ^ 32) (h : stepsN k a = stepsN k b) : a = b := by
  induction k with
  | zero => exact h
  | succ k ih => exact ih (step_inj (steps_lt k ha) (steps_lt k hb) h)
theorem crcS_inj_r {r s : Nat} {c : Int} (hr : r < 2 ^ 32) (hs : s < 2 ^ 32) (h0 : 0 ≤ c) (h1 : c < 256) (h : crcS r c = crcS s c) : r = s := by
  rw [crcS_plain, crcS_plain] at h
  exact xor_inj' _ _ _ (steps_inj 8 (Nat.xor_lt_two_pow hr (by omega)) (Nat.xor_lt_two_pow hs (by omega)) h)
theorem crcS_inj_c {r : Nat} {c d : Int} (hr : r < 2 ^ 32) (h0 : 0 ≤ c) (h1 : c < 256) (g0 : 0 ≤ d) (g1 : d < 256) (h : crcS r c = crcS r d) : c = d := by
  rw [crcS_plain, crcS_plain] at h
  have := xor_inj _ _ _ (steps_inj 8 (Nat.xor_lt_two_pow hr (by omega)) (Nat.xor_lt_two_pow hr (by omega)) h)
  omega
theorem crcR_inj {l : List Int} : ∀ {r s : Nat}, r < 2 ^ 32 → s < 2 ^ 32 → Bytes l → crcR r l = crcR s l → r = s := by
  induction l with
  | nil => intro r s _ _ _ h; exact h
  | cons c l ih =>
    intro r s hr hs hb h
    have hc := hb c (by simp)
    exact crcS_inj_r hr hs hc.1 hc.2 (ih (crcS_lt hr hc.1 hc.2) (crcS_lt hs hc.1 hc.2) (fun x hx => hb x (by simp [hx])) h)
theorem crc_change (p q : List Int) (c d : Int) (bp : Bytes p) (bq : Bytes q) (h0 : 0 ≤ c) (h1 : c < 256) (g0 : 0 ≤ d) (g1 : d < 256) (h : crcN (p ++ c :: q) = crcN (p ++ d :: q)) : c = d := by
  unfold crcN at h
  have h2 := xor_inj' _ _ _ h
  rw [crcR_append, crcR_append] at h2
  have hr : crcR 4294967295 p < 2 ^ 32 := crcR_lt (by decide) bp
  have h3 : crcR (crcS (crcR 4294967295 p) c) q = crcR (crcS (crcR 4294967295 p) d) q := h2
  exact crcS_inj_c hr h0 h1 g0 g1 (crcR_inj (crcS_lt hr h0 h1) (crcS_lt hr g0 g1) bq h3)
end Go.Proofs.Ytdlinojgmllkoaa.MCrc
namespace Go.Proofs.Ytdlinojgmllkoaa.MCodec
open Go.RowKit Go.Proofs.YtdlinojgmllkoaaW.PrintWords Go.Proofs.YtdlinojgmllkoaaW.PrintMore Go.Proofs.Ytdlinojgmllkoaa.MSeal Go.Proofs.Ytdlinojgmllkoaa.MCrc
def putN (n : Nat) : List Int := if n < 128 then [(n : Int)] else ((n % 128 + 128 : Nat) : Int) :: putN (n / 128)
theorem putN_small {n : Nat} (h : n < 128) : putN n = [(n : Int)] := by rw [putN, if_pos h]
theorem putN_big {n : Nat} (h : ¬ n < 128) : putN n = ((n % 128 + 128 : Nat) : Int) :: putN (n / 128) := by rw [putN, if_neg h]
def valN : List Int → Nat
  | [] => 0
  | c :: r => c.toNat % 128 + 128 * valN r
theorem valN_snoc (p : List Int) (c : Int) : valN (p ++ [c]) = valN p + 128 ^ p.length * (c.toNat % 128) := by
  induction p with
  | nil => simp [valN]
  | cons x r ih =>
    simp only [List.cons_append, valN, ih, List.length_cons, Nat.pow_succ, Nat.mul_add]
    have : 128 * (128 ^ r.length * (c.toNat % 128)) = 128 ^ r.length * 128 * (c.toNat % 128) := by
      rw [← Nat.mul_assoc, Nat.mul_comm 128 (128 ^ r.length)]
    omega
theorem valN_lt (p : List Int) : valN p < 128 ^ p.length := by
  induction p with
  | nil => simp [valN]
  | cons x r ih =>
    simp only [valN, List.length_cons, Nat.pow_succ]
    omega
def Form : List Int → Prop
  | [] => False
  | [c] => 0 ≤ c ∧ c < 128
  | c :: d :: r => 128 ≤ c ∧ c < 256 ∧ d :: r ≠ [0] ∧ Form (d :: r)
theorem Form.ne {p : List Int} (h : Form p) : p ≠ [] := by cases p with
  | nil => exact h.elim
  | cons _ _ => simp
theorem Form.pos {p : List Int} (h : Form p) : 0 < p.length := List.length_pos_iff.mpr h.ne
theorem Form.bytes : ∀ {p : List Int}, Form p → Bytes p
  | [], h => h.elim
  | [c], h => fun x hx => by
    simp only [List.mem_singleton] at hx; subst hx; exact ⟨h.1, by have := h.2; omega⟩
  | c :: d :: r, h => fun x hx => by
    rcases List.mem_cons.mp hx with rfl | hx
    · exact ⟨by have := h.1; omega, h.2.1⟩
    · exact Form.bytes h.2.2.2 x hx
theorem Form.val_pos : ∀ {p : List Int}, Form p → p ≠ [0] → 0 < valN p
  | [], h, _ => h.elim
  | [c], h, hz => by
    have h1 := h.1
    have h2 := h.2
    have : c ≠ 0 := fun e => hz (by rw [e])
    simp only [valN]; omega
  | c :: d :: r, h, _ => by
    have := Form.val_pos h.2.2.2 h.2.2.1
    simp only [valN] at this ⊢; omega
theorem Form.put : ∀ {p : List Int}, Form p → putN (valN p) = p
  | [], h => h.elim
  | [c], h => by
    have h1 := h.1
    have h2 := h.2
    have e : valN [c] = c.toNat := by simp only [valN]; omega
    rw [e, putN_small (by omega)]
    congr 1; omega
  | c :: d :: r, h => by
    have h1 := h.1
    have h2 := h.2.1
    have hp := Form.val_pos h.2.2.2 h.2.2.1
    have e : valN (c :: d :: r) = c.toNat % 128 + 128 * valN (d :: r) := rfl
    rw [e, putN_big (by omega)]
    have e1 : (c.toNat % 128 + 128 * valN (d :: r)) / 128 = valN (d :: r) := by omega
    have e2 : (((c.toNat % 128 + 128 * valN (d :: r)) % 128 + 128 : Nat) : Int) = c := by omega
    rw [e1, e2, Form.put h.2.2.2]
theorem putN_ne (n : Nat) : putN n ≠ [] := by
  by_cases h : n < 128
  · rw [putN_small h]; simp
  · rw [putN_big h]; simp
theorem putN_form (n : Nat) : Form (putN n) ∧ (0 < n → putN n ≠ [0]) ∧ valN (putN n) = n := by
  induction n using Nat.strongRecOn with
  | ind n ih =>
    by_cases h : n < 128
    · rw [putN_small h]
      refine ⟨⟨by omega, by omega⟩, fun hp => ?_, ?_⟩
      · intro e
        have := List.cons.inj e
        omega
      · simp only [valN]; omega
    · obtain ⟨f, z, v⟩ := ih (n / 128) (by omega)
      rw [putN_big h]
      have hne := putN_ne (n / 128)
      obtain ⟨d, r, hdr⟩ : ∃ d r, putN (n / 128) = d :: r := by
        cases hp : putN (n / 128) with
        | nil => exact absurd hp hne
        | cons d r => exact ⟨d, r, rfl⟩
      rw [hdr] at f z v ⊢
      refine ⟨⟨by omega, by omega, z (by omega), f⟩, fun _ => by simp, ?_⟩
      show (((n % 128 + 128 : Nat) : Int)).toNat % 128 + 128 * valN (d :: r) = n
      rw [v, Int.toNat_natCast]; omega
theorem putN_bytes (n : Nat) : Bytes (putN n) := (putN_form n).1.bytes
theorem putN_len (n k : Nat) (h : n < 128 ^ k) (hk : 0 < k) : (putN n).length ≤ k := by
  induction k generalizing n with
  | zero => omega
  | succ k ih =>
    by_cases hs : n < 128
    · rw [putN_small hs]; simp
    · rw [putN_big hs, List.length_cons]
      have h0 : 0 < k := by
        rcases Nat.eq_zero_or_pos k with rfl | h0
        · simp at h; omega
        · exact h0
      have := ih (n / 128) (by rw [Nat.pow_succ] at h; exact Nat.div_lt_of_lt_mul (by omega)) h0
      omega
theorem putN_len9 (n : Nat) (h : n < 9223372036854775808) : (putN n).length ≤ 9 := putN_len n 9 h (by decide)
def getA (l : List Int) : Nat → Nat → Int × Int × Int
  | 0, _ => (0, 0, 4)
  | m + 1, i => if l.length ≤ i then (0, 0, 5) else if l.getD i 0 ≥ 128 then getA l m (i + 1) else if l.getD i 0 = 0 ∧ 0 < i then (0, 0, 3) else (((valN (l.take (i + 1)) : Nat) : Int), ((i + 1 : Nat) : Int), 0)
def getI (l : List Int) : Int × Int × Int := getA l 9 0
theorem take_succ (l : List Int) (i : Nat) (h : i < l.length) : l.take (i + 1) = l.take i ++ [l.getD i 0] := by
  rw [List.take_succ_eq_append_getElem h, List.getD_eq_getElem?_getD, List.getElem?_eq_getElem h]; rfl
theorem drop_cons (l : List Int) (i : Nat) (h : i < l.length) : l.drop i = l.getD i 0 :: l.drop (i + 1) := by
  rw [List.drop_eq_getElem_cons h, List.getD_eq_getElem?_getD, List.getElem?_eq_getElem h]; rfl
theorem getA_of (l q r : List Int) : ∀ (m i : Nat), l.drop i = q ++ r → Form q → q.length ≤ m → (0 < i → q ≠ [0]) → getA l m i = (((valN (l.take (i + q.length)) : Nat) : Int), ((i + q.length : Nat) : Int), 0) := by
  induction q with
  | nil => intro m i _ h; exact h.elim
  | cons c q ih =>
    intro m i hd hf hm hz
    have hi : i < l.length := by
      have := congrArg List.length hd
      simp at this; omega
    cases m with
    | zero => simp at hm
    | succ m =>
      rw [drop_cons l i hi] at hd
      have hc := (List.cons.inj hd).1
      have hr := (List.cons.inj hd).2
      simp only [getA]
      rw [if_neg (by omega), hc]
      cases q with
      | nil =>
        have h2 := hf.2
        have hne : ¬ (c = 0 ∧ 0 < i) := fun ⟨e, h0⟩ => hz h0 (by rw [e])
        rw [if_neg (by omega), if_neg hne]; rfl
      | cons d q =>
        rw [if_pos hf.1]
        have h9 := ih m (i + 1) hr hf.2.2.2 (by simp at hm ⊢; omega) (fun _ => hf.2.2.1)
        rw [h9]
        have e : i + 1 + (d :: q).length = i + (c :: d :: q).length := by simp; omega
        rw [e]
theorem getA_tells (l : List Int) (hb : Bytes l) : ∀ (m i : Nat), (getA l m i).2.2 = 0 → ∃ q r, l.drop i = q ++ r ∧ Form q ∧ q.length ≤ m ∧ (0 < i → q ≠ [0]) ∧ getA l m i = (((valN (l.take (i + q.length)) : Nat) : Int), ((i + q.length : Nat) : Int), 0) := by
  intro m
  induction m with
  | zero => intro i h; simp [getA] at h
  | succ m ih =>
    intro i h
    simp only [getA] at h ⊢
    by_cases h1 : l.length ≤ i
    · rw [if_pos h1] at h; simp at h
    · rw [if_neg h1] at h ⊢
      have hi : i < l.length := by omega
      have hby := hb.at i
      by_cases h2 : l.getD i 0 ≥ 128
      · rw [if_pos h2] at h ⊢
        obtain ⟨q, r, hd, hf, hl, hz, he⟩ := ih (i + 1) h
        refine ⟨l.getD i 0 :: q, r, by rw [drop_cons l i hi, hd]; rfl, ?_, by simp; omega, fun _ => ?_, ?_⟩
        · cases q with
          | nil => exact hf.elim
          | cons d q => exact ⟨h2, hby.2, hz (by omega), hf⟩
        · intro e
          have := (List.cons.inj e).1
          omega
        · rw [he]
          have e : i + (l.getD i 0 :: q).length = i + 1 + q.length := by simp; omega
          rw [e]
      · rw [if_neg h2] at h ⊢
        by_cases h3 : l.getD i 0 = 0 ∧ 0 < i
        · rw [if_pos h3] at h; simp at h
        · rw [if_neg h3]
          refine ⟨[l.getD i 0], l.drop (i + 1), by rw [drop_cons l i hi]; rfl, ⟨hby.1, by omega⟩, by simp, fun h0 e => h3 ⟨(List.cons.inj e).1, h0⟩, rfl⟩
theorem getA_err (l : List Int) : ∀ (m i : Nat), (getA l m i).2.2 = 0 ∨ ((getA l m i).1 = 0 ∧ (getA l m i).2.1 = 0 ∧ ((getA l m i).2.2 = 3 ∨ (getA l m i).2.2 = 4 ∨ (getA l m i).2.2 = 5)) := by
  intro m
  induction m with
  | zero => intro i; simp [getA]
  | succ m ih =>
    intro i
    simp only [getA]
    split
    · simp
    · split
      · exact ih (i + 1)
      · split
        · simp
        · simp
theorem getI_put (n : Nat) (r : List Int) (h : n < 9223372036854775808) : getI (putN n ++ r) = ((n : Int), (((putN n).length : Nat) : Int), 0) := by
  obtain ⟨f, _, v⟩ := putN_form n
  have := getA_of (putN n ++ r) (putN n) r 9 0 (by simp) f (putN_len9 n h) (fun h => by omega)
  unfold getI
  rw [this, Nat.zero_add, List.take_append_of_le_length (Nat.le_refl _), List.take_length, v]
theorem getI_tells {l : List Int} (hb : Bytes l) (h : (getI l).2.2 = 0) : ∃ n k : Nat, getI l = ((n : Int), (k : Int), 0) ∧ n < 9223372036854775808 ∧ 1 ≤ k ∧ k ≤ 9 ∧ k ≤ l.length ∧ l.take k = putN n := by
  obtain ⟨q, r, hd, hf, hl, _, he⟩ := getA_tells l hb 9 0 h
  simp only [List.drop_zero] at hd
  rw [Nat.zero_add] at he
  have ht : l.take q.length = q := by rw [hd, List.take_append_of_le_length (Nat.le_refl _), List.take_length]
  rw [ht] at he
  have hv := valN_lt q
  have hp : 128 ^ q.length ≤ 128 ^ 9 := Nat.pow_le_pow_right (by decide) hl
  refine ⟨valN q, q.length, he, by omega, hf.pos, hl, by rw [hd]; simp, by rw [ht, hf.put]⟩
theorem getI_err (l : List Int) : (getI l).2.2 = 0 ∨ ((getI l).1 = 0 ∧ (getI l).2.1 = 0 ∧ ((getI l).2.2 = 3 ∨ (getI l).2.2 = 4 ∨ (getI l).2.2 = 5)) := getA_err l 9 0
def be4 (s : Nat) : List Int := [((s / 16777216 % 256 : Nat) : Int), ((s / 65536 % 256 : Nat) : Int), ((s / 256 % 256 : Nat) : Int), ((s % 256 : Nat) : Int)]
theorem be4_len (s : Nat) : (be4 s).length = 4 := rfl
theorem be4_bytes (s : Nat) : Bytes (be4 s) := fun x hx => by
  simp only [be4, List.mem_cons, List.not_mem_nil, or_false] at hx
  rcases hx with rfl | rfl | rfl | rfl <;> omega
theorem be4_inj {s t : Nat} (hs : s < 2 ^ 32) (ht : t < 2 ^ 32) (h : be4 s = be4 t) : s = t := by
  simp only [be4, List.cons.injEq, and_true] at h
  omega
def ofBe (l : List Int) : Nat := (l.getD 0 0).toNat * 16777216 + (l.getD 1 0).toNat * 65536 + (l.getD 2 0).toNat * 256 + (l.getD 3 0).toNat
theorem ofBe_be4 (s : Nat) (h : s < 2 ^ 32) : ofBe (be4 s) = s := by
  simp [ofBe, be4]; omega
theorem be4_ofBe {l : List Int} (hb : Bytes l) (hl : l.length = 4) : be4 (ofBe l) = l ∧ ofBe l < 2 ^ 32 := by
  match l, hl with
  | [a, b, c, d], _ =>
    have ha := hb a (by simp)
    have hb' := hb b (by simp)
    have hc := hb c (by simp)
    have hd := hb d (by simp)
    have e : ofBe [a, b, c, d] = a.toNat * 16777216 + b.toNat * 65536 + c.toNat * 256 + d.toNat := rfl
    rw [e]
    refine ⟨?_, by omega⟩
    simp only [be4, List.cons.injEq, and_true]
    omega
def frameN (body : List Int) : List Int := putN body.length ++ body ++ be4 (crcN body)
theorem frameN_bytes {b : List Int} (h : Bytes b) : Bytes (frameN b) := ((putN_bytes _).append h).append (be4_bytes _)
theorem frameN_len (b : List Int) : (frameN b).length = (putN b.length).length + b.length + 4 := by simp [frameN, be4_len]; omega
def unI (l : List Int) : List Int × Int × Int :=
  if (getI l).2.2 ≠ 0 then ([], 0, (getI l).2.2) else
  if (getI l).1 > 65536 then ([], 0, 4) else
  if (l.length : Int) - (getI l).2.1 < (getI l).1 + 4 then ([], 0, 5) else
  if crcN ((l.drop (getI l).2.1.toNat).take (getI l).1.toNat) = ofBe ((l.drop ((getI l).2.1 + (getI l).1).toNat).take 4) then ((l.drop (getI l).2.1.toNat).take (getI l).1.toNat, (getI l).2.1 + (getI l).1 + 4, 0) else ([], 0, 6)
theorem unI_frame (b r : List Int) (hb : Bytes b) (hl : b.length ≤ 65536) : unI (frameN b ++ r) = (b, (((frameN b).length : Nat) : Int), 0) := by
  have e : frameN b ++ r = putN b.length ++ (b ++ (be4 (crcN b) ++ r)) := by simp [frameN]
  have hg := getI_put b.length (b ++ (be4 (crcN b) ++ r)) (by omega)
  have hlen := frameN_len b
  unfold unI
  rw [e, hg]
  simp only [ne_eq, not_true_eq_false, if_false, Int.toNat_natCast]
  rw [if_neg (by omega), if_neg (by simp [be4_len]; omega)]
  have d1 : (putN b.length ++ (b ++ (be4 (crcN b) ++ r))).drop (putN b.length).length = b ++ (be4 (crcN b) ++ r) := by rw [List.drop_left]
  have d2 : (b ++ (be4 (crcN b) ++ r)).take b.length = b := by rw [List.take_append_of_le_length (Nat.le_refl _), List.take_length]
  have d3 : ((((putN b.length).length : Nat) : Int) + ((b.length : Nat) : Int)).toNat = (putN b.length ++ b).length := by simp; omega
  have d4 : (putN b.length ++ (b ++ (be4 (crcN b) ++ r))).drop (putN b.length ++ b).length = be4 (crcN b) ++ r := by
    rw [← List.append_assoc, List.drop_left]
  have d5 : (be4 (crcN b) ++ r).take 4 = be4 (crcN b) := by
    have h4 : (4 : Nat) = (be4 (crcN b)).length := rfl
    rw [h4, List.take_append_of_le_length (Nat.le_refl _), List.take_length]
  rw [d1, d2, d3, d4, d5, ofBe_be4 _ (crcN_lt hb), if_pos rfl, hlen]
  simp
theorem unI_tells {l : List Int} (hb : Bytes l) (h : (unI l).2.2 = 0) : ∃ (b : List Int) (k : Nat), unI l = (b, (k : Int), 0) ∧ Bytes b ∧ b.length ≤ 65536 ∧ 5 ≤ k ∧ k ≤ l.length ∧ l.take k = frameN b ∧ k = (frameN b).length := by
  unfold unI at h ⊢
  by_cases h1 : (getI l).2.2 ≠ 0
  · rw [if_pos h1] at h; exact absurd h h1
  · rw [if_neg h1] at h ⊢
    obtain ⟨n, k, hg, hn, hk1, hk9, hkl, ht⟩ := getI_tells hb (by simpa using h1)
    rw [hg] at h ⊢
    simp only [Int.toNat_natCast] at h ⊢
    by_cases h2 : (n : Int) > 65536
    · rw [if_pos h2] at h; simp at h
    · rw [if_neg h2] at h ⊢
      by_cases h3 : (l.length : Int) - (k : Int) < (n : Int) + 4
      · rw [if_pos h3] at h; simp at h
      · rw [if_neg h3] at h ⊢
        by_cases h4 : crcN ((l.drop k).take n) = ofBe ((l.drop ((k : Int) + (n : Int)).toNat).take 4)
        · rw [if_pos h4]
          have hkn : ((k : Int) + (n : Int)).toNat = k + n := by omega
          rw [hkn] at h4
          have hb1 : Bytes ((l.drop k).take n) := (hb.drop k).take n
          have hl1 : ((l.drop k).take n).length = n := by simp; omega
          have hb2 : Bytes ((l.drop (k + n)).take 4) := (hb.drop _).take 4
          have hl2 : ((l.drop (k + n)).take 4).length = 4 := by simp; omega
          have hbe := be4_ofBe hb2 hl2
          refine ⟨(l.drop k).take n, k + n + 4, by simp, hb1, by omega, by omega, by omega, ?_, ?_⟩
          · unfold frameN
            rw [hl1, h4, hbe.1, ← ht]
            rw [List.take_add, List.take_add]
          · rw [frameN_len, hl1, ← ht]; simp; omega
        · rw [if_neg h4] at h; simp at h
theorem unI_damaged (b r : List Int) (hb : Bytes b) (hl : b.length ≤ 65536) (i : Nat) (x : Int) (hx0 : 0 ≤ x) (hx1 : x < 256) (hi : (putN b.length).length ≤ i) (hi2 : i < (frameN b).length) (hne : (frameN b).getD i 0 ≠ x) : unI ((frameN b).set i x ++ r) = ([], 0, 6) := by
  have hlen := frameN_len b
  have split : ∃ c d : List Int, (frameN b).set i x = putN b.length ++ (c ++ d) ∧ c.length = b.length ∧ d.length = 4 ∧ Bytes c ∧ Bytes d ∧ crcN c ≠ ofBe d := by
    have hs : (b ++ be4 (crcN b)).set (i - (putN b.length).length) x = (b ++ be4 (crcN b)).set (i - (putN b.length).length) x := rfl
    have e1 : (frameN b).set i x = putN b.length ++ (b ++ be4 (crcN b)).set (i - (putN b.length).length) x := by
      unfold frameN
      rw [List.append_assoc, List.set_append_right _ _ hi]
    have hg : (frameN b).getD i 0 = (b ++ be4 (crcN b)).getD (i - (putN b.length).length) 0 := by
      unfold frameN
      rw [List.append_assoc, List.getD_eq_getElem?_getD, List.getD_eq_getElem?_getD, List.getElem?_append_right hi]
    rw [hg] at hne
    obtain ⟨j, hj⟩ : ∃ j, i - (putN b.length).length = j := ⟨_, rfl⟩
    rw [hj] at e1 hne
    have hj4 : j < b.length + 4 := by omega
    by_cases hjb : j < b.length
    · refine ⟨b.set j x, be4 (crcN b), by rw [e1, List.set_append_left _ _ hjb], by simp, rfl, ?_, be4_bytes _, ?_⟩
      · intro y hy
        rcases List.mem_or_eq_of_mem_set hy with h | rfl
        · exact hb y h
        · exact ⟨hx0, hx1⟩
      · rw [ofBe_be4 _ (crcN_lt hb)]
        have hgb : (b ++ be4 (crcN b)).getD j 0 = b[j] := by
          rw [List.getD_eq_getElem?_getD, List.getElem?_append_left hjb, List.getElem?_eq_getElem hjb]; rfl
        rw [hgb] at hne
        intro e
        have s1 : b = b.take j ++ b[j] :: b.drop (j + 1) := by rw [← List.drop_eq_getElem_cons hjb, List.take_append_drop]
        have s2 : b.set j x = b.take j ++ x :: b.drop (j + 1) := by rw [List.set_eq_take_append_cons_drop, if_pos hjb]
        rw [s2] at e
        have e2 := e.trans (congrArg crcN s1)
        have hbj := hb b[j] (List.getElem_mem hjb)
        exact hne (crc_change _ _ _ _ (hb.take j) (hb.drop (j + 1)) hx0 hx1 hbj.1 hbj.2 e2).symm
    · refine ⟨b, (be4 (crcN b)).set (j - b.length) x, by rw [e1, List.set_append_right _ _ (by omega)], rfl, by simp [be4_len], hb, ?_, ?_⟩
      · intro y hy
        rcases List.mem_or_eq_of_mem_set hy with h | rfl
        · exact be4_bytes _ y h
        · exact ⟨hx0, hx1⟩
      · have hd4 : ((be4 (crcN b)).set (j - b.length) x).length = 4 := by simp [be4_len]
        have hbd : Bytes ((be4 (crcN b)).set (j - b.length) x) := by
          intro y hy
          rcases List.mem_or_eq_of_mem_set hy with h | rfl
          · exact be4_bytes _ y h
          · exact ⟨hx0, hx1⟩
        intro e
        have h9 := be4_ofBe hbd hd4
        rw [← e] at h9
        have hgb : (b ++ be4 (crcN b)).getD j 0 = (be4 (crcN b)).getD (j - b.length) 0 := by
          rw [List.getD_eq_getElem?_getD, List.getD_eq_getElem?_getD, List.getElem?_append_right (by omega)]
        rw [hgb, h9.1] at hne
        apply hne
        rw [List.getD_eq_getElem?_getD, List.getElem?_set_self (by simp [be4_len]; omega)]; rfl
  obtain ⟨c, d, he, hc, hd, bc, bd, hcd⟩ := split
  have e : (frameN b).set i x ++ r = putN b.length ++ (c ++ (d ++ r)) := by rw [he]; simp
  have hgp := getI_put b.length (c ++ (d ++ r)) (by omega)
  unfold unI
  rw [e, hgp]
  simp only [ne_eq, not_true_eq_false, if_false, Int.toNat_natCast]
  rw [if_neg (by omega), if_neg (by simp; omega)]
  have d1 : (putN b.length ++ (c ++ (d ++ r))).drop (putN b.length).length = c ++ (d ++ r) := by rw [List.drop_left]
  have d2 : (c ++ (d ++ r)).take b.length = c := by rw [← hc, List.take_append_of_le_length (Nat.le_refl _), List.take_length]
  have d3 : ((((putN b.length).length : Nat) : Int) + ((b.length : Nat) : Int)).toNat = (putN b.length ++ c).length := by simp; omega
  have d4 : (putN b.length ++ (c ++ (d ++ r))).drop (putN b.length ++ c).length = d ++ r := by
    rw [← List.append_assoc, List.drop_left]
  have d5 : (d ++ r).take 4 = d := by rw [← hd, List.take_append_of_le_length (Nat.le_refl _), List.take_length]
  rw [d1, d2, d3, d4, d5, if_neg hcd]
def textI (l : List Int) : List Int × Int × Int :=
  if (getI l).2.2 ≠ 0 then ([], 0, (getI l).2.2) else
  if (getI l).1 > 2000 then ([], 0, 4) else
  if (l.length : Int) - (getI l).2.1 < (getI l).1 then ([], 0, 5) else
  ((l.drop (getI l).2.1.toNat).take (getI l).1.toNat, (getI l).2.1 + (getI l).1, 0)
theorem textI_put (s r : List Int) (hl : s.length ≤ 2000) : textI (putN s.length ++ s ++ r) = (s, (((putN s.length ++ s).length : Nat) : Int), 0) := by
  have hg := getI_put s.length (s ++ r) (by omega)
  unfold textI
  rw [List.append_assoc, hg]
  simp only [ne_eq, not_true_eq_false, if_false, Int.toNat_natCast]
  rw [if_neg (by omega), if_neg (by simp; omega), List.drop_left, List.take_append_of_le_length (Nat.le_refl _), List.take_length]
  simp
theorem textI_tells {l : List Int} (hb : Bytes l) (h : (textI l).2.2 = 0) : ∃ (s : List Int) (k : Nat), textI l = (s, (k : Int), 0) ∧ Bytes s ∧ s.length ≤ 2000 ∧ 1 ≤ k ∧ k ≤ l.length ∧ l.take k = putN s.length ++ s := by
  unfold textI at h ⊢
  by_cases h1 : (getI l).2.2 ≠ 0
  · rw [if_pos h1] at h; exact absurd h h1
  · rw [if_neg h1] at h ⊢
    obtain ⟨n, k, hg, hn, hk1, hk9, hkl, ht⟩ := getI_tells hb (by simpa using h1)
    rw [hg] at h ⊢
    simp only [Int.toNat_natCast] at h ⊢
    by_cases h2 : (n : Int) > 2000
    · rw [if_pos h2] at h; simp at h
    · rw [if_neg h2] at h ⊢
      by_cases h3 : (l.length : Int) - (k : Int) < (n : Int)
      · rw [if_pos h3] at h; simp at h
      · rw [if_neg h3]
        have hl1 : ((l.drop k).take n).length = n := by simp; omega
        refine ⟨(l.drop k).take n, k + n, by simp, (hb.drop k).take n, by omega, by omega, by omega, ?_⟩
        rw [hl1, ← ht, List.take_add]
def listA (l : List Int) : Nat → Nat → List Int → List Int × Int × Int
  | 0, p, acc => (acc, (p : Int), 0)
  | m + 1, p, acc => if (getI (l.drop p)).2.2 = 0 then listA l m (p + (getI (l.drop p)).2.1.toNat) (acc ++ [(getI (l.drop p)).1]) else ([], 0, (getI (l.drop p)).2.2)
def listI (l : List Int) : List Int × Int × Int :=
  if (getI l).2.2 ≠ 0 then ([], 0, (getI l).2.2) else
  if (getI l).1 > 10000 then ([], 0, 4) else listA l (getI l).1.toNat (getI l).2.1.toNat []
def putL (l : List Int) : List Int := (l.map fun n => putN n.toNat).flatten
theorem putL_cons (n : Int) (l : List Int) : putL (n :: l) = putN n.toNat ++ putL l := rfl
theorem putL_append (a b : List Int) : putL (a ++ b) = putL a ++ putL b := by simp [putL]
theorem putL_bytes (l : List Int) : Bytes (putL l) := by
  induction l with
  | nil => intro x hx; simp [putL] at hx
  | cons n l ih => rw [putL_cons]; exact (putN_bytes _).append ih
def Nats (l : List Int) : Prop := ∀ x ∈ l, 0 ≤ x ∧ x < 9223372036854775808
theorem listA_put (x : List Int) (hx : Nats x) : ∀ (p r acc : List Int), listA (p ++ putL x ++ r) x.length p.length acc = (acc ++ x, (((p ++ putL x).length : Nat) : Int), 0) := by
  induction x with
  | nil => intro p r acc; simp [listA, putL]
  | cons n x ih =>
    intro p r acc
    have hn := hx n (by simp)
    have e : (p ++ putL (n :: x) ++ r).drop p.length = putN n.toNat ++ (putL x ++ r) := by
      rw [putL_cons, List.append_assoc, List.drop_left, List.append_assoc]
    have hg := getI_put n.toNat (putL x ++ r) (by omega)
    simp only [List.length_cons, listA]
    rw [e, hg]
    simp only [if_true, Int.toNat_natCast]
    have h9 := ih (fun y hy => hx y (by simp [hy])) (p ++ putN n.toNat) r (acc ++ [((n.toNat : Nat) : Int)])
    have e2 : p ++ putN n.toNat ++ putL x ++ r = p ++ putL (n :: x) ++ r := by rw [putL_cons]; simp
    rw [e2, List.length_append] at h9
    rw [h9, putL_cons, Int.toNat_of_nonneg hn.1]
    simp
theorem listI_put (x r : List Int) (hx : Nats x) (hl : x.length ≤ 10000) : listI (putN x.length ++ putL x ++ r) = (x, (((putN x.length ++ putL x).length : Nat) : Int), 0) := by
  have hg := getI_put x.length (putL x ++ r) (by omega)
  have h9 := listA_put x hx (putN x.length) r []
  unfold listI
  have e : getI (putN x.length ++ putL x ++ r) = ((x.length : Int), (((putN x.length).length : Nat) : Int), 0) := by rw [List.append_assoc]; exact hg
  rw [e]
  simp only [ne_eq, not_true_eq_false, if_false, Int.toNat_natCast]
  rw [if_neg (by omega), h9]; simp
theorem listA_tells {l : List Int} (hb : Bytes l) : ∀ (m p : Nat) (acc : List Int), p ≤ l.length → (listA l m p acc).2.2 = 0 → ∃ (x : List Int) (k : Nat), listA l m p acc = (acc ++ x, (k : Int), 0) ∧ Nats x ∧ x.length = m ∧ p ≤ k ∧ k ≤ l.length ∧ (l.drop p).take (k - p) = putL x := by
  intro m
  induction m with
  | zero => intro p acc hp _; exact ⟨[], p, by simp [listA], fun x hx => by simp at hx, rfl, Nat.le_refl _, hp, by simp [putL]⟩
  | succ m ih =>
    intro p acc hp h
    simp only [listA] at h ⊢
    by_cases h1 : (getI (l.drop p)).2.2 = 0
    · rw [if_pos h1] at h ⊢
      obtain ⟨n, k, hg, hn, hk1, hk9, hkl, ht⟩ := getI_tells (hb.drop p) h1
      rw [hg] at h ⊢
      simp only [Int.toNat_natCast] at h ⊢
      have hkl2 : p + k ≤ l.length := by simp at hkl; omega
      obtain ⟨x, k2, he, hx, hxl, hpk, hkl3, ht2⟩ := ih (p + k) (acc ++ [(n : Int)]) hkl2 h
      refine ⟨(n : Int) :: x, k2, by rw [he]; simp, ?_, by simp [hxl], by omega, hkl3, ?_⟩
      · intro y hy
        rcases List.mem_cons.mp hy with rfl | hy
        · omega
        · exact hx y hy
      · have e : k2 - p = k + (k2 - (p + k)) := by omega
        rw [e, List.take_add, ht, List.drop_drop, ht2, putL_cons, Int.toNat_natCast]
    · rw [if_neg h1] at h; exact absurd h h1
theorem listI_tells {l : List Int} (hb : Bytes l) (h : (listI l).2.2 = 0) : ∃ (x : List Int) (k : Nat), listI l = (x, (k : Int), 0) ∧ Nats x ∧ x.length ≤ 10000 ∧ 1 ≤ k ∧ k ≤ l.length ∧ l.take k = putN x.length ++ putL x := by
  unfold listI at h ⊢
  by_cases h1 : (getI l).2.2 ≠ 0
  · rw [if_pos h1] at h; exact absurd h h1
  · rw [if_neg h1] at h ⊢
    obtain ⟨n, k, hg, hn, hk1, hk9, hkl, ht⟩ := getI_tells hb (by simpa using h1)
    rw [hg] at h ⊢
    simp only [Int.toNat_natCast] at h ⊢
    by_cases h2 : (n : Int) > 10000
    · rw [if_pos h2] at h; simp at h
    · rw [if_neg h2] at h ⊢
      obtain ⟨x, k2, he, hx, hxl, hpk, hkl3, ht2⟩ := listA_tells hb n k [] hkl h
      refine ⟨x, k2, by rw [he]; simp, hx, by omega, by omega, hkl3, ?_⟩
      have e : k2 = k + (k2 - k) := by omega
      rw [e, List.take_add, ht, hxl, ht2]
end Go.Proofs.Ytdlinojgmllkoaa.MCodec
namespace Go.Proofs.Ytdlinojgmllkoaa.MMedia
open Go.RowKit Go.Proofs.YtdlinojgmllkoaaW.PrintWords Go.Proofs.YtdlinojgmllkoaaW.PrintMore Go.Proofs.Ytdlinojgmllkoaa.MSeal Go.Proofs.Ytdlinojgmllkoaa.MCrc Go.Proofs.Ytdlinojgmllkoaa.MCodec
structure Med where
  s : Int
  c : Int
  p : Int
  f : Int
  l : Int
  t : Int
  i : Int
  a : Int
  g : Int
def zeroM : Med := ⟨0, 0, 0, 0, 0, 0, 0, 0, 0⟩
def rangeB (m : Med) : Bool := decide (1 ≤ m.s ∧ m.s ≤ 9999 ∧ 1 ≤ m.p ∧ m.p ≤ 9999 ∧ 0 ≤ m.c ∧ m.c ≤ 1000000 ∧ -1 ≤ m.f ∧ m.f ≤ 20000000 ∧ -1 ≤ m.a ∧ m.a ≤ 20000000 ∧ 0 ≤ m.l ∧ m.l ≤ 100 ∧ -1 ≤ m.t ∧ m.t ≤ 231 ∧ 0 ≤ m.i ∧ m.i ≤ 9999)
def stateB (m : Med) : Bool := decide ((m.f = -1 ∧ m.a ≠ -1) ∨ (m.a = -1 ∧ (m.i ≠ 0 ∨ m.t ≠ -1)) ∨ m.f > m.a)
def rightM (m : Med) : Int := if rangeB m = true then (if stateB m = true then 10 else 0) else 2
theorem right_range {m : Med} (h : rightM m = 0) : 1 ≤ m.s ∧ m.s ≤ 9999 ∧ 1 ≤ m.p ∧ m.p ≤ 9999 ∧ 0 ≤ m.c ∧ m.c ≤ 1000000 ∧ -1 ≤ m.f ∧ m.f ≤ 20000000 ∧ -1 ≤ m.a ∧ m.a ≤ 20000000 ∧ 0 ≤ m.l ∧ m.l ≤ 100 ∧ -1 ≤ m.t ∧ m.t ≤ 231 ∧ 0 ≤ m.i ∧ m.i ≤ 9999 := by
  unfold rightM at h
  by_cases hr : rangeB m = true
  · unfold rangeB at hr; exact of_decide_eq_true hr
  · rw [if_neg hr] at h; simp at h
def numsM (m : Med) : List Int := [m.s, m.c, m.p, m.f + 1, m.l, m.t + 1, m.i, m.a + 1]
theorem nums_nats {m : Med} (h : rightM m = 0) : Nats (numsM m) := by
  have hr := right_range h
  intro x hx
  simp only [numsM, List.mem_cons, List.not_mem_nil, or_false] at hx
  rcases hx with rfl | rfl | rfl | rfl | rfl | rfl | rfl | rfl <;> omega
def bodyN (m : Med) : List Int := putL (numsM m)
theorem body_bytes (m : Med) : Bytes (bodyN m) := putL_bytes _
theorem putL_len9 (x : List Int) (hx : ∀ n ∈ x, n < 9223372036854775808) : (putL x).length ≤ 9 * x.length := by
  induction x with
  | nil => simp [putL]
  | cons n x ih =>
    have h1 := putN_len9 n.toNat (by have := hx n (by simp); omega)
    have h2 := ih (fun m hm => hx m (by simp [hm]))
    rw [putL_cons]; simp; omega
theorem body_len {m : Med} (h : rightM m = 0) : (bodyN m).length ≤ 72 := by
  have := putL_len9 (numsM m) (fun n hn => (nums_nats h n hn).2)
  exact this
def be8 (t : Nat) : List Int := [((t / 72057594037927936 % 256 : Nat) : Int), ((t / 281474976710656 % 256 : Nat) : Int), ((t / 1099511627776 % 256 : Nat) : Int), ((t / 4294967296 % 256 : Nat) : Int), ((t / 16777216 % 256 : Nat) : Int), ((t / 65536 % 256 : Nat) : Int), ((t / 256 % 256 : Nat) : Int), ((t % 256 : Nat) : Int)]
theorem be8_len (t : Nat) : (be8 t).length = 8 := rfl
theorem be8_bytes (t : Nat) : Bytes (be8 t) := fun x hx => by
  simp only [be8, List.mem_cons, List.not_mem_nil, or_false] at hx
  rcases hx with rfl | rfl | rfl | rfl | rfl | rfl | rfl | rfl <;> omega
theorem be8_at (t i : Nat) (h : i < 8) : (be8 t).getD i 0 = ((t / 2 ^ (8 * (7 - i)) % 256 : Nat) : Int) := by
  have hc : i = 0 ∨ i = 1 ∨ i = 2 ∨ i = 3 ∨ i = 4 ∨ i = 5 ∨ i = 6 ∨ i = 7 := by omega
  rcases hc with rfl | rfl | rfl | rfl | rfl | rfl | rfl | rfl
  · rfl
  · rfl
  · rfl
  · rfl
  · rfl
  · rfl
  · rfl
  · show ((t % 256 : Nat) : Int) = ((t / 1 % 256 : Nat) : Int)
    rw [Nat.div_one]
def tagF (t : Int) (l : List Int) : Int := l.foldl (fun t c => Go.bits .or .u64 (IntKind.u64.wrap (t * 256)) (IntKind.u64.wrap c)) t
theorem tagF_snoc (t : Int) (l : List Int) (c : Int) : tagF t (l ++ [c]) = Go.bits .or .u64 (IntKind.u64.wrap (tagF t l * 256)) (IntKind.u64.wrap c) := by
  unfold tagF; rw [List.foldl_append]; rfl
theorem tag_step (q c : Nat) (hq : q < 72057594037927936) (hc : c < 256) : Go.bits .or .u64 (IntKind.u64.wrap ((q : Int) * 256)) (IntKind.u64.wrap (c : Int)) = ((q * 256 + c : Nat) : Int) := by
  have e1 : IntKind.u64.wrap ((q : Int) * 256) = ((2 ^ 8 * q : Nat) : Int) := by rw [u64_wrap]; omega
  rw [e1, u64_nat c (by omega), or_u64 _ _ (by omega) (by omega), ← Nat.two_pow_add_eq_or_of_lt (by omega : c < 2 ^ 8)]
  congr 1; omega
theorem dstep1 (t : Nat) : t / 72057594037927936 * 256 + t / 281474976710656 % 256 = t / 281474976710656 := by
  rw [show (72057594037927936 : Nat) = 281474976710656 * 256 from rfl, ← Nat.div_div_eq_div_mul]
  generalize t / 281474976710656 = x
  omega
theorem dstep2 (t : Nat) : t / 281474976710656 * 256 + t / 1099511627776 % 256 = t / 1099511627776 := by
  rw [show (281474976710656 : Nat) = 1099511627776 * 256 from rfl, ← Nat.div_div_eq_div_mul]
  generalize t / 1099511627776 = x
  omega
theorem dstep3 (t : Nat) : t / 1099511627776 * 256 + t / 4294967296 % 256 = t / 4294967296 := by
  rw [show (1099511627776 : Nat) = 4294967296 * 256 from rfl, ← Nat.div_div_eq_div_mul]
  generalize t / 4294967296 = x
  omega
theorem dstep4 (t : Nat) : t / 4294967296 * 256 + t / 16777216 % 256 = t / 16777216 := by
  rw [show (4294967296 : Nat) = 16777216 * 256 from rfl, ← Nat.div_div_eq_div_mul]
  generalize t / 16777216 = x
  omega
theorem dstep5 (t : Nat) : t / 16777216 * 256 + t / 65536 % 256 = t / 65536 := by
  rw [show (16777216 : Nat) = 65536 * 256 from rfl, ← Nat.div_div_eq_div_mul]
  generalize t / 65536 = x
  omega
theorem dstep6 (t : Nat) : t / 65536 * 256 + t / 256 % 256 = t / 256 := by
  rw [show (65536 : Nat) = 256 * 256 from rfl, ← Nat.div_div_eq_div_mul]
  generalize t / 256 = x
  omega
theorem dstep7 (t : Nat) : t / 256 * 256 + t % 256 = t := by omega
theorem dstep0 (t : Nat) (h : t < 2 ^ 64) : 0 * 256 + t / 72057594037927936 % 256 = t / 72057594037927936 := by omega
theorem dlt0 (t : Nat) (h : t < 2 ^ 64) : t / 72057594037927936 < 72057594037927936 := by omega
theorem dlt1 (t : Nat) (h : t < 2 ^ 64) : t / 281474976710656 < 72057594037927936 := by omega
theorem dlt2 (t : Nat) (h : t < 2 ^ 64) : t / 1099511627776 < 72057594037927936 := by omega
theorem dlt3 (t : Nat) (h : t < 2 ^ 64) : t / 4294967296 < 72057594037927936 := by omega
theorem dlt4 (t : Nat) (h : t < 2 ^ 64) : t / 16777216 < 72057594037927936 := by omega
theorem dlt5 (t : Nat) (h : t < 2 ^ 64) : t / 65536 < 72057594037927936 := by omega
theorem dlt6 (t : Nat) (h : t < 2 ^ 64) : t / 256 < 72057594037927936 := by omega
theorem tagF_be8 (t : Nat) (h : t < 2 ^ 64) : tagF 0 (be8 t) = (t : Int) := by
  have e0 := tag_step 0 (t / 72057594037927936 % 256) (by decide) (Nat.mod_lt _ (by decide))
  have e1 := tag_step (t / 72057594037927936) (t / 281474976710656 % 256) (dlt0 t h) (Nat.mod_lt _ (by decide))
  have e2 := tag_step (t / 281474976710656) (t / 1099511627776 % 256) (dlt1 t h) (Nat.mod_lt _ (by decide))
  have e3 := tag_step (t / 1099511627776) (t / 4294967296 % 256) (dlt2 t h) (Nat.mod_lt _ (by decide))
  have e4 := tag_step (t / 4294967296) (t / 16777216 % 256) (dlt3 t h) (Nat.mod_lt _ (by decide))
  have e5 := tag_step (t / 16777216) (t / 65536 % 256) (dlt4 t h) (Nat.mod_lt _ (by decide))
  have e6 := tag_step (t / 65536) (t / 256 % 256) (dlt5 t h) (Nat.mod_lt _ (by decide))
  have e7 := tag_step (t / 256) (t % 256) (dlt6 t h) (Nat.mod_lt _ (by decide))
  have f0 := dstep0 t h
  have f1 := dstep1 t
  have f2 := dstep2 t
  have f3 := dstep3 t
  have f4 := dstep4 t
  have f5 := dstep5 t
  have f6 := dstep6 t
  have f7 := dstep7 t
  rw [f0] at e0
  rw [f1] at e1
  rw [f2] at e2
  rw [f3] at e3
  rw [f4] at e4
  rw [f5] at e5
  rw [f6] at e6
  rw [f7] at e7
  unfold tagF be8
  simp only [List.foldl_cons, List.foldl_nil]
  have z : ((0 : Nat) : Int) = 0 := rfl
  rw [z] at e0
  rw [e0, e1, e2, e3, e4, e5, e6, e7]
def encN (m : Med) : List Int := frameN (bodyN m ++ be8 m.g.toNat)
theorem enc_bytes (m : Med) : Bytes (encN m) := frameN_bytes ((body_bytes m).append (be8_bytes _))
def ofNums (ns b : List Int) : Med := ⟨rd ns 0, rd ns 1, rd ns 2, wrap64 (rd ns 3 - 1), rd ns 4, wrap64 (rd ns 5 - 1), rd ns 6, wrap64 (rd ns 7 - 1), tagF 0 b⟩
def readA : Nat → List Int → List Int → Med
  | 0, b, ns => ofNums ns b
  | m + 1, b, ns => if (getI b).2.2 = 0 then readA m (b.drop (getI b).2.1.toNat) (ns ++ [(getI b).1]) else zeroM
def readB : Nat → List Int → List Int → Med
  | 0, b, ns => ofNums ns (b.take 8)
  | m + 1, b, ns => if (getI b).2.2 = 0 then (if (getI b).1 > 20000001 then zeroM else readB m (b.drop (getI b).2.1.toNat) (ns ++ [(getI b).1])) else zeroM
theorem readA_put (x : List Int) (hx : Nats x) : ∀ (r ns : List Int), readA x.length (putL x ++ r) ns = ofNums (ns ++ x) r := by
  induction x with
  | nil => intro r ns; simp [readA, putL]
  | cons n x ih =>
    intro r ns
    have hn := hx n (by simp)
    have hg := getI_put n.toNat (putL x ++ r) (by omega)
    simp only [List.length_cons, readA]
    rw [putL_cons, List.append_assoc, hg]
    simp only [if_true, Int.toNat_natCast]
    rw [List.drop_left, ih (fun y hy => hx y (by simp [hy])), Int.toNat_of_nonneg hn.1]
    simp
theorem readB_put (x : List Int) (hx : ∀ n ∈ x, 0 ≤ n ∧ n ≤ 20000001) : ∀ (r ns : List Int), readB x.length (putL x ++ r) ns = ofNums (ns ++ x) (r.take 8) := by
  induction x with
  | nil => intro r ns; simp [readB, putL]
  | cons n x ih =>
    intro r ns
    have hn := hx n (by simp)
    have hg := getI_put n.toNat (putL x ++ r) (by omega)
    simp only [List.length_cons, readB]
    rw [putL_cons, List.append_assoc, hg]
    simp only [if_true, Int.toNat_natCast]
    rw [if_neg (by omega), List.drop_left, ih (fun y hy => hx y (by simp [hy])), Int.toNat_of_nonneg hn.1]
    simp
theorem ofNums_nums {m : Med} (h : rightM m = 0) (hg0 : 0 ≤ m.g) (hg1 : m.g < 18446744073709551616) : ofNums (numsM m) (be8 m.g.toNat) = m := by
  have hr := right_range h
  unfold ofNums
  rw [tagF_be8 _ (by omega)]
  have e3 : wrap64 (rd (numsM m) 3 - 1) = m.f := by
    have : rd (numsM m) 3 = m.f + 1 := rfl
    rw [this]; unfold wrap64; omega
  have e5 : wrap64 (rd (numsM m) 5 - 1) = m.t := by
    have : rd (numsM m) 5 = m.t + 1 := rfl
    rw [this]; unfold wrap64; omega
  have e7 : wrap64 (rd (numsM m) 7 - 1) = m.a := by
    have : rd (numsM m) 7 = m.a + 1 := rfl
    rw [this]; unfold wrap64; omega
  have e8 : ((m.g.toNat : Nat) : Int) = m.g := by omega
  rw [e3, e5, e7, e8]
  rfl
theorem readA_body {m : Med} (h : rightM m = 0) (hg0 : 0 ≤ m.g) (hg1 : m.g < 18446744073709551616) : readA 8 (bodyN m ++ be8 m.g.toNat) [] = m := by
  have := readA_put (numsM m) (nums_nats h) (be8 m.g.toNat) []
  have e : (numsM m).length = 8 := rfl
  rw [e, List.nil_append] at this
  unfold bodyN
  rw [this, ofNums_nums h hg0 hg1]
theorem readB_body {m : Med} (h : rightM m = 0) (hg0 : 0 ≤ m.g) (hg1 : m.g < 18446744073709551616) : readB 8 (bodyN m ++ be8 m.g.toNat) [] = m := by
  have hr := right_range h
  have := readB_put (numsM m) (by
    intro x hx
    simp only [numsM, List.mem_cons, List.not_mem_nil, or_false] at hx
    rcases hx with rfl | rfl | rfl | rfl | rfl | rfl | rfl | rfl <;> omega) (be8 m.g.toNat) []
  have e : (numsM m).length = 8 := rfl
  have e2 : (be8 m.g.toNat).take 8 = be8 m.g.toNat := rfl
  rw [e, List.nil_append, e2] at this
  unfold bodyN
  rw [this, ofNums_nums h hg0 hg1]
theorem tagF_range (l : List Int) : 0 ≤ tagF 0 l ∧ tagF 0 l < 18446744073709551616 := by
  rcases List.eq_nil_or_concat l with rfl | ⟨p, c, rfl⟩
  · simp [tagF]
  · rw [List.concat_eq_append, tagF_snoc]
    have : ∀ x y : Int, 0 ≤ Go.bits .or .u64 x y ∧ Go.bits .or .u64 x y < 18446744073709551616 := fun x y => by
      unfold Go.bits; simp only; rw [u64_wrap]; omega
    exact this _ _
theorem readA_g : ∀ (k : Nat) (b ns : List Int), 0 ≤ (readA k b ns).g ∧ (readA k b ns).g < 18446744073709551616 := by
  intro k
  induction k with
  | zero => intro b ns; exact tagF_range b
  | succ k ih =>
    intro b ns
    simp only [readA]
    split
    · exact ih _ _
    · exact ⟨Int.le_refl _, by decide⟩
theorem readB_g : ∀ (k : Nat) (b ns : List Int), 0 ≤ (readB k b ns).g ∧ (readB k b ns).g < 18446744073709551616 := by
  intro k
  induction k with
  | zero => intro b ns; exact tagF_range _
  | succ k ih =>
    intro b ns
    simp only [readB]
    split
    · split
      · exact ⟨Int.le_refl _, by decide⟩
      · exact ih _ _
    · exact ⟨Int.le_refl _, by decide⟩
def decI (l : List Int) : Med × Int :=
  if (unI l).2.2 ≠ 0 then (zeroM, (unI l).2.2) else
  if (unI l).2.1 ≠ (l.length : Int) then (zeroM, 4) else
  if rightM (readA 8 (unI l).1 []) = 0 ∧ encN (readA 8 (unI l).1 []) = l then (readA 8 (unI l).1 [], 0) else (zeroM, 3)
theorem enc_len {m : Med} (h : rightM m = 0) : (bodyN m ++ be8 m.g.toNat).length ≤ 80 := by
  have := body_len h
  rw [List.length_append, be8_len]; omega
theorem unI_enc {m : Med} (h : rightM m = 0) (r : List Int) : unI (encN m ++ r) = (bodyN m ++ be8 m.g.toNat, (((encN m).length : Nat) : Int), 0) :=
  unI_frame _ r ((body_bytes m).append (be8_bytes _)) (by have := enc_len h; omega)
theorem dec_enc {m : Med} (h : rightM m = 0) (hg0 : 0 ≤ m.g) (hg1 : m.g < 18446744073709551616) : decI (encN m) = (m, 0) := by
  have hu := unI_enc h []
  rw [List.append_nil] at hu
  have hr := readA_body h hg0 hg1
  unfold decI
  rw [hu]
  simp only [ne_eq, not_true_eq_false, if_false]
  rw [hr, if_pos ⟨h, rfl⟩]
theorem decB {l : List Int} (_hb : Bytes l) (h1 : (unI l).2.2 = 0) (h2 : (unI l).2.1 = (l.length : Int)) :
    (if rightM (readB 8 (unI l).1 []) = 0 ∧ encN (readB 8 (unI l).1 []) = l then (readB 8 (unI l).1 [], 0) else (zeroM, (3 : Int))) = decI l := by
  have hD : decI l = (if rightM (readA 8 (unI l).1 []) = 0 ∧ encN (readA 8 (unI l).1 []) = l then (readA 8 (unI l).1 [], 0) else (zeroM, 3)) := by
    unfold decI
    rw [if_neg (fun h => h h1), if_neg (fun h => h h2)]
  rw [hD]
  have key : ∀ m : Med, rightM m = 0 → 0 ≤ m.g → m.g < 18446744073709551616 → encN m = l → readA 8 (unI l).1 [] = m ∧ readB 8 (unI l).1 [] = m := fun m hm h0 h9 he => by
    have hu := unI_enc hm []
    rw [List.append_nil, he] at hu
    rw [hu]
    exact ⟨readA_body hm h0 h9, readB_body hm h0 h9⟩
  by_cases hA : rightM (readA 8 (unI l).1 []) = 0 ∧ encN (readA 8 (unI l).1 []) = l
  · have hg := readA_g 8 (unI l).1 []
    have := key _ hA.1 hg.1 hg.2 hA.2
    rw [this.2]
  · rw [if_neg hA]
    by_cases hB : rightM (readB 8 (unI l).1 []) = 0 ∧ encN (readB 8 (unI l).1 []) = l
    · have hg := readB_g 8 (unI l).1 []
      have := key _ hB.1 hg.1 hg.2 hB.2
      have e9 : readA 8 (unI l).1 [] = readB 8 (unI l).1 [] := this.1
      exact absurd (by rw [e9]; exact hB) hA
    · rw [if_neg hB]
def keyN (key : Nat) (i : Int) : Nat := mixN ((key + (i % 18446744073709551616).toNat * 11400714819323198485) % 2 ^ 64)
theorem keyN_lt (key : Nat) (i : Int) : keyN key i < 2 ^ 64 := mixN_lt _
def signN (key : Nat) (m : Med) : Nat := tagN (keyN key m.s) (bodyN m)
theorem signN_lt (key : Nat) (m : Med) : signN key m < 2 ^ 64 := tagN_lt _ _
def blockA (a b : List Int) : Nat → Nat → Int → Int
  | 0, _, at_ => at_
  | m + 1, i, at_ => if a.getD i 0 = b.getD i 0 ∨ at_ = ((i / 8 : Nat) : Int) then blockA a b m (i + 1) at_ else if at_ ≥ 0 then -1 else blockA a b m (i + 1) ((i / 8 : Nat) : Int)
def blockI (a b : List Int) : Int := if a.length = b.length then blockA a b a.length 0 (-1) else -1
theorem blockA_tells (a b : List Int) : ∀ (m i : Nat) (at_ : Int), (at_ = -1 ∨ 0 ≤ at_) → 0 ≤ blockA a b m i at_ →
    (∀ j, i ≤ j → j < i + m → a.getD j 0 ≠ b.getD j 0 → ((j / 8 : Nat) : Int) = blockA a b m i at_) ∧ (0 ≤ at_ → blockA a b m i at_ = at_) ∧ (at_ = -1 → ∃ j, i ≤ j ∧ j < i + m ∧ a.getD j 0 ≠ b.getD j 0) := by
  intro m
  induction m with
  | zero =>
    intro i at_ hat h
    simp only [blockA] at h ⊢
    exact ⟨fun j h1 h2 => by omega, fun _ => trivial, fun e => by omega⟩
  | succ m ih =>
    intro i at_ hat h
    simp only [blockA] at h ⊢
    by_cases h1 : a.getD i 0 = b.getD i 0 ∨ at_ = ((i / 8 : Nat) : Int)
    · rw [if_pos h1] at h ⊢
      obtain ⟨p1, p2, p3⟩ := ih (i + 1) at_ hat h
      refine ⟨fun j hj1 hj2 hne => ?_, p2, fun e => ?_⟩
      · by_cases hji : j = i
        · subst hji
          rcases h1 with h1 | h1
          · exact absurd h1 hne
          · rw [p2 (by omega), h1]
        · exact p1 j (by omega) (by omega) hne
      · obtain ⟨j, q1, q2, q3⟩ := p3 e
        exact ⟨j, by omega, by omega, q3⟩
    · rw [if_neg h1] at h ⊢
      have hne : a.getD i 0 ≠ b.getD i 0 := fun e => h1 (Or.inl e)
      by_cases h2 : at_ ≥ 0
      · rw [if_pos h2] at h; omega
      · rw [if_neg h2] at h ⊢
        obtain ⟨p1, p2, p3⟩ := ih (i + 1) ((i / 8 : Nat) : Int) (Or.inr (by omega)) h
        refine ⟨fun j hj1 hj2 hj => ?_, fun h9 => absurd h9 h2, fun _ => ⟨i, Nat.le_refl _, by omega, hne⟩⟩
        by_cases hji : j = i
        · subst hji; rw [p2 (by omega)]
        · exact p1 j (by omega) (by omega) hj
theorem ext_getD {a b : List Int} (hl : a.length = b.length) (h : ∀ j, j < a.length → a.getD j 0 = b.getD j 0) : a = b := by
  apply List.ext_getElem hl
  intro j h1 h2
  have := h j h1
  rw [List.getD_eq_getElem?_getD, List.getD_eq_getElem?_getD, List.getElem?_eq_getElem h1, List.getElem?_eq_getElem h2] at this
  exact this
theorem getD_take (a : List Int) (n j : Nat) (h : j < n) : (a.take n).getD j 0 = a.getD j 0 := by
  rw [List.getD_eq_getElem?_getD, List.getD_eq_getElem?_getD, List.getElem?_take_of_lt h]
theorem getD_drop (a : List Int) (n j : Nat) : (a.drop n).getD j 0 = a.getD (n + j) 0 := by
  rw [List.getD_eq_getElem?_getD, List.getD_eq_getElem?_getD, List.getElem?_drop]
theorem tag_block {key : Nat} {a b : List Int} (ba : Bytes a) (bb : Bytes b) (hlen : a.length < 2 ^ 64) (h : 0 ≤ blockI a b) : tagN key a ≠ tagN key b := by
  unfold blockI at h
  by_cases hl : a.length = b.length
  · rw [if_pos hl] at h
    obtain ⟨p1, _, p3⟩ := blockA_tells a b a.length 0 (-1) (Or.inl rfl) h
    obtain ⟨d, _, hd2, hd3⟩ := p3 rfl
    have hdd := p1 d (by omega) (by omega) hd3
    have hp : ∀ j, j < a.length → a.getD j 0 ≠ b.getD j 0 → j / 8 = d / 8 := fun j hj hne => by
      have := p1 j (by omega) (by omega) hne
      omega
    have ea : a = a.take (8 * (d / 8)) ++ ((a.drop (8 * (d / 8))).take 8 ++ (a.drop (8 * (d / 8))).drop 8) := by
      rw [List.take_append_drop, List.take_append_drop]
    have eb : b = b.take (8 * (d / 8)) ++ ((b.drop (8 * (d / 8))).take 8 ++ (b.drop (8 * (d / 8))).drop 8) := by
      rw [List.take_append_drop, List.take_append_drop]
    have e1 : a.take (8 * (d / 8)) = b.take (8 * (d / 8)) := by
      apply ext_getD (by simp; omega)
      intro j hj
      have hj8 : j < 8 * (d / 8) := by simp at hj; omega
      rw [getD_take _ _ _ hj8, getD_take _ _ _ hj8]
      by_cases hne : a.getD j 0 = b.getD j 0
      · exact hne
      · have := hp j (by omega) hne
        omega
    have e2 : (a.drop (8 * (d / 8))).drop 8 = (b.drop (8 * (d / 8))).drop 8 := by
      rw [List.drop_drop, List.drop_drop]
      apply ext_getD (by simp; omega)
      intro j hj
      rw [getD_drop, getD_drop]
      by_cases hne : a.getD (8 * (d / 8) + 8 + j) 0 = b.getD (8 * (d / 8) + 8 + j) 0
      · exact hne
      · have hj2 : 8 * (d / 8) + 8 + j < a.length := by simp at hj; omega
        have := hp _ hj2 hne
        omega
    intro e
    unfold tagN at e
    have t1 := tags_lt (mixN_lt key) ba
    have t2 := tags_lt (mixN_lt key) bb
    rw [← hl] at e
    have e3 := mixN_inj (Nat.xor_lt_two_pow t1 hlen) (Nat.xor_lt_two_pow t2 hlen) e
    have e4 := xor_inj' _ _ _ e3
    rw [ea, eb, ← e1, ← e2] at e4
    have hpl : (a.take (8 * (d / 8))).length % 8 = 0 := by
      rw [List.length_take, Nat.min_eq_left (by omega)]; omega
    have h88 : ((a.drop (8 * (d / 8))).take 8).length = 8 ∨ (((a.drop (8 * (d / 8))).take 8).length < 8 ∧ (a.drop (8 * (d / 8))).drop 8 = []) := by
      by_cases hh : 8 ≤ (a.drop (8 * (d / 8))).length
      · left; rw [List.length_take]; omega
      · right; exact ⟨by rw [List.length_take]; omega, List.drop_eq_nil_of_le (by omega)⟩
    have e5 := tags_block _ _ _ _ _ (mixN_lt key) hpl (by simp; omega) h88 ((ba.drop _).take 8) ((bb.drop _).take 8) ((ba.drop _).drop 8) (ba.take _) e4
    apply hd3
    have g1 : ((a.drop (8 * (d / 8))).take 8).getD (d % 8) 0 = a.getD d 0 := by
      rw [getD_take _ _ _ (by omega), getD_drop]; congr 1; omega
    have g2 : ((b.drop (8 * (d / 8))).take 8).getD (d % 8) 0 = b.getD d 0 := by
      rw [getD_take _ _ _ (by omega), getD_drop]; congr 1; omega
    rw [← g1, ← g2, e5]
  · rw [if_neg hl] at h; omega
end Go.Proofs.Ytdlinojgmllkoaa.MMedia
