/- Plain arithmetic of the tags of layer 4: the mixing of a number, the blocks of a string, and what a tag tells of them. No program and no memory in it. -/
import Derived.Test.YtohjkgboehnamaaWp
import Derived.Laws.BitsLemmas
namespace Go.Proofs.Ytohjkgboehnamaa.MSeal
open Go.RowKit Go.Proofs.YtohjkgboehnamaaW.PrintWords Go.Proofs.YtohjkgboehnamaaW.PrintMore

theorem xor_cancel4 (a b c d : Nat) (h : a ^^^ b = c ^^^ d) : a ^^^ c = b ^^^ d := by
  have e : (a ^^^ b) ^^^ (b ^^^ c) = (c ^^^ d) ^^^ (b ^^^ c) := by rw [h]
  have e1 : (a ^^^ b) ^^^ (b ^^^ c) = a ^^^ c := by rw [Nat.xor_assoc, ← Nat.xor_assoc b b c, Nat.xor_self, Nat.zero_xor]
  have e2 : (c ^^^ d) ^^^ (b ^^^ c) = b ^^^ d := by
    rw [Nat.xor_comm b c, Nat.xor_comm c d, Nat.xor_assoc, ← Nat.xor_assoc c c b, Nat.xor_self, Nat.zero_xor, Nat.xor_comm]
  rw [← e1, e, e2]
theorem xor_eq_zero (x y : Nat) (h : x ^^^ y = 0) : x = y := by
  have : x ^^^ y ^^^ y = 0 ^^^ y := by rw [h]
  rwa [Nat.xor_assoc, Nat.xor_self, Nat.xor_zero, Nat.zero_xor] at this
theorem xor_inj (h x y : Nat) (e : h ^^^ x = h ^^^ y) : x = y := by
  apply xor_eq_zero
  have := xor_cancel4 h x h y e
  rw [← this, Nat.xor_self]
theorem xor_inj' (h x y : Nat) (e : x ^^^ h = y ^^^ h) : x = y := by
  rw [Nat.xor_comm x, Nat.xor_comm y] at e; exact xor_inj h x y e
theorem xorshift_inj (s : Nat) (hs : 0 < s) (x y : Nat) (h : x ^^^ x / 2 ^ s = y ^^^ y / 2 ^ s) : x = y := by
  have h2 : (x ^^^ y) = (x ^^^ y) / 2 ^ s := by
    rw [← Nat.shiftRight_eq_div_pow, Nat.shiftRight_xor_distrib, Nat.shiftRight_eq_div_pow, Nat.shiftRight_eq_div_pow]
    exact xor_cancel4 _ _ _ _ h
  have h5 : x ^^^ y = 0 := by
    by_cases hz : x ^^^ y = 0
    · exact hz
    · have : (x ^^^ y) / 2 ^ s < x ^^^ y := Nat.div_lt_self (by omega) (by have := Nat.one_lt_two_pow (n := s) (by omega); omega)
      omega
  exact xor_eq_zero _ _ h5
theorem mul_inj (c d : Nat) (hcd : c * d % 2 ^ 64 = 1) (x y : Nat) (hx : x < 2 ^ 64) (hy : y < 2 ^ 64) (h : x * c % 2 ^ 64 = y * c % 2 ^ 64) : x = y := by
  have k : ∀ z, z < 2 ^ 64 → (z * c % 2 ^ 64) * d % 2 ^ 64 = z := fun z hz => by
    rw [Nat.mod_mul_mod, Nat.mul_assoc, Nat.mul_mod, hcd, Nat.mul_one, Nat.mod_mod, Nat.mod_eq_of_lt hz]
  rw [← k x hx, h, k y hy]
theorem div_lt (x s : Nat) (h : x < 2 ^ 64) : x / 2 ^ s < 2 ^ 64 := Nat.lt_of_le_of_lt (Nat.div_le_self _ _) h
theorem xs_lt (x s : Nat) (h : x < 2 ^ 64) : x ^^^ x / 2 ^ s < 2 ^ 64 := Nat.xor_lt_two_pow h (div_lt x s h)

/-- The mixing of a number. -/
def mixN (x : Nat) : Nat :=
  let a := (x ^^^ x / 2 ^ 30) * 13787848793156543929 % 2 ^ 64
  let b := (a ^^^ a / 2 ^ 27) * 10723151780598845931 % 2 ^ 64
  b ^^^ b / 2 ^ 31
theorem mixN_lt (x : Nat) : mixN x < 2 ^ 64 := by
  unfold mixN
  exact xs_lt _ _ (Nat.mod_lt _ (by decide))
theorem mixN_inj {x y : Nat} (hx : x < 2 ^ 64) (hy : y < 2 ^ 64) (h : mixN x = mixN y) : x = y := by
  unfold mixN at h
  have h1 := xorshift_inj 31 (by decide) _ _ h
  have h2 := mul_inj 10723151780598845931 3573116690164977347 (by decide) _ _ (xs_lt _ _ (Nat.mod_lt _ (by decide))) (xs_lt _ _ (Nat.mod_lt _ (by decide))) h1
  have h3 := xorshift_inj 27 (by decide) _ _ h2
  have h4 := mul_inj 13787848793156543929 10871156337175269513 (by decide) _ _ (xs_lt _ _ hx) (xs_lt _ _ hy) h3
  exact xorshift_inj 30 (by decide) _ _ h4

theorem u64_wrap (n : Int) : IntKind.u64.wrap n = n % 18446744073709551616 := by simp [IntKind.wrap, IntKind.bits, IntKind.signed]
theorem u64_nat (n : Nat) (h : n < 2 ^ 64) : IntKind.u64.wrap n = n := by rw [u64_wrap]; omega
theorem bits_xor_nat (k : IntKind) (a b : Nat) (ha : a < 2 ^ k.bits) (hb : b < 2 ^ k.bits) : bits .xor k a b = k.wrap ((a ^^^ b : Nat) : Int) := by
  simp only [bits, BitVec.ofInt_natCast, BitVec.toNat_xor, BitVec.toNat_ofNat, Nat.mod_eq_of_lt ha, Nat.mod_eq_of_lt hb]
theorem bits_or_nat (k : IntKind) (a b : Nat) (ha : a < 2 ^ k.bits) (hb : b < 2 ^ k.bits) : bits .or k a b = k.wrap ((a ||| b : Nat) : Int) := by
  simp only [bits, BitVec.ofInt_natCast, BitVec.toNat_or, BitVec.toNat_ofNat, Nat.mod_eq_of_lt ha, Nat.mod_eq_of_lt hb]
theorem bits_and_nat (k : IntKind) (a b : Nat) (ha : a < 2 ^ k.bits) (hb : b < 2 ^ k.bits) : bits .and k a b = k.wrap ((a &&& b : Nat) : Int) := by
  simp only [bits, BitVec.ofInt_natCast, BitVec.toNat_and, BitVec.toNat_ofNat, Nat.mod_eq_of_lt ha, Nat.mod_eq_of_lt hb]
theorem xor_u64 (a b : Nat) (ha : a < 2 ^ 64) (hb : b < 2 ^ 64) : bits .xor .u64 a b = ((a ^^^ b : Nat) : Int) := by
  rw [bits_xor_nat .u64 a b ha hb]; exact u64_nat _ (Nat.xor_lt_two_pow ha hb)
theorem or_u64 (a b : Nat) (ha : a < 2 ^ 64) (hb : b < 2 ^ 64) : bits .or .u64 a b = ((a ||| b : Nat) : Int) := by
  rw [bits_or_nat .u64 a b ha hb]; exact u64_nat _ (Nat.or_lt_two_pow ha hb)
theorem xs_u64 (a s : Nat) (m : Int) (hm : m = ((2 ^ s : Nat) : Int)) (ha : a < 2 ^ 64) : bits .xor .u64 (a : Int) ((a : Int) / m) = ((a ^^^ a / 2 ^ s : Nat) : Int) := by
  subst hm
  rw [← Int.natCast_ediv, xor_u64 _ _ ha (div_lt _ _ ha)]
theorem mul1_u64 (a : Nat) : IntKind.u64.wrap ((a : Int) * 13787848793156543929) = ((a * 13787848793156543929 % 2 ^ 64 : Nat) : Int) := by
  rw [u64_wrap]; omega
theorem mul2_u64 (a : Nat) : IntKind.u64.wrap ((a : Int) * 10723151780598845931) = ((a * 10723151780598845931 % 2 ^ 64 : Nat) : Int) := by
  rw [u64_wrap]; omega
/-- What the program's text of Mix comes to. -/
theorem mix_text (a : Nat) (ha : a < 2 ^ 64) :
    (Go.bits .xor .u64 (IntKind.u64.wrap ((Go.bits .xor .u64 (IntKind.u64.wrap ((Go.bits .xor .u64 (a : Int) ((a : Int) / 1073741824)) * 13787848793156543929)) ((IntKind.u64.wrap ((Go.bits .xor .u64 (a : Int) ((a : Int) / 1073741824)) * 13787848793156543929)) / 134217728)) * 10723151780598845931)) ((IntKind.u64.wrap ((Go.bits .xor .u64 (IntKind.u64.wrap ((Go.bits .xor .u64 (a : Int) ((a : Int) / 1073741824)) * 13787848793156543929)) ((IntKind.u64.wrap ((Go.bits .xor .u64 (a : Int) ((a : Int) / 1073741824)) * 13787848793156543929)) / 134217728)) * 10723151780598845931)) / 2147483648)) = ((mixN a : Nat) : Int) := by
  rw [xs_u64 a 30 1073741824 (by decide) ha, mul1_u64]
  rw [xs_u64 _ 27 134217728 (by decide) (Nat.mod_lt _ (by decide)), mul2_u64]
  rw [xs_u64 _ 31 2147483648 (by decide) (Nat.mod_lt _ (by decide))]
  rfl

/-- The number that some bytes tell, the lowest one first. -/
def blk : List Int → Nat
  | [] => 0
  | x :: r => x.toNat + 256 * blk r
/-- All of a list are bytes. -/
def Bytes (l : List Int) : Prop := ∀ x ∈ l, 0 ≤ x ∧ x < 256
theorem Bytes.take {l : List Int} (h : Bytes l) (n : Nat) : Bytes (l.take n) := fun x hx => h x (List.mem_of_mem_take hx)
theorem Bytes.drop {l : List Int} (h : Bytes l) (n : Nat) : Bytes (l.drop n) := fun x hx => h x (List.mem_of_mem_drop hx)
theorem Bytes.append {l m : List Int} (h : Bytes l) (g : Bytes m) : Bytes (l ++ m) := fun x hx => by
  rcases List.mem_append.mp hx with k | k
  · exact h x k
  · exact g x k
theorem Bytes.of_wf {l : List Int} (h : ∀ x ∈ l, (Lit.int .u8 x).wf = true) : Bytes l := fun x hx => by
  have := h x hx
  simp [Lit.wf, IntKind.min, IntKind.max, IntKind.bits, IntKind.signed] at this
  omega
theorem Bytes.at {l : List Int} (h : Bytes l) (i : Nat) : 0 ≤ l.getD i 0 ∧ l.getD i 0 < 256 := by
  by_cases hi : i < l.length
  · rw [List.getD_eq_getElem?_getD, List.getElem?_eq_getElem hi]; exact h _ (List.getElem_mem hi)
  · rw [List.getD_eq_getElem?_getD, List.getElem?_eq_none (by omega)]; simp
theorem blk_lt {l : List Int} (h : Bytes l) : blk l < 256 ^ l.length := by
  induction l with
  | nil => simp [blk]
  | cons x r ih =>
    have hx := h x (by simp)
    have := ih (fun y hy => h y (by simp [hy]))
    simp only [blk, List.length_cons, Nat.pow_succ]
    omega
theorem blk_snoc (l : List Int) (x : Int) : blk (l ++ [x]) = blk l + 256 ^ l.length * x.toNat := by
  induction l with
  | nil => simp [blk]
  | cons y r ih =>
    simp only [List.cons_append, blk, ih, List.length_cons, Nat.pow_succ, Nat.mul_add]
    have : 256 * (256 ^ r.length * x.toNat) = 256 ^ r.length * 256 * x.toNat := by
      rw [← Nat.mul_assoc, Nat.mul_comm 256 (256 ^ r.length)]
    omega
theorem blk_inj : ∀ {l m : List Int}, Bytes l → Bytes m → l.length = m.length → blk l = blk m → l = m
  | [], [], _, _, _, _ => rfl
  | x :: r, y :: s, hl, hm, hn, h => by
    have hx := hl x (by simp)
    have hy := hm y (by simp)
    simp only [blk] at h
    have e : r = s := blk_inj (fun z hz => hl z (by simp [hz])) (fun z hz => hm z (by simp [hz])) (by simpa using hn) (by omega)
    subst e
    have : x = y := by omega
    rw [this]
  | [], _ :: _, _, _, hn, _ => by simp at hn
  | _ :: _, [], _, _, hn, _ => by simp at hn
theorem blk_zeros (l : List Int) (n : Nat) : blk (l ++ List.replicate n 0) = blk l := by
  induction l with
  | nil => induction n with
    | zero => rfl
    | succ n ih => simp only [List.nil_append] at ih; simp only [List.nil_append, List.replicate_succ, blk, ih]; rfl
  | cons x r ih => simp only [List.cons_append, blk, ih]
theorem blk_lt64 {l : List Int} (h : Bytes l) (hl : l.length ≤ 8) : blk l < 2 ^ 64 :=
  Nat.lt_of_lt_of_le (blk_lt h) (Nat.le_trans (Nat.pow_le_pow_right (by decide) hl) (by decide))

/-- The number behind all blocks. -/
def tags (h : Nat) (l : List Int) : Nat := if l = [] then h else tags (mixN (h ^^^ blk (l.take 8))) (l.drop 8)
  termination_by l.length
  decreasing_by
    rename_i hl
    have : 0 < l.length := List.length_pos_iff.mpr hl
    simp; omega
/-- The tag of a string. -/
def tagN (key : Nat) (l : List Int) : Nat := mixN (tags (mixN key) l ^^^ l.length)
theorem tags_nil (h : Nat) : tags h [] = h := by rw [tags]; simp
theorem tags_cons (h : Nat) (l : List Int) (hl : l ≠ []) : tags h l = tags (mixN (h ^^^ blk (l.take 8))) (l.drop 8) := by rw [tags, if_neg hl]
theorem tags_ind {P : List Int → Prop} (h0 : P []) (h1 : ∀ l, l ≠ [] → P (l.drop 8) → P l) : ∀ l, P l := by
  intro l
  generalize hn : l.length = n
  induction n using Nat.strongRecOn generalizing l with
  | ind n ih =>
    by_cases hl : l = []
    · subst hl; exact h0
    · have : 0 < l.length := List.length_pos_iff.mpr hl
      exact h1 l hl (ih (l.drop 8).length (by simp; omega) _ rfl)
theorem tags_lt {l : List Int} : ∀ {h : Nat}, h < 2 ^ 64 → Bytes l → tags h l < 2 ^ 64 := by
  refine tags_ind (P := fun l => ∀ {h : Nat}, h < 2 ^ 64 → Bytes l → tags h l < 2 ^ 64) ?_ ?_ l
  · intro h hh _; rw [tags_nil]; exact hh
  · intro l hl ih h hh hb
    rw [tags_cons _ _ hl]; exact ih (mixN_lt _) (hb.drop 8)
theorem tags_inj {l : List Int} : ∀ {h g : Nat}, h < 2 ^ 64 → g < 2 ^ 64 → Bytes l → tags h l = tags g l → h = g := by
  refine tags_ind (P := fun l => ∀ {h g : Nat}, h < 2 ^ 64 → g < 2 ^ 64 → Bytes l → tags h l = tags g l → h = g) ?_ ?_ l
  · intro h g _ _ _ e; rwa [tags_nil, tags_nil] at e
  · intro l hl ih h g hh hg hb e
    rw [tags_cons _ _ hl, tags_cons _ _ hl] at e
    have e1 := ih (mixN_lt _) (mixN_lt _) (hb.drop 8) e
    have hk : blk (l.take 8) < 2 ^ 64 := blk_lt64 (hb.take 8) (by simp; omega)
    have e2 := mixN_inj (Nat.xor_lt_two_pow hh hk) (Nat.xor_lt_two_pow hg hk) e1
    exact xor_inj' _ _ _ e2
theorem tagN_lt (key : Nat) (l : List Int) : tagN key l < 2 ^ 64 := mixN_lt _
/-- One string has different tags for different keys. -/
theorem tagN_inj {key k2 : Nat} {l : List Int} (hk : key < 2 ^ 64) (hk2 : k2 < 2 ^ 64) (hb : Bytes l) (hl : l.length < 2 ^ 64) (e : tagN key l = tagN k2 l) : key = k2 := by
  unfold tagN at e
  have h1 := tags_lt (mixN_lt key) hb
  have h2 := tags_lt (mixN_lt k2) hb
  have e1 := mixN_inj (Nat.xor_lt_two_pow h1 hl) (Nat.xor_lt_two_pow h2 hl) e
  exact mixN_inj hk hk2 (tags_inj (mixN_lt _) (mixN_lt _) hb (xor_inj' _ _ _ e1))
/-- Whole blocks ahead. -/
theorem tags_append (p : List Int) : ∀ (h : Nat) (l : List Int), p.length % 8 = 0 → tags h (p ++ l) = tags (tags h p) l := by
  refine tags_ind (P := fun p => ∀ (h : Nat) (l : List Int), p.length % 8 = 0 → tags h (p ++ l) = tags (tags h p) l) ?_ ?_ p
  · intro h l _; rw [tags_nil]; rfl
  · intro p hp ih h l h8
    have hlen : 0 < p.length := List.length_pos_iff.mpr hp
    have : p ++ l ≠ [] := by simp [hp]
    rw [tags_cons _ _ this, tags_cons _ _ hp, List.take_append_of_le_length (by omega), List.drop_append_of_le_length (by omega), ih _ _ (by simp; omega)]
/-- A block of at most eight bytes and what follows it: two strings that differ in this block alone have different tags. -/
theorem tags_block (p a b r : List Int) (h : Nat) (hh : h < 2 ^ 64) (hp : p.length % 8 = 0) (hab : a.length = b.length) (ha8 : a.length = 8 ∨ (a.length < 8 ∧ r = [])) (ba : Bytes a) (bb : Bytes b) (br : Bytes r) (bp : Bytes p)
    (e : tags h (p ++ (a ++ r)) = tags h (p ++ (b ++ r))) : a = b := by
  rw [tags_append _ _ _ hp, tags_append _ _ _ hp] at e
  have hq : tags h p < 2 ^ 64 := tags_lt hh bp
  generalize tags h p = q at e hq
  by_cases ha : a = []
  · subst ha
    exact (List.length_eq_zero_iff.mp (by simpa using hab.symm)).symm
  · have hla : 0 < a.length := List.length_pos_iff.mpr ha
    have hb : b ≠ [] := by rw [← List.length_pos_iff]; omega
    rw [tags_cons q (a ++ r) (by simp [ha]), tags_cons q (b ++ r) (by simp [hb])] at e
    have ta : (a ++ r).take 8 = a ∧ (a ++ r).drop 8 = r := by
      rcases ha8 with h8 | ⟨h8, rfl⟩
      · exact ⟨by rw [List.take_append_of_le_length (by omega), List.take_of_length_le (by omega)], by rw [List.drop_append_of_le_length (by omega), List.drop_eq_nil_of_le (by omega)]; rfl⟩
      · rw [List.append_nil]; exact ⟨List.take_of_length_le (by omega), List.drop_eq_nil_of_le (by omega)⟩
    have tb : (b ++ r).take 8 = b ∧ (b ++ r).drop 8 = r := by
      rcases ha8 with h8 | ⟨h8, rfl⟩
      · exact ⟨by rw [List.take_append_of_le_length (by omega), List.take_of_length_le (by omega)], by rw [List.drop_append_of_le_length (by omega), List.drop_eq_nil_of_le (by omega)]; rfl⟩
      · rw [List.append_nil]; exact ⟨List.take_of_length_le (by omega), List.drop_eq_nil_of_le (by omega)⟩
    rw [ta.1, ta.2, tb.1, tb.2] at e
    have e1 := tags_inj (mixN_lt _) (mixN_lt _) br e
    have l8 : a.length ≤ 8 := by omega
    have e2 := mixN_inj (Nat.xor_lt_two_pow hq (blk_lt64 ba l8)) (Nat.xor_lt_two_pow hq (blk_lt64 bb (by omega))) e1
    exact blk_inj ba bb hab (xor_inj _ _ _ e2)
/-- Zeros within the last block leave the blocks as they are. -/
theorem tags_zeros (l : List Int) : ∀ (h n : Nat), (l.length % 8 + n ≤ 8 ∧ 0 < l.length % 8) ∨ n = 0 → tags h (l ++ List.replicate n 0) = tags h l := by
  refine tags_ind (P := fun l => ∀ (h n : Nat), (l.length % 8 + n ≤ 8 ∧ 0 < l.length % 8) ∨ n = 0 → tags h (l ++ List.replicate n 0) = tags h l) ?_ ?_ l
  · intro h n hn
    rcases hn with hn | rfl
    · simp at hn
    · simp
  · intro l hl ih h n hn
    have hlen : 0 < l.length := List.length_pos_iff.mpr hl
    rw [tags_cons _ _ (by simp [hl]), tags_cons _ _ hl]
    by_cases h8 : 8 ≤ l.length
    · rw [List.take_append_of_le_length h8, List.drop_append_of_le_length h8]
      exact ih _ _ (by simp; omega)
    · have t1 : (l ++ List.replicate n 0).take 8 = l ++ List.replicate n 0 := List.take_of_length_le (by simp; omega)
      have t2 : (l ++ List.replicate n 0).drop 8 = [] := List.drop_eq_nil_of_le (by simp; omega)
      rw [t1, t2, List.take_of_length_le (by omega), List.drop_eq_nil_of_le (by omega), blk_zeros]
end Go.Proofs.Ytohjkgboehnamaa.MSeal
