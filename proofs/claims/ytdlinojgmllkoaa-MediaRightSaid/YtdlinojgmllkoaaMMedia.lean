/- Plain lists and numbers of layer 25: a medium, its body, its tag, its frame, and what is read. No program and no memory in it. -/
import Derived.Test.YtdlinojgmllkoaaMCodec
namespace Go.Proofs.Ytdlinojgmllkoaa.MMedia
open Go.RowKit Go.Proofs.YtdlinojgmllkoaaW.PrintWords Go.Proofs.YtdlinojgmllkoaaW.PrintMore Go.Proofs.Ytdlinojgmllkoaa.MSeal Go.Proofs.Ytdlinojgmllkoaa.MCrc Go.Proofs.Ytdlinojgmllkoaa.MCodec

/-- A medium: serial, counter, product, first, left, today, lift, at, tag. -/
structure Med where
  s : Int
  c : Int
  p : Int
  f : Int
  l : Int
  t : Int
  i : Int
  a : Int
  g : Int
def zeroM : Med := ⟨0, 0, 0, 0, 0, 0, 0, 0, 0⟩
/-- All are in range. -/
def rangeB (m : Med) : Bool := decide (1 ≤ m.s ∧ m.s ≤ 9999 ∧ 1 ≤ m.p ∧ m.p ≤ 9999 ∧ 0 ≤ m.c ∧ m.c ≤ 1000000 ∧ -1 ≤ m.f ∧ m.f ≤ 20000000 ∧ -1 ≤ m.a ∧ m.a ≤ 20000000 ∧ 0 ≤ m.l ∧ m.l ≤ 100 ∧ -1 ≤ m.t ∧ m.t ≤ 231 ∧ 0 ≤ m.i ∧ m.i ≤ 9999)
/-- It is no state. -/
def stateB (m : Med) : Bool := decide ((m.f = -1 ∧ m.a ≠ -1) ∨ (m.a = -1 ∧ (m.i ≠ 0 ∨ m.t ≠ -1)) ∨ m.f > m.a)
/-- What Right tells. -/
def rightM (m : Med) : Int := if rangeB m = true then (if stateB m = true then 10 else 0) else 2
theorem right_range {m : Med} (h : rightM m = 0) : 1 ≤ m.s ∧ m.s ≤ 9999 ∧ 1 ≤ m.p ∧ m.p ≤ 9999 ∧ 0 ≤ m.c ∧ m.c ≤ 1000000 ∧ -1 ≤ m.f ∧ m.f ≤ 20000000 ∧ -1 ≤ m.a ∧ m.a ≤ 20000000 ∧ 0 ≤ m.l ∧ m.l ≤ 100 ∧ -1 ≤ m.t ∧ m.t ≤ 231 ∧ 0 ≤ m.i ∧ m.i ≤ 9999 := by
  unfold rightM at h
  by_cases hr : rangeB m = true
  · unfold rangeB at hr; exact of_decide_eq_true hr
  · rw [if_neg hr] at h; simp at h
/-- The numbers of a body. -/
def numsM (m : Med) : List Int := [m.s, m.c, m.p, m.f + 1, m.l, m.t + 1, m.i, m.a + 1]
theorem nums_nats {m : Med} (h : rightM m = 0) : Nats (numsM m) := by
  have hr := right_range h
  intro x hx
  simp only [numsM, List.mem_cons, List.not_mem_nil, or_false] at hx
  rcases hx with rfl | rfl | rfl | rfl | rfl | rfl | rfl | rfl <;> omega
/-- The body of a medium. -/
def bodyN (m : Med) : List Int := putL (numsM m)
theorem body_bytes (m : Med) : Bytes (bodyN m) := putL_bytes _
theorem putL_len9 (x : List Int) (hx : ∀ n ∈ x, n < 9223372036854775808) : (putL x).length ≤ 9 * x.length := by
  induction x with
  | nil => simp [putL]
  | cons n x ih =>
    have h1 := putN_len9 n.toNat (by have := hx n (by simp); omega)
    have h2 := ih (fun m hm => hx m (by simp [hm]))
    rw [putL_cons]; simp; omega
theorem body_len {m : Med} (h : rightM m = 0) : (bodyN m).length ≤ 72 := by
  have := putL_len9 (numsM m) (fun n hn => (nums_nats h n hn).2)
  exact this
/-- The eight bytes of a tag. -/
def be8 (t : Nat) : List Int := [((t / 72057594037927936 % 256 : Nat) : Int), ((t / 281474976710656 % 256 : Nat) : Int), ((t / 1099511627776 % 256 : Nat) : Int), ((t / 4294967296 % 256 : Nat) : Int), ((t / 16777216 % 256 : Nat) : Int), ((t / 65536 % 256 : Nat) : Int), ((t / 256 % 256 : Nat) : Int), ((t % 256 : Nat) : Int)]
theorem be8_len (t : Nat) : (be8 t).length = 8 := rfl
theorem be8_bytes (t : Nat) : Bytes (be8 t) := fun x hx => by
  simp only [be8, List.mem_cons, List.not_mem_nil, or_false] at hx
  rcases hx with rfl | rfl | rfl | rfl | rfl | rfl | rfl | rfl <;> omega
theorem be8_at (t i : Nat) (h : i < 8) : (be8 t).getD i 0 = ((t / 2 ^ (8 * (7 - i)) % 256 : Nat) : Int) := by
  have hc : i = 0 ∨ i = 1 ∨ i = 2 ∨ i = 3 ∨ i = 4 ∨ i = 5 ∨ i = 6 ∨ i = 7 := by omega
  rcases hc with rfl | rfl | rfl | rfl | rfl | rfl | rfl | rfl
  · rfl
  · rfl
  · rfl
  · rfl
  · rfl
  · rfl
  · rfl
  · show ((t % 256 : Nat) : Int) = ((t / 1 % 256 : Nat) : Int)
    rw [Nat.div_one]
/-- The number that a tag's bytes tell. -/
def tagF (t : Int) (l : List Int) : Int := l.foldl (fun t c => Go.bits .or .u64 (IntKind.u64.wrap (t * 256)) (IntKind.u64.wrap c)) t
theorem tagF_snoc (t : Int) (l : List Int) (c : Int) : tagF t (l ++ [c]) = Go.bits .or .u64 (IntKind.u64.wrap (tagF t l * 256)) (IntKind.u64.wrap c) := by
  unfold tagF; rw [List.foldl_append]; rfl
theorem tag_step (q c : Nat) (hq : q < 72057594037927936) (hc : c < 256) : Go.bits .or .u64 (IntKind.u64.wrap ((q : Int) * 256)) (IntKind.u64.wrap (c : Int)) = ((q * 256 + c : Nat) : Int) := by
  have e1 : IntKind.u64.wrap ((q : Int) * 256) = ((2 ^ 8 * q : Nat) : Int) := by rw [u64_wrap]; omega
  rw [e1, u64_nat c (by omega), or_u64 _ _ (by omega) (by omega), ← Nat.two_pow_add_eq_or_of_lt (by omega : c < 2 ^ 8)]
  congr 1; omega
theorem dstep1 (t : Nat) : t / 72057594037927936 * 256 + t / 281474976710656 % 256 = t / 281474976710656 := by
  rw [show (72057594037927936 : Nat) = 281474976710656 * 256 from rfl, ← Nat.div_div_eq_div_mul]
  generalize t / 281474976710656 = x
  omega
theorem dstep2 (t : Nat) : t / 281474976710656 * 256 + t / 1099511627776 % 256 = t / 1099511627776 := by
  rw [show (281474976710656 : Nat) = 1099511627776 * 256 from rfl, ← Nat.div_div_eq_div_mul]
  generalize t / 1099511627776 = x
  omega
theorem dstep3 (t : Nat) : t / 1099511627776 * 256 + t / 4294967296 % 256 = t / 4294967296 := by
  rw [show (1099511627776 : Nat) = 4294967296 * 256 from rfl, ← Nat.div_div_eq_div_mul]
  generalize t / 4294967296 = x
  omega
theorem dstep4 (t : Nat) : t / 4294967296 * 256 + t / 16777216 % 256 = t / 16777216 := by
  rw [show (4294967296 : Nat) = 16777216 * 256 from rfl, ← Nat.div_div_eq_div_mul]
  generalize t / 16777216 = x
  omega
theorem dstep5 (t : Nat) : t / 16777216 * 256 + t / 65536 % 256 = t / 65536 := by
  rw [show (16777216 : Nat) = 65536 * 256 from rfl, ← Nat.div_div_eq_div_mul]
  generalize t / 65536 = x
  omega
theorem dstep6 (t : Nat) : t / 65536 * 256 + t / 256 % 256 = t / 256 := by
  rw [show (65536 : Nat) = 256 * 256 from rfl, ← Nat.div_div_eq_div_mul]
  generalize t / 256 = x
  omega
theorem dstep7 (t : Nat) : t / 256 * 256 + t % 256 = t := by omega
theorem dstep0 (t : Nat) (h : t < 2 ^ 64) : 0 * 256 + t / 72057594037927936 % 256 = t / 72057594037927936 := by omega
theorem dlt0 (t : Nat) (h : t < 2 ^ 64) : t / 72057594037927936 < 72057594037927936 := by omega
theorem dlt1 (t : Nat) (h : t < 2 ^ 64) : t / 281474976710656 < 72057594037927936 := by omega
theorem dlt2 (t : Nat) (h : t < 2 ^ 64) : t / 1099511627776 < 72057594037927936 := by omega
theorem dlt3 (t : Nat) (h : t < 2 ^ 64) : t / 4294967296 < 72057594037927936 := by omega
theorem dlt4 (t : Nat) (h : t < 2 ^ 64) : t / 16777216 < 72057594037927936 := by omega
theorem dlt5 (t : Nat) (h : t < 2 ^ 64) : t / 65536 < 72057594037927936 := by omega
theorem dlt6 (t : Nat) (h : t < 2 ^ 64) : t / 256 < 72057594037927936 := by omega
theorem tagF_be8 (t : Nat) (h : t < 2 ^ 64) : tagF 0 (be8 t) = (t : Int) := by
  have e0 := tag_step 0 (t / 72057594037927936 % 256) (by decide) (Nat.mod_lt _ (by decide))
  have e1 := tag_step (t / 72057594037927936) (t / 281474976710656 % 256) (dlt0 t h) (Nat.mod_lt _ (by decide))
  have e2 := tag_step (t / 281474976710656) (t / 1099511627776 % 256) (dlt1 t h) (Nat.mod_lt _ (by decide))
  have e3 := tag_step (t / 1099511627776) (t / 4294967296 % 256) (dlt2 t h) (Nat.mod_lt _ (by decide))
  have e4 := tag_step (t / 4294967296) (t / 16777216 % 256) (dlt3 t h) (Nat.mod_lt _ (by decide))
  have e5 := tag_step (t / 16777216) (t / 65536 % 256) (dlt4 t h) (Nat.mod_lt _ (by decide))
  have e6 := tag_step (t / 65536) (t / 256 % 256) (dlt5 t h) (Nat.mod_lt _ (by decide))
  have e7 := tag_step (t / 256) (t % 256) (dlt6 t h) (Nat.mod_lt _ (by decide))
  have f0 := dstep0 t h
  have f1 := dstep1 t
  have f2 := dstep2 t
  have f3 := dstep3 t
  have f4 := dstep4 t
  have f5 := dstep5 t
  have f6 := dstep6 t
  have f7 := dstep7 t
  rw [f0] at e0
  rw [f1] at e1
  rw [f2] at e2
  rw [f3] at e3
  rw [f4] at e4
  rw [f5] at e5
  rw [f6] at e6
  rw [f7] at e7
  unfold tagF be8
  simp only [List.foldl_cons, List.foldl_nil]
  have z : ((0 : Nat) : Int) = 0 := rfl
  rw [z] at e0
  rw [e0, e1, e2, e3, e4, e5, e6, e7]
/-- A medium as a frame. -/
def encN (m : Med) : List Int := frameN (bodyN m ++ be8 m.g.toNat)
theorem enc_bytes (m : Med) : Bytes (encN m) := frameN_bytes ((body_bytes m).append (be8_bytes _))
/-- The medium out of eight numbers and what follows them. -/
def ofNums (ns b : List Int) : Med := ⟨rd ns 0, rd ns 1, rd ns 2, wrap64 (rd ns 3 - 1), rd ns 4, wrap64 (rd ns 5 - 1), rd ns 6, wrap64 (rd ns 7 - 1), tagF 0 b⟩
/-- What the program reads, when m numbers are left. -/
def readA : Nat → List Int → List Int → Med
  | 0, b, ns => ofNums ns b
  | m + 1, b, ns => if (getI b).2.2 = 0 then readA m (b.drop (getI b).2.1.toNat) (ns ++ [(getI b).1]) else zeroM
/-- What the reference reads. -/
def readB : Nat → List Int → List Int → Med
  | 0, b, ns => ofNums ns (b.take 8)
  | m + 1, b, ns => if (getI b).2.2 = 0 then (if (getI b).1 > 20000001 then zeroM else readB m (b.drop (getI b).2.1.toNat) (ns ++ [(getI b).1])) else zeroM
theorem readA_put (x : List Int) (hx : Nats x) : ∀ (r ns : List Int), readA x.length (putL x ++ r) ns = ofNums (ns ++ x) r := by
  induction x with
  | nil => intro r ns; simp [readA, putL]
  | cons n x ih =>
    intro r ns
    have hn := hx n (by simp)
    have hg := getI_put n.toNat (putL x ++ r) (by omega)
    simp only [List.length_cons, readA]
    rw [putL_cons, List.append_assoc, hg]
    simp only [if_true, Int.toNat_natCast]
    rw [List.drop_left, ih (fun y hy => hx y (by simp [hy])), Int.toNat_of_nonneg hn.1]
    simp
theorem readB_put (x : List Int) (hx : ∀ n ∈ x, 0 ≤ n ∧ n ≤ 20000001) : ∀ (r ns : List Int), readB x.length (putL x ++ r) ns = ofNums (ns ++ x) (r.take 8) := by
  induction x with
  | nil => intro r ns; simp [readB, putL]
  | cons n x ih =>
    intro r ns
    have hn := hx n (by simp)
    have hg := getI_put n.toNat (putL x ++ r) (by omega)
    simp only [List.length_cons, readB]
    rw [putL_cons, List.append_assoc, hg]
    simp only [if_true, Int.toNat_natCast]
    rw [if_neg (by omega), List.drop_left, ih (fun y hy => hx y (by simp [hy])), Int.toNat_of_nonneg hn.1]
    simp
theorem ofNums_nums {m : Med} (h : rightM m = 0) (hg0 : 0 ≤ m.g) (hg1 : m.g < 18446744073709551616) : ofNums (numsM m) (be8 m.g.toNat) = m := by
  have hr := right_range h
  unfold ofNums
  rw [tagF_be8 _ (by omega)]
  have e3 : wrap64 (rd (numsM m) 3 - 1) = m.f := by
    have : rd (numsM m) 3 = m.f + 1 := rfl
    rw [this]; unfold wrap64; omega
  have e5 : wrap64 (rd (numsM m) 5 - 1) = m.t := by
    have : rd (numsM m) 5 = m.t + 1 := rfl
    rw [this]; unfold wrap64; omega
  have e7 : wrap64 (rd (numsM m) 7 - 1) = m.a := by
    have : rd (numsM m) 7 = m.a + 1 := rfl
    rw [this]; unfold wrap64; omega
  have e8 : ((m.g.toNat : Nat) : Int) = m.g := by omega
  rw [e3, e5, e7, e8]
  rfl
theorem readA_body {m : Med} (h : rightM m = 0) (hg0 : 0 ≤ m.g) (hg1 : m.g < 18446744073709551616) : readA 8 (bodyN m ++ be8 m.g.toNat) [] = m := by
  have := readA_put (numsM m) (nums_nats h) (be8 m.g.toNat) []
  have e : (numsM m).length = 8 := rfl
  rw [e, List.nil_append] at this
  unfold bodyN
  rw [this, ofNums_nums h hg0 hg1]
theorem readB_body {m : Med} (h : rightM m = 0) (hg0 : 0 ≤ m.g) (hg1 : m.g < 18446744073709551616) : readB 8 (bodyN m ++ be8 m.g.toNat) [] = m := by
  have hr := right_range h
  have := readB_put (numsM m) (by
    intro x hx
    simp only [numsM, List.mem_cons, List.not_mem_nil, or_false] at hx
    rcases hx with rfl | rfl | rfl | rfl | rfl | rfl | rfl | rfl <;> omega) (be8 m.g.toNat) []
  have e : (numsM m).length = 8 := rfl
  have e2 : (be8 m.g.toNat).take 8 = be8 m.g.toNat := rfl
  rw [e, List.nil_append, e2] at this
  unfold bodyN
  rw [this, ofNums_nums h hg0 hg1]
theorem tagF_range (l : List Int) : 0 ≤ tagF 0 l ∧ tagF 0 l < 18446744073709551616 := by
  rcases List.eq_nil_or_concat l with rfl | ⟨p, c, rfl⟩
  · simp [tagF]
  · rw [List.concat_eq_append, tagF_snoc]
    have : ∀ x y : Int, 0 ≤ Go.bits .or .u64 x y ∧ Go.bits .or .u64 x y < 18446744073709551616 := fun x y => by
      unfold Go.bits; simp only; rw [u64_wrap]; omega
    exact this _ _
theorem readA_g : ∀ (k : Nat) (b ns : List Int), 0 ≤ (readA k b ns).g ∧ (readA k b ns).g < 18446744073709551616 := by
  intro k
  induction k with
  | zero => intro b ns; exact tagF_range b
  | succ k ih =>
    intro b ns
    simp only [readA]
    split
    · exact ih _ _
    · exact ⟨Int.le_refl _, by decide⟩
theorem readB_g : ∀ (k : Nat) (b ns : List Int), 0 ≤ (readB k b ns).g ∧ (readB k b ns).g < 18446744073709551616 := by
  intro k
  induction k with
  | zero => intro b ns; exact tagF_range _
  | succ k ih =>
    intro b ns
    simp only [readB]
    split
    · split
      · exact ⟨Int.le_refl _, by decide⟩
      · exact ih _ _
    · exact ⟨Int.le_refl _, by decide⟩
/-- What Decode tells. -/
def decI (l : List Int) : Med × Int :=
  if (unI l).2.2 ≠ 0 then (zeroM, (unI l).2.2) else
  if (unI l).2.1 ≠ (l.length : Int) then (zeroM, 4) else
  if rightM (readA 8 (unI l).1 []) = 0 ∧ encN (readA 8 (unI l).1 []) = l then (readA 8 (unI l).1 [], 0) else (zeroM, 3)
theorem enc_len {m : Med} (h : rightM m = 0) : (bodyN m ++ be8 m.g.toNat).length ≤ 80 := by
  have := body_len h
  rw [List.length_append, be8_len]; omega
theorem unI_enc {m : Med} (h : rightM m = 0) (r : List Int) : unI (encN m ++ r) = (bodyN m ++ be8 m.g.toNat, (((encN m).length : Nat) : Int), 0) :=
  unI_frame _ r ((body_bytes m).append (be8_bytes _)) (by have := enc_len h; omega)
/-- What is encoded is decoded. -/
theorem dec_enc {m : Med} (h : rightM m = 0) (hg0 : 0 ≤ m.g) (hg1 : m.g < 18446744073709551616) : decI (encN m) = (m, 0) := by
  have hu := unI_enc h []
  rw [List.append_nil] at hu
  have hr := readA_body h hg0 hg1
  unfold decI
  rw [hu]
  simp only [ne_eq, not_true_eq_false, if_false]
  rw [hr, if_pos ⟨h, rfl⟩]
/-- The reference decodes the same. -/
theorem decB {l : List Int} (_hb : Bytes l) (h1 : (unI l).2.2 = 0) (h2 : (unI l).2.1 = (l.length : Int)) :
    (if rightM (readB 8 (unI l).1 []) = 0 ∧ encN (readB 8 (unI l).1 []) = l then (readB 8 (unI l).1 [], 0) else (zeroM, (3 : Int))) = decI l := by
  have hD : decI l = (if rightM (readA 8 (unI l).1 []) = 0 ∧ encN (readA 8 (unI l).1 []) = l then (readA 8 (unI l).1 [], 0) else (zeroM, 3)) := by
    unfold decI
    rw [if_neg (fun h => h h1), if_neg (fun h => h h2)]
  rw [hD]
  have key : ∀ m : Med, rightM m = 0 → 0 ≤ m.g → m.g < 18446744073709551616 → encN m = l → readA 8 (unI l).1 [] = m ∧ readB 8 (unI l).1 [] = m := fun m hm h0 h9 he => by
    have hu := unI_enc hm []
    rw [List.append_nil, he] at hu
    rw [hu]
    exact ⟨readA_body hm h0 h9, readB_body hm h0 h9⟩
  by_cases hA : rightM (readA 8 (unI l).1 []) = 0 ∧ encN (readA 8 (unI l).1 []) = l
  · have hg := readA_g 8 (unI l).1 []
    have := key _ hA.1 hg.1 hg.2 hA.2
    rw [this.2]
  · rw [if_neg hA]
    by_cases hB : rightM (readB 8 (unI l).1 []) = 0 ∧ encN (readB 8 (unI l).1 []) = l
    · have hg := readB_g 8 (unI l).1 []
      have := key _ hB.1 hg.1 hg.2 hB.2
      have e9 : readA 8 (unI l).1 [] = readB 8 (unI l).1 [] := this.1
      exact absurd (by rw [e9]; exact hB) hA
    · rw [if_neg hB]
/-- The key with a number. -/
def keyN (key : Nat) (i : Int) : Nat := mixN ((key + (i % 18446744073709551616).toNat * 11400714819323198485) % 2 ^ 64)
theorem keyN_lt (key : Nat) (i : Int) : keyN key i < 2 ^ 64 := mixN_lt _
/-- The tag of a medium. -/
def signN (key : Nat) (m : Med) : Nat := tagN (keyN key m.s) (bodyN m)
theorem signN_lt (key : Nat) (m : Med) : signN key m < 2 ^ 64 := tagN_lt _ _
/-- What block tells of two strings of one length, from an index on. -/
def blockA (a b : List Int) : Nat → Nat → Int → Int
  | 0, _, at_ => at_
  | m + 1, i, at_ => if a.getD i 0 = b.getD i 0 ∨ at_ = ((i / 8 : Nat) : Int) then blockA a b m (i + 1) at_ else if at_ ≥ 0 then -1 else blockA a b m (i + 1) ((i / 8 : Nat) : Int)
def blockI (a b : List Int) : Int := if a.length = b.length then blockA a b a.length 0 (-1) else -1
/-- If it tells a block, all that differs stands in it, and something does. -/
theorem blockA_tells (a b : List Int) : ∀ (m i : Nat) (at_ : Int), (at_ = -1 ∨ 0 ≤ at_) → 0 ≤ blockA a b m i at_ →
    (∀ j, i ≤ j → j < i + m → a.getD j 0 ≠ b.getD j 0 → ((j / 8 : Nat) : Int) = blockA a b m i at_) ∧ (0 ≤ at_ → blockA a b m i at_ = at_) ∧ (at_ = -1 → ∃ j, i ≤ j ∧ j < i + m ∧ a.getD j 0 ≠ b.getD j 0) := by
  intro m
  induction m with
  | zero =>
    intro i at_ hat h
    simp only [blockA] at h ⊢
    exact ⟨fun j h1 h2 => by omega, fun _ => trivial, fun e => by omega⟩
  | succ m ih =>
    intro i at_ hat h
    simp only [blockA] at h ⊢
    by_cases h1 : a.getD i 0 = b.getD i 0 ∨ at_ = ((i / 8 : Nat) : Int)
    · rw [if_pos h1] at h ⊢
      obtain ⟨p1, p2, p3⟩ := ih (i + 1) at_ hat h
      refine ⟨fun j hj1 hj2 hne => ?_, p2, fun e => ?_⟩
      · by_cases hji : j = i
        · subst hji
          rcases h1 with h1 | h1
          · exact absurd h1 hne
          · rw [p2 (by omega), h1]
        · exact p1 j (by omega) (by omega) hne
      · obtain ⟨j, q1, q2, q3⟩ := p3 e
        exact ⟨j, by omega, by omega, q3⟩
    · rw [if_neg h1] at h ⊢
      have hne : a.getD i 0 ≠ b.getD i 0 := fun e => h1 (Or.inl e)
      by_cases h2 : at_ ≥ 0
      · rw [if_pos h2] at h; omega
      · rw [if_neg h2] at h ⊢
        obtain ⟨p1, p2, p3⟩ := ih (i + 1) ((i / 8 : Nat) : Int) (Or.inr (by omega)) h
        refine ⟨fun j hj1 hj2 hj => ?_, fun h9 => absurd h9 h2, fun _ => ⟨i, Nat.le_refl _, by omega, hne⟩⟩
        by_cases hji : j = i
        · subst hji; rw [p2 (by omega)]
        · exact p1 j (by omega) (by omega) hj
theorem ext_getD {a b : List Int} (hl : a.length = b.length) (h : ∀ j, j < a.length → a.getD j 0 = b.getD j 0) : a = b := by
  apply List.ext_getElem hl
  intro j h1 h2
  have := h j h1
  rw [List.getD_eq_getElem?_getD, List.getD_eq_getElem?_getD, List.getElem?_eq_getElem h1, List.getElem?_eq_getElem h2] at this
  exact this
theorem getD_take (a : List Int) (n j : Nat) (h : j < n) : (a.take n).getD j 0 = a.getD j 0 := by
  rw [List.getD_eq_getElem?_getD, List.getD_eq_getElem?_getD, List.getElem?_take_of_lt h]
theorem getD_drop (a : List Int) (n j : Nat) : (a.drop n).getD j 0 = a.getD (n + j) 0 := by
  rw [List.getD_eq_getElem?_getD, List.getD_eq_getElem?_getD, List.getElem?_drop]
/-- Two strings that differ in one block alone have different tags. -/
theorem tag_block {key : Nat} {a b : List Int} (ba : Bytes a) (bb : Bytes b) (hlen : a.length < 2 ^ 64) (h : 0 ≤ blockI a b) : tagN key a ≠ tagN key b := by
  unfold blockI at h
  by_cases hl : a.length = b.length
  · rw [if_pos hl] at h
    obtain ⟨p1, _, p3⟩ := blockA_tells a b a.length 0 (-1) (Or.inl rfl) h
    obtain ⟨d, _, hd2, hd3⟩ := p3 rfl
    have hdd := p1 d (by omega) (by omega) hd3
    have hp : ∀ j, j < a.length → a.getD j 0 ≠ b.getD j 0 → j / 8 = d / 8 := fun j hj hne => by
      have := p1 j (by omega) (by omega) hne
      omega
    have ea : a = a.take (8 * (d / 8)) ++ ((a.drop (8 * (d / 8))).take 8 ++ (a.drop (8 * (d / 8))).drop 8) := by
      rw [List.take_append_drop, List.take_append_drop]
    have eb : b = b.take (8 * (d / 8)) ++ ((b.drop (8 * (d / 8))).take 8 ++ (b.drop (8 * (d / 8))).drop 8) := by
      rw [List.take_append_drop, List.take_append_drop]
    have e1 : a.take (8 * (d / 8)) = b.take (8 * (d / 8)) := by
      apply ext_getD (by simp; omega)
      intro j hj
      have hj8 : j < 8 * (d / 8) := by simp at hj; omega
      rw [getD_take _ _ _ hj8, getD_take _ _ _ hj8]
      by_cases hne : a.getD j 0 = b.getD j 0
      · exact hne
      · have := hp j (by omega) hne
        omega
    have e2 : (a.drop (8 * (d / 8))).drop 8 = (b.drop (8 * (d / 8))).drop 8 := by
      rw [List.drop_drop, List.drop_drop]
      apply ext_getD (by simp; omega)
      intro j hj
      rw [getD_drop, getD_drop]
      by_cases hne : a.getD (8 * (d / 8) + 8 + j) 0 = b.getD (8 * (d / 8) + 8 + j) 0
      · exact hne
      · have hj2 : 8 * (d / 8) + 8 + j < a.length := by simp at hj; omega
        have := hp _ hj2 hne
        omega
    intro e
    unfold tagN at e
    have t1 := tags_lt (mixN_lt key) ba
    have t2 := tags_lt (mixN_lt key) bb
    rw [← hl] at e
    have e3 := mixN_inj (Nat.xor_lt_two_pow t1 hlen) (Nat.xor_lt_two_pow t2 hlen) e
    have e4 := xor_inj' _ _ _ e3
    rw [ea, eb, ← e1, ← e2] at e4
    have hpl : (a.take (8 * (d / 8))).length % 8 = 0 := by
      rw [List.length_take, Nat.min_eq_left (by omega)]; omega
    have h88 : ((a.drop (8 * (d / 8))).take 8).length = 8 ∨ (((a.drop (8 * (d / 8))).take 8).length < 8 ∧ (a.drop (8 * (d / 8))).drop 8 = []) := by
      by_cases hh : 8 ≤ (a.drop (8 * (d / 8))).length
      · left; rw [List.length_take]; omega
      · right; exact ⟨by rw [List.length_take]; omega, List.drop_eq_nil_of_le (by omega)⟩
    have e5 := tags_block _ _ _ _ _ (mixN_lt key) hpl (by simp; omega) h88 ((ba.drop _).take 8) ((bb.drop _).take 8) ((ba.drop _).drop 8) (ba.take _) e4
    apply hd3
    have g1 : ((a.drop (8 * (d / 8))).take 8).getD (d % 8) 0 = a.getD d 0 := by
      rw [getD_take _ _ _ (by omega), getD_drop]; congr 1; omega
    have g2 : ((b.drop (8 * (d / 8))).take 8).getD (d % 8) 0 = b.getD d 0 := by
      rw [getD_take _ _ _ (by omega), getD_drop]; congr 1; omega
    rw [← g1, ← g2, e5]
  · rw [if_neg hl] at h; omega
end Go.Proofs.Ytdlinojgmllkoaa.MMedia
