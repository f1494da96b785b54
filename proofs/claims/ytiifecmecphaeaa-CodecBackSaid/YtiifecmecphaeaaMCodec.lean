/- Plain lists and numbers of layer 3: numbers as bytes, frames, lists; what is put is read back, and what is read was put. No program and no memory in it. -/
import Derived.Test.YtiifecmecphaeaaMCrc
import Derived.Lib.Bytes
namespace Go.Proofs.Ytiifecmecphaeaa.MCodec
open Go.RowKit Go.Proofs.YtiifecmecphaeaaW.PrintWords Go.Proofs.YtiifecmecphaeaaW.PrintMore Go.Proofs.Ytiifecmecphaeaa.MSeal Go.Proofs.Ytiifecmecphaeaa.MCrc

/-- The bytes of a number. -/
def putN (n : Nat) : List Int := if n < 128 then [(n : Int)] else ((n % 128 + 128 : Nat) : Int) :: putN (n / 128)
theorem putN_small {n : Nat} (h : n < 128) : putN n = [(n : Int)] := by rw [putN, if_pos h]
theorem putN_big {n : Nat} (h : ¬ n < 128) : putN n = ((n % 128 + 128 : Nat) : Int) :: putN (n / 128) := by rw [putN, if_neg h]
/-- The number that bytes tell. -/
def valN : List Int → Nat
  | [] => 0
  | c :: r => c.toNat % 128 + 128 * valN r
theorem valN_snoc (p : List Int) (c : Int) : valN (p ++ [c]) = valN p + 128 ^ p.length * (c.toNat % 128) := by
  induction p with
  | nil => simp [valN]
  | cons x r ih =>
    simp only [List.cons_append, valN, ih, List.length_cons, Nat.pow_succ, Nat.mul_add]
    have : 128 * (128 ^ r.length * (c.toNat % 128)) = 128 ^ r.length * 128 * (c.toNat % 128) := by
      rw [← Nat.mul_assoc, Nat.mul_comm 128 (128 ^ r.length)]
    omega
theorem valN_lt (p : List Int) : valN p < 128 ^ p.length := by
  induction p with
  | nil => simp [valN]
  | cons x r ih =>
    simp only [valN, List.length_cons, Nat.pow_succ]
    omega
/-- The only form of a number. -/
def Form : List Int → Prop
  | [] => False
  | [c] => 0 ≤ c ∧ c < 128
  | c :: d :: r => 128 ≤ c ∧ c < 256 ∧ d :: r ≠ [0] ∧ Form (d :: r)
theorem Form.ne {p : List Int} (h : Form p) : p ≠ [] := by cases p with
  | nil => exact h.elim
  | cons _ _ => simp
theorem Form.pos {p : List Int} (h : Form p) : 0 < p.length := List.length_pos_iff.mpr h.ne
theorem Form.bytes : ∀ {p : List Int}, Form p → Bytes p
  | [], h => h.elim
  | [c], h => fun x hx => by
    simp only [List.mem_singleton] at hx; subst hx; exact ⟨h.1, by have := h.2; omega⟩
  | c :: d :: r, h => fun x hx => by
    rcases List.mem_cons.mp hx with rfl | hx
    · exact ⟨by have := h.1; omega, h.2.1⟩
    · exact Form.bytes h.2.2.2 x hx
theorem Form.val_pos : ∀ {p : List Int}, Form p → p ≠ [0] → 0 < valN p
  | [], h, _ => h.elim
  | [c], h, hz => by
    have h1 := h.1
    have h2 := h.2
    have : c ≠ 0 := fun e => hz (by rw [e])
    simp only [valN]; omega
  | c :: d :: r, h, _ => by
    have := Form.val_pos h.2.2.2 h.2.2.1
    simp only [valN] at this ⊢; omega
theorem Form.put : ∀ {p : List Int}, Form p → putN (valN p) = p
  | [], h => h.elim
  | [c], h => by
    have h1 := h.1
    have h2 := h.2
    have e : valN [c] = c.toNat := by simp only [valN]; omega
    rw [e, putN_small (by omega)]
    congr 1; omega
  | c :: d :: r, h => by
    have h1 := h.1
    have h2 := h.2.1
    have hp := Form.val_pos h.2.2.2 h.2.2.1
    have e : valN (c :: d :: r) = c.toNat % 128 + 128 * valN (d :: r) := rfl
    rw [e, putN_big (by omega)]
    have e1 : (c.toNat % 128 + 128 * valN (d :: r)) / 128 = valN (d :: r) := by omega
    have e2 : (((c.toNat % 128 + 128 * valN (d :: r)) % 128 + 128 : Nat) : Int) = c := by omega
    rw [e1, e2, Form.put h.2.2.2]
theorem putN_ne (n : Nat) : putN n ≠ [] := by
  by_cases h : n < 128
  · rw [putN_small h]; simp
  · rw [putN_big h]; simp
theorem putN_form (n : Nat) : Form (putN n) ∧ (0 < n → putN n ≠ [0]) ∧ valN (putN n) = n := by
  induction n using Nat.strongRecOn with
  | ind n ih =>
    by_cases h : n < 128
    · rw [putN_small h]
      refine ⟨⟨by omega, by omega⟩, fun hp => ?_, ?_⟩
      · intro e
        have := List.cons.inj e
        omega
      · simp only [valN]; omega
    · obtain ⟨f, z, v⟩ := ih (n / 128) (by omega)
      rw [putN_big h]
      have hne := putN_ne (n / 128)
      obtain ⟨d, r, hdr⟩ : ∃ d r, putN (n / 128) = d :: r := by
        cases hp : putN (n / 128) with
        | nil => exact absurd hp hne
        | cons d r => exact ⟨d, r, rfl⟩
      rw [hdr] at f z v ⊢
      refine ⟨⟨by omega, by omega, z (by omega), f⟩, fun _ => by simp, ?_⟩
      show (((n % 128 + 128 : Nat) : Int)).toNat % 128 + 128 * valN (d :: r) = n
      rw [v, Int.toNat_natCast]; omega
theorem putN_bytes (n : Nat) : Bytes (putN n) := (putN_form n).1.bytes
theorem putN_len (n k : Nat) (h : n < 128 ^ k) (hk : 0 < k) : (putN n).length ≤ k := by
  induction k generalizing n with
  | zero => omega
  | succ k ih =>
    by_cases hs : n < 128
    · rw [putN_small hs]; simp
    · rw [putN_big hs, List.length_cons]
      have h0 : 0 < k := by
        rcases Nat.eq_zero_or_pos k with rfl | h0
        · simp at h; omega
        · exact h0
      have := ih (n / 128) (by rw [Nat.pow_succ] at h; exact Nat.div_lt_of_lt_mul (by omega)) h0
      omega
theorem putN_len9 (n : Nat) (h : n < 9223372036854775808) : (putN n).length ≤ 9 := putN_len n 9 h (by decide)

/-- What Get tells from an index on, when at most m bytes more are looked at. -/
def getA (l : List Int) : Nat → Nat → Int × Int × Int
  | 0, _ => (0, 0, 4)
  | m + 1, i => if l.length ≤ i then (0, 0, 5) else if l.getD i 0 ≥ 128 then getA l m (i + 1) else if l.getD i 0 = 0 ∧ 0 < i then (0, 0, 3) else (((valN (l.take (i + 1)) : Nat) : Int), ((i + 1 : Nat) : Int), 0)
/-- What Get tells. -/
def getI (l : List Int) : Int × Int × Int := getA l 9 0
theorem take_succ (l : List Int) (i : Nat) (h : i < l.length) : l.take (i + 1) = l.take i ++ [l.getD i 0] := by
  rw [List.take_succ_eq_append_getElem h, List.getD_eq_getElem?_getD, List.getElem?_eq_getElem h]; rfl
theorem drop_cons (l : List Int) (i : Nat) (h : i < l.length) : l.drop i = l.getD i 0 :: l.drop (i + 1) := by
  rw [List.drop_eq_getElem_cons h, List.getD_eq_getElem?_getD, List.getElem?_eq_getElem h]; rfl
theorem getA_of (l q r : List Int) : ∀ (m i : Nat), l.drop i = q ++ r → Form q → q.length ≤ m → (0 < i → q ≠ [0]) → getA l m i = (((valN (l.take (i + q.length)) : Nat) : Int), ((i + q.length : Nat) : Int), 0) := by
  induction q with
  | nil => intro m i _ h; exact h.elim
  | cons c q ih =>
    intro m i hd hf hm hz
    have hi : i < l.length := by
      have := congrArg List.length hd
      simp at this; omega
    cases m with
    | zero => simp at hm
    | succ m =>
      rw [drop_cons l i hi] at hd
      have hc := (List.cons.inj hd).1
      have hr := (List.cons.inj hd).2
      simp only [getA]
      rw [if_neg (by omega), hc]
      cases q with
      | nil =>
        have h2 := hf.2
        have hne : ¬ (c = 0 ∧ 0 < i) := fun ⟨e, h0⟩ => hz h0 (by rw [e])
        rw [if_neg (by omega), if_neg hne]; rfl
      | cons d q =>
        rw [if_pos hf.1]
        have h9 := ih m (i + 1) hr hf.2.2.2 (by simp at hm ⊢; omega) (fun _ => hf.2.2.1)
        rw [h9]
        have e : i + 1 + (d :: q).length = i + (c :: d :: q).length := by simp; omega
        rw [e]
theorem getA_tells (l : List Int) (hb : Bytes l) : ∀ (m i : Nat), (getA l m i).2.2 = 0 → ∃ q r, l.drop i = q ++ r ∧ Form q ∧ q.length ≤ m ∧ (0 < i → q ≠ [0]) ∧ getA l m i = (((valN (l.take (i + q.length)) : Nat) : Int), ((i + q.length : Nat) : Int), 0) := by
  intro m
  induction m with
  | zero => intro i h; simp [getA] at h
  | succ m ih =>
    intro i h
    simp only [getA] at h ⊢
    by_cases h1 : l.length ≤ i
    · rw [if_pos h1] at h; simp at h
    · rw [if_neg h1] at h ⊢
      have hi : i < l.length := by omega
      have hby := hb.at i
      by_cases h2 : l.getD i 0 ≥ 128
      · rw [if_pos h2] at h ⊢
        obtain ⟨q, r, hd, hf, hl, hz, he⟩ := ih (i + 1) h
        refine ⟨l.getD i 0 :: q, r, by rw [drop_cons l i hi, hd]; rfl, ?_, by simp; omega, fun _ => ?_, ?_⟩
        · cases q with
          | nil => exact hf.elim
          | cons d q => exact ⟨h2, hby.2, hz (by omega), hf⟩
        · intro e
          have := (List.cons.inj e).1
          omega
        · rw [he]
          have e : i + (l.getD i 0 :: q).length = i + 1 + q.length := by simp; omega
          rw [e]
      · rw [if_neg h2] at h ⊢
        by_cases h3 : l.getD i 0 = 0 ∧ 0 < i
        · rw [if_pos h3] at h; simp at h
        · rw [if_neg h3]
          refine ⟨[l.getD i 0], l.drop (i + 1), by rw [drop_cons l i hi]; rfl, ⟨hby.1, by omega⟩, by simp, fun h0 e => h3 ⟨(List.cons.inj e).1, h0⟩, rfl⟩
theorem getA_err (l : List Int) : ∀ (m i : Nat), (getA l m i).2.2 = 0 ∨ ((getA l m i).1 = 0 ∧ (getA l m i).2.1 = 0 ∧ ((getA l m i).2.2 = 3 ∨ (getA l m i).2.2 = 4 ∨ (getA l m i).2.2 = 5)) := by
  intro m
  induction m with
  | zero => intro i; simp [getA]
  | succ m ih =>
    intro i
    simp only [getA]
    split
    · simp
    · split
      · exact ih (i + 1)
      · split
        · simp
        · simp
/-- What is put is read back. -/
theorem getI_put (n : Nat) (r : List Int) (h : n < 9223372036854775808) : getI (putN n ++ r) = ((n : Int), (((putN n).length : Nat) : Int), 0) := by
  obtain ⟨f, _, v⟩ := putN_form n
  have := getA_of (putN n ++ r) (putN n) r 9 0 (by simp) f (putN_len9 n h) (fun h => by omega)
  unfold getI
  rw [this, Nat.zero_add, List.take_append_of_le_length (Nat.le_refl _), List.take_length, v]
/-- What is read was put. -/
theorem getI_tells {l : List Int} (hb : Bytes l) (h : (getI l).2.2 = 0) : ∃ n k : Nat, getI l = ((n : Int), (k : Int), 0) ∧ n < 9223372036854775808 ∧ 1 ≤ k ∧ k ≤ 9 ∧ k ≤ l.length ∧ l.take k = putN n := by
  obtain ⟨q, r, hd, hf, hl, _, he⟩ := getA_tells l hb 9 0 h
  simp only [List.drop_zero] at hd
  rw [Nat.zero_add] at he
  have ht : l.take q.length = q := by rw [hd, List.take_append_of_le_length (Nat.le_refl _), List.take_length]
  rw [ht] at he
  have hv := valN_lt q
  have hp : 128 ^ q.length ≤ 128 ^ 9 := Nat.pow_le_pow_right (by decide) hl
  refine ⟨valN q, q.length, he, by omega, hf.pos, hl, by rw [hd]; simp, by rw [ht, hf.put]⟩
theorem getI_err (l : List Int) : (getI l).2.2 = 0 ∨ ((getI l).1 = 0 ∧ (getI l).2.1 = 0 ∧ ((getI l).2.2 = 3 ∨ (getI l).2.2 = 4 ∨ (getI l).2.2 = 5)) := getA_err l 9 0

/-- The four bytes of a sum. -/
def be4 (s : Nat) : List Int := [((s / 16777216 % 256 : Nat) : Int), ((s / 65536 % 256 : Nat) : Int), ((s / 256 % 256 : Nat) : Int), ((s % 256 : Nat) : Int)]
theorem be4_len (s : Nat) : (be4 s).length = 4 := rfl
theorem be4_bytes (s : Nat) : Bytes (be4 s) := fun x hx => by
  simp only [be4, List.mem_cons, List.not_mem_nil, or_false] at hx
  rcases hx with rfl | rfl | rfl | rfl <;> omega
theorem be4_inj {s t : Nat} (hs : s < 2 ^ 32) (ht : t < 2 ^ 32) (h : be4 s = be4 t) : s = t := by
  simp only [be4, List.cons.injEq, and_true] at h
  omega
/-- The number that four bytes tell. -/
def ofBe (l : List Int) : Nat := (l.getD 0 0).toNat * 16777216 + (l.getD 1 0).toNat * 65536 + (l.getD 2 0).toNat * 256 + (l.getD 3 0).toNat
theorem ofBe_be4 (s : Nat) (h : s < 2 ^ 32) : ofBe (be4 s) = s := by
  simp [ofBe, be4]; omega
theorem be4_ofBe {l : List Int} (hb : Bytes l) (hl : l.length = 4) : be4 (ofBe l) = l ∧ ofBe l < 2 ^ 32 := by
  match l, hl with
  | [a, b, c, d], _ =>
    have ha := hb a (by simp)
    have hb' := hb b (by simp)
    have hc := hb c (by simp)
    have hd := hb d (by simp)
    have e : ofBe [a, b, c, d] = a.toNat * 16777216 + b.toNat * 65536 + c.toNat * 256 + d.toNat := rfl
    rw [e]
    refine ⟨?_, by omega⟩
    simp only [be4, List.cons.injEq, and_true]
    omega
/-- The frame of a body. -/
def frameN (body : List Int) : List Int := putN body.length ++ body ++ be4 (crcN body)
theorem frameN_bytes {b : List Int} (h : Bytes b) : Bytes (frameN b) := ((putN_bytes _).append h).append (be4_bytes _)
theorem frameN_len (b : List Int) : (frameN b).length = (putN b.length).length + b.length + 4 := by simp [frameN, be4_len]; omega
/-- What Unframe tells. -/
def unI (l : List Int) : List Int × Int × Int :=
  if (getI l).2.2 ≠ 0 then ([], 0, (getI l).2.2) else
  if (getI l).1 > 65536 then ([], 0, 4) else
  if (l.length : Int) - (getI l).2.1 < (getI l).1 + 4 then ([], 0, 5) else
  if crcN ((l.drop (getI l).2.1.toNat).take (getI l).1.toNat) = ofBe ((l.drop ((getI l).2.1 + (getI l).1).toNat).take 4) then ((l.drop (getI l).2.1.toNat).take (getI l).1.toNat, (getI l).2.1 + (getI l).1 + 4, 0) else ([], 0, 6)
/-- A frame is read back, whatever follows. -/
theorem unI_frame (b r : List Int) (hb : Bytes b) (hl : b.length ≤ 65536) : unI (frameN b ++ r) = (b, (((frameN b).length : Nat) : Int), 0) := by
  have e : frameN b ++ r = putN b.length ++ (b ++ (be4 (crcN b) ++ r)) := by simp [frameN]
  have hg := getI_put b.length (b ++ (be4 (crcN b) ++ r)) (by omega)
  have hlen := frameN_len b
  unfold unI
  rw [e, hg]
  simp only [ne_eq, not_true_eq_false, if_false, Int.toNat_natCast]
  rw [if_neg (by omega), if_neg (by simp [be4_len]; omega)]
  have d1 : (putN b.length ++ (b ++ (be4 (crcN b) ++ r))).drop (putN b.length).length = b ++ (be4 (crcN b) ++ r) := by rw [List.drop_left]
  have d2 : (b ++ (be4 (crcN b) ++ r)).take b.length = b := by rw [List.take_append_of_le_length (Nat.le_refl _), List.take_length]
  have d3 : ((((putN b.length).length : Nat) : Int) + ((b.length : Nat) : Int)).toNat = (putN b.length ++ b).length := by simp; omega
  have d4 : (putN b.length ++ (b ++ (be4 (crcN b) ++ r))).drop (putN b.length ++ b).length = be4 (crcN b) ++ r := by
    rw [← List.append_assoc, List.drop_left]
  have d5 : (be4 (crcN b) ++ r).take 4 = be4 (crcN b) := by
    have h4 : (4 : Nat) = (be4 (crcN b)).length := rfl
    rw [h4, List.take_append_of_le_length (Nat.le_refl _), List.take_length]
  rw [d1, d2, d3, d4, d5, ofBe_be4 _ (crcN_lt hb), if_pos rfl, hlen]
  simp
/-- What is read from a frame is the frame. -/
theorem unI_tells {l : List Int} (hb : Bytes l) (h : (unI l).2.2 = 0) : ∃ (b : List Int) (k : Nat), unI l = (b, (k : Int), 0) ∧ Bytes b ∧ b.length ≤ 65536 ∧ 5 ≤ k ∧ k ≤ l.length ∧ l.take k = frameN b ∧ k = (frameN b).length := by
  unfold unI at h ⊢
  by_cases h1 : (getI l).2.2 ≠ 0
  · rw [if_pos h1] at h; exact absurd h h1
  · rw [if_neg h1] at h ⊢
    obtain ⟨n, k, hg, hn, hk1, hk9, hkl, ht⟩ := getI_tells hb (by simpa using h1)
    rw [hg] at h ⊢
    simp only [Int.toNat_natCast] at h ⊢
    by_cases h2 : (n : Int) > 65536
    · rw [if_pos h2] at h; simp at h
    · rw [if_neg h2] at h ⊢
      by_cases h3 : (l.length : Int) - (k : Int) < (n : Int) + 4
      · rw [if_pos h3] at h; simp at h
      · rw [if_neg h3] at h ⊢
        by_cases h4 : crcN ((l.drop k).take n) = ofBe ((l.drop ((k : Int) + (n : Int)).toNat).take 4)
        · rw [if_pos h4]
          have hkn : ((k : Int) + (n : Int)).toNat = k + n := by omega
          rw [hkn] at h4
          have hb1 : Bytes ((l.drop k).take n) := (hb.drop k).take n
          have hl1 : ((l.drop k).take n).length = n := by simp; omega
          have hb2 : Bytes ((l.drop (k + n)).take 4) := (hb.drop _).take 4
          have hl2 : ((l.drop (k + n)).take 4).length = 4 := by simp; omega
          have hbe := be4_ofBe hb2 hl2
          refine ⟨(l.drop k).take n, k + n + 4, by simp, hb1, by omega, by omega, by omega, ?_, ?_⟩
          · unfold frameN
            rw [hl1, h4, hbe.1, ← ht]
            rw [List.take_add, List.take_add]
          · rw [frameN_len, hl1, ← ht]; simp; omega
        · rw [if_neg h4] at h; simp at h
/-- A frame with one changed byte in its body or its sum is found to be damaged. -/
theorem unI_damaged (b r : List Int) (hb : Bytes b) (hl : b.length ≤ 65536) (i : Nat) (x : Int) (hx0 : 0 ≤ x) (hx1 : x < 256) (hi : (putN b.length).length ≤ i) (hi2 : i < (frameN b).length) (hne : (frameN b).getD i 0 ≠ x) : unI ((frameN b).set i x ++ r) = ([], 0, 6) := by
  have hlen := frameN_len b
  have split : ∃ c d : List Int, (frameN b).set i x = putN b.length ++ (c ++ d) ∧ c.length = b.length ∧ d.length = 4 ∧ Bytes c ∧ Bytes d ∧ crcN c ≠ ofBe d := by
    have hs : (b ++ be4 (crcN b)).set (i - (putN b.length).length) x = (b ++ be4 (crcN b)).set (i - (putN b.length).length) x := rfl
    have e1 : (frameN b).set i x = putN b.length ++ (b ++ be4 (crcN b)).set (i - (putN b.length).length) x := by
      unfold frameN
      rw [List.append_assoc, List.set_append_right _ _ hi]
    have hg : (frameN b).getD i 0 = (b ++ be4 (crcN b)).getD (i - (putN b.length).length) 0 := by
      unfold frameN
      rw [List.append_assoc, List.getD_eq_getElem?_getD, List.getD_eq_getElem?_getD, List.getElem?_append_right hi]
    rw [hg] at hne
    obtain ⟨j, hj⟩ : ∃ j, i - (putN b.length).length = j := ⟨_, rfl⟩
    rw [hj] at e1 hne
    have hj4 : j < b.length + 4 := by omega
    by_cases hjb : j < b.length
    · refine ⟨b.set j x, be4 (crcN b), by rw [e1, List.set_append_left _ _ hjb], by simp, rfl, ?_, be4_bytes _, ?_⟩
      · intro y hy
        rcases List.mem_or_eq_of_mem_set hy with h | rfl
        · exact hb y h
        · exact ⟨hx0, hx1⟩
      · rw [ofBe_be4 _ (crcN_lt hb)]
        have hgb : (b ++ be4 (crcN b)).getD j 0 = b[j] := by
          rw [List.getD_eq_getElem?_getD, List.getElem?_append_left hjb, List.getElem?_eq_getElem hjb]; rfl
        rw [hgb] at hne
        intro e
        have s1 : b = b.take j ++ b[j] :: b.drop (j + 1) := by rw [← List.drop_eq_getElem_cons hjb, List.take_append_drop]
        have s2 : b.set j x = b.take j ++ x :: b.drop (j + 1) := by rw [List.set_eq_take_append_cons_drop, if_pos hjb]
        rw [s2] at e
        have e2 := e.trans (congrArg crcN s1)
        have hbj := hb b[j] (List.getElem_mem hjb)
        exact hne (crc_change _ _ _ _ (hb.take j) (hb.drop (j + 1)) hx0 hx1 hbj.1 hbj.2 e2).symm
    · refine ⟨b, (be4 (crcN b)).set (j - b.length) x, by rw [e1, List.set_append_right _ _ (by omega)], rfl, by simp [be4_len], hb, ?_, ?_⟩
      · intro y hy
        rcases List.mem_or_eq_of_mem_set hy with h | rfl
        · exact be4_bytes _ y h
        · exact ⟨hx0, hx1⟩
      · have hd4 : ((be4 (crcN b)).set (j - b.length) x).length = 4 := by simp [be4_len]
        have hbd : Bytes ((be4 (crcN b)).set (j - b.length) x) := by
          intro y hy
          rcases List.mem_or_eq_of_mem_set hy with h | rfl
          · exact be4_bytes _ y h
          · exact ⟨hx0, hx1⟩
        intro e
        have h9 := be4_ofBe hbd hd4
        rw [← e] at h9
        have hgb : (b ++ be4 (crcN b)).getD j 0 = (be4 (crcN b)).getD (j - b.length) 0 := by
          rw [List.getD_eq_getElem?_getD, List.getD_eq_getElem?_getD, List.getElem?_append_right (by omega)]
        rw [hgb, h9.1] at hne
        apply hne
        rw [List.getD_eq_getElem?_getD, List.getElem?_set_self (by simp [be4_len]; omega)]; rfl
  obtain ⟨c, d, he, hc, hd, bc, bd, hcd⟩ := split
  have e : (frameN b).set i x ++ r = putN b.length ++ (c ++ (d ++ r)) := by rw [he]; simp
  have hgp := getI_put b.length (c ++ (d ++ r)) (by omega)
  unfold unI
  rw [e, hgp]
  simp only [ne_eq, not_true_eq_false, if_false, Int.toNat_natCast]
  rw [if_neg (by omega), if_neg (by simp; omega)]
  have d1 : (putN b.length ++ (c ++ (d ++ r))).drop (putN b.length).length = c ++ (d ++ r) := by rw [List.drop_left]
  have d2 : (c ++ (d ++ r)).take b.length = c := by rw [← hc, List.take_append_of_le_length (Nat.le_refl _), List.take_length]
  have d3 : ((((putN b.length).length : Nat) : Int) + ((b.length : Nat) : Int)).toNat = (putN b.length ++ c).length := by simp; omega
  have d4 : (putN b.length ++ (c ++ (d ++ r))).drop (putN b.length ++ c).length = d ++ r := by
    rw [← List.append_assoc, List.drop_left]
  have d5 : (d ++ r).take 4 = d := by rw [← hd, List.take_append_of_le_length (Nat.le_refl _), List.take_length]
  rw [d1, d2, d3, d4, d5, if_neg hcd]

/-- What GetText tells: the string's bytes. -/
def textI (l : List Int) : List Int × Int × Int :=
  if (getI l).2.2 ≠ 0 then ([], 0, (getI l).2.2) else
  if (getI l).1 > 2000 then ([], 0, 4) else
  if (l.length : Int) - (getI l).2.1 < (getI l).1 then ([], 0, 5) else
  ((l.drop (getI l).2.1.toNat).take (getI l).1.toNat, (getI l).2.1 + (getI l).1, 0)
theorem textI_put (s r : List Int) (hl : s.length ≤ 2000) : textI (putN s.length ++ s ++ r) = (s, (((putN s.length ++ s).length : Nat) : Int), 0) := by
  have hg := getI_put s.length (s ++ r) (by omega)
  unfold textI
  rw [List.append_assoc, hg]
  simp only [ne_eq, not_true_eq_false, if_false, Int.toNat_natCast]
  rw [if_neg (by omega), if_neg (by simp; omega), List.drop_left, List.take_append_of_le_length (Nat.le_refl _), List.take_length]
  simp
theorem textI_tells {l : List Int} (hb : Bytes l) (h : (textI l).2.2 = 0) : ∃ (s : List Int) (k : Nat), textI l = (s, (k : Int), 0) ∧ Bytes s ∧ s.length ≤ 2000 ∧ 1 ≤ k ∧ k ≤ l.length ∧ l.take k = putN s.length ++ s := by
  unfold textI at h ⊢
  by_cases h1 : (getI l).2.2 ≠ 0
  · rw [if_pos h1] at h; exact absurd h h1
  · rw [if_neg h1] at h ⊢
    obtain ⟨n, k, hg, hn, hk1, hk9, hkl, ht⟩ := getI_tells hb (by simpa using h1)
    rw [hg] at h ⊢
    simp only [Int.toNat_natCast] at h ⊢
    by_cases h2 : (n : Int) > 2000
    · rw [if_pos h2] at h; simp at h
    · rw [if_neg h2] at h ⊢
      by_cases h3 : (l.length : Int) - (k : Int) < (n : Int)
      · rw [if_pos h3] at h; simp at h
      · rw [if_neg h3]
        have hl1 : ((l.drop k).take n).length = n := by simp; omega
        refine ⟨(l.drop k).take n, k + n, by simp, (hb.drop k).take n, by omega, by omega, by omega, ?_⟩
        rw [hl1, ← ht, List.take_add]
/-- What is read of a list when m numbers are left. -/
def listA (l : List Int) : Nat → Nat → List Int → List Int × Int × Int
  | 0, p, acc => (acc, (p : Int), 0)
  | m + 1, p, acc => if (getI (l.drop p)).2.2 = 0 then listA l m (p + (getI (l.drop p)).2.1.toNat) (acc ++ [(getI (l.drop p)).1]) else ([], 0, (getI (l.drop p)).2.2)
/-- What GetList tells. -/
def listI (l : List Int) : List Int × Int × Int :=
  if (getI l).2.2 ≠ 0 then ([], 0, (getI l).2.2) else
  if (getI l).1 > 10000 then ([], 0, 4) else listA l (getI l).1.toNat (getI l).2.1.toNat []
/-- The bytes of a list of numbers. -/
def putL (l : List Int) : List Int := (l.map fun n => putN n.toNat).flatten
theorem putL_cons (n : Int) (l : List Int) : putL (n :: l) = putN n.toNat ++ putL l := rfl
theorem putL_append (a b : List Int) : putL (a ++ b) = putL a ++ putL b := by simp [putL]
theorem putL_bytes (l : List Int) : Bytes (putL l) := by
  induction l with
  | nil => intro x hx; simp [putL] at hx
  | cons n l ih => rw [putL_cons]; exact (putN_bytes _).append ih
/-- Numbers that are not negative, and fit. -/
def Nats (l : List Int) : Prop := ∀ x ∈ l, 0 ≤ x ∧ x < 9223372036854775808
theorem listA_put (x : List Int) (hx : Nats x) : ∀ (p r acc : List Int), listA (p ++ putL x ++ r) x.length p.length acc = (acc ++ x, (((p ++ putL x).length : Nat) : Int), 0) := by
  induction x with
  | nil => intro p r acc; simp [listA, putL]
  | cons n x ih =>
    intro p r acc
    have hn := hx n (by simp)
    have e : (p ++ putL (n :: x) ++ r).drop p.length = putN n.toNat ++ (putL x ++ r) := by
      rw [putL_cons, List.append_assoc, List.drop_left, List.append_assoc]
    have hg := getI_put n.toNat (putL x ++ r) (by omega)
    simp only [List.length_cons, listA]
    rw [e, hg]
    simp only [if_true, Int.toNat_natCast]
    have h9 := ih (fun y hy => hx y (by simp [hy])) (p ++ putN n.toNat) r (acc ++ [((n.toNat : Nat) : Int)])
    have e2 : p ++ putN n.toNat ++ putL x ++ r = p ++ putL (n :: x) ++ r := by rw [putL_cons]; simp
    rw [e2, List.length_append] at h9
    rw [h9, putL_cons, Int.toNat_of_nonneg hn.1]
    simp
theorem listI_put (x r : List Int) (hx : Nats x) (hl : x.length ≤ 10000) : listI (putN x.length ++ putL x ++ r) = (x, (((putN x.length ++ putL x).length : Nat) : Int), 0) := by
  have hg := getI_put x.length (putL x ++ r) (by omega)
  have h9 := listA_put x hx (putN x.length) r []
  unfold listI
  have e : getI (putN x.length ++ putL x ++ r) = ((x.length : Int), (((putN x.length).length : Nat) : Int), 0) := by rw [List.append_assoc]; exact hg
  rw [e]
  simp only [ne_eq, not_true_eq_false, if_false, Int.toNat_natCast]
  rw [if_neg (by omega), h9]; simp
theorem listA_tells {l : List Int} (hb : Bytes l) : ∀ (m p : Nat) (acc : List Int), p ≤ l.length → (listA l m p acc).2.2 = 0 → ∃ (x : List Int) (k : Nat), listA l m p acc = (acc ++ x, (k : Int), 0) ∧ Nats x ∧ x.length = m ∧ p ≤ k ∧ k ≤ l.length ∧ (l.drop p).take (k - p) = putL x := by
  intro m
  induction m with
  | zero => intro p acc hp _; exact ⟨[], p, by simp [listA], fun x hx => by simp at hx, rfl, Nat.le_refl _, hp, by simp [putL]⟩
  | succ m ih =>
    intro p acc hp h
    simp only [listA] at h ⊢
    by_cases h1 : (getI (l.drop p)).2.2 = 0
    · rw [if_pos h1] at h ⊢
      obtain ⟨n, k, hg, hn, hk1, hk9, hkl, ht⟩ := getI_tells (hb.drop p) h1
      rw [hg] at h ⊢
      simp only [Int.toNat_natCast] at h ⊢
      have hkl2 : p + k ≤ l.length := by simp at hkl; omega
      obtain ⟨x, k2, he, hx, hxl, hpk, hkl3, ht2⟩ := ih (p + k) (acc ++ [(n : Int)]) hkl2 h
      refine ⟨(n : Int) :: x, k2, by rw [he]; simp, ?_, by simp [hxl], by omega, hkl3, ?_⟩
      · intro y hy
        rcases List.mem_cons.mp hy with rfl | hy
        · omega
        · exact hx y hy
      · have e : k2 - p = k + (k2 - (p + k)) := by omega
        rw [e, List.take_add, ht, List.drop_drop, ht2, putL_cons, Int.toNat_natCast]
    · rw [if_neg h1] at h; exact absurd h h1
theorem listI_tells {l : List Int} (hb : Bytes l) (h : (listI l).2.2 = 0) : ∃ (x : List Int) (k : Nat), listI l = (x, (k : Int), 0) ∧ Nats x ∧ x.length ≤ 10000 ∧ 1 ≤ k ∧ k ≤ l.length ∧ l.take k = putN x.length ++ putL x := by
  unfold listI at h ⊢
  by_cases h1 : (getI l).2.2 ≠ 0
  · rw [if_pos h1] at h; exact absurd h h1
  · rw [if_neg h1] at h ⊢
    obtain ⟨n, k, hg, hn, hk1, hk9, hkl, ht⟩ := getI_tells hb (by simpa using h1)
    rw [hg] at h ⊢
    simp only [Int.toNat_natCast] at h ⊢
    by_cases h2 : (n : Int) > 10000
    · rw [if_pos h2] at h; simp at h
    · rw [if_neg h2] at h ⊢
      obtain ⟨x, k2, he, hx, hxl, hpk, hkl3, ht2⟩ := listA_tells hb n k [] hkl h
      refine ⟨x, k2, by rw [he]; simp, hx, by omega, by omega, hkl3, ?_⟩
      have e : k2 = k + (k2 - k) := by omega
      rw [e, List.take_add, ht, hxl, ht2]
end Go.Proofs.Ytiifecmecphaeaa.MCodec
