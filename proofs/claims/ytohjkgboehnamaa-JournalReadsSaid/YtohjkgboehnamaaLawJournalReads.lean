/- Read, Whole and Last return what is specified for any bytes. Condition: the statement's own bound of 2000 bytes. (With it: the maths of numbers, frames and journals.) -/
import Derived.Test.YtohjkgboehnamaaMCrc
import Derived.Lib.Bytes
import Derived.Test.YtohjkgboehnamaaQx59
import Derived.Test.YtohjkgboehnamaaRows
import Derived.WalkKit
import Derived.ProofKit
import Derived.OpenShut
import Derived.ShutString
import Derived.ChangeOld
import Derived.Below
import Derived.SizedLaws
import Derived.Test.YtohjkgboehnamaaWSized
namespace Go.Proofs.Ytohjkgboehnamaa.MCodec
open Go.RowKit Go.Proofs.YtohjkgboehnamaaW.PrintWords Go.Proofs.YtohjkgboehnamaaW.PrintMore Go.Proofs.Ytohjkgboehnamaa.MSeal Go.Proofs.Ytohjkgboehnamaa.MCrc

/-- The bytes of a number. -/
def putN (n : Nat) : List Int := if n < 128 then [(n : Int)] else ((n % 128 + 128 : Nat) : Int) :: putN (n / 128)
theorem putN_small {n : Nat} (h : n < 128) : putN n = [(n : Int)] := by rw [putN, if_pos h]
theorem putN_big {n : Nat} (h : ¬ n < 128) : putN n = ((n % 128 + 128 : Nat) : Int) :: putN (n / 128) := by rw [putN, if_neg h]
/-- The number that bytes tell. -/
def valN : List Int → Nat
  | [] => 0
  | c :: r => c.toNat % 128 + 128 * valN r
theorem valN_snoc (p : List Int) (c : Int) : valN (p ++ [c]) = valN p + 128 ^ p.length * (c.toNat % 128) := by
  induction p with
  | nil => simp [valN]
  | cons x r ih =>
    simp only [List.cons_append, valN, ih, List.length_cons, Nat.pow_succ, Nat.mul_add]
    have : 128 * (128 ^ r.length * (c.toNat % 128)) = 128 ^ r.length * 128 * (c.toNat % 128) := by
      rw [← Nat.mul_assoc, Nat.mul_comm 128 (128 ^ r.length)]
    omega
theorem valN_lt (p : List Int) : valN p < 128 ^ p.length := by
  induction p with
  | nil => simp [valN]
  | cons x r ih =>
    simp only [valN, List.length_cons, Nat.pow_succ]
    omega
/-- The only form of a number. -/
def Form : List Int → Prop
  | [] => False
  | [c] => 0 ≤ c ∧ c < 128
  | c :: d :: r => 128 ≤ c ∧ c < 256 ∧ d :: r ≠ [0] ∧ Form (d :: r)
theorem Form.ne {p : List Int} (h : Form p) : p ≠ [] := by cases p with
  | nil => exact h.elim
  | cons _ _ => simp
theorem Form.pos {p : List Int} (h : Form p) : 0 < p.length := List.length_pos_iff.mpr h.ne
theorem Form.bytes : ∀ {p : List Int}, Form p → Bytes p
  | [], h => h.elim
  | [c], h => fun x hx => by
    simp only [List.mem_singleton] at hx; subst hx; exact ⟨h.1, by have := h.2; omega⟩
  | c :: d :: r, h => fun x hx => by
    rcases List.mem_cons.mp hx with rfl | hx
    · exact ⟨by have := h.1; omega, h.2.1⟩
    · exact Form.bytes h.2.2.2 x hx
theorem Form.val_pos : ∀ {p : List Int}, Form p → p ≠ [0] → 0 < valN p
  | [], h, _ => h.elim
  | [c], h, hz => by
    have h1 := h.1
    have h2 := h.2
    have : c ≠ 0 := fun e => hz (by rw [e])
    simp only [valN]; omega
  | c :: d :: r, h, _ => by
    have := Form.val_pos h.2.2.2 h.2.2.1
    simp only [valN] at this ⊢; omega
theorem Form.put : ∀ {p : List Int}, Form p → putN (valN p) = p
  | [], h => h.elim
  | [c], h => by
    have h1 := h.1
    have h2 := h.2
    have e : valN [c] = c.toNat := by simp only [valN]; omega
    rw [e, putN_small (by omega)]
    congr 1; omega
  | c :: d :: r, h => by
    have h1 := h.1
    have h2 := h.2.1
    have hp := Form.val_pos h.2.2.2 h.2.2.1
    have e : valN (c :: d :: r) = c.toNat % 128 + 128 * valN (d :: r) := rfl
    rw [e, putN_big (by omega)]
    have e1 : (c.toNat % 128 + 128 * valN (d :: r)) / 128 = valN (d :: r) := by omega
    have e2 : (((c.toNat % 128 + 128 * valN (d :: r)) % 128 + 128 : Nat) : Int) = c := by omega
    rw [e1, e2, Form.put h.2.2.2]
theorem putN_ne (n : Nat) : putN n ≠ [] := by
  by_cases h : n < 128
  · rw [putN_small h]; simp
  · rw [putN_big h]; simp
theorem putN_form (n : Nat) : Form (putN n) ∧ (0 < n → putN n ≠ [0]) ∧ valN (putN n) = n := by
  induction n using Nat.strongRecOn with
  | ind n ih =>
    by_cases h : n < 128
    · rw [putN_small h]
      refine ⟨⟨by omega, by omega⟩, fun hp => ?_, ?_⟩
      · intro e
        have := List.cons.inj e
        omega
      · simp only [valN]; omega
    · obtain ⟨f, z, v⟩ := ih (n / 128) (by omega)
      rw [putN_big h]
      have hne := putN_ne (n / 128)
      obtain ⟨d, r, hdr⟩ : ∃ d r, putN (n / 128) = d :: r := by
        cases hp : putN (n / 128) with
        | nil => exact absurd hp hne
        | cons d r => exact ⟨d, r, rfl⟩
      rw [hdr] at f z v ⊢
      refine ⟨⟨by omega, by omega, z (by omega), f⟩, fun _ => by simp, ?_⟩
      show (((n % 128 + 128 : Nat) : Int)).toNat % 128 + 128 * valN (d :: r) = n
      rw [v, Int.toNat_natCast]; omega
theorem putN_bytes (n : Nat) : Bytes (putN n) := (putN_form n).1.bytes
theorem putN_len (n k : Nat) (h : n < 128 ^ k) (hk : 0 < k) : (putN n).length ≤ k := by
  induction k generalizing n with
  | zero => omega
  | succ k ih =>
    by_cases hs : n < 128
    · rw [putN_small hs]; simp
    · rw [putN_big hs, List.length_cons]
      have h0 : 0 < k := by
        rcases Nat.eq_zero_or_pos k with rfl | h0
        · simp at h; omega
        · exact h0
      have := ih (n / 128) (by rw [Nat.pow_succ] at h; exact Nat.div_lt_of_lt_mul (by omega)) h0
      omega
theorem putN_len9 (n : Nat) (h : n < 9223372036854775808) : (putN n).length ≤ 9 := putN_len n 9 h (by decide)

/-- What Get tells from an index on, when at most m bytes more are looked at. -/
def getA (l : List Int) : Nat → Nat → Int × Int × Int
  | 0, _ => (0, 0, 4)
  | m + 1, i => if l.length ≤ i then (0, 0, 5) else if l.getD i 0 ≥ 128 then getA l m (i + 1) else if l.getD i 0 = 0 ∧ 0 < i then (0, 0, 3) else (((valN (l.take (i + 1)) : Nat) : Int), ((i + 1 : Nat) : Int), 0)
/-- What Get tells. -/
def getI (l : List Int) : Int × Int × Int := getA l 9 0
theorem take_succ (l : List Int) (i : Nat) (h : i < l.length) : l.take (i + 1) = l.take i ++ [l.getD i 0] := by
  rw [List.take_succ_eq_append_getElem h, List.getD_eq_getElem?_getD, List.getElem?_eq_getElem h]; rfl
theorem drop_cons (l : List Int) (i : Nat) (h : i < l.length) : l.drop i = l.getD i 0 :: l.drop (i + 1) := by
  rw [List.drop_eq_getElem_cons h, List.getD_eq_getElem?_getD, List.getElem?_eq_getElem h]; rfl
theorem getA_of (l q r : List Int) : ∀ (m i : Nat), l.drop i = q ++ r → Form q → q.length ≤ m → (0 < i → q ≠ [0]) → getA l m i = (((valN (l.take (i + q.length)) : Nat) : Int), ((i + q.length : Nat) : Int), 0) := by
  induction q with
  | nil => intro m i _ h; exact h.elim
  | cons c q ih =>
    intro m i hd hf hm hz
    have hi : i < l.length := by
      have := congrArg List.length hd
      simp at this; omega
    cases m with
    | zero => simp at hm
    | succ m =>
      rw [drop_cons l i hi] at hd
      have hc := (List.cons.inj hd).1
      have hr := (List.cons.inj hd).2
      simp only [getA]
      rw [if_neg (by omega), hc]
      cases q with
      | nil =>
        have h2 := hf.2
        have hne : ¬ (c = 0 ∧ 0 < i) := fun ⟨e, h0⟩ => hz h0 (by rw [e])
        rw [if_neg (by omega), if_neg hne]; rfl
      | cons d q =>
        rw [if_pos hf.1]
        have h9 := ih m (i + 1) hr hf.2.2.2 (by simp at hm ⊢; omega) (fun _ => hf.2.2.1)
        rw [h9]
        have e : i + 1 + (d :: q).length = i + (c :: d :: q).length := by simp; omega
        rw [e]
theorem getA_tells (l : List Int) (hb : Bytes l) : ∀ (m i : Nat), (getA l m i).2.2 = 0 → ∃ q r, l.drop i = q ++ r ∧ Form q ∧ q.length ≤ m ∧ (0 < i → q ≠ [0]) ∧ getA l m i = (((valN (l.take (i + q.length)) : Nat) : Int), ((i + q.length : Nat) : Int), 0) := by
  intro m
  induction m with
  | zero => intro i h; simp [getA] at h
  | succ m ih =>
    intro i h
    simp only [getA] at h ⊢
    by_cases h1 : l.length ≤ i
    · rw [if_pos h1] at h; simp at h
    · rw [if_neg h1] at h ⊢
      have hi : i < l.length := by omega
      have hby := hb.at i
      by_cases h2 : l.getD i 0 ≥ 128
      · rw [if_pos h2] at h ⊢
        obtain ⟨q, r, hd, hf, hl, hz, he⟩ := ih (i + 1) h
        refine ⟨l.getD i 0 :: q, r, by rw [drop_cons l i hi, hd]; rfl, ?_, by simp; omega, fun _ => ?_, ?_⟩
        · cases q with
          | nil => exact hf.elim
          | cons d q => exact ⟨h2, hby.2, hz (by omega), hf⟩
        · intro e
          have := (List.cons.inj e).1
          omega
        · rw [he]
          have e : i + (l.getD i 0 :: q).length = i + 1 + q.length := by simp; omega
          rw [e]
      · rw [if_neg h2] at h ⊢
        by_cases h3 : l.getD i 0 = 0 ∧ 0 < i
        · rw [if_pos h3] at h; simp at h
        · rw [if_neg h3]
          refine ⟨[l.getD i 0], l.drop (i + 1), by rw [drop_cons l i hi]; rfl, ⟨hby.1, by omega⟩, by simp, fun h0 e => h3 ⟨(List.cons.inj e).1, h0⟩, rfl⟩
theorem getA_err (l : List Int) : ∀ (m i : Nat), (getA l m i).2.2 = 0 ∨ ((getA l m i).1 = 0 ∧ (getA l m i).2.1 = 0 ∧ ((getA l m i).2.2 = 3 ∨ (getA l m i).2.2 = 4 ∨ (getA l m i).2.2 = 5)) := by
  intro m
  induction m with
  | zero => intro i; simp [getA]
  | succ m ih =>
    intro i
    simp only [getA]
    split
    · simp
    · split
      · exact ih (i + 1)
      · split
        · simp
        · simp
/-- What is put is read back. -/
theorem getI_put (n : Nat) (r : List Int) (h : n < 9223372036854775808) : getI (putN n ++ r) = ((n : Int), (((putN n).length : Nat) : Int), 0) := by
  obtain ⟨f, _, v⟩ := putN_form n
  have := getA_of (putN n ++ r) (putN n) r 9 0 (by simp) f (putN_len9 n h) (fun h => by omega)
  unfold getI
  rw [this, Nat.zero_add, List.take_append_of_le_length (Nat.le_refl _), List.take_length, v]
/-- What is read was put. -/
theorem getI_tells {l : List Int} (hb : Bytes l) (h : (getI l).2.2 = 0) : ∃ n k : Nat, getI l = ((n : Int), (k : Int), 0) ∧ n < 9223372036854775808 ∧ 1 ≤ k ∧ k ≤ 9 ∧ k ≤ l.length ∧ l.take k = putN n := by
  obtain ⟨q, r, hd, hf, hl, _, he⟩ := getA_tells l hb 9 0 h
  simp only [List.drop_zero] at hd
  rw [Nat.zero_add] at he
  have ht : l.take q.length = q := by rw [hd, List.take_append_of_le_length (Nat.le_refl _), List.take_length]
  rw [ht] at he
  have hv := valN_lt q
  have hp : 128 ^ q.length ≤ 128 ^ 9 := Nat.pow_le_pow_right (by decide) hl
  refine ⟨valN q, q.length, he, by omega, hf.pos, hl, by rw [hd]; simp, by rw [ht, hf.put]⟩
theorem getI_err (l : List Int) : (getI l).2.2 = 0 ∨ ((getI l).1 = 0 ∧ (getI l).2.1 = 0 ∧ ((getI l).2.2 = 3 ∨ (getI l).2.2 = 4 ∨ (getI l).2.2 = 5)) := getA_err l 9 0

/-- The four bytes of a sum. -/
def be4 (s : Nat) : List Int := [((s / 16777216 % 256 : Nat) : Int), ((s / 65536 % 256 : Nat) : Int), ((s / 256 % 256 : Nat) : Int), ((s % 256 : Nat) : Int)]
theorem be4_len (s : Nat) : (be4 s).length = 4 := rfl
theorem be4_bytes (s : Nat) : Bytes (be4 s) := fun x hx => by
  simp only [be4, List.mem_cons, List.not_mem_nil, or_false] at hx
  rcases hx with rfl | rfl | rfl | rfl <;> omega
theorem be4_inj {s t : Nat} (hs : s < 2 ^ 32) (ht : t < 2 ^ 32) (h : be4 s = be4 t) : s = t := by
  simp only [be4, List.cons.injEq, and_true] at h
  omega
/-- The number that four bytes tell. -/
def ofBe (l : List Int) : Nat := (l.getD 0 0).toNat * 16777216 + (l.getD 1 0).toNat * 65536 + (l.getD 2 0).toNat * 256 + (l.getD 3 0).toNat
theorem ofBe_be4 (s : Nat) (h : s < 2 ^ 32) : ofBe (be4 s) = s := by
  simp [ofBe, be4]; omega
theorem be4_ofBe {l : List Int} (hb : Bytes l) (hl : l.length = 4) : be4 (ofBe l) = l ∧ ofBe l < 2 ^ 32 := by
  match l, hl with
  | [a, b, c, d], _ =>
    have ha := hb a (by simp)
    have hb' := hb b (by simp)
    have hc := hb c (by simp)
    have hd := hb d (by simp)
    have e : ofBe [a, b, c, d] = a.toNat * 16777216 + b.toNat * 65536 + c.toNat * 256 + d.toNat := rfl
    rw [e]
    refine ⟨?_, by omega⟩
    simp only [be4, List.cons.injEq, and_true]
    omega
/-- The frame of a body. -/
def frameN (body : List Int) : List Int := putN body.length ++ body ++ be4 (crcN body)
theorem frameN_bytes {b : List Int} (h : Bytes b) : Bytes (frameN b) := ((putN_bytes _).append h).append (be4_bytes _)
theorem frameN_len (b : List Int) : (frameN b).length = (putN b.length).length + b.length + 4 := by simp [frameN, be4_len]; omega
/-- What Unframe tells. -/
def unI (l : List Int) : List Int × Int × Int :=
  if (getI l).2.2 ≠ 0 then ([], 0, (getI l).2.2) else
  if (getI l).1 > 65536 then ([], 0, 4) else
  if (l.length : Int) - (getI l).2.1 < (getI l).1 + 4 then ([], 0, 5) else
  if crcN ((l.drop (getI l).2.1.toNat).take (getI l).1.toNat) = ofBe ((l.drop ((getI l).2.1 + (getI l).1).toNat).take 4) then ((l.drop (getI l).2.1.toNat).take (getI l).1.toNat, (getI l).2.1 + (getI l).1 + 4, 0) else ([], 0, 6)
/-- A frame is read back, whatever follows. -/
theorem unI_frame (b r : List Int) (hb : Bytes b) (hl : b.length ≤ 65536) : unI (frameN b ++ r) = (b, (((frameN b).length : Nat) : Int), 0) := by
  have e : frameN b ++ r = putN b.length ++ (b ++ (be4 (crcN b) ++ r)) := by simp [frameN]
  have hg := getI_put b.length (b ++ (be4 (crcN b) ++ r)) (by omega)
  have hlen := frameN_len b
  unfold unI
  rw [e, hg]
  simp only [ne_eq, not_true_eq_false, if_false, Int.toNat_natCast]
  rw [if_neg (by omega), if_neg (by simp [be4_len]; omega)]
  have d1 : (putN b.length ++ (b ++ (be4 (crcN b) ++ r))).drop (putN b.length).length = b ++ (be4 (crcN b) ++ r) := by rw [List.drop_left]
  have d2 : (b ++ (be4 (crcN b) ++ r)).take b.length = b := by rw [List.take_append_of_le_length (Nat.le_refl _), List.take_length]
  have d3 : ((((putN b.length).length : Nat) : Int) + ((b.length : Nat) : Int)).toNat = (putN b.length ++ b).length := by simp; omega
  have d4 : (putN b.length ++ (b ++ (be4 (crcN b) ++ r))).drop (putN b.length ++ b).length = be4 (crcN b) ++ r := by
    rw [← List.append_assoc, List.drop_left]
  have d5 : (be4 (crcN b) ++ r).take 4 = be4 (crcN b) := by
    have h4 : (4 : Nat) = (be4 (crcN b)).length := rfl
    rw [h4, List.take_append_of_le_length (Nat.le_refl _), List.take_length]
  rw [d1, d2, d3, d4, d5, ofBe_be4 _ (crcN_lt hb), if_pos rfl, hlen]
  simp
/-- What is read from a frame is the frame. -/
theorem unI_tells {l : List Int} (hb : Bytes l) (h : (unI l).2.2 = 0) : ∃ (b : List Int) (k : Nat), unI l = (b, (k : Int), 0) ∧ Bytes b ∧ b.length ≤ 65536 ∧ 5 ≤ k ∧ k ≤ l.length ∧ l.take k = frameN b ∧ k = (frameN b).length := by
  unfold unI at h ⊢
  by_cases h1 : (getI l).2.2 ≠ 0
  · rw [if_pos h1] at h; exact absurd h h1
  · rw [if_neg h1] at h ⊢
    obtain ⟨n, k, hg, hn, hk1, hk9, hkl, ht⟩ := getI_tells hb (by simpa using h1)
    rw [hg] at h ⊢
    simp only [Int.toNat_natCast] at h ⊢
    by_cases h2 : (n : Int) > 65536
    · rw [if_pos h2] at h; simp at h
    · rw [if_neg h2] at h ⊢
      by_cases h3 : (l.length : Int) - (k : Int) < (n : Int) + 4
      · rw [if_pos h3] at h; simp at h
      · rw [if_neg h3] at h ⊢
        by_cases h4 : crcN ((l.drop k).take n) = ofBe ((l.drop ((k : Int) + (n : Int)).toNat).take 4)
        · rw [if_pos h4]
          have hkn : ((k : Int) + (n : Int)).toNat = k + n := by omega
          rw [hkn] at h4
          have hb1 : Bytes ((l.drop k).take n) := (hb.drop k).take n
          have hl1 : ((l.drop k).take n).length = n := by simp; omega
          have hb2 : Bytes ((l.drop (k + n)).take 4) := (hb.drop _).take 4
          have hl2 : ((l.drop (k + n)).take 4).length = 4 := by simp; omega
          have hbe := be4_ofBe hb2 hl2
          refine ⟨(l.drop k).take n, k + n + 4, by simp, hb1, by omega, by omega, by omega, ?_, ?_⟩
          · unfold frameN
            rw [hl1, h4, hbe.1, ← ht]
            rw [List.take_add, List.take_add]
          · rw [frameN_len, hl1, ← ht]; simp; omega
        · rw [if_neg h4] at h; simp at h
/-- A frame with one changed byte in its body or its sum is found to be damaged. -/
theorem unI_damaged (b r : List Int) (hb : Bytes b) (hl : b.length ≤ 65536) (i : Nat) (x : Int) (hx0 : 0 ≤ x) (hx1 : x < 256) (hi : (putN b.length).length ≤ i) (hi2 : i < (frameN b).length) (hne : (frameN b).getD i 0 ≠ x) : unI ((frameN b).set i x ++ r) = ([], 0, 6) := by
  have hlen := frameN_len b
  have split : ∃ c d : List Int, (frameN b).set i x = putN b.length ++ (c ++ d) ∧ c.length = b.length ∧ d.length = 4 ∧ Bytes c ∧ Bytes d ∧ crcN c ≠ ofBe d := by
    have hs : (b ++ be4 (crcN b)).set (i - (putN b.length).length) x = (b ++ be4 (crcN b)).set (i - (putN b.length).length) x := rfl
    have e1 : (frameN b).set i x = putN b.length ++ (b ++ be4 (crcN b)).set (i - (putN b.length).length) x := by
      unfold frameN
      rw [List.append_assoc, List.set_append_right _ _ hi]
    have hg : (frameN b).getD i 0 = (b ++ be4 (crcN b)).getD (i - (putN b.length).length) 0 := by
      unfold frameN
      rw [List.append_assoc, List.getD_eq_getElem?_getD, List.getD_eq_getElem?_getD, List.getElem?_append_right hi]
    rw [hg] at hne
    obtain ⟨j, hj⟩ : ∃ j, i - (putN b.length).length = j := ⟨_, rfl⟩
    rw [hj] at e1 hne
    have hj4 : j < b.length + 4 := by omega
    by_cases hjb : j < b.length
    · refine ⟨b.set j x, be4 (crcN b), by rw [e1, List.set_append_left _ _ hjb], by simp, rfl, ?_, be4_bytes _, ?_⟩
      · intro y hy
        rcases List.mem_or_eq_of_mem_set hy with h | rfl
        · exact hb y h
        · exact ⟨hx0, hx1⟩
      · rw [ofBe_be4 _ (crcN_lt hb)]
        have hgb : (b ++ be4 (crcN b)).getD j 0 = b[j] := by
          rw [List.getD_eq_getElem?_getD, List.getElem?_append_left hjb, List.getElem?_eq_getElem hjb]; rfl
        rw [hgb] at hne
        intro e
        have s1 : b = b.take j ++ b[j] :: b.drop (j + 1) := by rw [← List.drop_eq_getElem_cons hjb, List.take_append_drop]
        have s2 : b.set j x = b.take j ++ x :: b.drop (j + 1) := by rw [List.set_eq_take_append_cons_drop, if_pos hjb]
        rw [s2] at e
        have e2 := e.trans (congrArg crcN s1)
        have hbj := hb b[j] (List.getElem_mem hjb)
        exact hne (crc_change _ _ _ _ (hb.take j) (hb.drop (j + 1)) hx0 hx1 hbj.1 hbj.2 e2).symm
    · refine ⟨b, (be4 (crcN b)).set (j - b.length) x, by rw [e1, List.set_append_right _ _ (by omega)], rfl, by simp [be4_len], hb, ?_, ?_⟩
      · intro y hy
        rcases List.mem_or_eq_of_mem_set hy with h | rfl
        · exact be4_bytes _ y h
        · exact ⟨hx0, hx1⟩
      · have hd4 : ((be4 (crcN b)).set (j - b.length) x).length = 4 := by simp [be4_len]
        have hbd : Bytes ((be4 (crcN b)).set (j - b.length) x) := by
          intro y hy
          rcases List.mem_or_eq_of_mem_set hy with h | rfl
          · exact be4_bytes _ y h
          · exact ⟨hx0, hx1⟩
        intro e
        have h9 := be4_ofBe hbd hd4
        rw [← e] at h9
        have hgb : (b ++ be4 (crcN b)).getD j 0 = (be4 (crcN b)).getD (j - b.length) 0 := by
          rw [List.getD_eq_getElem?_getD, List.getD_eq_getElem?_getD, List.getElem?_append_right (by omega)]
        rw [hgb, h9.1] at hne
        apply hne
        rw [List.getD_eq_getElem?_getD, List.getElem?_set_self (by simp [be4_len]; omega)]; rfl
  obtain ⟨c, d, he, hc, hd, bc, bd, hcd⟩ := split
  have e : (frameN b).set i x ++ r = putN b.length ++ (c ++ (d ++ r)) := by rw [he]; simp
  have hgp := getI_put b.length (c ++ (d ++ r)) (by omega)
  unfold unI
  rw [e, hgp]
  simp only [ne_eq, not_true_eq_false, if_false, Int.toNat_natCast]
  rw [if_neg (by omega), if_neg (by simp; omega)]
  have d1 : (putN b.length ++ (c ++ (d ++ r))).drop (putN b.length).length = c ++ (d ++ r) := by rw [List.drop_left]
  have d2 : (c ++ (d ++ r)).take b.length = c := by rw [← hc, List.take_append_of_le_length (Nat.le_refl _), List.take_length]
  have d3 : ((((putN b.length).length : Nat) : Int) + ((b.length : Nat) : Int)).toNat = (putN b.length ++ c).length := by simp; omega
  have d4 : (putN b.length ++ (c ++ (d ++ r))).drop (putN b.length ++ c).length = d ++ r := by
    rw [← List.append_assoc, List.drop_left]
  have d5 : (d ++ r).take 4 = d := by rw [← hd, List.take_append_of_le_length (Nat.le_refl _), List.take_length]
  rw [d1, d2, d3, d4, d5, if_neg hcd]

/-- What GetText tells: the string's bytes. -/
def textI (l : List Int) : List Int × Int × Int :=
  if (getI l).2.2 ≠ 0 then ([], 0, (getI l).2.2) else
  if (getI l).1 > 2000 then ([], 0, 4) else
  if (l.length : Int) - (getI l).2.1 < (getI l).1 then ([], 0, 5) else
  ((l.drop (getI l).2.1.toNat).take (getI l).1.toNat, (getI l).2.1 + (getI l).1, 0)
theorem textI_put (s r : List Int) (hl : s.length ≤ 2000) : textI (putN s.length ++ s ++ r) = (s, (((putN s.length ++ s).length : Nat) : Int), 0) := by
  have hg := getI_put s.length (s ++ r) (by omega)
  unfold textI
  rw [List.append_assoc, hg]
  simp only [ne_eq, not_true_eq_false, if_false, Int.toNat_natCast]
  rw [if_neg (by omega), if_neg (by simp; omega), List.drop_left, List.take_append_of_le_length (Nat.le_refl _), List.take_length]
  simp
theorem textI_tells {l : List Int} (hb : Bytes l) (h : (textI l).2.2 = 0) : ∃ (s : List Int) (k : Nat), textI l = (s, (k : Int), 0) ∧ Bytes s ∧ s.length ≤ 2000 ∧ 1 ≤ k ∧ k ≤ l.length ∧ l.take k = putN s.length ++ s := by
  unfold textI at h ⊢
  by_cases h1 : (getI l).2.2 ≠ 0
  · rw [if_pos h1] at h; exact absurd h h1
  · rw [if_neg h1] at h ⊢
    obtain ⟨n, k, hg, hn, hk1, hk9, hkl, ht⟩ := getI_tells hb (by simpa using h1)
    rw [hg] at h ⊢
    simp only [Int.toNat_natCast] at h ⊢
    by_cases h2 : (n : Int) > 2000
    · rw [if_pos h2] at h; simp at h
    · rw [if_neg h2] at h ⊢
      by_cases h3 : (l.length : Int) - (k : Int) < (n : Int)
      · rw [if_pos h3] at h; simp at h
      · rw [if_neg h3]
        have hl1 : ((l.drop k).take n).length = n := by simp; omega
        refine ⟨(l.drop k).take n, k + n, by simp, (hb.drop k).take n, by omega, by omega, by omega, ?_⟩
        rw [hl1, ← ht, List.take_add]
/-- What is read of a list when m numbers are left. -/
def listA (l : List Int) : Nat → Nat → List Int → List Int × Int × Int
  | 0, p, acc => (acc, (p : Int), 0)
  | m + 1, p, acc => if (getI (l.drop p)).2.2 = 0 then listA l m (p + (getI (l.drop p)).2.1.toNat) (acc ++ [(getI (l.drop p)).1]) else ([], 0, (getI (l.drop p)).2.2)
/-- What GetList tells. -/
def listI (l : List Int) : List Int × Int × Int :=
  if (getI l).2.2 ≠ 0 then ([], 0, (getI l).2.2) else
  if (getI l).1 > 10000 then ([], 0, 4) else listA l (getI l).1.toNat (getI l).2.1.toNat []
/-- The bytes of a list of numbers. -/
def putL (l : List Int) : List Int := (l.map fun n => putN n.toNat).flatten
theorem putL_cons (n : Int) (l : List Int) : putL (n :: l) = putN n.toNat ++ putL l := rfl
theorem putL_append (a b : List Int) : putL (a ++ b) = putL a ++ putL b := by simp [putL]
theorem putL_bytes (l : List Int) : Bytes (putL l) := by
  induction l with
  | nil => intro x hx; simp [putL] at hx
  | cons n l ih => rw [putL_cons]; exact (putN_bytes _).append ih
/-- Numbers that are not negative, and fit. -/
def Nats (l : List Int) : Prop := ∀ x ∈ l, 0 ≤ x ∧ x < 9223372036854775808
theorem listA_put (x : List Int) (hx : Nats x) : ∀ (p r acc : List Int), listA (p ++ putL x ++ r) x.length p.length acc = (acc ++ x, (((p ++ putL x).length : Nat) : Int), 0) := by
  induction x with
  | nil => intro p r acc; simp [listA, putL]
  | cons n x ih =>
    intro p r acc
    have hn := hx n (by simp)
    have e : (p ++ putL (n :: x) ++ r).drop p.length = putN n.toNat ++ (putL x ++ r) := by
      rw [putL_cons, List.append_assoc, List.drop_left, List.append_assoc]
    have hg := getI_put n.toNat (putL x ++ r) (by omega)
    simp only [List.length_cons, listA]
    rw [e, hg]
    simp only [if_true, Int.toNat_natCast]
    have h9 := ih (fun y hy => hx y (by simp [hy])) (p ++ putN n.toNat) r (acc ++ [((n.toNat : Nat) : Int)])
    have e2 : p ++ putN n.toNat ++ putL x ++ r = p ++ putL (n :: x) ++ r := by rw [putL_cons]; simp
    rw [e2, List.length_append] at h9
    rw [h9, putL_cons, Int.toNat_of_nonneg hn.1]
    simp
theorem listI_put (x r : List Int) (hx : Nats x) (hl : x.length ≤ 10000) : listI (putN x.length ++ putL x ++ r) = (x, (((putN x.length ++ putL x).length : Nat) : Int), 0) := by
  have hg := getI_put x.length (putL x ++ r) (by omega)
  have h9 := listA_put x hx (putN x.length) r []
  unfold listI
  have e : getI (putN x.length ++ putL x ++ r) = ((x.length : Int), (((putN x.length).length : Nat) : Int), 0) := by rw [List.append_assoc]; exact hg
  rw [e]
  simp only [ne_eq, not_true_eq_false, if_false, Int.toNat_natCast]
  rw [if_neg (by omega), h9]; simp
theorem listA_tells {l : List Int} (hb : Bytes l) : ∀ (m p : Nat) (acc : List Int), p ≤ l.length → (listA l m p acc).2.2 = 0 → ∃ (x : List Int) (k : Nat), listA l m p acc = (acc ++ x, (k : Int), 0) ∧ Nats x ∧ x.length = m ∧ p ≤ k ∧ k ≤ l.length ∧ (l.drop p).take (k - p) = putL x := by
  intro m
  induction m with
  | zero => intro p acc hp _; exact ⟨[], p, by simp [listA], fun x hx => by simp at hx, rfl, Nat.le_refl _, hp, by simp [putL]⟩
  | succ m ih =>
    intro p acc hp h
    simp only [listA] at h ⊢
    by_cases h1 : (getI (l.drop p)).2.2 = 0
    · rw [if_pos h1] at h ⊢
      obtain ⟨n, k, hg, hn, hk1, hk9, hkl, ht⟩ := getI_tells (hb.drop p) h1
      rw [hg] at h ⊢
      simp only [Int.toNat_natCast] at h ⊢
      have hkl2 : p + k ≤ l.length := by simp at hkl; omega
      obtain ⟨x, k2, he, hx, hxl, hpk, hkl3, ht2⟩ := ih (p + k) (acc ++ [(n : Int)]) hkl2 h
      refine ⟨(n : Int) :: x, k2, by rw [he]; simp, ?_, by simp [hxl], by omega, hkl3, ?_⟩
      · intro y hy
        rcases List.mem_cons.mp hy with rfl | hy
        · omega
        · exact hx y hy
      · have e : k2 - p = k + (k2 - (p + k)) := by omega
        rw [e, List.take_add, ht, List.drop_drop, ht2, putL_cons, Int.toNat_natCast]
    · rw [if_neg h1] at h; exact absurd h h1
theorem listI_tells {l : List Int} (hb : Bytes l) (h : (listI l).2.2 = 0) : ∃ (x : List Int) (k : Nat), listI l = (x, (k : Int), 0) ∧ Nats x ∧ x.length ≤ 10000 ∧ 1 ≤ k ∧ k ≤ l.length ∧ l.take k = putN x.length ++ putL x := by
  unfold listI at h ⊢
  by_cases h1 : (getI l).2.2 ≠ 0
  · rw [if_pos h1] at h; exact absurd h h1
  · rw [if_neg h1] at h ⊢
    obtain ⟨n, k, hg, hn, hk1, hk9, hkl, ht⟩ := getI_tells hb (by simpa using h1)
    rw [hg] at h ⊢
    simp only [Int.toNat_natCast] at h ⊢
    by_cases h2 : (n : Int) > 10000
    · rw [if_pos h2] at h; simp at h
    · rw [if_neg h2] at h ⊢
      obtain ⟨x, k2, he, hx, hxl, hpk, hkl3, ht2⟩ := listA_tells hb n k [] hkl h
      refine ⟨x, k2, by rw [he]; simp, hx, by omega, by omega, hkl3, ?_⟩
      have e : k2 = k + (k2 - k) := by omega
      rw [e, List.take_add, ht, hxl, ht2]
end Go.Proofs.Ytohjkgboehnamaa.MCodec
namespace Go.Proofs.Ytohjkgboehnamaa.MMedia
open Go.RowKit Go.Proofs.YtohjkgboehnamaaW.PrintWords Go.Proofs.YtohjkgboehnamaaW.PrintMore Go.Proofs.Ytohjkgboehnamaa.MSeal Go.Proofs.Ytohjkgboehnamaa.MCrc Go.Proofs.Ytohjkgboehnamaa.MCodec

/-- A medium: serial, counter, product, first, left, today, lift, at, tag. -/
structure Med where
  s : Int
  c : Int
  p : Int
  f : Int
  l : Int
  t : Int
  i : Int
  a : Int
  g : Int
def zeroM : Med := ⟨0, 0, 0, 0, 0, 0, 0, 0, 0⟩
/-- All are in range. -/
def rangeB (m : Med) : Bool := decide (1 ≤ m.s ∧ m.s ≤ 9999 ∧ 1 ≤ m.p ∧ m.p ≤ 9999 ∧ 0 ≤ m.c ∧ m.c ≤ 1000000 ∧ -1 ≤ m.f ∧ m.f ≤ 20000000 ∧ -1 ≤ m.a ∧ m.a ≤ 20000000 ∧ 0 ≤ m.l ∧ m.l ≤ 100 ∧ -1 ≤ m.t ∧ m.t ≤ 231 ∧ 0 ≤ m.i ∧ m.i ≤ 9999)
/-- It is no state. -/
def stateB (m : Med) : Bool := decide ((m.f = -1 ∧ m.a ≠ -1) ∨ (m.a = -1 ∧ (m.i ≠ 0 ∨ m.t ≠ -1)) ∨ m.f > m.a)
/-- What Right tells. -/
def rightM (m : Med) : Int := if rangeB m = true then (if stateB m = true then 10 else 0) else 2
theorem right_range {m : Med} (h : rightM m = 0) : 1 ≤ m.s ∧ m.s ≤ 9999 ∧ 1 ≤ m.p ∧ m.p ≤ 9999 ∧ 0 ≤ m.c ∧ m.c ≤ 1000000 ∧ -1 ≤ m.f ∧ m.f ≤ 20000000 ∧ -1 ≤ m.a ∧ m.a ≤ 20000000 ∧ 0 ≤ m.l ∧ m.l ≤ 100 ∧ -1 ≤ m.t ∧ m.t ≤ 231 ∧ 0 ≤ m.i ∧ m.i ≤ 9999 := by
  unfold rightM at h
  by_cases hr : rangeB m = true
  · unfold rangeB at hr; exact of_decide_eq_true hr
  · rw [if_neg hr] at h; simp at h
/-- The numbers of a body. -/
def numsM (m : Med) : List Int := [m.s, m.c, m.p, m.f + 1, m.l, m.t + 1, m.i, m.a + 1]
theorem nums_nats {m : Med} (h : rightM m = 0) : Nats (numsM m) := by
  have hr := right_range h
  intro x hx
  simp only [numsM, List.mem_cons, List.not_mem_nil, or_false] at hx
  rcases hx with rfl | rfl | rfl | rfl | rfl | rfl | rfl | rfl <;> omega
/-- The body of a medium. -/
def bodyN (m : Med) : List Int := putL (numsM m)
theorem body_bytes (m : Med) : Bytes (bodyN m) := putL_bytes _
theorem putL_len9 (x : List Int) (hx : ∀ n ∈ x, n < 9223372036854775808) : (putL x).length ≤ 9 * x.length := by
  induction x with
  | nil => simp [putL]
  | cons n x ih =>
    have h1 := putN_len9 n.toNat (by have := hx n (by simp); omega)
    have h2 := ih (fun m hm => hx m (by simp [hm]))
    rw [putL_cons]; simp; omega
theorem body_len {m : Med} (h : rightM m = 0) : (bodyN m).length ≤ 72 := by
  have := putL_len9 (numsM m) (fun n hn => (nums_nats h n hn).2)
  exact this
/-- The eight bytes of a tag. -/
def be8 (t : Nat) : List Int := [((t / 72057594037927936 % 256 : Nat) : Int), ((t / 281474976710656 % 256 : Nat) : Int), ((t / 1099511627776 % 256 : Nat) : Int), ((t / 4294967296 % 256 : Nat) : Int), ((t / 16777216 % 256 : Nat) : Int), ((t / 65536 % 256 : Nat) : Int), ((t / 256 % 256 : Nat) : Int), ((t % 256 : Nat) : Int)]
theorem be8_len (t : Nat) : (be8 t).length = 8 := rfl
theorem be8_bytes (t : Nat) : Bytes (be8 t) := fun x hx => by
  simp only [be8, List.mem_cons, List.not_mem_nil, or_false] at hx
  rcases hx with rfl | rfl | rfl | rfl | rfl | rfl | rfl | rfl <;> omega
theorem be8_at (t i : Nat) (h : i < 8) : (be8 t).getD i 0 = ((t / 2 ^ (8 * (7 - i)) % 256 : Nat) : Int) := by
  have hc : i = 0 ∨ i = 1 ∨ i = 2 ∨ i = 3 ∨ i = 4 ∨ i = 5 ∨ i = 6 ∨ i = 7 := by omega
  rcases hc with rfl | rfl | rfl | rfl | rfl | rfl | rfl | rfl
  · rfl
  · rfl
  · rfl
  · rfl
  · rfl
  · rfl
  · rfl
  · show ((t % 256 : Nat) : Int) = ((t / 1 % 256 : Nat) : Int)
    rw [Nat.div_one]
/-- The number that a tag's bytes tell. -/
def tagF (t : Int) (l : List Int) : Int := l.foldl (fun t c => Go.bits .or .u64 (IntKind.u64.wrap (t * 256)) (IntKind.u64.wrap c)) t
theorem tagF_snoc (t : Int) (l : List Int) (c : Int) : tagF t (l ++ [c]) = Go.bits .or .u64 (IntKind.u64.wrap (tagF t l * 256)) (IntKind.u64.wrap c) := by
  unfold tagF; rw [List.foldl_append]; rfl
theorem tag_step (q c : Nat) (hq : q < 72057594037927936) (hc : c < 256) : Go.bits .or .u64 (IntKind.u64.wrap ((q : Int) * 256)) (IntKind.u64.wrap (c : Int)) = ((q * 256 + c : Nat) : Int) := by
  have e1 : IntKind.u64.wrap ((q : Int) * 256) = ((2 ^ 8 * q : Nat) : Int) := by rw [u64_wrap]; omega
  rw [e1, u64_nat c (by omega), or_u64 _ _ (by omega) (by omega), ← Nat.two_pow_add_eq_or_of_lt (by omega : c < 2 ^ 8)]
  congr 1; omega
theorem dstep1 (t : Nat) : t / 72057594037927936 * 256 + t / 281474976710656 % 256 = t / 281474976710656 := by
  rw [show (72057594037927936 : Nat) = 281474976710656 * 256 from rfl, ← Nat.div_div_eq_div_mul]
  generalize t / 281474976710656 = x
  omega
theorem dstep2 (t : Nat) : t / 281474976710656 * 256 + t / 1099511627776 % 256 = t / 1099511627776 := by
  rw [show (281474976710656 : Nat) = 1099511627776 * 256 from rfl, ← Nat.div_div_eq_div_mul]
  generalize t / 1099511627776 = x
  omega
theorem dstep3 (t : Nat) : t / 1099511627776 * 256 + t / 4294967296 % 256 = t / 4294967296 := by
  rw [show (1099511627776 : Nat) = 4294967296 * 256 from rfl, ← Nat.div_div_eq_div_mul]
  generalize t / 4294967296 = x
  omega
theorem dstep4 (t : Nat) : t / 4294967296 * 256 + t / 16777216 % 256 = t / 16777216 := by
  rw [show (4294967296 : Nat) = 16777216 * 256 from rfl, ← Nat.div_div_eq_div_mul]
  generalize t / 16777216 = x
  omega
theorem dstep5 (t : Nat) : t / 16777216 * 256 + t / 65536 % 256 = t / 65536 := by
  rw [show (16777216 : Nat) = 65536 * 256 from rfl, ← Nat.div_div_eq_div_mul]
  generalize t / 65536 = x
  omega
theorem dstep6 (t : Nat) : t / 65536 * 256 + t / 256 % 256 = t / 256 := by
  rw [show (65536 : Nat) = 256 * 256 from rfl, ← Nat.div_div_eq_div_mul]
  generalize t / 256 = x
  omega
theorem dstep7 (t : Nat) : t / 256 * 256 + t % 256 = t := by omega
theorem dstep0 (t : Nat) (h : t < 2 ^ 64) : 0 * 256 + t / 72057594037927936 % 256 = t / 72057594037927936 := by omega
theorem dlt0 (t : Nat) (h : t < 2 ^ 64) : t / 72057594037927936 < 72057594037927936 := by omega
theorem dlt1 (t : Nat) (h : t < 2 ^ 64) : t / 281474976710656 < 72057594037927936 := by omega
theorem dlt2 (t : Nat) (h : t < 2 ^ 64) : t / 1099511627776 < 72057594037927936 := by omega
theorem dlt3 (t : Nat) (h : t < 2 ^ 64) : t / 4294967296 < 72057594037927936 := by omega
theorem dlt4 (t : Nat) (h : t < 2 ^ 64) : t / 16777216 < 72057594037927936 := by omega
theorem dlt5 (t : Nat) (h : t < 2 ^ 64) : t / 65536 < 72057594037927936 := by omega
theorem dlt6 (t : Nat) (h : t < 2 ^ 64) : t / 256 < 72057594037927936 := by omega
theorem tagF_be8 (t : Nat) (h : t < 2 ^ 64) : tagF 0 (be8 t) = (t : Int) := by
  have e0 := tag_step 0 (t / 72057594037927936 % 256) (by decide) (Nat.mod_lt _ (by decide))
  have e1 := tag_step (t / 72057594037927936) (t / 281474976710656 % 256) (dlt0 t h) (Nat.mod_lt _ (by decide))
  have e2 := tag_step (t / 281474976710656) (t / 1099511627776 % 256) (dlt1 t h) (Nat.mod_lt _ (by decide))
  have e3 := tag_step (t / 1099511627776) (t / 4294967296 % 256) (dlt2 t h) (Nat.mod_lt _ (by decide))
  have e4 := tag_step (t / 4294967296) (t / 16777216 % 256) (dlt3 t h) (Nat.mod_lt _ (by decide))
  have e5 := tag_step (t / 16777216) (t / 65536 % 256) (dlt4 t h) (Nat.mod_lt _ (by decide))
  have e6 := tag_step (t / 65536) (t / 256 % 256) (dlt5 t h) (Nat.mod_lt _ (by decide))
  have e7 := tag_step (t / 256) (t % 256) (dlt6 t h) (Nat.mod_lt _ (by decide))
  have f0 := dstep0 t h
  have f1 := dstep1 t
  have f2 := dstep2 t
  have f3 := dstep3 t
  have f4 := dstep4 t
  have f5 := dstep5 t
  have f6 := dstep6 t
  have f7 := dstep7 t
  rw [f0] at e0
  rw [f1] at e1
  rw [f2] at e2
  rw [f3] at e3
  rw [f4] at e4
  rw [f5] at e5
  rw [f6] at e6
  rw [f7] at e7
  unfold tagF be8
  simp only [List.foldl_cons, List.foldl_nil]
  have z : ((0 : Nat) : Int) = 0 := rfl
  rw [z] at e0
  rw [e0, e1, e2, e3, e4, e5, e6, e7]
/-- A medium as a frame. -/
def encN (m : Med) : List Int := frameN (bodyN m ++ be8 m.g.toNat)
theorem enc_bytes (m : Med) : Bytes (encN m) := frameN_bytes ((body_bytes m).append (be8_bytes _))
/-- The medium out of eight numbers and what follows them. -/
def ofNums (ns b : List Int) : Med := ⟨rd ns 0, rd ns 1, rd ns 2, wrap64 (rd ns 3 - 1), rd ns 4, wrap64 (rd ns 5 - 1), rd ns 6, wrap64 (rd ns 7 - 1), tagF 0 b⟩
/-- What the program reads, when m numbers are left. -/
def readA : Nat → List Int → List Int → Med
  | 0, b, ns => ofNums ns b
  | m + 1, b, ns => if (getI b).2.2 = 0 then readA m (b.drop (getI b).2.1.toNat) (ns ++ [(getI b).1]) else zeroM
/-- What the reference reads. -/
def readB : Nat → List Int → List Int → Med
  | 0, b, ns => ofNums ns (b.take 8)
  | m + 1, b, ns => if (getI b).2.2 = 0 then (if (getI b).1 > 20000001 then zeroM else readB m (b.drop (getI b).2.1.toNat) (ns ++ [(getI b).1])) else zeroM
theorem readA_put (x : List Int) (hx : Nats x) : ∀ (r ns : List Int), readA x.length (putL x ++ r) ns = ofNums (ns ++ x) r := by
  induction x with
  | nil => intro r ns; simp [readA, putL]
  | cons n x ih =>
    intro r ns
    have hn := hx n (by simp)
    have hg := getI_put n.toNat (putL x ++ r) (by omega)
    simp only [List.length_cons, readA]
    rw [putL_cons, List.append_assoc, hg]
    simp only [if_true, Int.toNat_natCast]
    rw [List.drop_left, ih (fun y hy => hx y (by simp [hy])), Int.toNat_of_nonneg hn.1]
    simp
theorem readB_put (x : List Int) (hx : ∀ n ∈ x, 0 ≤ n ∧ n ≤ 20000001) : ∀ (r ns : List Int), readB x.length (putL x ++ r) ns = ofNums (ns ++ x) (r.take 8) := by
  induction x with
  | nil => intro r ns; simp [readB, putL]
  | cons n x ih =>
    intro r ns
    have hn := hx n (by simp)
    have hg := getI_put n.toNat (putL x ++ r) (by omega)
    simp only [List.length_cons, readB]
    rw [putL_cons, List.append_assoc, hg]
    simp only [if_true, Int.toNat_natCast]
    rw [if_neg (by omega), List.drop_left, ih (fun y hy => hx y (by simp [hy])), Int.toNat_of_nonneg hn.1]
    simp
theorem ofNums_nums {m : Med} (h : rightM m = 0) (hg0 : 0 ≤ m.g) (hg1 : m.g < 18446744073709551616) : ofNums (numsM m) (be8 m.g.toNat) = m := by
  have hr := right_range h
  unfold ofNums
  rw [tagF_be8 _ (by omega)]
  have e3 : wrap64 (rd (numsM m) 3 - 1) = m.f := by
    have : rd (numsM m) 3 = m.f + 1 := rfl
    rw [this]; unfold wrap64; omega
  have e5 : wrap64 (rd (numsM m) 5 - 1) = m.t := by
    have : rd (numsM m) 5 = m.t + 1 := rfl
    rw [this]; unfold wrap64; omega
  have e7 : wrap64 (rd (numsM m) 7 - 1) = m.a := by
    have : rd (numsM m) 7 = m.a + 1 := rfl
    rw [this]; unfold wrap64; omega
  have e8 : ((m.g.toNat : Nat) : Int) = m.g := by omega
  rw [e3, e5, e7, e8]
  rfl
theorem readA_body {m : Med} (h : rightM m = 0) (hg0 : 0 ≤ m.g) (hg1 : m.g < 18446744073709551616) : readA 8 (bodyN m ++ be8 m.g.toNat) [] = m := by
  have := readA_put (numsM m) (nums_nats h) (be8 m.g.toNat) []
  have e : (numsM m).length = 8 := rfl
  rw [e, List.nil_append] at this
  unfold bodyN
  rw [this, ofNums_nums h hg0 hg1]
theorem readB_body {m : Med} (h : rightM m = 0) (hg0 : 0 ≤ m.g) (hg1 : m.g < 18446744073709551616) : readB 8 (bodyN m ++ be8 m.g.toNat) [] = m := by
  have hr := right_range h
  have := readB_put (numsM m) (by
    intro x hx
    simp only [numsM, List.mem_cons, List.not_mem_nil, or_false] at hx
    rcases hx with rfl | rfl | rfl | rfl | rfl | rfl | rfl | rfl <;> omega) (be8 m.g.toNat) []
  have e : (numsM m).length = 8 := rfl
  have e2 : (be8 m.g.toNat).take 8 = be8 m.g.toNat := rfl
  rw [e, List.nil_append, e2] at this
  unfold bodyN
  rw [this, ofNums_nums h hg0 hg1]
theorem tagF_range (l : List Int) : 0 ≤ tagF 0 l ∧ tagF 0 l < 18446744073709551616 := by
  rcases List.eq_nil_or_concat l with rfl | ⟨p, c, rfl⟩
  · simp [tagF]
  · rw [List.concat_eq_append, tagF_snoc]
    have : ∀ x y : Int, 0 ≤ Go.bits .or .u64 x y ∧ Go.bits .or .u64 x y < 18446744073709551616 := fun x y => by
      unfold Go.bits; simp only; rw [u64_wrap]; omega
    exact this _ _
theorem readA_g : ∀ (k : Nat) (b ns : List Int), 0 ≤ (readA k b ns).g ∧ (readA k b ns).g < 18446744073709551616 := by
  intro k
  induction k with
  | zero => intro b ns; exact tagF_range b
  | succ k ih =>
    intro b ns
    simp only [readA]
    split
    · exact ih _ _
    · exact ⟨Int.le_refl _, by decide⟩
theorem readB_g : ∀ (k : Nat) (b ns : List Int), 0 ≤ (readB k b ns).g ∧ (readB k b ns).g < 18446744073709551616 := by
  intro k
  induction k with
  | zero => intro b ns; exact tagF_range _
  | succ k ih =>
    intro b ns
    simp only [readB]
    split
    · split
      · exact ⟨Int.le_refl _, by decide⟩
      · exact ih _ _
    · exact ⟨Int.le_refl _, by decide⟩
/-- What Decode tells. -/
def decI (l : List Int) : Med × Int :=
  if (unI l).2.2 ≠ 0 then (zeroM, (unI l).2.2) else
  if (unI l).2.1 ≠ (l.length : Int) then (zeroM, 4) else
  if rightM (readA 8 (unI l).1 []) = 0 ∧ encN (readA 8 (unI l).1 []) = l then (readA 8 (unI l).1 [], 0) else (zeroM, 3)
theorem enc_len {m : Med} (h : rightM m = 0) : (bodyN m ++ be8 m.g.toNat).length ≤ 80 := by
  have := body_len h
  rw [List.length_append, be8_len]; omega
theorem unI_enc {m : Med} (h : rightM m = 0) (r : List Int) : unI (encN m ++ r) = (bodyN m ++ be8 m.g.toNat, (((encN m).length : Nat) : Int), 0) :=
  unI_frame _ r ((body_bytes m).append (be8_bytes _)) (by have := enc_len h; omega)
/-- What is encoded is decoded. -/
theorem dec_enc {m : Med} (h : rightM m = 0) (hg0 : 0 ≤ m.g) (hg1 : m.g < 18446744073709551616) : decI (encN m) = (m, 0) := by
  have hu := unI_enc h []
  rw [List.append_nil] at hu
  have hr := readA_body h hg0 hg1
  unfold decI
  rw [hu]
  simp only [ne_eq, not_true_eq_false, if_false]
  rw [hr, if_pos ⟨h, rfl⟩]
/-- The reference decodes the same. -/
theorem decB {l : List Int} (_hb : Bytes l) (h1 : (unI l).2.2 = 0) (h2 : (unI l).2.1 = (l.length : Int)) :
    (if rightM (readB 8 (unI l).1 []) = 0 ∧ encN (readB 8 (unI l).1 []) = l then (readB 8 (unI l).1 [], 0) else (zeroM, (3 : Int))) = decI l := by
  have hD : decI l = (if rightM (readA 8 (unI l).1 []) = 0 ∧ encN (readA 8 (unI l).1 []) = l then (readA 8 (unI l).1 [], 0) else (zeroM, 3)) := by
    unfold decI
    rw [if_neg (fun h => h h1), if_neg (fun h => h h2)]
  rw [hD]
  have key : ∀ m : Med, rightM m = 0 → 0 ≤ m.g → m.g < 18446744073709551616 → encN m = l → readA 8 (unI l).1 [] = m ∧ readB 8 (unI l).1 [] = m := fun m hm h0 h9 he => by
    have hu := unI_enc hm []
    rw [List.append_nil, he] at hu
    rw [hu]
    exact ⟨readA_body hm h0 h9, readB_body hm h0 h9⟩
  by_cases hA : rightM (readA 8 (unI l).1 []) = 0 ∧ encN (readA 8 (unI l).1 []) = l
  · have hg := readA_g 8 (unI l).1 []
    have := key _ hA.1 hg.1 hg.2 hA.2
    rw [this.2]
  · rw [if_neg hA]
    by_cases hB : rightM (readB 8 (unI l).1 []) = 0 ∧ encN (readB 8 (unI l).1 []) = l
    · have hg := readB_g 8 (unI l).1 []
      have := key _ hB.1 hg.1 hg.2 hB.2
      have e9 : readA 8 (unI l).1 [] = readB 8 (unI l).1 [] := this.1
      exact absurd (by rw [e9]; exact hB) hA
    · rw [if_neg hB]
/-- The key with a number. -/
def keyN (key : Nat) (i : Int) : Nat := mixN ((key + (i % 18446744073709551616).toNat * 11400714819323198485) % 2 ^ 64)
theorem keyN_lt (key : Nat) (i : Int) : keyN key i < 2 ^ 64 := mixN_lt _
/-- The tag of a medium. -/
def signN (key : Nat) (m : Med) : Nat := tagN (keyN key m.s) (bodyN m)
theorem signN_lt (key : Nat) (m : Med) : signN key m < 2 ^ 64 := tagN_lt _ _
/-- What block tells of two strings of one length, from an index on. -/
def blockA (a b : List Int) : Nat → Nat → Int → Int
  | 0, _, at_ => at_
  | m + 1, i, at_ => if a.getD i 0 = b.getD i 0 ∨ at_ = ((i / 8 : Nat) : Int) then blockA a b m (i + 1) at_ else if at_ ≥ 0 then -1 else blockA a b m (i + 1) ((i / 8 : Nat) : Int)
def blockI (a b : List Int) : Int := if a.length = b.length then blockA a b a.length 0 (-1) else -1
/-- If it tells a block, all that differs stands in it, and something does. -/
theorem blockA_tells (a b : List Int) : ∀ (m i : Nat) (at_ : Int), (at_ = -1 ∨ 0 ≤ at_) → 0 ≤ blockA a b m i at_ →
    (∀ j, i ≤ j → j < i + m → a.getD j 0 ≠ b.getD j 0 → ((j / 8 : Nat) : Int) = blockA a b m i at_) ∧ (0 ≤ at_ → blockA a b m i at_ = at_) ∧ (at_ = -1 → ∃ j, i ≤ j ∧ j < i + m ∧ a.getD j 0 ≠ b.getD j 0) := by
  intro m
  induction m with
  | zero =>
    intro i at_ hat h
    simp only [blockA] at h ⊢
    exact ⟨fun j h1 h2 => by omega, fun _ => trivial, fun e => by omega⟩
  | succ m ih =>
    intro i at_ hat h
    simp only [blockA] at h ⊢
    by_cases h1 : a.getD i 0 = b.getD i 0 ∨ at_ = ((i / 8 : Nat) : Int)
    · rw [if_pos h1] at h ⊢
      obtain ⟨p1, p2, p3⟩ := ih (i + 1) at_ hat h
      refine ⟨fun j hj1 hj2 hne => ?_, p2, fun e => ?_⟩
      · by_cases hji : j = i
        · subst hji
          rcases h1 with h1 | h1
          · exact absurd h1 hne
          · rw [p2 (by omega), h1]
        · exact p1 j (by omega) (by omega) hne
      · obtain ⟨j, q1, q2, q3⟩ := p3 e
        exact ⟨j, by omega, by omega, q3⟩
    · rw [if_neg h1] at h ⊢
      have hne : a.getD i 0 ≠ b.getD i 0 := fun e => h1 (Or.inl e)
      by_cases h2 : at_ ≥ 0
      · rw [if_pos h2] at h; omega
      · rw [if_neg h2] at h ⊢
        obtain ⟨p1, p2, p3⟩ := ih (i + 1) ((i / 8 : Nat) : Int) (Or.inr (by omega)) h
        refine ⟨fun j hj1 hj2 hj => ?_, fun h9 => absurd h9 h2, fun _ => ⟨i, Nat.le_refl _, by omega, hne⟩⟩
        by_cases hji : j = i
        · subst hji; rw [p2 (by omega)]
        · exact p1 j (by omega) (by omega) hj
theorem ext_getD {a b : List Int} (hl : a.length = b.length) (h : ∀ j, j < a.length → a.getD j 0 = b.getD j 0) : a = b := by
  apply List.ext_getElem hl
  intro j h1 h2
  have := h j h1
  rw [List.getD_eq_getElem?_getD, List.getD_eq_getElem?_getD, List.getElem?_eq_getElem h1, List.getElem?_eq_getElem h2] at this
  exact this
theorem getD_take (a : List Int) (n j : Nat) (h : j < n) : (a.take n).getD j 0 = a.getD j 0 := by
  rw [List.getD_eq_getElem?_getD, List.getD_eq_getElem?_getD, List.getElem?_take_of_lt h]
theorem getD_drop (a : List Int) (n j : Nat) : (a.drop n).getD j 0 = a.getD (n + j) 0 := by
  rw [List.getD_eq_getElem?_getD, List.getD_eq_getElem?_getD, List.getElem?_drop]
/-- Two strings that differ in one block alone have different tags. -/
theorem tag_block {key : Nat} {a b : List Int} (ba : Bytes a) (bb : Bytes b) (hlen : a.length < 2 ^ 64) (h : 0 ≤ blockI a b) : tagN key a ≠ tagN key b := by
  unfold blockI at h
  by_cases hl : a.length = b.length
  · rw [if_pos hl] at h
    obtain ⟨p1, _, p3⟩ := blockA_tells a b a.length 0 (-1) (Or.inl rfl) h
    obtain ⟨d, _, hd2, hd3⟩ := p3 rfl
    have hdd := p1 d (by omega) (by omega) hd3
    have hp : ∀ j, j < a.length → a.getD j 0 ≠ b.getD j 0 → j / 8 = d / 8 := fun j hj hne => by
      have := p1 j (by omega) (by omega) hne
      omega
    have ea : a = a.take (8 * (d / 8)) ++ ((a.drop (8 * (d / 8))).take 8 ++ (a.drop (8 * (d / 8))).drop 8) := by
      rw [List.take_append_drop, List.take_append_drop]
    have eb : b = b.take (8 * (d / 8)) ++ ((b.drop (8 * (d / 8))).take 8 ++ (b.drop (8 * (d / 8))).drop 8) := by
      rw [List.take_append_drop, List.take_append_drop]
    have e1 : a.take (8 * (d / 8)) = b.take (8 * (d / 8)) := by
      apply ext_getD (by simp; omega)
      intro j hj
      have hj8 : j < 8 * (d / 8) := by simp at hj; omega
      rw [getD_take _ _ _ hj8, getD_take _ _ _ hj8]
      by_cases hne : a.getD j 0 = b.getD j 0
      · exact hne
      · have := hp j (by omega) hne
        omega
    have e2 : (a.drop (8 * (d / 8))).drop 8 = (b.drop (8 * (d / 8))).drop 8 := by
      rw [List.drop_drop, List.drop_drop]
      apply ext_getD (by simp; omega)
      intro j hj
      rw [getD_drop, getD_drop]
      by_cases hne : a.getD (8 * (d / 8) + 8 + j) 0 = b.getD (8 * (d / 8) + 8 + j) 0
      · exact hne
      · have hj2 : 8 * (d / 8) + 8 + j < a.length := by simp at hj; omega
        have := hp _ hj2 hne
        omega
    intro e
    unfold tagN at e
    have t1 := tags_lt (mixN_lt key) ba
    have t2 := tags_lt (mixN_lt key) bb
    rw [← hl] at e
    have e3 := mixN_inj (Nat.xor_lt_two_pow t1 hlen) (Nat.xor_lt_two_pow t2 hlen) e
    have e4 := xor_inj' _ _ _ e3
    rw [ea, eb, ← e1, ← e2] at e4
    have hpl : (a.take (8 * (d / 8))).length % 8 = 0 := by
      rw [List.length_take, Nat.min_eq_left (by omega)]; omega
    have h88 : ((a.drop (8 * (d / 8))).take 8).length = 8 ∨ (((a.drop (8 * (d / 8))).take 8).length < 8 ∧ (a.drop (8 * (d / 8))).drop 8 = []) := by
      by_cases hh : 8 ≤ (a.drop (8 * (d / 8))).length
      · left; rw [List.length_take]; omega
      · right; exact ⟨by rw [List.length_take]; omega, List.drop_eq_nil_of_le (by omega)⟩
    have e5 := tags_block _ _ _ _ _ (mixN_lt key) hpl (by simp; omega) h88 ((ba.drop _).take 8) ((bb.drop _).take 8) ((ba.drop _).drop 8) (ba.take _) e4
    apply hd3
    have g1 : ((a.drop (8 * (d / 8))).take 8).getD (d % 8) 0 = a.getD d 0 := by
      rw [getD_take _ _ _ (by omega), getD_drop]; congr 1; omega
    have g2 : ((b.drop (8 * (d / 8))).take 8).getD (d % 8) 0 = b.getD d 0 := by
      rw [getD_take _ _ _ (by omega), getD_drop]; congr 1; omega
    rw [← g1, ← g2, e5]
  · rw [if_neg hl] at h; omega
end Go.Proofs.Ytohjkgboehnamaa.MMedia
set_option linter.unusedVariables false
set_option linter.unusedSimpArgs false
namespace Go.Proofs.Ytohjkgboehnamaa.MJournal
open Go.RowKit Go.Proofs.Ytohjkgboehnamaa.MSeal Go.Proofs.Ytohjkgboehnamaa.MCrc Go.Proofs.Ytohjkgboehnamaa.MCodec Go.Proofs.Ytohjkgboehnamaa.MMedia
/-- Seven numbers that a ride may have. -/
def Fit (ns : List Int) : Prop := ns.length = 7 ∧ ∀ x ∈ ns, 0 ≤ x ∧ x ≤ 20000000
theorem Fit.nats {ns : List Int} (h : Fit ns) : Nats ns := fun x hx => by have := h.2 x hx; omega
/-- The link of a ride. -/
def linkN (prev : Nat) (ns : List Int) : Nat := tagN prev (putL ns)
/-- The body of a ride's frame. -/
def bodyJ (prev : Nat) (ns : List Int) : List Int := putL ns ++ be8 (linkN prev ns)
def frameJ (prev : Nat) (ns : List Int) : List Int := frameN (bodyJ prev ns)
theorem linkN_lt (prev : Nat) (ns : List Int) : linkN prev ns < 2 ^ 64 := tagN_lt _ _
theorem putL_len4 {ns : List Int} (h : ∀ x ∈ ns, 0 ≤ x ∧ x ≤ 20000000) : (putL ns).length ≤ 4 * ns.length := by
  induction ns with
  | nil => simp [putL]
  | cons x r ih =>
    have hx := h x (by simp)
    have h4 := putN_len x.toNat 4 (by have : x.toNat ≤ 20000000 := by omega
                                      exact Nat.lt_of_le_of_lt this (by decide)) (by decide)
    have := ih (fun y hy => h y (by simp [hy]))
    rw [putL_cons, List.length_append, List.length_cons]; omega
theorem putL_len9 {ns : List Int} (h : ∀ x ∈ ns, x < 9223372036854775808) : (putL ns).length ≤ 9 * ns.length := by
  induction ns with
  | nil => simp [putL]
  | cons x r ih =>
    have hx := h x (by simp)
    have h4 := putN_len9 x.toNat (by omega)
    have := ih (fun y hy => h y (by simp [hy]))
    rw [putL_cons, List.length_append, List.length_cons]; omega
theorem bodyJ_bytes (prev : Nat) (ns : List Int) : Bytes (bodyJ prev ns) := (putL_bytes ns).append (be8_bytes _)
theorem bodyJ_len {ns : List Int} (h : Fit ns) (prev : Nat) : (bodyJ prev ns).length ≤ 36 ∧ 8 ≤ (bodyJ prev ns).length := by
  have := putL_len4 h.2
  unfold bodyJ
  rw [List.length_append, be8_len, h.1] at *
  omega
theorem frameJ_bytes (prev : Nat) (ns : List Int) : Bytes (frameJ prev ns) := frameN_bytes (bodyJ_bytes prev ns)
theorem frameJ_len {ns : List Int} (h : Fit ns) (prev : Nat) : (frameJ prev ns).length = (bodyJ prev ns).length + 5 ∧ 13 ≤ (frameJ prev ns).length ∧ (frameJ prev ns).length ≤ 41 := by
  have hb := bodyJ_len h prev
  have hl := frameN_len (bodyJ prev ns)
  have h1 : (putN (bodyJ prev ns).length).length = 1 := by rw [putN_small (by omega)]; rfl
  unfold frameJ
  omega
/-- Numbers read, one behind the other, from a body. -/
def parsA (b : List Int) : Nat → Nat → List Int → Option (List Int × Nat)
  | 0, p, ns => some (ns, p)
  | d + 1, p, ns => if (getI (b.drop p)).2.2 = 0 then parsA b d (p + (getI (b.drop p)).2.1.toNat) (ns ++ [(getI (b.drop p)).1]) else none
theorem parsA_put (ns : List Int) (hn : Nats ns) : ∀ (p r acc : List Int), parsA (p ++ putL ns ++ r) ns.length p.length acc = some (acc ++ ns, (p ++ putL ns).length) := by
  induction ns with
  | nil => intro p r acc; simp [parsA, putL]
  | cons x t ih =>
    intro p r acc
    have hx := hn x (by simp)
    have hg := getI_put x.toNat (putL t ++ r) (by omega)
    have hd : (p ++ putL (x :: t) ++ r).drop p.length = putN x.toNat ++ (putL t ++ r) := by
      rw [List.append_assoc, List.drop_left, putL_cons, List.append_assoc]
    simp only [List.length_cons, parsA, hd, hg, if_true, Int.toNat_natCast]
    have := ih (fun y hy => hn y (by simp [hy])) (p ++ putN x.toNat) r (acc ++ [x])
    have e : (x.toNat : Int) = x := by omega
    rw [e]
    simp only [List.append_assoc, List.length_append, putL_cons] at this ⊢
    rw [this]
    simp [List.append_assoc]
theorem parsA_tells {b : List Int} (hb : Bytes b) : ∀ (d p : Nat) (ns : List Int) (x : List Int) (q : Nat), p ≤ b.length → parsA b d p ns = some (x, q) → ∃ y, x = ns ++ y ∧ y.length = d ∧ Nats y ∧ p ≤ q ∧ q ≤ b.length ∧ (b.drop p).take (q - p) = putL y := by
  intro d
  induction d with
  | zero =>
    intro p ns x q hp h
    simp only [parsA, Option.some.injEq, Prod.mk.injEq] at h
    obtain ⟨rfl, rfl⟩ := h
    exact ⟨[], by simp, rfl, (fun x hx => by simp at hx), Nat.le_refl _, hp, by simp [putL]⟩
  | succ d ih =>
    intro p ns x q hp h
    simp only [parsA] at h
    by_cases c : (getI (b.drop p)).2.2 = 0
    · rw [if_pos c] at h
      obtain ⟨n, k, hg, hn, hk1, hk9, hkl, ht⟩ := getI_tells (hb.drop p) c
      rw [hg] at h
      simp only [Int.toNat_natCast] at h
      rw [List.length_drop] at hkl
      obtain ⟨y, rfl, hy, hyn, hpq, hql, hty⟩ := ih (p + k) _ x q (by omega) h
      refine ⟨(n : Int) :: y, by simp, by simp [hy], ?_, by omega, hql, ?_⟩
      · intro z hz
        simp only [List.mem_cons] at hz
        rcases hz with rfl | hz
        · omega
        · exact hyn z hz
      · rw [putL_cons, Int.toNat_natCast, ← ht, ← hty, show q - p = k + (q - (p + k)) by omega, List.take_add, List.drop_drop]
    · rw [if_neg c] at h; cases h
/-- The next ride of bytes, behind a link: its numbers, how long its frame is, its link. -/
def nextJ (prev : Nat) (l : List Int) : Option (List Int × Nat × Nat) :=
  if (unI l).2.2 = 0 then
    match parsA (unI l).1 7 0 [] with
    | none => none
    | some (ns, q) => if (∀ x ∈ ns, x ≤ 20000000) ∧ (unI l).1.drop q = be8 (tagN prev ((unI l).1.take q)) then some (ns, (unI l).2.1.toNat, tagN prev ((unI l).1.take q)) else none
  else none
instance (ns : List Int) : Decidable (∀ x ∈ ns, x ≤ (20000000 : Int)) := List.decidableBAll ..
theorem nextJ_frame {ns : List Int} (h : Fit ns) (prev : Nat) (r : List Int) : nextJ prev (frameJ prev ns ++ r) = some (ns, (frameJ prev ns).length, linkN prev ns) := by
  have hb := bodyJ_len h prev
  have hu := unI_frame (bodyJ prev ns) r (bodyJ_bytes prev ns) (by omega)
  have hp := parsA_put ns h.nats [] (be8 (linkN prev ns)) []
  rw [h.1] at hp
  simp only [List.nil_append, List.length_nil] at hp
  have hp2 : parsA (bodyJ prev ns) 7 0 [] = some (ns, (putL ns).length) := hp
  unfold nextJ
  rw [show frameJ prev ns = frameN (bodyJ prev ns) from rfl, hu]
  simp only [if_true, hp2]
  have e1 : (bodyJ prev ns).take (putL ns).length = putL ns := by unfold bodyJ; exact List.take_left
  have e2 : (bodyJ prev ns).drop (putL ns).length = be8 (linkN prev ns) := by unfold bodyJ; exact List.drop_left
  rw [e1, e2, if_pos ⟨fun x hx => (h.2 x hx).2, rfl⟩]
  simp [linkN]
theorem nextJ_tells {prev : Nat} {l : List Int} (hb : Bytes l) {ns : List Int} {n link : Nat} (h : nextJ prev l = some (ns, n, link)) : Fit ns ∧ link = linkN prev ns ∧ n = (frameJ prev ns).length ∧ n ≤ l.length ∧ l.take n = frameJ prev ns := by
  unfold nextJ at h
  by_cases c : (unI l).2.2 = 0
  · rw [if_pos c] at h
    obtain ⟨b, k, hu, hbb, hbl, hk5, hkl, ht, hkf⟩ := unI_tells hb c
    rw [hu] at h
    simp only [] at h
    cases hp : parsA b 7 0 [] with
    | none => rw [hp] at h; simp at h
    | some z =>
      obtain ⟨x, q⟩ := z
      rw [hp] at h
      simp only [] at h
      by_cases c2 : (∀ y ∈ x, y ≤ 20000000) ∧ b.drop q = be8 (tagN prev (b.take q))
      · rw [if_pos c2] at h
        simp only [Option.some.injEq, Prod.mk.injEq, Int.toNat_natCast] at h
        obtain ⟨rfl, rfl, rfl⟩ := h
        obtain ⟨y, hy, hyl, hyn, _, hql, hty⟩ := parsA_tells hbb 7 0 [] x q (by omega) hp
        simp only [List.nil_append] at hy
        subst hy
        simp only [List.drop_zero, Nat.sub_zero] at hty
        have hbody : b = bodyJ prev x := by
          unfold bodyJ linkN
          rw [← hty, ← c2.2, List.take_append_drop]
        have hF : Fit x := ⟨hyl, fun z hz => ⟨(hyn z hz).1, c2.1 z hz⟩⟩
        refine ⟨hF, by unfold linkN; rw [hty], ?_, hkl, ?_⟩
        · unfold frameJ; rw [← hbody]; exact hkf
        · unfold frameJ; rw [← hbody]; exact ht
      · rw [if_neg c2] at h; cases h
  · rw [if_neg c] at h; cases h
/-- All rides of bytes from a place on. -/
def readJ (l : List Int) : Nat → Nat → Nat → List (List Int) → List (List Int) × Nat × Nat
  | 0, p, link, rs => (rs, p, link)
  | d + 1, p, link, rs => if p < l.length then
      match nextJ link (l.drop p) with
      | none => (rs, p, link)
      | some (ns, n, lk) => readJ l d (p + n) lk (rs ++ [ns])
    else (rs, p, link)
/-- The journal of rides behind a link, and the last link. -/
def jourN : Nat → List (List Int) → List Int
  | _, [] => []
  | prev, ns :: r => frameJ prev ns ++ jourN (linkN prev ns) r
def lastN : Nat → List (List Int) → Nat
  | prev, [] => prev
  | prev, ns :: r => lastN (linkN prev ns) r
theorem jourN_append : ∀ (a : List (List Int)) (prev : Nat) (b : List (List Int)), jourN prev (a ++ b) = jourN prev a ++ jourN (lastN prev a) b
  | [], _, _ => rfl
  | ns :: r, prev, b => by simp [jourN, lastN, jourN_append r]
theorem lastN_append : ∀ (a : List (List Int)) (prev : Nat) (b : List (List Int)), lastN prev (a ++ b) = lastN (lastN prev a) b
  | [], _, _ => rfl
  | ns :: r, prev, b => by simp [lastN, lastN_append r]
theorem lastN_lt : ∀ (a : List (List Int)) (prev : Nat), prev < 2 ^ 64 → lastN prev a < 2 ^ 64
  | [], _, h => h
  | ns :: r, prev, _ => lastN_lt r _ (linkN_lt _ _)
theorem jourN_bytes : ∀ (a : List (List Int)) (prev : Nat), Bytes (jourN prev a)
  | [], _ => fun x hx => by simp [jourN] at hx
  | ns :: r, prev => (frameJ_bytes _ _).append (jourN_bytes r _)
theorem jourN_len : ∀ (a : List (List Int)) (prev : Nat), (∀ ns ∈ a, Fit ns) → (jourN prev a).length ≤ 41 * a.length ∧ a.length ≤ (jourN prev a).length
  | [], _, _ => by simp [jourN]
  | ns :: r, prev, h => by
    have h1 := frameJ_len (h ns (by simp)) prev
    have h2 := jourN_len r (linkN prev ns) (fun x hx => h x (by simp [hx]))
    simp only [jourN, List.length_append, List.length_cons]; omega
/-- What stands at the front of bytes is read, whatever follows. -/
theorem readJ_front : ∀ (a : List (List Int)) (d p prev : Nat) (rs : List (List Int)) (l r : List Int), (∀ ns ∈ a, Fit ns) → l.drop p = jourN prev a ++ r → p ≤ l.length →
    readJ l (a.length + d) p prev rs = readJ l d (p + (jourN prev a).length) (lastN prev a) (rs ++ a)
  | [], d, p, prev, rs, l, r, _, _, _ => by simp [jourN, lastN]
  | ns :: t, d, p, prev, rs, l, r, h, hd, hp => by
    have hf := frameJ_len (h ns (by simp)) prev
    have hlen : (l.drop p).length = l.length - p := List.length_drop
    have hp2 : p < l.length := by rw [hd] at hlen; simp only [jourN, List.length_append] at hlen; omega
    have hn : nextJ prev (l.drop p) = some (ns, (frameJ prev ns).length, linkN prev ns) := by rw [hd, jourN, List.append_assoc]; exact nextJ_frame (h ns (by simp)) prev _
    have hd2 : l.drop (p + (frameJ prev ns).length) = jourN (linkN prev ns) t ++ r := by
      rw [← List.drop_drop, hd, jourN, List.append_assoc, List.drop_left]
    have := readJ_front t d (p + (frameJ prev ns).length) (linkN prev ns) (rs ++ [ns]) l r (fun x hx => h x (by simp [hx])) hd2 (by rw [hd] at hlen; simp only [jourN, List.length_append] at hlen; omega)
    rw [show (ns :: t).length + d = (t.length + d) + 1 by simp; omega, readJ, if_pos hp2, hn]
    simp only []
    rw [this]
    simp [jourN, lastN, Nat.add_assoc]
/-- Where the next ride can't be read, the reading ends. -/
theorem readJ_stop {l : List Int} {p prev : Nat} (rs : List (List Int)) (h : p < l.length → nextJ prev (l.drop p) = none) (d : Nat) : readJ l d p prev rs = (rs, p, prev) := by
  cases d with
  | zero => rfl
  | succ d =>
    rw [readJ]
    by_cases c : p < l.length
    · rw [if_pos c, h c]
    · rw [if_neg c]
/-- A frame that is cut off is none. -/
theorem nextJ_torn {ns : List Int} (h : Fit ns) (prev : Nat) {c : Nat} (hc : c < (frameJ prev ns).length) : nextJ prev ((frameJ prev ns).take c) = none := by
  cases hn : nextJ prev ((frameJ prev ns).take c) with
  | none => rfl
  | some z =>
    exfalso
    obtain ⟨ms, n, lk⟩ := z
    obtain ⟨hF, _, hnl, hnc, ht⟩ := nextJ_tells ((frameJ_bytes prev ns).take c) hn
    rw [List.length_take] at hnc
    rw [List.take_take, Nat.min_eq_left (by omega)] at ht
    have hb := bodyJ_len h prev
    have hb2 := bodyJ_len hF prev
    have e : frameJ prev ns = frameJ prev ms ++ (frameJ prev ns).drop n := by rw [← ht, List.take_append_drop]
    have u1 := unI_frame (bodyJ prev ns) [] (bodyJ_bytes prev ns) (by omega)
    have u2 := unI_frame (bodyJ prev ms) ((frameJ prev ns).drop n) (bodyJ_bytes prev ms) (by omega)
    rw [List.append_nil] at u1
    have e2 : frameN (bodyJ prev ns) = frameN (bodyJ prev ms) ++ (frameJ prev ns).drop n := e
    rw [← e2, u1] at u2
    have : (((frameN (bodyJ prev ns)).length : Nat) : Int) = (((frameN (bodyJ prev ms)).length : Nat) : Int) := (Prod.mk.inj (Prod.mk.inj u2).2).1
    have e3 : (frameJ prev ns).length = (frameN (bodyJ prev ns)).length := rfl
    have e4 : (frameJ prev ms).length = (frameN (bodyJ prev ms)).length := rfl
    omega
/-- A frame of which a byte behind the length is changed is none. -/
theorem nextJ_changed {ns : List Int} (h : Fit ns) (prev : Nat) (r : List Int) {i : Nat} (hi : 1 ≤ i) (hi2 : i < (frameJ prev ns).length) {x : Int} (hx : 0 ≤ x ∧ x < 256) (hne : (frameJ prev ns).getD i 0 ≠ x) : nextJ prev ((frameJ prev ns).set i x ++ r) = none := by
  have hb := bodyJ_len h prev
  have h1 : (putN (bodyJ prev ns).length).length = 1 := by rw [putN_small (by omega)]; rfl
  have hu := unI_damaged (bodyJ prev ns) r (bodyJ_bytes prev ns) (by omega) i x hx.1 hx.2 (by omega) hi2 hne
  unfold nextJ
  rw [show frameJ prev ns = frameN (bodyJ prev ns) from rfl, hu, if_neg (by decide)]
theorem be8_val (t : Nat) (h : t < 2 ^ 64) : t = (t / 72057594037927936 % 256) * 72057594037927936 + (t / 281474976710656 % 256) * 281474976710656 + (t / 1099511627776 % 256) * 1099511627776 + (t / 4294967296 % 256) * 4294967296 + (t / 16777216 % 256) * 16777216 + (t / 65536 % 256) * 65536 + (t / 256 % 256) * 256 + t % 256 := by omega
theorem be8_inj {s t : Nat} (hs : s < 2 ^ 64) (ht : t < 2 ^ 64) (h : be8 s = be8 t) : s = t := by
  unfold be8 at h
  simp only [List.cons.injEq, and_true, Int.natCast_inj] at h
  obtain ⟨h0, h1, h2, h3, h4, h5, h6, h7⟩ := h
  rw [be8_val s hs, be8_val t ht, h0, h1, h2, h3, h4, h5, h6, h7]
/-- A frame behind another link is none. -/
theorem nextJ_other {ns : List Int} (h : Fit ns) {prev q : Nat} (hp : prev < 2 ^ 64) (hq : q < 2 ^ 64) (hne : prev ≠ q) (r : List Int) : nextJ prev (frameJ q ns ++ r) = none := by
  have hb := bodyJ_len h q
  have hu := unI_frame (bodyJ q ns) r (bodyJ_bytes q ns) (by omega)
  have hpp := parsA_put ns h.nats [] (be8 (linkN q ns)) []
  rw [h.1] at hpp
  simp only [List.nil_append, List.length_nil] at hpp
  have hp2 : parsA (bodyJ q ns) 7 0 [] = some (ns, (putL ns).length) := hpp
  unfold nextJ
  rw [show frameJ q ns = frameN (bodyJ q ns) from rfl, hu]
  simp only [if_true, hp2]
  have e1 : (bodyJ q ns).take (putL ns).length = putL ns := by unfold bodyJ; exact List.take_left
  have e2 : (bodyJ q ns).drop (putL ns).length = be8 (linkN q ns) := by unfold bodyJ; exact List.drop_left
  rw [e1, e2, if_neg]
  rintro ⟨_, e⟩
  have hl := putL_len4 h.2
  rw [h.1] at hl
  have e3 := be8_inj (linkN_lt q ns) (tagN_lt _ _) e
  exact hne (tagN_inj hp hq (putL_bytes ns) (Nat.lt_of_le_of_lt hl (by decide)) e3.symm)
/-- A journal that is cut off gives the rides whose frames are whole. -/
theorem readJ_torn : ∀ (a : List (List Int)) (c p prev : Nat) (rs : List (List Int)) (l : List Int), (∀ ns ∈ a, Fit ns) → l.drop p = (jourN prev a).take c → p ≤ l.length → c ≤ (jourN prev a).length →
    ∃ m, m ≤ a.length ∧ (∀ d, a.length + 1 ≤ d → readJ l d p prev rs = (rs ++ a.take m, p + (jourN prev (a.take m)).length, lastN prev (a.take m))) ∧ (jourN prev (a.take m)).length ≤ c ∧ (m < a.length → c < (jourN prev (a.take (m + 1))).length)
  | [], c, p, prev, rs, l, _, hd, hp, hc => by
    refine ⟨0, Nat.le_refl _, fun d _ => ?_, by simp [jourN], fun h => absurd h (by simp)⟩
    simp only [jourN, List.take_nil] at hd
    have hlen : (l.drop p).length = l.length - p := List.length_drop
    rw [hd] at hlen
    simp only [List.length_nil] at hlen
    rw [readJ_stop rs (fun h => absurd h (by omega)) d]
    simp [jourN, lastN]
  | ns :: t, c, p, prev, rs, l, h, hd, hp, hc => by
    have hf := frameJ_len (h ns (by simp)) prev
    have hlen : (l.drop p).length = l.length - p := List.length_drop
    by_cases c1 : c < (frameJ prev ns).length
    · refine ⟨0, Nat.zero_le _, fun d _ => ?_, by simp [jourN], fun _ => ?_⟩
      · have hd2 : l.drop p = (frameJ prev ns).take c := by rw [hd, jourN, List.take_append_of_le_length (by omega)]
        rw [readJ_stop rs (fun _ => by rw [hd2]; exact nextJ_torn (h ns (by simp)) prev c1) d]
        simp [jourN, lastN]
      · simp [jourN]; omega
    · have hd2 : l.drop p = frameJ prev ns ++ (jourN (linkN prev ns) t).take (c - (frameJ prev ns).length) := by
        rw [hd, jourN, List.take_append, List.take_of_length_le (by omega)]
      have hp2 : p < l.length := by rw [hd2, List.length_append] at hlen; omega
      have hn : nextJ prev (l.drop p) = some (ns, (frameJ prev ns).length, linkN prev ns) := by rw [hd2]; exact nextJ_frame (h ns (by simp)) prev _
      have hd3 : l.drop (p + (frameJ prev ns).length) = (jourN (linkN prev ns) t).take (c - (frameJ prev ns).length) := by rw [← List.drop_drop, hd2, List.drop_left]
      have hc2 : c - (frameJ prev ns).length ≤ (jourN (linkN prev ns) t).length := by simp only [jourN, List.length_append] at hc; omega
      obtain ⟨m, hm, hr, hle, hlt⟩ := readJ_torn t (c - (frameJ prev ns).length) (p + (frameJ prev ns).length) (linkN prev ns) (rs ++ [ns]) l (fun x hx => h x (by simp [hx])) hd3 (by rw [hd2, List.length_append] at hlen; omega) hc2
      refine ⟨m + 1, by simp; omega, fun d hdd => ?_, ?_, fun hml => ?_⟩
      · obtain ⟨d, rfl⟩ : ∃ e, d = e + 1 := ⟨d - 1, by simp at hdd; omega⟩
        rw [readJ, if_pos hp2, hn]
        simp only []
        rw [hr d (by simp at hdd; omega)]
        simp [jourN, lastN, Nat.add_assoc]
      · simp only [List.take_succ_cons, jourN, List.length_append]; omega
      · have := hlt (by simp at hml; omega)
        simp only [List.take_succ_cons, jourN, List.length_append]; omega
end Go.Proofs.Ytohjkgboehnamaa.MJournal
set_option linter.unusedSimpArgs false
set_option linter.unusedVariables false
namespace Go.Proofs.Ytohjkgboehnamaa.Pure
open Go.RowKit Go.Proofs.Ytohjkgboehnamaa.Q Go.Proofs.YtohjkgboehnamaaW.PrintWords Go.Proofs.YtohjkgboehnamaaW.PrintLast Go.Proofs.YtohjkgboehnamaaW.PrintMore Go.Proofs.Ytohjkgboehnamaa.MSeal Go.Proofs.Ytohjkgboehnamaa.MCrc Go.Proofs.Ytohjkgboehnamaa.MCodec Go.Proofs.Ytohjkgboehnamaa.MMedia Go.Proofs.Ytohjkgboehnamaa.MJournal

theorem wrap_id {i : Int} (h0 : -9223372036854775808 ≤ i) (h : i < 9223372036854775808) : wrap64 i = i := by unfold wrap64; omega
theorem rd_nat (l : List Int) (i : Nat) : rd l (i : Int) = l.getD i 0 := by unfold rd; rw [Int.toNat_natCast]
theorem Ev.at1 {α : Type} {g : Nat → Option α} {r : α} (h : ∀ k, g (k + 1) = some r) : Ev g r := Ev.step h (Ev.now r)
theorem Ev.fix {α : Type} {g : Nat → Option α} {r : α} (h : ∀ k, g k = some r) : Ev g r := Ev.congr h (Ev.now r)
theorem or128 (x : Nat) (h : x < 256) : x ||| 128 = x % 128 + 128 := by
  have : ∀ y : Fin 256, y.val ||| 128 = y.val % 128 + 128 := by decide +kernel
  exact this ⟨x, h⟩
theorem or_u8 (n : Nat) : Go.bits .or .u8 ((n : Int) % 256) 128 = ((n % 128 + 128 : Nat) : Int) := by
  have e : Go.bits .or .u8 ((n % 256 : Nat) : Int) ((128 : Nat) : Int) = IntKind.u8.wrap ((n % 256 ||| 128 : Nat) : Int) := bits_or_nat .u8 (n % 256) 128 (by simp [IntKind.bits]; omega) (by decide)
  rw [or128 _ (by omega), IntKind.wrap_u8] at e
  have e2 : ((n % 256 : Nat) : Int) = (n : Int) % 256 := by omega
  rw [e2] at e
  exact e.trans (by omega)
theorem add_l0 (m : Nat) : ∀ (n : Nat) (l : List Int), n < 128 ^ m → 0 < m → l.length + m ≤ 140737488355328 → Ev (fun k => codec_add.l0 k l (n : Int)) (l ++ putN n) := by
  induction m with
  | zero => intro n l _ h; omega
  | succ m ih =>
    intro n l hn _ hl
    by_cases h : n < 128
    · refine Ev.at1 (fun k => ?_)
      simp only [codec_add.l0]
      rw [if_neg (by omega), if_pos (by omega), putN_small h]
      have : (n : Int) % 256 = n := by omega
      rw [this]
    · have h0 : 0 < m := by
        rcases Nat.eq_zero_or_pos m with rfl | h0
        · simp at hn; omega
        · exact h0
      have hd : n / 128 < 128 ^ m := by rw [Nat.pow_succ] at hn; exact Nat.div_lt_of_lt_mul (by omega)
      have H := ih (n / 128) (l ++ [((n % 128 + 128 : Nat) : Int)]) hd h0 (by simp; omega)
      rw [putN_big h]
      have e : l ++ ((n % 128 + 128 : Nat) : Int) :: putN (n / 128) = l ++ [((n % 128 + 128 : Nat) : Int)] ++ putN (n / 128) := by simp
      rw [e]
      refine Ev.step (fun k => ?_) H
      simp only [codec_add.l0]
      rw [if_pos (by omega), if_pos (by omega), or_u8]
      rfl
theorem add_ev (l : List Int) (a : Int) (ha : a < 9223372036854775808) (hl : l.length + 9 ≤ 140737488355328) : Ev (fun k => codec_add.f k l a) (l ++ putN a.toNat) := by
  have hm : mx a 0 = ((a.toNat : Nat) : Int) := by unfold mx; split <;> omega
  unfold codec_add.f
  rw [hm]
  exact add_l0 9 a.toNat l (by omega) (by decide) hl
theorem put_ev (l : List Int) (a : Int) (ha : a < 9223372036854775808) (hl : l.length + 9 ≤ 140737488355328) : Ev (fun k => codec_Put.f k l a) (l ++ putN a.toNat) := by
  unfold codec_Put.f
  have h0 : ([] : List Int).length + l.length < 140737488355328 := by simp; omega
  simp only [if_pos h0]
  exact Ev.bind (add_ev _ a ha hl) (Ev.now _)
theorem clear128 (c : Int) (h0 : 0 ≤ c) (h1 : c < 256) : Go.bits .andNot .u8 c 128 = c % 128 := by
  have : ∀ y : Fin 256, Go.bits .andNot .u8 (y.val : Int) 128 = (y.val : Int) % 128 := by decide +kernel
  have h9 := this ⟨c.toNat, by omega⟩
  have e : ((c.toNat : Nat) : Int) = c := by omega
  simp only [e] at h9
  exact h9
theorem get_or (acc i : Nat) (c : Int) (h0 : 0 ≤ c) (h1 : c < 256) (hi : i ≤ 8) (ha : acc < 128 ^ i) :
    Go.bits .or .i64 (acc : Int) (shl .i64 (wrap64 (Go.bits .andNot .u8 c 128)) (wrap64 (7 * (i : Int)))) = ((acc + 128 ^ i * (c.toNat % 128) : Nat) : Int) := by
  rw [clear128 c h0 h1, wrap_id (i := c % 128) (by omega) (by omega), wrap_id (i := 7 * (i : Int)) (by omega) (by omega)]
  have hp : (128 : Nat) ^ i = 2 ^ (7 * i) := by rw [Nat.pow_mul]
  have h56 : 2 ^ (7 * i) ≤ 2 ^ 56 := Nat.pow_le_pow_right (by decide) (by omega)
  have hx : c.toNat % 128 < 128 := by omega
  have hm : 2 ^ (7 * i) * (c.toNat % 128) ≤ 2 ^ 56 * 127 := Nat.mul_le_mul h56 (by omega)
  have hs : shl .i64 (c % 128) (7 * (i : Int)) = ((2 ^ (7 * i) * (c.toNat % 128) : Nat) : Int) := by
    unfold shl
    have e1 : (7 * (i : Int)).toNat = 7 * i := by omega
    have e2 : min (7 * i) IntKind.i64.bits = 7 * i := Nat.min_eq_left (by simp [IntKind.bits]; omega)
    rw [e1, e2]
    have e3 : c % 128 * 2 ^ (7 * i) = ((2 ^ (7 * i) * (c.toNat % 128) : Nat) : Int) := by
      have e4 : c % 128 = ((c.toNat % 128 : Nat) : Int) := by omega
      rw [e4, Int.natCast_mul, Int.mul_comm]; push_cast; rfl
    rw [e3, IntKind.wrap_i64]; omega
  rw [hp] at ha
  have ho := bits_or_nat .i64 acc (2 ^ (7 * i) * (c.toNat % 128)) (by simp [IntKind.bits]; omega) (by simp [IntKind.bits]; omega)
  rw [hs, ho, Nat.or_comm, ← Nat.two_pow_add_eq_or_of_lt ha, IntKind.wrap_i64, hp]
  omega
theorem get_l0 (l : List Int) (hb : Bytes l) : ∀ (d i : Nat), i + d = min 9 l.length →
    Ev (fun k => codec_Get.l0 k l ((valN (l.take i) : Nat) : Int) (l.take 9) (((l.take 9).length : Nat) : Int) (i : Int)) (getA l (9 - i) i) := by
  have hlen : (l.take 9).length = min 9 l.length := by simp
  intro d
  induction d with
  | zero =>
    intro i hi
    refine Ev.at1 (fun k => ?_)
    simp only [codec_Get.l0]
    rw [if_neg (by omega)]
    by_cases h9 : (l.length : Int) ≥ 9
    · rw [if_pos h9]
      have : 9 - i = 0 := by omega
      rw [this]; rfl
    · rw [if_neg h9]
      obtain ⟨m, hm⟩ : ∃ m, 9 - i = m + 1 := ⟨8 - i, by omega⟩
      rw [hm]
      simp only [getA]
      rw [if_pos (by omega)]
  | succ d ih =>
    intro i hi
    have hil : i < l.length := by omega
    have hby := hb.at i
    have hrd : rd (l.take 9) (i : Int) = l.getD i 0 := by
      rw [rd_nat, List.getD_eq_getElem?_getD, List.getD_eq_getElem?_getD, List.getElem?_take_of_lt (by omega)]
    have hv := valN_lt (l.take i)
    have hti : (l.take i).length = i := by simp; omega
    rw [hti] at hv
    have hor := get_or (valN (l.take i)) i (l.getD i 0) hby.1 hby.2 (by omega) hv
    have hval : valN (l.take i) + 128 ^ i * ((l.getD i 0).toNat % 128) = valN (l.take (i + 1)) := by
      rw [take_succ l i hil, valN_snoc, hti]
    rw [hval] at hor
    have HOR := Aside0.mk hor
    clear hor hval hv
    have hw : wrap64 (7 * (i : Int)) = 7 * (i : Int) := wrap_id (by omega) (by omega)
    have hw2 : wrap64 ((i : Int) + 1) = ((i + 1 : Nat) : Int) := by rw [wrap_id (by omega) (by omega)]; rfl
    obtain ⟨m, hm⟩ : ∃ m, 9 - i = m + 1 := ⟨8 - i, by omega⟩
    rw [hm]
    have hga : getA l (m + 1) i = if l.length ≤ i then (0, 0, 5) else if l.getD i 0 ≥ 128 then getA l m (i + 1) else if l.getD i 0 = 0 ∧ 0 < i then (0, 0, 3) else (((valN (l.take (i + 1)) : Nat) : Int), ((i + 1 : Nat) : Int), 0) := rfl
    rw [hga, if_neg (by omega)]
    by_cases h2 : l.getD i 0 ≥ 128
    · rw [if_pos h2]
      have hm2 : m = 9 - (i + 1) := by omega
      rw [hm2]
      refine Ev.step (fun k => ?_) (ih (i + 1) (by omega))
      simp only [codec_Get.l0]
      rw [if_pos (by omega), if_pos (by omega), if_pos (by omega), if_pos (by rw [hw]; omega), hrd, if_pos h2, HOR.out, hw2]
    · rw [if_neg h2]
      refine Ev.at1 (fun k => ?_)
      simp only [codec_Get.l0]
      rw [if_pos (by omega), if_pos (by omega), if_pos (by omega), if_pos (by rw [hw]; omega), hrd, if_neg h2, HOR.out, hw2]
      by_cases h3 : l.getD i 0 = 0
      · rw [if_pos h3]
        by_cases h4 : (i : Int) > 0
        · rw [if_pos h4, if_pos ⟨h3, by omega⟩]
        · rw [if_neg h4, if_neg (fun h => h4 (by omega))]
      · rw [if_neg h3, if_neg (fun h => h3 h.1)]
theorem get_ev (l : List Int) (hb : Bytes l) : Ev (fun k => codec_Get.f k l) (getI l) := by
  unfold codec_Get.f
  have hm : mn (l.length : Int) 9 = ((min 9 l.length : Nat) : Int) := by unfold mn; split <;> omega
  have ht : l.take (mn (l.length : Int) 9).toNat = l.take 9 := by
    rw [hm, Int.toNat_natCast]
    by_cases h : l.length ≤ 9
    · rw [Nat.min_eq_right h, List.take_of_length_le (Nat.le_refl _), List.take_of_length_le h]
    · rw [Nat.min_eq_left (by omega)]
  have H := get_l0 l hb (min 9 l.length) 0 (by omega)
  refine Ev.congr (fun k => ?_) H
  rw [if_pos (by rw [hm]; omega), if_pos (by rw [hm]; omega)]
  simp only [ht]
  rfl
theorem be4_int (s : Nat) : ([((s : Int) / 16777216) % 256, ((s : Int) / 65536) % 256, ((s : Int) / 256) % 256, (s : Int) % 256] : List Int) = be4 s := by
  simp only [be4, List.cons.injEq, and_true]
  omega
theorem frame_ev (l : List Int) (hb : Bytes l) (hl : l.length ≤ 140737488351232) : Ev (fun k => codec_Frame.f k l) (frameN l) := by
  unfold codec_Frame.f
  rw [codec_Sum.f_of hb (by omega)]
  simp only [Option.bind_some]
  refine Ev.bind (put_ev [] (l.length : Int) (by omega) (by simp)) ?_
  have h9 := putN_len9 l.length (by omega)
  refine Ev.fix (fun k => ?_)
  simp only [Int.toNat_natCast, List.nil_append]
  rw [if_pos (by omega), if_pos (by simp; omega), be4_int]
  rfl
theorem or_be (a b c d : Nat) (ha : a < 256) (hb : b < 256) (hc : c < 256) (hd : d < 256) :
    Go.bits .or .u32 (Go.bits .or .u32 (Go.bits .or .u32 ((((a : Int) % 4294967296) * 16777216) % 4294967296) ((((b : Int) % 4294967296) * 65536) % 4294967296)) ((((c : Int) % 4294967296) * 256) % 4294967296)) ((d : Int) % 4294967296) = ((a * 16777216 + b * 65536 + c * 256 + d : Nat) : Int) := by
  have e1 : (((a : Int) % 4294967296) * 16777216) % 4294967296 = ((a * 16777216 : Nat) : Int) := by omega
  have e2 : (((b : Int) % 4294967296) * 65536) % 4294967296 = ((b * 65536 : Nat) : Int) := by omega
  have e3 : (((c : Int) % 4294967296) * 256) % 4294967296 = ((c * 256 : Nat) : Int) := by omega
  have e4 : (d : Int) % 4294967296 = ((d : Nat) : Int) := by omega
  have o : ∀ x y i : Nat, 2 ^ i * x + y < 4294967296 → y < 2 ^ i → Go.bits .or .u32 ((2 ^ i * x : Nat) : Int) (y : Int) = ((2 ^ i * x + y : Nat) : Int) := fun x y i h1 h2 => by
    have h3 := bits_or_nat .u32 (2 ^ i * x) y (by simp [IntKind.bits]; omega) (by simp [IntKind.bits]; omega)
    rw [h3, ← Nat.two_pow_add_eq_or_of_lt h2, IntKind.wrap_u32]
    omega
  have o1 := o a (b * 65536) 24 (by omega) (by omega)
  have o2 := o (a * 256 + b) (c * 256) 16 (by omega) (by omega)
  have o3 := o (a * 65536 + b * 256 + c) d 8 (by omega) (by omega)
  rw [e1, e2, e3, e4]
  have f1 : a * 16777216 = 2 ^ 24 * a := by omega
  have f2 : 2 ^ 24 * a + b * 65536 = 2 ^ 16 * (a * 256 + b) := by omega
  have f3 : 2 ^ 16 * (a * 256 + b) + c * 256 = 2 ^ 8 * (a * 65536 + b * 256 + c) := by omega
  have f4 : 2 ^ 8 * (a * 65536 + b * 256 + c) + d = 2 ^ 24 * a + b * 65536 + c * 256 + d := by omega
  rw [f1, o1, f2, o2, f3, o3, f4]
theorem or_ofBe {l : List Int} (hb : Bytes l) :
    Go.bits .or .u32 (Go.bits .or .u32 (Go.bits .or .u32 (((rd l 0 % 4294967296) * 16777216) % 4294967296) (((rd l 1 % 4294967296) * 65536) % 4294967296)) (((rd l 2 % 4294967296) * 256) % 4294967296)) (rd l 3 % 4294967296) = ((ofBe l : Nat) : Int) := by
  have h0 := hb.at 0
  have h1 := hb.at 1
  have h2 := hb.at 2
  have h3 := hb.at 3
  have e0 : rd l 0 = (((l.getD 0 0).toNat : Nat) : Int) := by have : rd l 0 = l.getD 0 0 := rfl; rw [this]; omega
  have e1 : rd l 1 = (((l.getD 1 0).toNat : Nat) : Int) := by have : rd l 1 = l.getD 1 0 := rfl; rw [this]; omega
  have e2 : rd l 2 = (((l.getD 2 0).toNat : Nat) : Int) := by have : rd l 2 = l.getD 2 0 := rfl; rw [this]; omega
  have e3 : rd l 3 = (((l.getD 3 0).toNat : Nat) : Int) := by have : rd l 3 = l.getD 3 0 := rfl; rw [this]; omega
  rw [e0, e1, e2, e3, or_be _ _ _ _ (by omega) (by omega) (by omega) (by omega)]
  rfl
theorem cut_mid (l : List Int) (k n : Nat) : (l.take (k + n)).drop k = (l.drop k).take n := by
  rw [List.drop_take, Nat.add_sub_cancel_left]
theorem unframe_ev (l : List Int) (hb : Bytes l) (hl : l.length ≤ 140737488351232) : Ev (fun k => codec_Unframe.f k l) (unI l) := by
  unfold codec_Unframe.f
  refine Ev.bind (get_ev l hb) ?_
  unfold unI
  by_cases h1 : (getI l).2.2 = 0
  · obtain ⟨n, k, hg, hn, hk1, hk9, hkl, _⟩ := getI_tells hb h1
    rw [hg]
    refine Ev.fix (fun _ => ?_)
    simp only [if_true, ne_eq, not_true_eq_false, if_false, Int.toNat_natCast]
    by_cases h2 : (n : Int) > 65536
    · rw [if_pos h2, if_pos h2]
    · rw [if_neg h2, if_neg h2]
      have w1 : wrap64 ((l.length : Int) - (k : Int)) = (l.length : Int) - (k : Int) := wrap_id (by omega) (by omega)
      have w2 : wrap64 ((n : Int) + 4) = (n : Int) + 4 := wrap_id (by omega) (by omega)
      have w3 : wrap64 ((k : Int) + (n : Int)) = ((k + n : Nat) : Int) := by rw [wrap_id (by omega) (by omega)]; rfl
      rw [w1, w2, w3]
      have w4 : wrap64 (((k + n : Nat) : Int) + 4) = ((k + n + 4 : Nat) : Int) := by rw [wrap_id (by omega) (by omega)]; rfl
      rw [w4]
      by_cases h3 : (l.length : Int) - (k : Int) < (n : Int) + 4
      · rw [if_pos h3, if_pos h3]
      · rw [if_neg h3, if_neg h3]
        simp only [Int.toNat_natCast]
        rw [cut_mid l k n, cut_mid l (k + n) 4]
        have hb1 : Bytes ((l.drop k).take n) := (hb.drop k).take n
        have hb2 : Bytes ((l.drop (k + n)).take 4) := (hb.drop (k + n)).take 4
        have hl2 : ((l.drop (k + n)).take 4).length = 4 := by simp; omega
        have hl1 : ((l.drop k).take n).length = n := by simp; omega
        rw [if_pos (by omega), if_pos (by omega), if_pos (by omega), if_pos (by omega), if_pos (by omega), if_pos (by omega), codec_Sum.f_of hb1 (by omega), Option.bind_some]
        rw [if_pos (by omega), if_pos (by omega), if_pos (by omega), if_pos (by omega), or_ofBe hb2]
        have e9 : ((k : Int) + (n : Int)).toNat = k + n := by omega
        rw [e9]
        by_cases h4 : crcN ((l.drop k).take n) = ofBe ((l.drop (k + n)).take 4)
        · rw [if_pos (by rw [h4]), if_pos h4, if_pos (by simp; omega)]
          simp
        · rw [if_neg (by omega), if_neg h4]
  · rw [if_pos h1]
    refine Ev.fix (fun _ => ?_)
    simp only [if_neg h1]
theorem mix_f (a : Nat) (ha : a < 2 ^ 64) : seal_Mix.f (a : Int) = some ((mixN a : Nat) : Int) := by
  unfold seal_Mix.f; rw [mix_text a ha]
theorem mix_xor (a b : Nat) (ha : a < 2 ^ 64) (hb : b < 2 ^ 64) : seal_Mix.f (Go.bits .xor .u64 (a : Int) (b : Int)) = some ((mixN (a ^^^ b) : Nat) : Int) := by
  rw [xor_u64 a b ha hb, mix_f _ (Nat.xor_lt_two_pow ha hb)]
theorem wrap_at {i : Int} (h0 : 0 ≤ i) (h : i ≤ 140737488351240) : wrap64 i = i := by unfold wrap64; omega
/-- One byte more of a block. -/
theorem or_byte (b : List Int) (i : Nat) (hb : Bytes b) (hi : i < b.length) (h8 : b.length ≤ 8) :
    Go.bits .or .u64 ((blk (b.take i) : Nat) : Int) (shl .u64 (IntKind.u64.wrap (rd b i)) (wrap64 (8 * (i : Int)))) = ((blk (b.take (i + 1)) : Nat) : Int) := by
  have hx := hb.at i
  have hrd : rd b (i : Int) = b.getD i 0 := by unfold rd; simp
  obtain ⟨x, hxe⟩ := Int.eq_ofNat_of_zero_le hx.1
  have hx256 : x < 256 := by omega
  rw [hrd, hxe]
  have hw : wrap64 (8 * (i : Int)) = 8 * (i : Int) := wrap_at (by omega) (by omega)
  rw [hw, u64_nat x (by omega)]
  have hp : (256 : Nat) ^ i = 2 ^ (8 * i) := by rw [Nat.pow_mul]
  have hs : shl .u64 (x : Int) (8 * (i : Int)) = ((2 ^ (8 * i) * x : Nat) : Int) := by
    unfold shl
    have e1 : (8 * (i : Int)).toNat = 8 * i := by omega
    have e2 : min (8 * i) IntKind.u64.bits = 8 * i := Nat.min_eq_left (by simp [IntKind.bits]; omega)
    rw [e1, e2]
    have hlt : 2 ^ (8 * i) * x < 2 ^ 64 := by
      have h1 : 2 ^ (8 * i) * x < 2 ^ (8 * i) * 256 := Nat.mul_lt_mul_of_pos_left hx256 (Nat.two_pow_pos _)
      have h2 : 2 ^ (8 * i) * 256 = 2 ^ (8 * i + 8) := by rw [Nat.pow_add]
      have h3 : 2 ^ (8 * i + 8) ≤ 2 ^ 64 := Nat.pow_le_pow_right (by decide) (by omega)
      omega
    have e3 : (x : Int) * 2 ^ (8 * i) = ((2 ^ (8 * i) * x : Nat) : Int) := by push_cast; rw [Int.mul_comm]
    rw [e3, u64_nat _ hlt]
  have hl : (b.take i).length = i := by simp; omega
  have ha : blk (b.take i) < 2 ^ (8 * i) := by
    have := blk_lt (hb.take i); rw [hl, hp] at this; exact this
  have h64 : 2 ^ (8 * i) ≤ 2 ^ 64 := Nat.pow_le_pow_right (by decide) (by omega)
  have hlt : 2 ^ (8 * i) * x < 2 ^ 64 := by
    have h1 : 2 ^ (8 * i) * x < 2 ^ (8 * i) * 256 := Nat.mul_lt_mul_of_pos_left hx256 (Nat.two_pow_pos _)
    have h2 : 2 ^ (8 * i) * 256 = 2 ^ (8 * i + 8) := by rw [Nat.pow_add]
    have h3 : 2 ^ (8 * i + 8) ≤ 2 ^ 64 := Nat.pow_le_pow_right (by decide) (by omega)
    omega
  rw [hs, or_u64 _ _ (by omega) hlt, Nat.or_comm, ← Nat.two_pow_add_eq_or_of_lt ha]
  have ht : b.take (i + 1) = b.take i ++ [b.getD i 0] := by
    rw [List.take_succ_eq_append_getElem hi, List.getD_eq_getElem?_getD, List.getElem?_eq_getElem hi]; rfl
  rw [ht, blk_snoc, hl, hp, hxe]
  simp [Nat.add_comm]
theorem tag_l1 (l b : List Int) (hb : Bytes b) (h8 : b.length ≤ 8) (h : Nat) (hh : h < 2 ^ 64) (n sz : Int) (hs : 0 ≤ sz) (hsl : sz ≤ l.length) (R : Int)
    (H : Ev (fun k => seal_Tag.l0 k (l.drop sz.toNat) ((mixN (h ^^^ blk b) : Nat) : Int) n) R) :
    ∀ d i : Nat, i + d = b.length → Ev (fun k => seal_Tag.l1 k l (h : Int) n sz ((blk (b.take i) : Nat) : Int) b (b.length : Int) (i : Int)) R := by
  intro d
  induction d with
  | zero =>
    intro i hi
    refine Ev.step (fun k => ?_) H
    simp only [seal_Tag.l1]
    rw [if_neg (by omega), List.take_of_length_le (by omega), mix_xor _ _ hh (blk_lt64 hb h8)]
    simp only [Option.bind_some]
    rw [if_pos hs, if_pos hsl]
  | succ d ih =>
    intro i hi
    refine Ev.step (fun k => ?_) (ih (i + 1) (by omega))
    simp only [seal_Tag.l1]
    have hw : wrap64 (8 * (i : Int)) = 8 * (i : Int) := wrap_at (by omega) (by omega)
    have hw2 : wrap64 ((i : Int) + 1) = ((i + 1 : Nat) : Int) := by rw [wrap_at (by omega) (by omega)]; rfl
    rw [if_pos (by omega), if_pos (by omega), if_pos (by omega), if_pos (by rw [hw]; omega), or_byte b i hb (by omega) h8, hw2]
theorem tag_l0 (n : Nat) (hn : n < 2 ^ 64) (l : List Int) : ∀ (h : Nat), h < 2 ^ 64 → Bytes l → Ev (fun k => seal_Tag.l0 k l (h : Int) (n : Int)) ((mixN (tags h l ^^^ n) : Nat) : Int) := by
  refine tags_ind (P := fun l => ∀ (h : Nat), h < 2 ^ 64 → Bytes l → Ev (fun k => seal_Tag.l0 k l (h : Int) (n : Int)) ((mixN (tags h l ^^^ n) : Nat) : Int)) ?_ ?_ l
  · intro h hh _
    refine ⟨1, fun k hk => ?_⟩
    obtain ⟨k, rfl⟩ : ∃ m, k = m + 1 := ⟨k - 1, by omega⟩
    simp only [seal_Tag.l0]
    rw [if_neg (by simp), mix_xor _ _ hh hn, tags_nil]; rfl
  · intro l hl ih h hh hb
    have hlen : 0 < l.length := List.length_pos_iff.mpr hl
    have hm : 0 ≤ mn 8 (l.length : Int) ∧ mn 8 (l.length : Int) ≤ l.length ∧ (mn 8 (l.length : Int)).toNat ≤ 8 := by unfold mn; split <;> omega
    have hbt := hb.take (mn 8 (l.length : Int)).toNat
    have ht : l.take (mn 8 (l.length : Int)).toNat = l.take 8 := by
      unfold mn
      by_cases h8 : (l.length : Int) < 8
      · rw [if_pos h8, List.take_of_length_le (by omega), List.take_of_length_le (by omega)]
      · rw [if_neg h8]; rfl
    have hd : l.drop (mn 8 (l.length : Int)).toNat = l.drop 8 := by
      unfold mn
      by_cases h8 : (l.length : Int) < 8
      · rw [if_pos h8, List.drop_eq_nil_of_le (by omega), List.drop_eq_nil_of_le (by omega)]
      · rw [if_neg h8]; rfl
    rw [tags_cons _ _ hl]
    have H : Ev (fun k => seal_Tag.l0 k (l.drop (mn 8 (l.length : Int)).toNat) ((mixN (h ^^^ blk (l.take 8)) : Nat) : Int) (n : Int)) ((mixN (tags (mixN (h ^^^ blk (l.take 8))) (l.drop 8) ^^^ n) : Nat) : Int) := by
      rw [hd]; exact ih (mixN (h ^^^ blk (l.take 8))) (mixN_lt _) (hb.drop 8)
    rw [ht] at hbt
    refine Ev.step (fun k => ?_) (tag_l1 l (l.take 8) hbt (List.length_take_le _ _) h hh n _ hm.1 hm.2.1 _ H (l.take 8).length 0 (by omega))
    simp only [seal_Tag.l0]
    rw [if_pos (by omega), if_pos hm.1, if_pos hm.2.1, ht]
    rfl
theorem tag_ev (key : Nat) (l : List Int) (hk : key < 2 ^ 64) (hb : Bytes l) (hl : l.length ≤ 140737488351232) : Ev (fun k => seal_Tag.f k (key : Int) l) ((tagN key l : Nat) : Int) := by
  unfold seal_Tag.f tagN
  rw [mix_f _ hk]
  simp only [Option.bind_some]
  rw [u64_nat l.length (by omega)]
  exact tag_l0 l.length (by omega) l (mixN key) (mixN_lt _) hb
theorem chain_ev (key : Nat) (l : List Int) (hk : key < 2 ^ 64) (hb : Bytes l) (hl : l.length ≤ 140737488351232) : Ev (fun k => seal_Chain.f k (key : Int) l) ((tagN key l : Nat) : Int) := by
  unfold seal_Chain.f
  exact Ev.bind (tag_ev key l hk hb hl) (Ev.now _)
theorem shr8 (g : Nat) (i : Nat) (hi : i < 8) (hg : g < 2 ^ 64) : (shr .u64 (g : Int) (wrap64 (8 * (wrap64 (7 - (i : Int)))))) % 256 = (be8 g).getD i 0 := by
  rw [be8_at g i hi]
  have e1 : wrap64 (7 - (i : Int)) = 7 - (i : Int) := wrap_id (by omega) (by omega)
  have e2 : wrap64 (8 * (7 - (i : Int))) = 8 * (7 - (i : Int)) := wrap_id (by omega) (by omega)
  rw [e1, e2]
  unfold shr
  have e3 : (8 * (7 - (i : Int))).toNat = 8 * (7 - i) := by omega
  have e4 : min (8 * (7 - i)) IntKind.u64.bits = 8 * (7 - i) := Nat.min_eq_left (by simp [IntKind.bits]; omega)
  rw [e3, e4]
  have e5 : ((2 : Int) ^ (8 * (7 - i))) = ((2 ^ (8 * (7 - i)) : Nat) : Int) := by push_cast; rfl
  rw [e5]
  generalize 2 ^ (8 * (7 - i)) = q
  rw [← Int.natCast_ediv]
  omega
/-- The seven numbers of a ride. -/
def nsOf (r : S39) : List Int := [r.f0, r.f1, r.f2, r.f3, r.f4, r.f5, r.f6]
/-- The ride of seven numbers. -/
def rOf (ns : List Int) : S39 := ⟨rd ns 0, rd ns 1, rd ns 2, rd ns 3, rd ns 4, rd ns 5, rd ns 6⟩
theorem rOf_nsOf (r : S39) : rOf (nsOf r) = r := rfl
theorem nsOf_rOf {ns : List Int} (h : ns.length = 7) : nsOf (rOf ns) = ns := by
  match ns, h with
  | [a, b, c, d, e, f, g], _ => rfl
def fitB (ns : List Int) : Bool := ns.all fun x => decide (0 ≤ x) && decide (x ≤ 20000000)
theorem fitB_iff (ns : List Int) : fitB ns = true ↔ ∀ x ∈ ns, 0 ≤ x ∧ x ≤ 20000000 := by
  unfold fitB
  rw [List.all_eq_true]
  constructor
  · intro h x hx; have := h x hx; simpa using this
  · intro h x hx; have := h x hx; simpa using this
theorem fit_of {r : S39} (h : fitB (nsOf r) = true) : Fit (nsOf r) := ⟨rfl, (fitB_iff _).mp h⟩
theorem min_l0 (l : List Int) (hl : l.length ≤ 1000) : ∀ (d i : Nat) (m : Int), i + d = l.length → Ev (fun k => slices_Min_int_int.l0 k l m (i : Int)) ((l.drop i).foldl mn m) := by
  intro d
  induction d with
  | zero =>
    intro i m hi
    refine Ev.at1 (fun k => ?_)
    simp only [slices_Min_int_int.l0]
    rw [if_neg (by omega), List.drop_eq_nil_of_le (by omega)]; rfl
  | succ d ih =>
    intro i m hi
    refine Ev.step (f := fun k => slices_Min_int_int.l0 k l (mn m (rd l (i : Int))) ((i + 1 : Nat) : Int)) (fun k => ?_) ?_
    · simp only [slices_Min_int_int.l0]
      rw [if_pos (by omega), if_pos (by omega), wrap_id (by omega) (by omega)]; rfl
    · have := ih (i + 1) (mn m (rd l (i : Int))) (by omega)
      rw [drop_rd l i (by omega), List.foldl_cons]; exact this
theorem max_l0 (l : List Int) (hl : l.length ≤ 1000) : ∀ (d i : Nat) (m : Int), i + d = l.length → Ev (fun k => slices_Max_int_int.l0 k l m (i : Int)) ((l.drop i).foldl mx m) := by
  intro d
  induction d with
  | zero =>
    intro i m hi
    refine Ev.at1 (fun k => ?_)
    simp only [slices_Max_int_int.l0]
    rw [if_neg (by omega), List.drop_eq_nil_of_le (by omega)]; rfl
  | succ d ih =>
    intro i m hi
    refine Ev.step (f := fun k => slices_Max_int_int.l0 k l (mx m (rd l (i : Int))) ((i + 1 : Nat) : Int)) (fun k => ?_) ?_
    · simp only [slices_Max_int_int.l0]
      rw [if_pos (by omega), if_pos (by omega), wrap_id (by omega) (by omega)]; rfl
    · have := ih (i + 1) (mx m (rd l (i : Int))) (by omega)
      rw [drop_rd l i (by omega), List.foldl_cons]; exact this
theorem foldl_mn (l : List Int) : ∀ m : Int, 0 ≤ l.foldl mn m ↔ 0 ≤ m ∧ ∀ x ∈ l, 0 ≤ x := by
  induction l with
  | nil => intro m; simp
  | cons x t ih =>
    intro m
    rw [List.foldl_cons, ih]
    have : 0 ≤ mn m x ↔ 0 ≤ m ∧ 0 ≤ x := by unfold mn; split <;> omega
    rw [this]
    simp only [List.mem_cons, forall_eq_or_imp]
    exact ⟨fun h => ⟨h.1.1, h.1.2, h.2⟩, fun h => ⟨⟨h.1, h.2.1⟩, h.2.2⟩⟩
theorem foldl_mx (l : List Int) : ∀ m : Int, l.foldl mx m ≤ 20000000 ↔ m ≤ 20000000 ∧ ∀ x ∈ l, x ≤ 20000000 := by
  induction l with
  | nil => intro m; simp
  | cons x t ih =>
    intro m
    rw [List.foldl_cons, ih]
    have : mx m x ≤ 20000000 ↔ m ≤ 20000000 ∧ x ≤ 20000000 := by unfold mx; split <;> omega
    rw [this]
    simp only [List.mem_cons, forall_eq_or_imp]
    exact ⟨fun h => ⟨h.1.1, h.1.2, h.2⟩, fun h => ⟨⟨h.1, h.2.1⟩, h.2.2⟩⟩
theorem within_ev (r : S39) : Ev (fun k => journal_within.f k r.f0 r.f1 r.f2 r.f3 r.f4 r.f5 r.f6) (fitB (nsOf r)) := by
  have hmin := min_l0 (nsOf r) (by simp [nsOf]) 6 1 r.f0 rfl
  have hmax := max_l0 (nsOf r) (by simp [nsOf]) 6 1 r.f0 rfl
  have hm : Ev (fun k => slices_Min_int_int.f k (nsOf r)) (((nsOf r).drop 1).foldl mn r.f0) := by
    refine Ev.congr (fun k => ?_) hmin
    simp only [slices_Min_int_int.f]
    rw [if_neg (by simp [nsOf]), if_pos (by simp [nsOf])]; rfl
  have hM : Ev (fun k => slices_Max_int_int.f k (nsOf r)) (((nsOf r).drop 1).foldl mx r.f0) := by
    refine Ev.congr (fun k => ?_) hmax
    simp only [slices_Max_int_int.f]
    rw [if_neg (by simp [nsOf]), if_pos (by simp [nsOf])]; rfl
  have e1 := foldl_mn ((nsOf r).drop 1) r.f0
  have e2 := foldl_mx ((nsOf r).drop 1) r.f0
  generalize ((nsOf r).drop 1).foldl mn r.f0 = a at *
  generalize ((nsOf r).drop 1).foldl mx r.f0 = b at *
  have hall : (0 ≤ a ∧ b ≤ 20000000) ↔ fitB (nsOf r) = true := by
    rw [fitB_iff, e1, e2]
    have hc : nsOf r = r.f0 :: (nsOf r).drop 1 := rfl
    rw [hc]
    simp only [List.drop_succ_cons, List.drop_zero, List.mem_cons, forall_eq_or_imp]
    exact ⟨fun h => ⟨⟨h.1.1, h.2.1⟩, fun x hx => ⟨h.1.2 x hx, h.2.2 x hx⟩⟩, fun h => ⟨⟨h.1.1, fun x hx => (h.2 x hx).1⟩, h.1.2, fun x hx => (h.2 x hx).2⟩⟩
  unfold journal_within.f
  simp only [journal_fields.f, Option.bind_some]
  refine Ev.bind hm ?_
  by_cases c : a ≥ 0
  · simp only [if_pos c]
    refine Ev.bind hM ?_
    by_cases c2 : b ≤ 20000000
    · rw [hall.mp ⟨c, c2⟩]; simp only [decide_eq_true c2]; exact Ev.now _
    · have : fitB (nsOf r) = false := Bool.eq_false_iff.mpr (fun h => c2 (hall.mpr h).2)
      rw [this]; simp only [decide_eq_false c2]; exact Ev.now _
  · have : fitB (nsOf r) = false := Bool.eq_false_iff.mpr (fun h => c (hall.mpr h).1)
    rw [this]; simp only [if_neg c]; exact Ev.now _
theorem shr_be8 (g : Nat) (i : Nat) (hi : i < 8) (hg : g < 2 ^ 64) : (shr .u64 (g : Int) (wrap64 (8 * (7 - (i : Int))))) % 256 = (be8 g).getD i 0 := by
  have := shr8 g i hi hg
  rwa [wrap_id (i := 7 - (i : Int)) (by omega) (by omega)] at this
theorem frame_l1 (b : List Int) (hb : Bytes b) (hl : b.length ≤ 1000) (g : Nat) (hg : g < 2 ^ 64) : ∀ (d i : Nat), i + d = 8 →
    Ev (fun k => journal_frame.l1 k (b ++ (be8 g).take i) (g : Int) (7 - (i : Int))) (frameN (b ++ be8 g), (g : Int)) := by
  intro d
  induction d with
  | zero =>
    intro i hi
    obtain rfl : i = 8 := by omega
    have e : (be8 g).take 8 = be8 g := rfl
    rw [e]
    refine Ev.step (f := fun k => (codec_Frame.f k (b ++ be8 g)).bind fun t => some (t, (g : Int))) (fun k => ?_) (Ev.bind (frame_ev _ (hb.append (be8_bytes _)) (by rw [List.length_append, be8_len]; omega)) (Ev.now _))
    simp only [journal_frame.l1]
    rw [if_neg (by omega)]
  | succ d ih =>
    intro i hi
    have hlen : (b ++ (be8 g).take i).length < 140737488355328 := by
      rw [List.length_append, List.length_take, be8_len]; omega
    refine Ev.step (fun k => ?_) (ih (i + 1) (by omega))
    simp only [journal_frame.l1]
    have e2 : wrap64 ((7 - (i : Int)) - 1) = 7 - ((i + 1 : Nat) : Int) := by rw [wrap_id (by omega) (by omega)]; omega
    have e1 : (0 : Int) ≤ wrap64 (8 * (7 - (i : Int))) := by rw [wrap_id (by omega) (by omega)]; omega
    rw [if_pos (by omega), if_pos e1, if_pos hlen, e2, shr_be8 g i (by omega) hg, take_succ _ i (by rw [be8_len]; omega), ← List.append_assoc]
theorem frame_l0 (ns : List Int) (hn : ∀ x ∈ ns, x < 9223372036854775808) (h7 : ns.length = 7) (prev : Nat) (hp : prev < 2 ^ 64) : ∀ (d i : Nat), i + d = 7 →
    Ev (fun k => journal_frame.l0 k (prev : Int) (putL (ns.take i)) ns (ns.length : Int) (i : Int)) (frameJ prev ns, ((linkN prev ns : Nat) : Int)) := by
  have hall := putL_len9 hn
  intro d
  induction d with
  | zero =>
    intro i hi
    rw [List.take_of_length_le (by omega)]
    have C := chain_ev prev (putL ns) hp (putL_bytes ns) (by omega)
    have F := frame_l1 (putL ns) (putL_bytes ns) (by omega) (tagN prev (putL ns)) (tagN_lt _ _) 8 0 (by omega)
    simp only [List.take_zero, List.append_nil] at F
    refine Ev.step (f := fun k => (seal_Chain.f k (prev : Int) (putL ns)).bind fun t => journal_frame.l1 k (putL ns) t 7) (fun k => ?_) (Ev.bind C F)
    simp only [journal_frame.l0]
    rw [if_neg (by omega)]
  | succ d ih =>
    intro i hi
    have hpl : (putL (ns.take i)).length ≤ 63 := by
      have := putL_len9 (ns := ns.take i) (fun x hx => hn x (List.mem_of_mem_take hx))
      rw [List.length_take] at this; omega
    have hx : rd ns (i : Int) < 9223372036854775808 := by
      rw [rd_nat, List.getD_eq_getElem?_getD, List.getElem?_eq_getElem (by omega : i < ns.length)]
      exact hn _ (List.getElem_mem _)
    have P := put_ev (putL (ns.take i)) (rd ns (i : Int)) hx (by omega)
    have e : putL (ns.take i) ++ putN (rd ns (i : Int)).toNat = putL (ns.take (i + 1)) := by
      rw [take_succ ns i (by omega), putL_append, rd_nat]
      simp [putL]
    rw [e] at P
    refine Ev.step (f := fun k => (codec_Put.f k (putL (ns.take i)) (rd ns (i : Int))).bind fun t => journal_frame.l0 k (prev : Int) t ns (ns.length : Int) ((i + 1 : Nat) : Int)) (fun k => ?_) (Ev.bind P (ih (i + 1) (by omega)))
    simp only [journal_frame.l0]
    rw [if_pos (by omega), if_pos (by omega), if_pos (by omega), wrap_id (by omega) (by omega)]; rfl
theorem jframe_ev (r : S39) (hn : ∀ x ∈ nsOf r, x < 9223372036854775808) (prev : Nat) (hp : prev < 2 ^ 64) : Ev (fun k => journal_frame.f k r.f0 r.f1 r.f2 r.f3 r.f4 r.f5 r.f6 (prev : Int)) (frameJ prev (nsOf r), ((linkN prev (nsOf r) : Nat) : Int)) := by
  unfold journal_frame.f
  simp only [journal_fields.f, Option.bind_some]
  exact frame_l0 (nsOf r) hn rfl prev hp 7 0 (by omega)
/-- What Write returns. -/
def writeR (l : List S39) : List Int × Int := if l.all (fun r => fitB (nsOf r)) then (jourN 0 (l.map nsOf), 0) else ([], 2)
theorem rd_T39_nat (l : List S39) (i : Nat) (h : i < l.length) : rd_T39 l (i : Int) = l[i] := by
  unfold rd_T39
  rw [Int.toNat_natCast, List.getD_eq_getElem?_getD, List.getElem?_eq_getElem h]; rfl
theorem all_fit {l : List S39} (h : l.all (fun r => fitB (nsOf r)) = true) : ∀ ns ∈ l.map nsOf, Fit ns := fun ns hns => by
  obtain ⟨r, hr, rfl⟩ := List.mem_map.mp hns
  exact fit_of (List.all_eq_true.mp h r hr)
theorem write_l0 (l : List S39) (hl : l.length * 56 ≤ 140737488351232) : ∀ (d i : Nat), i + d = l.length → (l.take i).all (fun r => fitB (nsOf r)) = true →
    Ev (fun k => journal_Write.l0 k (jourN 0 ((l.take i).map nsOf)) ((lastN 0 ((l.take i).map nsOf) : Nat) : Int) l (l.length : Int) (i : Int)) (writeR l) := by
  intro d
  induction d with
  | zero =>
    intro i hi ha
    rw [List.take_of_length_le (by omega)] at ha ⊢
    refine Ev.at1 (fun k => ?_)
    simp only [journal_Write.l0]
    rw [if_neg (by omega), writeR, if_pos ha]
  | succ d ih =>
    intro i hi ha
    have hil : i < l.length := by omega
    have hr := rd_T39_nat l i hil
    have hlen := jourN_len ((l.take i).map nsOf) 0 (all_fit ha)
    rw [List.length_map, List.length_take] at hlen
    have W := within_ev l[i]
    have e1 : (i : Int) < (l.length : Int) := by omega
    have e0 : (0 : Int) ≤ (i : Int) := by omega
    have hw : wrap64 ((i : Int) + 1) = ((i + 1 : Nat) : Int) := by rw [wrap_id (by omega) (by omega)]; rfl
    refine Ev.step (fun k => rfl) ?_
    simp only [journal_Write.l0, if_pos e1, if_pos e0, hr, hw]
    refine Ev.bind W ?_
    have ht : l.take (i + 1) = l.take i ++ [l[i]] := List.take_succ_eq_append_getElem hil
    by_cases c : fitB (nsOf l[i]) = true
    · simp only [if_pos c]
      have hF := fit_of c
      have F := jframe_ev l[i] (fun x hx => by have := hF.2 x hx; omega) (lastN 0 ((l.take i).map nsOf)) (lastN_lt _ _ (by decide))
      have hf := frameJ_len hF (lastN 0 ((l.take i).map nsOf))
      refine Ev.bind F ?_
      have e2 : (jourN 0 ((l.take i).map nsOf)).length + (frameJ (lastN 0 ((l.take i).map nsOf)) (nsOf l[i])).length < 140737488355328 := by omega
      simp only [if_pos e2]
      have := ih (i + 1) (by omega) (by rw [ht, List.all_append, ha]; simp [c])
      rw [ht, List.map_append, jourN_append, lastN_append] at this
      simpa [jourN, lastN] using this
    · simp only [if_neg c]
      have : l.all (fun r => fitB (nsOf r)) = false := Bool.eq_false_iff.mpr (fun h => c (List.all_eq_true.mp h _ (List.getElem_mem hil)))
      rw [writeR, this]
      simp only [Bool.false_eq_true, if_false]
      exact Ev.now _
theorem write_ev (l : List S39) (hl : l.length * 56 ≤ 140737488351232) : Ev (fun k => journal_Write.f k l) (writeR l) :=
  write_l0 l hl l.length 0 (by omega) rfl
theorem equal_l0 (a b : List Int) (hl : a.length = b.length) (hs : a.length ≤ 9223372036854775000) : ∀ (d i : Nat), i + d = a.length → a.take i = b.take i → Ev (fun k => slices_Equal_byte_byte.l0 k a b (a.length : Int) (i : Int)) (decide (a = b)) := by
  intro d
  induction d with
  | zero =>
    intro i hi h
    rw [List.take_of_length_le (by omega), List.take_of_length_le (by omega)] at h
    refine Ev.at1 (fun k => ?_)
    simp only [slices_Equal_byte_byte.l0]
    rw [if_neg (by omega), decide_eq_true h]
  | succ d ih =>
    intro i hi h
    have e1 : (i : Int) < (a.length : Int) := by omega
    have e2 : (i : Int) < (b.length : Int) := by omega
    have e0 : (0 : Int) ≤ (i : Int) := by omega
    have hw : wrap64 ((i : Int) + 1) = ((i + 1 : Nat) : Int) := by rw [wrap_id (by omega) (by omega)]; rfl
    have ta := take_succ a i (by omega)
    have tb := take_succ b i (by omega)
    refine Ev.step (fun k => rfl) ?_
    simp only [slices_Equal_byte_byte.l0, if_pos e1, if_pos e2, if_pos e0, hw]
    by_cases c : rd a (i : Int) = rd b (i : Int)
    · simp only [c, if_true]
      exact ih (i + 1) (by omega) (by rw [ta, tb, h, ← rd_nat a i, ← rd_nat b i, c])
    · simp only [if_neg c]
      have hne : a ≠ b := fun e => c (by rw [e])
      rw [decide_eq_false hne]
      exact Ev.now _
theorem equal_ev (a b : List Int) (hs : a.length ≤ 9223372036854775000) : Ev (fun k => slices_Equal_byte_byte.f k a b) (decide (a = b)) := by
  unfold slices_Equal_byte_byte.f
  by_cases h : a.length = b.length
  · have : (a.length : Int) = (b.length : Int) := by omega
    simp only [if_pos this]
    exact equal_l0 a b h hs a.length 0 (by omega) rfl
  · have : ¬ (a.length : Int) = (b.length : Int) := by omega
    simp only [if_neg this]
    rw [decide_eq_false (fun e => h (by rw [e]))]
    exact Ev.now _
/-- What ride tells of a body. -/
def parsB (b : List Int) (d p : Nat) (ns : List Int) : Option (List Int) :=
  match parsA b d p ns with
  | none => none
  | some (x, _) => if ∀ y ∈ x, y ≤ 20000000 then some x else none
theorem ride_ev (b : List Int) (hb : Bytes b) (hbl : b.length ≤ 140737488351232) : ∀ (d p : Nat) (ns : List Int), p ≤ b.length → (∀ y ∈ ns, y ≤ 20000000) → Ev (fun k => rideF k d (b.drop p) ns) (parsB b d p ns) := by
  intro d
  induction d with
  | zero =>
    intro p ns hp hn
    unfold parsB
    simp only [parsA, if_pos hn]
    exact Ev.now _
  | succ d ih =>
    intro p ns hp hn
    have G := get_ev (b.drop p) (hb.drop p)
    unfold parsB
    simp only [parsA]
    refine Ev.bind G ?_
    by_cases c : (getI (b.drop p)).2.2 = 0
    · obtain ⟨n, k, hg, hnn, hk1, hk9, hkl, ht⟩ := getI_tells (hb.drop p) c
      rw [hg]
      rw [List.length_drop] at hkl
      have e0 : (0 : Int) ≤ (k : Int) := by omega
      have e1 : (k : Int) ≤ ((b.drop p).length : Int) := by rw [List.length_drop]; omega
      simp only [if_true, if_pos e0, if_pos e1, Int.toNat_natCast, List.drop_drop]
      by_cases c2 : (n : Int) ≤ 20000000
      · simp only [if_pos c2]
        have := ih (p + k) (ns ++ [(n : Int)]) (by omega) (fun y hy => by
          rcases List.mem_append.mp hy with h | h
          · exact hn y h
          · simp only [List.mem_cons, List.not_mem_nil, or_false] at h; omega)
        unfold parsB at this
        exact this
      · simp only [if_neg c2]
        have hnone : (match parsA b d (p + k) (ns ++ [(n : Int)]) with | none => none | some (x, _) => if ∀ y ∈ x, y ≤ (20000000 : Int) then some x else none) = none := by
          cases hp2 : parsA b d (p + k) (ns ++ [(n : Int)]) with
          | none => rfl
          | some z =>
            obtain ⟨x, q⟩ := z
            obtain ⟨y, hy, _⟩ := parsA_tells hb d (p + k) _ x q (by omega) hp2
            simp only []
            rw [if_neg]
            intro h
            exact c2 (h n (by rw [hy]; simp))
        rw [hnone]
        exact Ev.now _
    · simp only [if_neg c]
      exact Ev.now _
/-- The next ride, as the code tells it. -/
def nextR (prev : Nat) (l : List Int) : Option (S39 × Int × Int) := (nextJ prev l).map fun t => (rOf t.1, (t.2.1 : Int), (t.2.2 : Int))
theorem frameN_inj {a b : List Int} (ha : Bytes a) (hb : Bytes b) (la : a.length ≤ 65536) (lb : b.length ≤ 65536) (h : frameN a = frameN b) : a = b := by
  have u1 := unI_frame a [] ha la
  have u2 := unI_frame b [] hb lb
  rw [h, u2] at u1
  exact (Prod.mk.inj u1).1.symm
theorem mid_cut (l : List Int) (p n : Nat) : (l.take (p + n)).drop p = (l.drop p).take n := by
  rw [List.drop_take]; congr 1; omega
theorem frame_iff {link : Nat} {ns bd : List Int} {q : Nat} (hF : Fit ns) (hbb : Bytes bd) (hbl : bd.length ≤ 65536) (htq : bd.take q = putL ns) (hql : q ≤ bd.length) : frameJ link ns = frameN bd ↔ bd.drop q = be8 (tagN link (bd.take q)) := by
  constructor
  · intro e
    have hbj := (bodyJ_len hF link).1
    have e2 : bodyJ link ns = bd := frameN_inj (bodyJ_bytes link ns) hbb (Nat.le_trans hbj (by decide)) hbl e
    have e3 : q = (putL ns).length := by rw [← htq, List.length_take]; exact (Nat.min_eq_left hql).symm
    rw [htq, ← e2, e3]
    unfold bodyJ
    rw [List.drop_left]; rfl
  · intro e
    have : bd = bodyJ link ns := by
      unfold bodyJ linkN
      rw [← htq, ← e, List.take_append_drop]
    rw [this]; rfl
theorem next_ev (l : List Int) (hb : Bytes l) (hl : l.length ≤ 140737488351232) (p : Nat) (hp : p ≤ l.length) (link : Nat) (hk : link < 2 ^ 64) : Ev (fun k => nextF k l (p : Int) (link : Int)) (nextR link (l.drop p)) := by
  have U := unframe_ev (l.drop p) (hb.drop p) (by rw [List.length_drop]; omega)
  have e0 : (0 : Int) ≤ (p : Int) := by omega
  have e1 : (p : Int) ≤ (l.length : Int) := by omega
  unfold nextF nextR nextJ
  simp only [if_pos e0, if_pos e1, Int.toNat_natCast]
  refine Ev.bind U ?_
  by_cases c : (unI (l.drop p)).2.2 = 0
  · obtain ⟨bd, n, hu, hbb, hbl, hn5, hnl, ht, hnf⟩ := unI_tells (hb.drop p) c
    rw [List.length_drop] at hnl
    rw [hu]
    obtain ⟨GG, hGG⟩ : ∃ G, G = frameN bd := ⟨_, rfl⟩
    rw [← hGG] at ht
    clear hnf hu U
    simp only [if_true]
    have R := ride_ev bd hbb (by omega) 7 0 [] (by omega) (fun y hy => by simp at hy)
    rw [List.drop_zero] at R
    refine Ev.bind R ?_
    unfold parsB
    cases hp2 : parsA bd 7 0 [] with
    | none => exact Ev.now _
    | some z =>
      obtain ⟨ns, q⟩ := z
      simp only []
      obtain ⟨y, hy, hy7, hyn, _, hql, htq⟩ := parsA_tells hbb 7 0 [] ns q (by omega) hp2
      simp only [List.nil_append] at hy
      subst hy
      simp only [List.drop_zero, Nat.sub_zero] at htq
      by_cases c2 : ∀ y ∈ ns, y ≤ 20000000
      · rw [if_pos c2]
        have hF : Fit ns := ⟨hy7, fun x hx => ⟨(hyn x hx).1, c2 x hx⟩⟩
        have hns : nsOf (rOf ns) = ns := nsOf_rOf hy7
        have F := jframe_ev (rOf ns) (fun x hx => by rw [hns] at hx; exact (hyn x hx).2) link hk
        rw [hns] at F
        simp only []
        refine Ev.bind F ?_
        have hw : wrap64 ((p : Int) + (n : Int)) = ((p + n : Nat) : Int) := by rw [wrap_id (by omega) (by omega)]; rfl
        have g1 : (p : Int) ≤ ((p + n : Nat) : Int) := by omega
        have g2 : ((p + n : Nat) : Int) ≤ (l.length : Int) := by omega
        simp only [hw, if_pos g1, if_pos g2, Int.toNat_natCast, mid_cut, ht]
        have hiff := frame_iff (link := link) hF hbb hbl htq hql
        have hfl : (frameJ link ns).length ≤ 9223372036854775000 := Nat.le_trans (frameJ_len hF link).2.2 (by decide)
        have E := equal_ev (frameJ link ns) (frameN bd) hfl
        rw [← hGG] at hiff E
        rw [htq] at hiff ⊢
        unfold linkN
        clear ht hGG F R
        generalize frameJ link ns = FF at *
        generalize tagN link (putL ns) = TT at *
        generalize be8 TT = BB at *
        refine Ev.bind E ?_
        by_cases c3 : FF = GG
        · simp only [decide_eq_true c3, if_true]
          rw [if_pos ⟨c2, hiff.mp c3⟩]
          exact Ev.now _
        · have hno : ¬ ((∀ x ∈ ns, x ≤ 20000000) ∧ bd.drop q = BB) := fun h => c3 (hiff.mpr h.2)
          simp only [decide_eq_false c3, Bool.false_eq_true, if_false, if_neg hno]
          exact Ev.now _
      · rw [if_neg c2, if_neg (fun h => c2 h.1)]
        exact Ev.now _
  · simp only [if_neg c]
    exact Ev.now _
/-- What reading tells, as the code spells it. -/
def readR (t : List (List Int) × Nat × Nat) : List S39 × Int × Int := (t.1.map rOf, (t.2.1 : Int), (t.2.2 : Int))
theorem read_l0 (l : List Int) (hb : Bytes l) (hl : l.length ≤ 1000000) : ∀ (m p link : Nat) (rs : List (List Int)) (f : Nat), l.length - p ≤ m → m + 1 ≤ f → p ≤ l.length → link < 2 ^ 64 → rs.length ≤ p →
    ∃ K, ∀ k, K ≤ k → ∀ d, m + 1 ≤ d → readL k l d (p : Int) (link : Int) (rs.map rOf) = some (readR (readJ l f p link rs)) := by
  intro m
  induction m with
  | zero =>
    intro p link rs f hm hf hp hk hrs
    refine ⟨0, fun k _ d hd => ?_⟩
    obtain ⟨d, rfl⟩ : ∃ e, d = e + 1 := ⟨d - 1, by omega⟩
    rw [readL, if_neg (by omega), readJ_stop rs (fun h => absurd h (by omega)) f]; rfl
  | succ m ih =>
    intro p link rs f hm hf hp hk hrs
    obtain ⟨f, rfl⟩ : ∃ e, f = e + 1 := ⟨f - 1, by omega⟩
    by_cases c : p < l.length
    · have c1 : (p : Int) < (l.length : Int) := by omega
      have c2 : ((rs.map rOf).length + 1) * 56 ≤ 140737488355328 := by rw [List.length_map]; omega
      obtain ⟨K1, h1⟩ := next_ev l hb (by omega) p hp link hk
      have hb2 := hb.drop p
      cases hn : nextJ link (l.drop p) with
      | none =>
        refine ⟨K1, fun k hk2 d hd => ?_⟩
        obtain ⟨d, rfl⟩ : ∃ e, d = e + 1 := ⟨d - 1, by omega⟩
        have h2 := h1 k hk2
        unfold nextR at h2
        rw [hn] at h2
        simp only [Option.map_none] at h2
        rw [readL, if_pos c1, if_pos c2, h2, readJ, if_pos c, hn]; rfl
      | some z =>
        obtain ⟨ns, n, lk⟩ := z
        obtain ⟨hF, hlk, hnl, hnle, _⟩ := nextJ_tells hb2 hn
        rw [List.length_drop] at hnle
        have hfl := frameJ_len hF link
        have hlk2 : lk < 2 ^ 64 := by rw [hlk]; exact linkN_lt _ _
        obtain ⟨K2, h3⟩ := ih (p + n) lk (rs ++ [ns]) f (by omega) (by omega) (by omega) hlk2 (by rw [List.length_append]; simp; omega)
        refine ⟨max K1 K2, fun k hk2 d hd => ?_⟩
        obtain ⟨d, rfl⟩ : ∃ e, d = e + 1 := ⟨d - 1, by omega⟩
        have h2 := h1 k (by omega)
        unfold nextR at h2
        rw [hn] at h2
        simp only [Option.map_some] at h2
        have hw : wrap64 ((p : Int) + (n : Int)) = ((p + n : Nat) : Int) := by rw [wrap_id (by omega) (by omega)]; rfl
        have h4 := h3 k (by omega) d (by omega)
        rw [List.map_append] at h4
        rw [readL, if_pos c1, if_pos c2, h2, readJ, if_pos c, hn]
        simp only [Option.bind_some, hw]
        exact h4
    · refine ⟨0, fun k _ d hd => ?_⟩
      obtain ⟨d, rfl⟩ : ∃ e, d = e + 1 := ⟨d - 1, by omega⟩
      rw [readL, if_neg (by omega), readJ_stop rs (fun h => absurd h c) (f + 1)]; rfl
/-- All rides of bytes. -/
def readT (l : List Int) : List (List Int) × Nat × Nat := readJ l (l.length + 1) 0 0 []
theorem jread_ev (l : List Int) (hb : Bytes l) (hl : l.length ≤ 1000000) : Ev (fun k => journal_read.f k l) (readR (readT l)) := by
  obtain ⟨K, h⟩ := read_l0 l hb hl l.length 0 0 [] (l.length + 1) (by omega) (by omega) (by omega) (by decide) (by simp)
  exact ⟨max K (l.length + 1), fun k hk => h k (by omega) k (by omega)⟩
theorem jRead_ev (l : List Int) (hb : Bytes l) (hl : l.length ≤ 1000000) : Ev (fun k => journal_Read.f k l) ((readT l).1.map rOf, ((readT l).2.1 : Int)) := Ev.bind (jread_ev l hb hl) (Ev.now _)
theorem jWhole_ev (l : List Int) (hb : Bytes l) (hl : l.length ≤ 1000000) : Ev (fun k => journal_Whole.f k l) (decide ((readT l).2.1 = l.length)) := by
  refine Ev.bind (jread_ev l hb hl) ?_
  have : (((readT l).2.1 : Int) == (l.length : Int)) = decide ((readT l).2.1 = l.length) := by
    by_cases c : (readT l).2.1 = l.length
    · rw [decide_eq_true c, c]; simp
    · rw [decide_eq_false c]; exact beq_eq_false_iff_ne.mpr (by omega)
  simp only [readR, this]
  exact Ev.now _
theorem jLast_ev (l : List Int) (hb : Bytes l) (hl : l.length ≤ 1000000) : Ev (fun k => journal_Last.f k l) ((readT l).2.2 : Int) := Ev.bind (jread_ev l hb hl) (Ev.now _)
theorem readJ_link (l : List Int) (hb : Bytes l) : ∀ (d p link : Nat) (rs : List (List Int)), link < 2 ^ 64 → (readJ l d p link rs).2.2 < 2 ^ 64
  | 0, p, link, rs, h => h
  | d + 1, p, link, rs, h => by
    rw [readJ]
    split
    · cases hn : nextJ link (l.drop p) with
      | none => exact h
      | some z =>
        obtain ⟨ns, n, lk⟩ := z
        obtain ⟨_, hlk, _⟩ := nextJ_tells (hb.drop p) hn
        exact readJ_link l hb d _ _ _ (by rw [hlk]; exact linkN_lt _ _)
    · exact h
theorem readT_link (l : List Int) (hb : Bytes l) : (readT l).2.2 < 2 ^ 64 := readJ_link l hb _ _ _ _ (by decide)
/-- What Append returns. -/
def appR (l : List Int) (r : S39) : List Int × Int :=
  if (readT l).2.1 < l.length then ([], 3) else if fitB (nsOf r) = true then (l ++ frameJ (readT l).2.2 (nsOf r), 0) else ([], 2)
theorem append_ev (l : List Int) (hb : Bytes l) (hl : l.length ≤ 1000000) (r : S39) : Ev (fun k => journal_Append.f k l r.f0 r.f1 r.f2 r.f3 r.f4 r.f5 r.f6) (appR l r) := by
  have hk := readT_link l hb
  unfold appR
  refine Ev.bind (jread_ev l hb hl) ?_
  simp only [readR]
  generalize readT l = T at *
  obtain ⟨t1, p, link⟩ := T
  simp only [] at hk ⊢
  by_cases c : p < l.length
  · have c1 : (p : Int) < (l.length : Int) := by omega
    simp only [if_pos c, if_pos c1]
    exact Ev.now _
  · have c1 : ¬ (p : Int) < (l.length : Int) := by omega
    simp only [if_neg c, if_neg c1]
    refine Ev.bind (within_ev r) ?_
    by_cases c2 : fitB (nsOf r) = true
    · have hF := fit_of c2
      have F := jframe_ev r (fun x hx => Int.lt_of_le_of_lt (hF.2 x hx).2 (by decide)) link hk
      have hfl := frameJ_len hF link
      simp only [c2, Bool.true_eq_false, if_false, if_true]
      refine Ev.bind F ?_
      have e1 : 0 < l.length + (frameJ link (nsOf r)).length := by omega
      have e2 : l.length + (frameJ link (nsOf r)).length ≤ 140737488355328 := by omega
      simp only [if_pos e1, if_pos e2]
      exact Ev.now _
    · have c3 : fitB (nsOf r) = false := Bool.eq_false_iff.mpr c2
      simp only [c3, if_true, Bool.false_eq_true, if_false]
      exact Ev.now _
theorem same_l0 (l : List S39) (hl : l.length ≤ 1000000000) : ∀ (d i : Nat), i + d = l.length → Ev (fun k => skiarearef29_Same.l0 k l l (i : Int)) true := by
  intro d
  induction d with
  | zero =>
    intro i hi
    refine Ev.at1 (fun k => ?_)
    simp only [skiarearef29_Same.l0]
    rw [if_neg (by omega)]
  | succ d ih =>
    intro i hi
    have e1 : (i : Int) < (l.length : Int) := by omega
    have e0 : (0 : Int) ≤ (i : Int) := by omega
    have hw : wrap64 ((i : Int) + 1) = ((i + 1 : Nat) : Int) := by rw [wrap_id (by omega) (by omega)]; rfl
    refine Ev.step (f := fun k => skiarearef29_Same.l0 k l l ((i + 1 : Nat) : Int)) (fun k => ?_) (ih (i + 1) (by omega))
    simp only [skiarearef29_Same.l0, if_pos e1, if_pos e0, hw, BEq.rfl, Bool.not_true, Bool.or_false, Bool.false_eq_true, if_false]
theorem same_ev (l : List S39) (hl : l.length ≤ 1000000000) : Ev (fun k => skiarearef29_Same.f k l l) true := by
  unfold skiarearef29_Same.f
  simp only [if_true]
  exact same_l0 l hl l.length 0 (by omega)
theorem map_rOf {a : List (List Int)} (h : ∀ ns ∈ a, Fit ns) : (a.map rOf).map nsOf = a := by
  rw [List.map_map]
  exact (List.map_congr_left (fun x hx => nsOf_rOf (h x hx).1)).trans (List.map_id' a)
theorem map_nsOf (l : List S39) : (l.map nsOf).map rOf = l := by
  rw [List.map_map]
  exact (List.map_congr_left (fun x _ => rOf_nsOf x)).trans (List.map_id' l)
/-- A whole journal is read. -/
theorem readT_whole {a : List (List Int)} (h : ∀ ns ∈ a, Fit ns) : readT (jourN 0 a) = (a, (jourN 0 a).length, lastN 0 a) := by
  have hl := jourN_len a 0 h
  have := readJ_front a ((jourN 0 a).length + 1 - a.length) 0 0 [] (jourN 0 a) [] h (by simp) (by omega)
  unfold readT
  rw [show (jourN 0 a).length + 1 = a.length + ((jourN 0 a).length + 1 - a.length) by omega, this, readJ_stop _ (fun h => absurd h (by omega))]
  simp
/-- A journal is read up to what can't be read. -/
theorem readT_stop {a : List (List Int)} (h : ∀ ns ∈ a, Fit ns) (r : List Int) (hr : r ≠ [] → nextJ (lastN 0 a) r = none) : readT (jourN 0 a ++ r) = (a, (jourN 0 a).length, lastN 0 a) := by
  have hl := jourN_len a 0 h
  have hlen : (jourN 0 a ++ r).length = (jourN 0 a).length + r.length := List.length_append
  have := readJ_front a ((jourN 0 a ++ r).length + 1 - a.length) 0 0 [] (jourN 0 a ++ r) r h (by simp) (by omega)
  unfold readT
  rw [show (jourN 0 a ++ r).length + 1 = a.length + ((jourN 0 a ++ r).length + 1 - a.length) by omega, this, readJ_stop]
  · simp
  · intro hlt
    rw [Nat.zero_add, List.drop_left]
    exact hr (fun e => by rw [e, List.append_nil] at hlt; omega)
/-- The ride of the law's example. -/
def n01 : List Int := [1, 1, 7, 3, 2, 4, 300]
def t01 : List Int := [1, 1, 7, 3, 2, 4, 172, 2]
theorem put01 : putL n01 = t01 := by
  have a : ∀ x : Nat, x < 128 → putN x = [(x : Int)] := fun x h => putN_small h
  have b : putN 300 = [172, 2] := by rw [putN_big (by decide), putN_small (by decide)]; rfl
  unfold n01
  simp only [putL_cons]
  rw [show (1 : Int).toNat = 1 from rfl, show (7 : Int).toNat = 7 from rfl, show (3 : Int).toNat = 3 from rfl, show (2 : Int).toNat = 2 from rfl, show (4 : Int).toNat = 4 from rfl, show (300 : Int).toNat = 300 from rfl, a 1 (by decide), a 7 (by decide), a 3 (by decide), a 2 (by decide), a 4 (by decide), b]
  rfl
theorem fit01 : Fit n01 := ⟨rfl, by decide⟩
theorem frame01 : ∃ c : List Int, frameJ 0 n01 = 16 :: (t01 ++ c) ∧ c.length = 12 := by
  have hl : (bodyJ 0 n01).length = 16 := by unfold bodyJ; rw [put01, List.length_append, be8_len]; rfl
  refine ⟨be8 (linkN 0 n01) ++ be4 (crcN (bodyJ 0 n01)), ?_, by rw [List.length_append, be8_len, be4_len]⟩
  unfold frameJ frameN
  rw [hl, putN_small (by decide)]
  unfold bodyJ
  rw [put01]
  simp [List.append_assoc]
theorem alive_ev : Ev (fun k => skiarealaw29_alive.f k) true := by
  obtain ⟨c, hB, hc⟩ := frame01
  have hF : ∀ ns ∈ [n01], Fit ns := fun ns h => by simp only [List.mem_cons, List.not_mem_nil, or_false] at h; rw [h]; exact fit01
  have W := write_ev [(⟨1, 1, 7, 3, 2, 4, 300⟩ : S39)] (by decide)
  have hw : writeR [(⟨1, 1, 7, 3, 2, 4, 300⟩ : S39)] = (frameJ 0 n01, 0) := by
    have h1 : [(⟨1, 1, 7, 3, 2, 4, 300⟩ : S39)].all (fun r => fitB (nsOf r)) = true := by decide
    rw [writeR, if_pos h1]
    simp [jourN, nsOf, n01]
  rw [hw] at W
  have hbF := frameJ_bytes 0 n01
  have hT := readT_whole hF
  have hJ : jourN 0 [n01] = frameJ 0 n01 := by simp [jourN]
  rw [hJ] at hT
  have hS := readT_stop (a := []) (fun ns h => by simp at h) ((frameJ 0 n01).take 20) (fun _ => nextJ_torn fit01 0 (by rw [hB]; simp [hc, t01]))
  simp only [jourN, List.nil_append, List.length_nil, lastN] at hS
  have hlen : (frameJ 0 n01).length = 21 := by rw [hB]; simp [hc, t01]
  have h0 : rd (frameJ 0 n01) 0 = 16 := by rw [hB]; rfl
  have hx : ((frameJ 0 n01).take 9).drop 1 = t01 := by
    rw [hB]
    show ((t01 ++ c).take 8) = t01
    rw [List.take_append_of_le_length (by decide)]; rfl
  have hl1 : lastN 0 [n01] = linkN 0 n01 := rfl
  rw [hl1] at hT
  have hlk := linkN_lt 0 n01
  have hlk2 : linkN 0 n01 = tagN 0 t01 := by unfold linkN; rw [put01]
  have C := chain_ev 0 t01 (by decide) (by unfold Bytes t01; decide) (by decide)
  rw [← hlk2] at C
  clear hB hw hJ
  generalize linkN 0 n01 = LK at *
  generalize frameJ 0 n01 = B at *
  have hlt : (B.take 20).length = 20 := by rw [List.length_take, hlen]; rfl
  have R1 := jRead_ev B hbF (by omega)
  have R2 := jRead_ev (B.take 20) (hbF.take 20) (by omega)
  have A1 := append_ev (B.take 20) (hbF.take 20) (by omega) (⟨1, 1, 7, 3, 2, 4, 300⟩ : S39)
  have A2 := append_ev B hbF (by omega) (⟨0, -1, 0, 0, 0, 0, 0⟩ : S39)
  have S := same_ev [(⟨1, 1, 7, 3, 2, 4, 300⟩ : S39)] (by decide)
  have W1 := jWhole_ev B hbF (by omega)
  have W2 := jWhole_ev [] (fun x h => by simp at h) (by decide)
  have W3 := jWhole_ev (B.take 20) (hbF.take 20) (by omega)
  have L1 := jLast_ev B hbF (by omega)
  have hN : readT [] = ([], 0, 0) := rfl
  have hA1 : appR (B.take 20) (⟨1, 1, 7, 3, 2, 4, 300⟩ : S39) = ([], 3) := by unfold appR; rw [hS, hlt]; rfl
  have hA2 : appR B (⟨0, -1, 0, 0, 0, 0, 0⟩ : S39) = ([], 2) := by
    unfold appR; rw [hT, hlen]
    show (if 21 < 21 then (([] : List Int), (3 : Int)) else if fitB (nsOf (⟨0, -1, 0, 0, 0, 0, 0⟩ : S39)) = true then (B ++ frameJ LK (nsOf (⟨0, -1, 0, 0, 0, 0, 0⟩ : S39)), 0) else ([], 2)) = ([], 2)
    rw [if_neg (by decide), if_neg (by decide)]
  rw [hT, hlen] at R1
  rw [hS] at R2
  rw [hA1] at A1
  rw [hA2] at A2
  rw [hT, hlen] at W1
  rw [hN] at W2
  rw [hS, hlt] at W3
  rw [hT] at L1
  have e1 : [n01].map rOf = [(⟨1, 1, 7, 3, 2, 4, 300⟩ : S39)] := rfl
  rw [e1] at R1
  clear hT hS hN hA1 hA2
  unfold skiarealaw29_alive.f
  simp only [Option.bind_some]
  refine Ev.bind W ?_
  have g1 : ((B.length : Nat) : Int) = 21 := by omega
  have g2 : (20 : Int) ≤ ((B.length : Nat) : Int) := by omega
  have g3 : (9 : Int) ≤ ((B.length : Nat) : Int) := by omega
  have g4 : (0 : Int) < ((B.length : Nat) : Int) := by omega
  have g5 : (1 : Int) ≤ 9 := by decide
  have hx2 : (B.take 9).drop 1 = [1, 1, 7, 3, 2, 4, 172, 2] := hx
  simp only [if_true, if_pos g1, if_pos g4, h0, if_pos g5, if_pos g3, hx2, if_pos g2]
  refine Ev.bind R1 ?_
  refine Ev.bind R2 ?_
  refine Ev.bind A1 ?_
  refine Ev.bind A2 ?_
  refine Ev.bind S ?_
  simp only [if_true, List.map_nil, List.length_nil]
  refine Ev.bind W1 ?_
  simp only [decide_true, if_true]
  refine Ev.bind W2 ?_
  simp only [List.length_nil, decide_true, if_true]
  refine Ev.bind W3 ?_
  simp only [decide_eq_false (by decide : ¬ (0 = 20)), Bool.false_eq_true, if_false]
  refine Ev.bind L1 ?_
  refine Ev.bind C ?_
  simp only [BEq.rfl]
  exact Ev.now _
theorem rput_l0 (m : Nat) : ∀ (n : Nat) (l : List Int), n < 128 ^ m → 0 < m → n < 9223372036854775808 → l.length + m ≤ 140737488355328 → Ev (fun k => skiarearef03_Put.l0 k (n : Int) l) (l ++ putN n) := by
  induction m with
  | zero => intro n l _ h; omega
  | succ m ih =>
    intro n l hn _ hn2 hl
    by_cases h : n < 128
    · refine Ev.at1 (fun k => ?_)
      simp only [skiarearef03_Put.l0]
      rw [if_neg (by omega), if_pos (by omega), putN_small h]
      have : (n : Int) % 256 = n := by omega
      rw [this]
    · have h0 : 0 < m := by
        rcases Nat.eq_zero_or_pos m with rfl | h0
        · simp at hn; omega
        · exact h0
      have hd : n / 128 < 128 ^ m := by rw [Nat.pow_succ] at hn; exact Nat.div_lt_of_lt_mul (by omega)
      have H := ih (n / 128) (l ++ [((n % 128 + 128 : Nat) : Int)]) hd h0 (by omega) (by simp; omega)
      rw [putN_big h]
      have e : l ++ ((n % 128 + 128 : Nat) : Int) :: putN (n / 128) = l ++ [((n % 128 + 128 : Nat) : Int)] ++ putN (n / 128) := by simp
      rw [e]
      refine Ev.step (fun k => ?_) H
      simp only [skiarearef03_Put.l0]
      have e1 : wrap64 (Int.tdiv (n : Int) 128) = ((n / 128 : Nat) : Int) := by
        rw [Int.tdiv_eq_ediv_of_nonneg (by omega), wrap_id (by omega) (by omega)]; rfl
      have e2 : (Int.tmod (n : Int) 128 + 128) % 256 = ((n % 128 + 128 : Nat) : Int) := by
        rw [Int.tmod_eq_emod_of_nonneg (by omega)]; omega
      rw [if_pos (by omega), if_pos (by omega), e1, e2]
theorem rput_ev (l : List Int) (a : Int) (ha : a < 9223372036854775808) (hl : l.length + 9 ≤ 140737488355328) : Ev (fun k => skiarearef03_Put.f k l a) (l ++ putN a.toNat) := by
  unfold skiarearef03_Put.f
  have h0 : ([] : List Int).length + l.length < 140737488355328 := by simp; omega
  simp only [if_pos h0]
  refine Ev.bind (Ev.now _) ?_
  by_cases hn : a < 0
  · simp only [if_pos hn]
    refine Ev.step (fun k => ?_) (rput_l0 9 a.toNat l (by omega) (by decide) (by omega) hl)
    simp only [skiarearef03_Put.j0]
    have : a.toNat = 0 := by omega
    rw [this]; rfl
  · simp only [if_neg hn]
    refine Ev.step (fun k => ?_) (rput_l0 9 a.toNat l (by omega) (by decide) (by omega) hl)
    simp only [skiarearef03_Put.j0]
    rw [Int.toNat_of_nonneg (by omega)]; rfl
theorem rmix_f (a : Nat) (ha : a < 2 ^ 64) : skiarearef04_Mix.f (a : Int) = some ((mixN a : Nat) : Int) := by
  unfold skiarearef04_Mix.f; rw [mix_text a ha]
theorem block_l0 (l : List Int) (hb : Bytes l) (hl : l.length ≤ 140737488351232) (p : Nat) : ∀ (d j : Nat), j + d = min 8 (l.length - p) → p ≤ l.length →
    Ev (fun k => skiarearef04_Block.l0 k l (p : Int) ((blk ((l.drop p).take j) : Nat) : Int) ((256 ^ j % 2 ^ 64 : Nat) : Int) ((p + j : Nat) : Int)) ((blk ((l.drop p).take 8) : Nat) : Int) := by
  intro d
  induction d with
  | zero =>
    intro j hj hp
    refine ⟨1, fun k hk => ?_⟩
    obtain ⟨k, rfl⟩ : ∃ m, k = m + 1 := ⟨k - 1, by omega⟩
    have e : (l.drop p).take j = (l.drop p).take 8 := by
      by_cases h8 : j = 8
      · rw [h8]
      · rw [List.take_of_length_le (by simp; omega), List.take_of_length_le (by simp; omega)]
    simp only [skiarearef04_Block.l0]
    by_cases h1 : ((p + j : Nat) : Int) < (l.length : Int)
    · rw [if_pos h1, if_neg (by rw [wrap_at (by omega) (by omega)]; omega), e]
    · rw [if_neg h1, e]
  | succ d ih =>
    intro j hj hp
    refine Ev.step (fun k => ?_) (ih (j + 1) (by omega) hp)
    simp only [skiarearef04_Block.l0]
    have hw : wrap64 ((p : Int) + 8) = (p : Int) + 8 := wrap_at (by omega) (by omega)
    have hw2 : wrap64 (((p + j : Nat) : Int) + 1) = ((p + (j + 1) : Nat) : Int) := by rw [wrap_at (by omega) (by omega)]; rfl
    rw [if_pos (by omega), if_pos (by rw [hw]; omega), if_pos (by omega), hw2]
    have hx := hb.at (p + j)
    have hrd : rd l ((p + j : Nat) : Int) = l.getD (p + j) 0 := by unfold rd; rw [Int.toNat_natCast]
    obtain ⟨x, hxe⟩ := Int.eq_ofNat_of_zero_le hx.1
    have hx256 : x < 256 := by omega
    have hj8 : j < 8 := by omega
    have hlt : p + j < l.length := by omega
    have ht : (l.drop p).take (j + 1) = (l.drop p).take j ++ [l.getD (p + j) 0] := by
      rw [List.take_succ_eq_append_getElem (by simp; omega), List.getD_eq_getElem?_getD, List.getElem?_eq_getElem hlt]; simp
    have hlj : ((l.drop p).take j).length = j := by simp; omega
    have hbj := blk_lt ((hb.drop p).take j)
    rw [hlj] at hbj
    have hp8 : (256 : Nat) ^ j * 256 ≤ 2 ^ 64 := by
      rw [← Nat.pow_succ]
      exact Nat.le_trans (Nat.pow_le_pow_right (by decide) (show j + 1 ≤ 8 by omega)) (by decide)
    have hm : 256 ^ j % 2 ^ 64 = 256 ^ j := Nat.mod_eq_of_lt (by have : 0 < 256 ^ j := Nat.pow_pos (by decide); omega)
    have hmul : x * 256 ^ j ≤ 255 * 256 ^ j := Nat.mul_le_mul_right _ (by omega)
    rw [hrd, hxe, u64_nat x (by omega), hm, ht, blk_snoc, hlj, hxe]
    have e1 : (x : Int) * ((256 ^ j : Nat) : Int) = ((x * 256 ^ j : Nat) : Int) := (Int.natCast_mul _ _).symm
    rw [e1, u64_nat _ (by omega)]
    have e2 : ((blk ((l.drop p).take j) : Nat) : Int) + ((x * 256 ^ j : Nat) : Int) = ((blk ((l.drop p).take j) + 256 ^ j * x : Nat) : Int) := by rw [Nat.mul_comm (256 ^ j) x]; exact (Int.natCast_add _ _).symm
    have hmul2 : 256 ^ j * x = x * 256 ^ j := Nat.mul_comm _ _
    rw [e2, u64_nat _ (by rw [hmul2]; omega)]
    have e3 : IntKind.u64.wrap (((256 ^ j : Nat) : Int) * 256) = ((256 ^ (j + 1) % 2 ^ 64 : Nat) : Int) := by
      rw [Nat.pow_succ]
      generalize 256 ^ j = m
      rw [u64_wrap]; omega
    rw [e3, Int.toNat_natCast]
theorem block_ev (l : List Int) (hb : Bytes l) (hl : l.length ≤ 140737488351232) (p : Nat) (hp : p ≤ l.length) : Ev (fun k => skiarearef04_Block.f k l (p : Int)) ((blk ((l.drop p).take 8) : Nat) : Int) := by
  unfold skiarearef04_Block.f
  exact block_l0 l hb hl p (min 8 (l.length - p)) 0 (by omega) hp
theorem rtag_l0 (l : List Int) (hb : Bytes l) (hl : l.length ≤ 140737488351232) : ∀ (d p h : Nat), l.length - p ≤ d → h < 2 ^ 64 → p ≤ l.length + 8 →
    Ev (fun k => skiarearef04_Tag.l0 k l (h : Int) (p : Int)) ((mixN (tags h (l.drop p) ^^^ l.length) : Nat) : Int) := by
  intro d
  induction d with
  | zero =>
    intro p h hd hh hp
    refine ⟨1, fun k hk => ?_⟩
    obtain ⟨k, rfl⟩ : ∃ m, k = m + 1 := ⟨k - 1, by omega⟩
    simp only [skiarearef04_Tag.l0]
    rw [if_neg (by omega), u64_nat l.length (by omega), xor_u64 _ _ hh (by omega), rmix_f _ (Nat.xor_lt_two_pow hh (by omega)), List.drop_eq_nil_of_le (by omega), tags_nil]
    rfl
  | succ d ih =>
    intro p h hd hh hp
    by_cases hlt : p < l.length
    · have hk8 : blk ((l.drop p).take 8) < 2 ^ 64 := blk_lt64 ((hb.drop p).take 8) (by simp; omega)
      have hB := block_ev l hb hl p (by omega)
      have hne : l.drop p ≠ [] := by rw [← List.length_pos_iff]; simp; omega
      have H := ih (p + 8) (mixN (h ^^^ blk ((l.drop p).take 8))) (by omega) (mixN_lt _) (by omega)
      rw [tags_cons _ _ hne]
      rw [show List.drop 8 (List.drop p l) = l.drop (p + 8) by rw [List.drop_drop]]
      refine Ev.step (f := fun k => (skiarearef04_Block.f k l (p : Int)).bind fun t => (skiarearef04_Mix.f (Go.bits .xor .u64 (h : Int) t)).bind fun t' => skiarearef04_Tag.l0 k l t' ((p + 8 : Nat) : Int)) (fun k => ?_) ?_
      · simp only [skiarearef04_Tag.l0]
        have hw : wrap64 ((p : Int) + 8) = ((p + 8 : Nat) : Int) := by rw [wrap_at (by omega) (by omega)]; rfl
        rw [if_pos (by omega), hw]
      · refine Ev.bind hB ?_
        refine Ev.congr (fun k => ?_) H
        rw [xor_u64 _ _ hh hk8, rmix_f _ (Nat.xor_lt_two_pow hh hk8)]
        rfl
    · refine ⟨1, fun k hk => ?_⟩
      obtain ⟨k, rfl⟩ : ∃ m, k = m + 1 := ⟨k - 1, by omega⟩
      simp only [skiarearef04_Tag.l0]
      rw [if_neg (by omega), u64_nat l.length (by omega), xor_u64 _ _ hh (by omega), rmix_f _ (Nat.xor_lt_two_pow hh (by omega)), List.drop_eq_nil_of_le (by omega), tags_nil]
      rfl
theorem rtag_ev (key : Nat) (l : List Int) (hk : key < 2 ^ 64) (hb : Bytes l) (hl : l.length ≤ 140737488351232) : Ev (fun k => skiarearef04_Tag.f k (key : Int) l) ((tagN key l : Nat) : Int) := by
  unfold skiarearef04_Tag.f tagN
  rw [rmix_f _ hk]
  simp only [Option.bind_some]
  have := rtag_l0 l hb hl l.length 0 (mixN key) (by omega) (mixN_lt _) (by omega)
  exact this
theorem u32_nat (n : Nat) (h : n < 2 ^ 32) : IntKind.u32.wrap n = n := by rw [IntKind.wrap_u32]; omega
theorem xor_u32 (a b : Nat) (ha : a < 2 ^ 32) (hb : b < 2 ^ 32) : Go.bits .xor .u32 (a : Int) (b : Int) = ((a ^^^ b : Nat) : Int) := by
  rw [bits_xor_nat .u32 a b ha hb]; exact u32_nat _ (Nat.xor_lt_two_pow ha hb)
theorem and1_u32 (r : Nat) (h : r < 2 ^ 32) : Go.bits .and .u32 (r : Int) 1 = ((r % 2 : Nat) : Int) := by
  have e : Go.bits .and .u32 (r : Int) ((1 : Nat) : Int) = IntKind.u32.wrap ((r &&& 1 : Nat) : Int) := bits_and_nat .u32 r 1 h (by decide)
  rw [Nat.and_one_is_mod] at e
  exact e.trans (u32_nat _ (by omega))
theorem rsum_l1 (l : List Int) (r : Nat) (hr : r < 2 ^ 32) (i : Nat) (hi : i < 9223372036854775800) (R : Int) (H : Ev (fun k => skiarearef03_Sum.l0 k l ((stepsN 8 r : Nat) : Int) ((i + 1 : Nat) : Int)) R) :
    ∀ d j : Nat, j + d = 8 → Ev (fun k => skiarearef03_Sum.l1 k l ((stepsN j r : Nat) : Int) (i : Int) (j : Int)) R := by
  intro d
  induction d with
  | zero =>
    intro j hj
    obtain rfl : j = 8 := by omega
    refine Ev.step (fun k => ?_) H
    simp only [skiarearef03_Sum.l1]
    have w : wrap64 ((i : Int) + 1) = ((i + 1 : Nat) : Int) := by rw [wrap_id (by omega) (by omega)]; rfl
    rw [if_neg (by decide), w]
  | succ d ih =>
    intro j hj
    have hlt := steps_lt j hr
    refine Ev.step (fun k => ?_) (ih (j + 1) (by omega))
    simp only [skiarearef03_Sum.l1]
    have w : wrap64 ((j : Int) + 1) = ((j + 1 : Nat) : Int) := by rw [wrap_id (by omega) (by omega)]; rfl
    rw [if_pos (by omega), w, and1_u32 _ hlt]
    have hs : stepsN (j + 1) r = stepN (stepsN j r) := rfl
    rw [hs]
    generalize stepsN j r = s at hlt ⊢
    unfold stepN
    by_cases h : s % 2 = 1
    · rw [if_pos (by omega), if_pos h]
      have hx := xor_u32 (s / 2) 2197175160 (by omega) (by decide)
      have e : ((s / 2 : Nat) : Int) = (s : Int) / 2 := rfl
      rw [e] at hx
      have e2 : ((2197175160 : Nat) : Int) = 2197175160 := rfl
      rw [e2] at hx
      rw [hx]
    · rw [if_neg (by omega), if_neg h]
      rfl
theorem rsum_l0 (l : List Int) (hb : Bytes l) (hl : l.length ≤ 140737488351232) : ∀ d i : Nat, i + d = l.length → Ev (fun k => skiarearef03_Sum.l0 k l ((crcR 4294967295 (l.take i) : Nat) : Int) (i : Int)) ((crcN l : Nat) : Int) := by
  intro d
  induction d with
  | zero =>
    intro i hi
    refine Ev.at1 (fun k => ?_)
    simp only [skiarearef03_Sum.l0]
    rw [if_neg (by omega), List.take_of_length_le (by omega)]
    have hx := xor_u32 (crcR 4294967295 l) 4294967295 (crcR_lt (by decide) hb) (by decide)
    have e2 : ((4294967295 : Nat) : Int) = 4294967295 := rfl
    rw [e2] at hx
    rw [hx]; rfl
  | succ d ih =>
    intro i hi
    have hil : i < l.length := by omega
    have hby := hb.at i
    have hr : crcR 4294967295 (l.take i) < 2 ^ 32 := crcR_lt (by decide) (hb.take i)
    have hS : crcR 4294967295 (l.take (i + 1)) = stepsN 8 (crcR 4294967295 (l.take i) ^^^ (l.getD i 0).toNat) := by
      rw [take_succ l i hil, crcR_snoc, crcS_plain]
    have H := ih (i + 1) (by omega)
    rw [hS] at H
    refine Ev.step (fun k => ?_) (rsum_l1 l _ (Nat.xor_lt_two_pow hr (by omega)) i (by omega) _ H 8 0 rfl)
    simp only [skiarearef03_Sum.l0]
    rw [if_pos (by omega), if_pos (by omega), rd_nat]
    have e : l.getD i 0 % 4294967296 = (((l.getD i 0).toNat : Nat) : Int) := by omega
    rw [e, xor_u32 _ _ hr (by omega)]
    rfl
theorem rsum_ev (l : List Int) (hb : Bytes l) (hl : l.length ≤ 140737488351232) : Ev (fun k => skiarearef03_Sum.f k l) ((crcN l : Nat) : Int) := by
  unfold skiarearef03_Sum.f
  exact rsum_l0 l hb hl l.length 0 (by omega)
theorem rframe_ev (l : List Int) (hb : Bytes l) (hl : l.length ≤ 140737488351232) : Ev (fun k => skiarearef03_Frame.f k l) (frameN l) := by
  unfold skiarearef03_Frame.f
  refine Ev.bind (rsum_ev l hb hl) ?_
  refine Ev.bind (rput_ev [] (l.length : Int) (by omega) (by simp)) ?_
  have h9 := putN_len9 l.length (by omega)
  refine Ev.fix (fun k => ?_)
  simp only [Int.toNat_natCast, List.nil_append]
  rw [if_pos (by omega)]
  simp only [Option.bind_some]
  rw [if_pos (by simp; omega), be4_int]
  rfl
theorem rget_l1 (l : List Int) (hb : Bytes l) (i : Nat) (hi : i < l.length) (hi9 : i < 9) : ∀ j : Nat, j ≤ i + 1 →
    Ev (fun k => skiarearef03_Get.l1 k l (i : Int) ((valN ((l.take (i + 1)).drop j) : Nat) : Int) ((j : Int) - 1)) (((valN (l.take (i + 1)) : Nat) : Int), ((i + 1 : Nat) : Int), 0) := by
  intro j
  induction j with
  | zero =>
    intro _
    refine Ev.at1 (fun k => ?_)
    simp only [skiarearef03_Get.l1]
    rw [if_neg (by omega), wrap_id (by omega) (by omega)]
    simp
  | succ j ih =>
    intro hj
    have hby := hb.at j
    have hjt : j < (l.take (i + 1)).length := by simp; omega
    have e := drop_cons (l.take (i + 1)) j hjt
    have hg : (l.take (i + 1)).getD j 0 = l.getD j 0 := by
      rw [List.getD_eq_getElem?_getD, List.getD_eq_getElem?_getD, List.getElem?_take_of_lt (by omega)]
    rw [hg] at e
    have hv : valN ((l.take (i + 1)).drop j) = (l.getD j 0).toNat % 128 + 128 * valN ((l.take (i + 1)).drop (j + 1)) := by rw [e]; rfl
    have hlt := valN_lt ((l.take (i + 1)).drop j)
    have hl9 : ((l.take (i + 1)).drop j).length ≤ 9 := by simp; omega
    have hp : 128 ^ ((l.take (i + 1)).drop j).length ≤ 128 ^ 9 := Nat.pow_le_pow_right (by decide) hl9
    refine Ev.step (fun k => ?_) (ih (by omega))
    simp only [skiarearef03_Get.l1]
    have hc : ((j + 1 : Nat) : Int) - 1 = (j : Int) := by omega
    rw [hc, if_pos (by omega), if_pos (by omega), if_pos (by omega), rd_nat, Int.tmod_eq_emod_of_nonneg hby.1]
    have w1 : wrap64 ((((valN ((l.take (i + 1)).drop (j + 1)) : Nat) : Int)) * 128) = (((valN ((l.take (i + 1)).drop (j + 1)) : Nat) : Int)) * 128 := wrap_id (by omega) (by omega)
    have w2 : wrap64 (l.getD j 0 % 128) = l.getD j 0 % 128 := wrap_id (by omega) (by omega)
    have w3 : wrap64 ((((valN ((l.take (i + 1)).drop (j + 1)) : Nat) : Int)) * 128 + l.getD j 0 % 128) = ((valN ((l.take (i + 1)).drop j) : Nat) : Int) := by rw [wrap_id (by omega) (by omega)]; omega
    rw [w1, w2, w3, wrap_id (i := (j : Int) - 1) (by omega) (by omega)]
theorem rget_l0 (l : List Int) (hb : Bytes l) : ∀ (m i : Nat), i + m = 9 → Ev (fun k => skiarearef03_Get.l0 k l (i : Int)) (getA l m i) := by
  intro m
  induction m with
  | zero =>
    intro i hi
    refine Ev.at1 (fun k => ?_)
    simp only [skiarearef03_Get.l0]
    rw [if_neg (by omega)]; rfl
  | succ m ih =>
    intro i hi
    have hga : getA l (m + 1) i = if l.length ≤ i then (0, 0, 5) else if l.getD i 0 ≥ 128 then getA l m (i + 1) else if l.getD i 0 = 0 ∧ 0 < i then (0, 0, 3) else (((valN (l.take (i + 1)) : Nat) : Int), ((i + 1 : Nat) : Int), 0) := rfl
    rw [hga]
    by_cases h1 : l.length ≤ i
    · rw [if_pos h1]
      refine Ev.at1 (fun k => ?_)
      simp only [skiarearef03_Get.l0]
      rw [if_pos (by omega), if_pos (by omega)]
    · rw [if_neg h1]
      have hil : i < l.length := by omega
      have hw2 : wrap64 ((i : Int) + 1) = ((i + 1 : Nat) : Int) := by rw [wrap_id (by omega) (by omega)]; rfl
      by_cases h2 : l.getD i 0 ≥ 128
      · rw [if_pos h2]
        refine Ev.step (fun k => ?_) (ih (i + 1) (by omega))
        simp only [skiarearef03_Get.l0]
        rw [if_pos (by omega), if_neg (by omega), if_pos (by omega), if_pos (by omega), rd_nat, if_pos h2, hw2]
      · rw [if_neg h2]
        have H := rget_l1 l hb i hil (by omega) (i + 1) (Nat.le_refl _)
        have e0 : (l.take (i + 1)).drop (i + 1) = [] := List.drop_eq_nil_of_le (by simp; omega)
        rw [e0] at H
        have hc : ((i + 1 : Nat) : Int) - 1 = (i : Int) := by omega
        rw [hc] at H
        by_cases h3 : l.getD i 0 = 0 ∧ 0 < i
        · rw [if_pos h3]
          refine Ev.step (f := fun k => skiarearef03_Get.j1 k l (i : Int) true) (fun k => ?_) (Ev.at1 (fun k => ?_))
          · simp only [skiarearef03_Get.l0]
            rw [if_pos (by omega), if_neg (by omega), if_pos (by omega), if_pos (by omega), rd_nat, if_neg h2, if_pos (by omega), h3.1]; rfl
          · simp only [skiarearef03_Get.j1, if_true]
        · rw [if_neg h3]
          refine Ev.step (f := fun k => skiarearef03_Get.j1 k l (i : Int) false) (fun k => ?_) (Ev.step (fun k => ?_) H)
          · simp only [skiarearef03_Get.l0]
            rw [if_pos (by omega), if_neg (by omega), if_pos (by omega), if_pos (by omega), rd_nat, if_neg h2]
            by_cases h4 : (i : Int) > 0
            · rw [if_pos h4]
              have : ¬ l.getD i 0 = 0 := fun e => h3 ⟨e, by omega⟩
              rw [beq_eq_false_iff_ne.mpr this]
            · rw [if_neg h4]
          · simp only [skiarearef03_Get.j1]; rfl
theorem rget_ev (l : List Int) (hb : Bytes l) : Ev (fun k => skiarearef03_Get.f k l) (getI l) := by
  unfold skiarearef03_Get.f
  exact rget_l0 l hb 9 0 rfl
theorem bytesOf_inj : ∀ {l m : List Int}, Bytes l → Bytes m → Lib.bytesOf l = Lib.bytesOf m → l = m
  | [], [], _, _, _ => rfl
  | x :: r, y :: s, hl, hm, h => by
    have hx := hl x (by simp)
    have hy := hm y (by simp)
    have h2 := List.cons.inj h
    have e := bytesOf_inj (fun z hz => hl z (by simp [hz])) (fun z hz => hm z (by simp [hz])) h2.2
    have e1 := congrArg UInt8.toNat h2.1
    simp only [UInt8.toNat_ofNat'] at e1
    have : x = y := by omega
    rw [this, e]
  | [], _ :: _, _, _, h => by simp [Lib.bytesOf] at h
  | _ :: _, [], _, _, h => by simp [Lib.bytesOf] at h
theorem same_f {l m : List Int} (hl : Bytes l) (hm : Bytes m) : skiarearef03_Same.f l m = some (decide (l = m)) := by
  unfold skiarearef03_Same.f
  rw [Lib.strOfNums_toList, Lib.strOfNums_toList]
  congr 1
  by_cases h : l = m
  · subst h; simp
  · have h2 : ¬ Lib.bytesOf l = Lib.bytesOf m := fun e => h (bytesOf_inj hl hm e)
    rw [decide_eq_false h]
    exact beq_eq_false_iff_ne.mpr h2
theorem same_self {l : List Int} (hl : Bytes l) : skiarearef03_Same.f l l = some true := by
  rw [same_f hl hl, decide_eq_true rfl]
theorem runframe_ev (l : List Int) (hb : Bytes l) (hl : l.length ≤ 140737488351232) : Ev (fun k => skiarearef03_Unframe.f k l) (unI l) := by
  unfold skiarearef03_Unframe.f
  refine Ev.bind (rget_ev l hb) ?_
  unfold unI
  by_cases h1 : (getI l).2.2 = 0
  · obtain ⟨n, k, hg, hn, hk1, hk9, hkl, ht⟩ := getI_tells hb h1
    rw [hg]
    simp only [if_true, ne_eq, not_true_eq_false, if_false, Int.toNat_natCast]
    by_cases h2 : (n : Int) > 65536
    · simp only [if_pos h2]; exact Ev.now _
    · simp only [if_neg h2]
      have w1 : wrap64 ((l.length : Int) - (k : Int)) = (l.length : Int) - (k : Int) := wrap_id (by omega) (by omega)
      have w2 : wrap64 ((n : Int) + 4) = (n : Int) + 4 := wrap_id (by omega) (by omega)
      have w3 : wrap64 ((k : Int) + (n : Int)) = ((k + n : Nat) : Int) := by rw [wrap_id (by omega) (by omega)]; rfl
      have w4 : wrap64 (((k + n : Nat) : Int) + 4) = ((k + n + 4 : Nat) : Int) := by rw [wrap_id (by omega) (by omega)]; rfl
      simp only [w1, w2, w3, w4]
      by_cases h3 : (l.length : Int) - (k : Int) < (n : Int) + 4
      · simp only [if_pos h3]; exact Ev.now _
      · simp only [if_neg h3, Int.toNat_natCast]
        have c1 := cut_mid l k n
        have hb1 : Bytes ((l.drop k).take n) := (hb.drop k).take n
        have hb2 : Bytes ((l.drop (k + n)).take 4) := (hb.drop (k + n)).take 4
        have hl2 : ((l.drop (k + n)).take 4).length = 4 := by simp; omega
        have hl1 : ((l.drop k).take n).length = n := by simp; omega
        have p1 : (0 : Int) ≤ (k : Int) := by omega
        have p2 : (k : Int) ≤ ((k + n : Nat) : Int) := by omega
        have p3 : ((k + n : Nat) : Int) ≤ (l.length : Int) := by omega
        have p4 : ([] : List Int).length + ((l.drop k).take n).length < 140737488355328 := by simp; omega
        have p5 : (0 : Int) ≤ ((k + n + 4 : Nat) : Int) := by omega
        have p6 : ((k + n + 4 : Nat) : Int) ≤ (l.length : Int) := by omega
        have e9 : ((k : Int) + (n : Int)).toNat = k + n := by omega
        simp only [c1, if_pos p1, if_pos p2, if_pos p3, if_pos p4, if_pos p5, if_pos p6, e9, List.nil_append, Option.bind_some]
        refine Ev.bind (rframe_ev _ hb1 (by omega)) ?_
        refine Ev.fix (fun _ => ?_)
        rw [same_f (frameN_bytes hb1) (hb.take _), Option.bind_some]
        have ht4 : l.take (k + n + 4) = putN n ++ (l.drop k).take n ++ (l.drop (k + n)).take 4 := by
          rw [List.take_add, List.take_add, ht]
        have hbe := be4_ofBe hb2 hl2
        by_cases h4 : crcN ((l.drop k).take n) = ofBe ((l.drop (k + n)).take 4)
        · have hf : frameN ((l.drop k).take n) = l.take (k + n + 4) := by
            unfold frameN
            rw [hl1, h4, hbe.1, ht4]
          rw [decide_eq_true hf, if_pos rfl, if_pos h4]
          have : ((k + n + 4 : Nat) : Int) = (k : Int) + (n : Int) + 4 := by omega
          rw [this]
        · have hf : ¬ frameN ((l.drop k).take n) = l.take (k + n + 4) := by
            intro e
            apply h4
            unfold frameN at e
            rw [hl1, ht4] at e
            have e2 := List.append_cancel_left e
            rw [← e2, ofBe_be4 _ (crcN_lt hb1)]
          rw [decide_eq_false hf, if_neg (by simp), if_neg h4]
  · simp only [if_neg h1, ne_eq, h1, not_false_eq_true, if_true]
    exact Ev.now _
theorem putsF_ev : ∀ (ns b : List Int), (∀ x ∈ ns, x < 9223372036854775808) → b.length + 9 * ns.length ≤ 140737488355328 → Ev (fun k => putsF k ns b) (b ++ putL ns)
  | [], b, _, _ => by
    have e : b ++ putL [] = b := List.append_nil b
    rw [e]
    exact Ev.now _
  | x :: r, b, h, hl => by
    simp only [putsF]
    have h9 := putN_len9 x.toNat (by have := h x (by simp); omega)
    refine Ev.bind (rput_ev b x (h x (by simp)) (by simp at hl; omega)) ?_
    have := putsF_ev r (b ++ putN x.toNat) (fun y hy => h y (by simp [hy])) (by rw [List.length_append]; simp at hl; omega)
    rw [List.append_assoc] at this
    exact this
theorem text_ev (r : S39) (hn : ∀ x ∈ nsOf r, x < 9223372036854775808) : Ev (fun k => skiarearef29_Text.f k r.f0 r.f1 r.f2 r.f3 r.f4 r.f5 r.f6) (putL (nsOf r)) := by
  have := putsF_ev (nsOf r) [] hn (by simp [nsOf])
  rw [List.nil_append] at this
  exact this
theorem rchain_ev (key : Nat) (l : List Int) (hk : key < 2 ^ 64) (hb : Bytes l) (hl : l.length ≤ 140737488351232) : Ev (fun k => skiarearef04_Chain.f k (key : Int) l) ((tagN key l : Nat) : Int) := by
  unfold skiarearef04_Chain.f
  exact Ev.bind (rtag_ev key l hk hb hl) (Ev.now _)
theorem tail_l0 (g : Nat) (hg : g < 2 ^ 64) : ∀ (d i : Nat), i + d = 8 → Ev (fun k => skiarearef29_tail.l0 k (g : Int) ((be8 g).take i) (8 * (7 - (i : Int)))) (be8 g) := by
  intro d
  induction d with
  | zero =>
    intro i hi
    obtain rfl : i = 8 := by omega
    refine Ev.at1 (fun k => ?_)
    simp only [skiarearef29_tail.l0]
    rw [if_neg (by omega)]; rfl
  | succ d ih =>
    intro i hi
    have hlen : ((be8 g).take i).length < 140737488355328 := by rw [List.length_take, be8_len]; omega
    have e : (8 * (7 - (i : Int))) = ((8 * (7 - i) : Nat) : Int) := by omega
    have e0 : IntKind.u64.wrap (8 * (7 - (i : Int))) = wrap64 (8 * (7 - (i : Int))) := by
      rw [wrap_id (by omega) (by omega), e]; exact u64_nat _ (by omega)
    have e1 : (0 : Int) ≤ wrap64 (8 * (7 - (i : Int))) := by rw [wrap_id (by omega) (by omega)]; omega
    have e2 : wrap64 (8 * (7 - (i : Int)) - 8) = 8 * (7 - ((i + 1 : Nat) : Int)) := by rw [wrap_id (by omega) (by omega)]; omega
    refine Ev.step (fun k => ?_) (ih (i + 1) (by omega))
    simp only [skiarearef29_tail.l0]
    rw [if_pos (by omega), e0, if_pos e1, if_pos hlen, e2, shr_be8 g i (by omega) hg, take_succ _ i (by rw [be8_len]; omega)]
theorem tail_ev (g : Nat) (hg : g < 2 ^ 64) : Ev (fun k => skiarearef29_tail.f k (g : Int)) (be8 g) := by
  unfold skiarearef29_tail.f
  exact tail_l0 g hg 8 0 rfl
theorem right_f (r : S39) : skiarearef29_Right.f r.f0 r.f1 r.f2 r.f3 r.f4 r.f5 r.f6 = some (fitB (nsOf r)) := rfl
def parsR (b : List Int) (d p : Nat) (ns : List Int) : List Int × Int × Bool :=
  match parsA b d p ns with
  | none => ([], 0, false)
  | some t => (t.1, (t.2 : Int), true)
theorem parseF_ev (b : List Int) (hb : Bytes b) (hbl : b.length ≤ 1000000) : ∀ (d p : Nat) (ns : List Int), p ≤ b.length → Ev (fun k => parseF k b d (p : Int) ns) (parsR b d p ns)
  | 0, p, ns, _ => by simp only [parseF, parsR, parsA]; exact Ev.now _
  | d + 1, p, ns, hp => by
    have c0 : (0 : Int) ≤ (p : Int) := by omega
    have c1 : (p : Int) ≤ (b.length : Int) := by omega
    simp only [parseF, if_pos c0, if_pos c1, Int.toNat_natCast]
    refine Ev.bind (rget_ev (b.drop p) (hb.drop p)) ?_
    by_cases c : (getI (b.drop p)).2.2 = 0
    · obtain ⟨n, k, hg, _, _, hk9, hkl, _⟩ := getI_tells (hb.drop p) c
      rw [List.length_drop] at hkl
      have ih := parseF_ev b hb hbl d (p + k) (ns ++ [(n : Int)]) (by omega)
      have hw : wrap64 ((p : Int) + (k : Int)) = ((p + k : Nat) : Int) := by rw [wrap_id (by omega) (by omega)]; rfl
      have e : parsR b (d + 1) p ns = parsR b d (p + k) (ns ++ [(n : Int)]) := by
        unfold parsR
        rw [parsA, if_pos c, hg]
        simp only [Int.toNat_natCast]
      rw [e, hg]
      simp only [if_true, hw]
      exact ih
    · have e : parsR b (d + 1) p ns = ([], 0, false) := by
        unfold parsR
        rw [parsA, if_neg c]
      rw [e]
      simp only [if_neg c]
      exact Ev.now _
theorem fitB_of (ns : List Int) (h : Nats ns) : fitB ns = decide (∀ x ∈ ns, x ≤ (20000000 : Int)) := by
  by_cases c : ∀ x ∈ ns, x ≤ (20000000 : Int)
  · rw [decide_eq_true c]; exact (fitB_iff ns).mpr (fun x hx => ⟨(h x hx).1, c x hx⟩)
  · rw [decide_eq_false c]; exact Bool.eq_false_iff.mpr (fun e => c (fun x hx => ((fitB_iff ns).mp e x hx).2))
/-- What the reference's next returns. -/
def nextO (t : Option (List Int × Nat × Nat)) : Int × Int × Int × Int × Int × Int × Int × Int × Int × Bool :=
  match t with
  | none => (0, 0, 0, 0, 0, 0, 0, 0, 0, false)
  | some (ns, n, lk) => (rd ns 0, rd ns 1, rd ns 2, rd ns 3, rd ns 4, rd ns 5, rd ns 6, (n : Int), (lk : Int), true)
theorem rnext_ev (prev : Nat) (hp : prev < 2 ^ 64) (l : List Int) (hb : Bytes l) (hl : l.length ≤ 1000000) : Ev (fun k => skiarearef29_next.f k (prev : Int) l) (nextO (nextJ prev l)) := by
  unfold skiarearef29_next.f
  refine Ev.bind (runframe_ev l hb (by omega)) ?_
  unfold nextJ
  by_cases c : (unI l).2.2 = 0
  · obtain ⟨b, n, hu, hbb, hbl, _, hnl, _, _⟩ := unI_tells hb c
    have P := parseF_ev b hbb (by omega) 7 0 [] (Nat.zero_le _)
    have Z := fun (n q : Int) (a0 a1 a2 a3 a4 a5 a6 : Int) => (Ev.at1 (g := fun k => skiarearef29_next.j0 k (prev : Int) b n q true a0 a1 a2 a3 a4 a5 a6) (r := (0, 0, 0, 0, 0, 0, 0, 0, 0, false)) (fun k => by simp only [skiarearef29_next.j0, if_true]))
    simp only [if_pos c, hu, if_true]
    unfold skiarearef29_parse.f
    refine Ev.bind (Ev.bind P (Ev.now _)) ?_
    unfold parsR
    cases hpa : parsA b 7 0 [] with
    | none =>
      simp only [Bool.false_eq_true, if_false]
      exact Z _ _ _ _ _ _ _ _ _
    | some t =>
      obtain ⟨x, q⟩ := t
      obtain ⟨y, hy, hyl, hyn, _, hql, hty⟩ := parsA_tells hbb 7 0 [] x q (Nat.zero_le _) hpa
      simp only [List.nil_append] at hy
      subst hy
      have hR : skiarearef29_Right.f (rd x 0) (rd x 1) (rd x 2) (rd x 3) (rd x 4) (rd x 5) (rd x 6) = some (fitB x) := by
        have := right_f (rOf x)
        rw [nsOf_rOf hyl] at this
        exact this
      have T := rchain_ev prev (b.take q) hp (hbb.take q) (by rw [List.length_take]; omega)
      have A := tail_ev (tagN prev (b.take q)) (tagN_lt _ _)
      have S := same_f (hbb.drop q) (be8_bytes (tagN prev (b.take q)))
      have e0 : (0 : Int) ≤ (q : Int) := by omega
      have e1 : (q : Int) ≤ (b.length : Int) := by omega
      simp only [if_true, hR, Option.bind_some]
      rw [fitB_of x hyn]
      by_cases c2 : ∀ z ∈ x, z ≤ (20000000 : Int)
      · simp only [decide_eq_true c2, Bool.not_true]
        refine Ev.step (fun k => rfl) ?_
        simp only [skiarearef29_next.j0, Bool.false_eq_true, if_false, if_pos e0, if_pos e1, Int.toNat_natCast]
        refine Ev.bind T ?_
        refine Ev.bind A ?_
        simp only [S, Option.bind_some]
        generalize tagN prev (b.take q) = G at *
        by_cases c3 : b.drop q = be8 G
        · simp only [decide_eq_true c3, if_true, if_pos (show (∀ z ∈ x, z ≤ (20000000 : Int)) ∧ b.drop q = be8 G from ⟨c2, c3⟩)]
          exact Ev.now _
        · simp only [decide_eq_false c3, Bool.false_eq_true, if_false, if_neg (show ¬ ((∀ z ∈ x, z ≤ (20000000 : Int)) ∧ b.drop q = be8 G) from fun h => c3 h.2)]
          exact Ev.now _
      · simp only [decide_eq_false c2, Bool.not_false, if_neg (show ¬ ((∀ z ∈ x, z ≤ (20000000 : Int)) ∧ b.drop q = be8 (tagN prev (b.take q))) from fun h => c2 h.1)]
        exact Z _ _ _ _ _ _ _ _ _
  · simp only [if_neg c]
    exact Ev.now _
theorem rread_l0 (l : List Int) (hb : Bytes l) (hl : l.length ≤ 1000000) : ∀ (m p link : Nat) (rs : List (List Int)) (f : Nat), l.length - p ≤ m → m + 1 ≤ f → p ≤ l.length → link < 2 ^ 64 → rs.length ≤ p →
    Ev (fun k => skiarearef29_read.l0 k l (rs.map rOf) (p : Int) (link : Int)) (readR (readJ l f p link rs)) := by
  intro m
  induction m with
  | zero =>
    intro p link rs f hm hf hp hk hrs
    refine Ev.at1 (fun k => ?_)
    simp only [skiarearef29_read.l0]
    rw [if_neg (by omega), readJ_stop rs (fun h => absurd h (by omega)) f]; rfl
  | succ m ih =>
    intro p link rs f hm hf hp hk hrs
    obtain ⟨f, rfl⟩ : ∃ e, f = e + 1 := ⟨f - 1, by omega⟩
    by_cases c : p < l.length
    · have c1 : (p : Int) < (l.length : Int) := by omega
      have c0 : (0 : Int) ≤ (p : Int) := by omega
      have c3 : (p : Int) ≤ (l.length : Int) := by omega
      have c2 : (rs.map rOf).length < 2513169434916 := by rw [List.length_map]; omega
      have N := rnext_ev link hk (l.drop p) (hb.drop p) (by rw [List.length_drop]; omega)
      refine Ev.step (fun k => rfl) ?_
      simp only [skiarearef29_read.l0, if_pos c1, if_pos c0, if_pos c3, Int.toNat_natCast]
      refine Ev.bind N ?_
      cases hn : nextJ link (l.drop p) with
      | none =>
        rw [readJ, if_pos c, hn]
        simp only [nextO, Bool.false_eq_true, if_false]
        exact Ev.now _
      | some z =>
        obtain ⟨ns, n, lk⟩ := z
        obtain ⟨hF, hlk, hnl, hnle, _⟩ := nextJ_tells (hb.drop p) hn
        rw [List.length_drop] at hnle
        have hfl := (frameJ_len hF link).2.1
        rw [← hnl] at hfl
        have hlk2 : lk < 2 ^ 64 := by rw [hlk]; exact linkN_lt _ _
        clear hlk hnl
        have I := ih (p + n) lk (rs ++ [ns]) f (by omega) (by omega) (by omega) hlk2 (by rw [List.length_append]; simp; omega)
        have hw : wrap64 ((p : Int) + (n : Int)) = ((p + n : Nat) : Int) := by rw [wrap_id (by omega) (by omega)]; rfl
        rw [readJ, if_pos c, hn]
        simp only [nextO, if_true, if_pos c2, hw]
        rw [List.map_append] at I
        exact I
    · refine Ev.at1 (fun k => ?_)
      simp only [skiarearef29_read.l0]
      rw [if_neg (by omega), readJ_stop rs (fun h => absurd h c) (f + 1)]; rfl
theorem rread_ev (l : List Int) (hb : Bytes l) (hl : l.length ≤ 1000000) : Ev (fun k => skiarearef29_read.f k l) (readR (readT l)) :=
  rread_l0 l hb hl l.length 0 0 [] (l.length + 1) (by omega) (by omega) (by omega) (by decide) (by simp)
theorem readJ_le (l : List Int) (hb : Bytes l) : ∀ (d p link : Nat) (rs : List (List Int)), p ≤ l.length → (readJ l d p link rs).2.1 ≤ l.length
  | 0, p, link, rs, h => h
  | d + 1, p, link, rs, h => by
    rw [readJ]
    split
    · cases hn : nextJ link (l.drop p) with
      | none => exact h
      | some z =>
        obtain ⟨ns, n, lk⟩ := z
        obtain ⟨_, _, _, hnle, _⟩ := nextJ_tells (hb.drop p) hn
        rw [List.length_drop] at hnle
        exact readJ_le l hb d _ _ _ (by omega)
    · exact h
theorem readT_le (l : List Int) (hb : Bytes l) : (readT l).2.1 ≤ l.length := readJ_le l hb _ _ _ _ (Nat.zero_le _)
theorem rRead_ev (l : List Int) (hb : Bytes l) (hl : l.length ≤ 1000000) : Ev (fun k => skiarearef29_Read.f k l) ((readT l).1.map rOf, ((readT l).2.1 : Int)) := Ev.bind (rread_ev l hb hl) (Ev.now _)
theorem rWhole_ev (l : List Int) (hb : Bytes l) (hl : l.length ≤ 1000000) : Ev (fun k => skiarearef29_Whole.f k l) (decide ((readT l).2.1 = l.length)) := by
  refine Ev.bind (rread_ev l hb hl) ?_
  have : (((readT l).2.1 : Int) == (l.length : Int)) = decide ((readT l).2.1 = l.length) := by
    by_cases c : (readT l).2.1 = l.length
    · rw [decide_eq_true c, c]; simp
    · rw [decide_eq_false c]; exact beq_eq_false_iff_ne.mpr (by omega)
  simp only [readR, this]
  exact Ev.now _
theorem rLast_ev (l : List Int) (hb : Bytes l) (hl : l.length ≤ 1000000) : Ev (fun k => skiarearef29_Last.f k l) ((readT l).2.2 : Int) := Ev.bind (rread_ev l hb hl) (Ev.now _)
theorem bytes_of {l : List Int} (h : ∀ x ∈ l, (Lit.int .u8 x).wf = true) : Bytes l := fun x hx => by
  have := h x hx
  simp [Lit.wf, IntKind.min, IntKind.max, IntKind.bits, IntKind.signed] at this
  omega
theorem readJ_count (l : List Int) (hb : Bytes l) : ∀ (d p link : Nat) (rs : List (List Int)), (readJ l d p link rs).1.length ≤ rs.length + d
  | 0, p, link, rs => Nat.le_refl _
  | d + 1, p, link, rs => by
    rw [readJ]
    split
    · cases hn : nextJ link (l.drop p) with
      | none => exact Nat.le_add_right _ _
      | some z =>
        obtain ⟨ns, n, lk⟩ := z
        have := readJ_count l hb d (p + n) lk (rs ++ [ns])
        rw [List.length_append, List.length_singleton] at this
        simp only []
        omega
    · exact Nat.le_add_right _ _
theorem JournalReads : skiarealaw29_JournalReads.Pure := by
  intro l _ _ hw
  have hb := bytes_of hw
  refine Ev.rounds ?_
  unfold skiarealaw29_JournalReads.f
  refine Ev.bind alive_ev ?_
  simp only [if_true]
  by_cases c1 : (l.length : Int) > 2000
  · simp only [if_pos c1]; exact Ev.now _
  · simp only [if_neg c1]
    have hl : l.length ≤ 1000000 := by omega
    have hc := readJ_count l hb (l.length + 1) 0 0 []
    have S := same_ev ((readT l).1.map rOf) (by rw [List.length_map]; unfold readT; exact Nat.le_trans hc (by simp; omega))
    refine Ev.bind (jRead_ev l hb hl) ?_
    refine Ev.bind (rRead_ev l hb hl) ?_
    refine Ev.bind S ?_
    simp only [if_true]
    refine Ev.bind (jWhole_ev l hb hl) ?_
    refine Ev.bind (rWhole_ev l hb hl) ?_
    simp only [BEq.rfl, if_true]
    refine Ev.bind (jLast_ev l hb hl) ?_
    refine Ev.bind (rLast_ev l hb hl) ?_
    simp only [BEq.rfl]
    exact Ev.now _
end Go.Proofs.Ytohjkgboehnamaa.Pure
namespace Go.Proofs.Ytohjkgboehnamaa.journalReads
open Go.ChangeShapes Go.WideShapes Go.ChangeAt Go.RowKit
open Go.ChangeMaps (open_string shut_string)
set_option linter.unusedVariables false
theorem own : ownKnob Try.prog.godebug = none := by kernel_rfl
theorem laidOut : laidOutB Try.prog = true := by kernel_rfl
def IsRow (k : IntKind) (w : World) (a : Option Addr) (len cap : Nat) (zs : List Int) : Prop :=
  (a = none ∧ len = 0 ∧ cap = 0 ∧ zs = []) ∨
  ∃ x, a = some x ∧ len ≤ cap ∧ cap ≤ maxLen ∧ zs.length = cap ∧ (∀ i, i < zs.length → w.cell? (x.add i) = some (.int k (zs.getD i 0))) ∧ ∀ n ∈ zs, (Lit.int k n).wf = true
set_option maxRecDepth 100000 in
theorem lifted (os : Os) (started : os.Started) (H : Type) (enc : TypeId × Value → H) :
    ReturnsInHanded {} Try.checked os 7 .any (Rows.journalReadsSpec.pre6 enc Try.prog Try.f7 Rows.journalReadsRow.domain false) (Rows.journalReadsSpec.post enc Try.prog Try.f7 false true false false) := by
  refine returnsInHanded_of_change_sized (C := Try.checked) own started (by kernel_rfl) Try.func7
    (ChangeSpec.witness6 (enc := enc) (C := Try.checked) false ⟨#[], #[.slice none 0 0], []⟩ 8 (by kernel_rfl) (by kernel_rfl) (by kernel_rfl) (by kernel_rfl)) ?_
  intro W base args ds gs before hval0 hW hcnd hsz0 _
  have hsz : (DataW.weightsEach Try.prog (Try.f7.params.toList ++ Rows.journalReadsSpec.plain.varTypes Try.prog) (ds ++ gs)).all (· ≤ reachBytes) = true := hsz0
  have hval : ∀ (j : Nat) t v, Try.f7.params[j]? = some t → args[j]? = some v → Value.okWide Try.prog W .any base t v := hval0
  have hW' := hW
  obtain ⟨p, q, hA0, hV, rfl, hfz, hnd⟩ := hW
  have hA : DataW.TrodAll enc Try.prog W 0 (fun _ => true) true Try.f7.params.toList args.toList ds p := hA0
  rw [Try.params7] at hA hval hsz
  obtain ⟨v0, vs0, d0, ds0, p0, q0, hargs, rfl, rfl, h0, r0⟩ := trodAll_cons hA
  obtain ⟨rfl, rfl, rfl⟩ := trodAll_nil r0
  obtain rfl : args = #[v0] := by cases args; simp_all
  obtain ⟨rfl, rfl⟩ := trodVars_none hV
  obtain ⟨a0, len0, cap0, rfl⟩ := okWide_slice Try.underlying24 (hval 0 24 v0 rfl rfl)
  have k0 := h0
  have lt0 : ∀ x ∈ p0, x.block < W.heap.size := by obtain ⟨m, hm⟩ := k0; exact DataW.trod_lt m _ _ _ hm
  obtain ⟨z0, w0⟩ : ∃ zs, IsRow .u8 W a0 len0 cap0 zs := by
    obtain ⟨fuel, hf⟩ := h0
    rcases open_ints Try.underlying24 Try.underlying5 (by kernel_rfl) hf with ⟨hcs, _⟩ | ⟨x, l, c, zs, hcs, _, hl, hm, hz, _, hcell, hwz⟩
    · simp [Value.cells] at hcs
      obtain ⟨rfl, rfl, rfl⟩ := hcs
      exact ⟨[], .inl ⟨rfl, rfl, rfl, rfl⟩⟩
    · simp [Value.cells] at hcs
      obtain ⟨rfl, rfl, rfl⟩ := hcs
      exact ⟨zs, .inr ⟨_, rfl, hl, hm, by simpa using hz, hcell, hwz⟩⟩
  have y0 : len0 * 1 ≤ 140737488351232 := Go.Proofs.YtohjkgboehnamaaW.PrintWords.sized_ints hsz (j := 0) (t := 24) rfl rfl Try.underlying24 Try.underlying5 (by kernel_rfl) (by kernel_rfl) h0
  clear hA0 hval0 hsz0 hsz
  refine (Q.skiarealaw29_JournalReads.walk Pure.JournalReads a0 len0 cap0 z0 W w0 y0).mono fun e W' ⟨he, bel⟩ => ?_
  subst he
  exact ⟨_, rfl, _, _, _, [], _, [], hW', trodAll_mk1 (shut_bool Try.underlying4 _), (trodAll_cons_mk (Below.trod laidOut (by kernel_rfl) (of_decide_eq_true (by kernel_rfl)) k0 bel lt0) trodAll_mk0), rfl, bel.frame _, fun h => by cases h⟩
theorem over : Rows.journalReadsRow.holds Try.pinned (OpenSpec.ofChange Rows.journalReadsSpec) :=
  OpenClaim.holds_of_wide 7 Try.f7 rfl rfl rfl rfl rfl rfl rfl ⟨rfl, rfl, rfl, rfl, rfl⟩ rfl rfl rfl rfl rfl (by kernel_rfl) Try.func7 (by kernel_rfl)
    (of_decide_eq_true (by kernel_rfl)) (by unfold Func.isWrapper; first | (rw [if_pos (by decide +kernel)]; kernel_rfl) | (rw [if_neg (by decide +kernel)]; exact ⟨rfl, rfl⟩))
    (fun os started H enc _ => lifted os started H enc)
theorem proved : Rows.JournalReadsSaid := over
#print axioms proved
end Go.Proofs.Ytohjkgboehnamaa.journalReads
namespace Go.Proofs.Ytohjkgboehnamaa
/-- The row, under a short name, for the claim. -/
theorem journalReads_holds : Rows.JournalReadsSaid := journalReads.proved
end Go.Proofs.Ytohjkgboehnamaa
