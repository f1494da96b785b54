/- What was put is read back, whatever follows, and a damaged frame is found. Condition: the statement's own bounds. -/
import Derived.Test.YtiifecmecphaeaaQx31
import Derived.Test.YtiifecmecphaeaaMCodec
set_option linter.unusedSimpArgs false
set_option linter.unusedVariables false
namespace Go.Proofs.Ytiifecmecphaeaa.Pure
open Go.RowKit Go.Proofs.Ytiifecmecphaeaa.Q Go.Proofs.YtiifecmecphaeaaW.PrintWords Go.Proofs.YtiifecmecphaeaaW.PrintLast Go.Proofs.YtiifecmecphaeaaW.PrintMore Go.Proofs.Ytiifecmecphaeaa.MSeal Go.Proofs.Ytiifecmecphaeaa.MCrc Go.Proofs.Ytiifecmecphaeaa.MCodec

theorem wrap_id {i : Int} (h0 : -9223372036854775808 ≤ i) (h : i < 9223372036854775808) : wrap64 i = i := by unfold wrap64; omega
theorem rd_nat (l : List Int) (i : Nat) : rd l (i : Int) = l.getD i 0 := by unfold rd; rw [Int.toNat_natCast]
theorem Ev.at1 {α : Type} {g : Nat → Option α} {r : α} (h : ∀ k, g (k + 1) = some r) : Ev g r := Ev.step h (Ev.now r)
theorem Ev.fix {α : Type} {g : Nat → Option α} {r : α} (h : ∀ k, g k = some r) : Ev g r := Ev.congr h (Ev.now r)
theorem or128 (x : Nat) (h : x < 256) : x ||| 128 = x % 128 + 128 := by
  have : ∀ y : Fin 256, y.val ||| 128 = y.val % 128 + 128 := by decide +kernel
  exact this ⟨x, h⟩
theorem or_u8 (n : Nat) : Go.bits .or .u8 ((n : Int) % 256) 128 = ((n % 128 + 128 : Nat) : Int) := by
  have e : Go.bits .or .u8 ((n % 256 : Nat) : Int) ((128 : Nat) : Int) = IntKind.u8.wrap ((n % 256 ||| 128 : Nat) : Int) := bits_or_nat .u8 (n % 256) 128 (by simp [IntKind.bits]; omega) (by decide)
  rw [or128 _ (by omega), IntKind.wrap_u8] at e
  have e2 : ((n % 256 : Nat) : Int) = (n : Int) % 256 := by omega
  rw [e2] at e
  exact e.trans (by omega)
theorem add_l0 (m : Nat) : ∀ (n : Nat) (l : List Int), n < 128 ^ m → 0 < m → l.length + m ≤ 140737488355328 → Ev (fun k => codec_add.l0 k l (n : Int)) (l ++ putN n) := by
  induction m with
  | zero => intro n l _ h; omega
  | succ m ih =>
    intro n l hn _ hl
    by_cases h : n < 128
    · refine Ev.at1 (fun k => ?_)
      simp only [codec_add.l0]
      rw [if_neg (by omega), if_pos (by omega), putN_small h]
      have : (n : Int) % 256 = n := by omega
      rw [this]
    · have h0 : 0 < m := by
        rcases Nat.eq_zero_or_pos m with rfl | h0
        · simp at hn; omega
        · exact h0
      have hd : n / 128 < 128 ^ m := by rw [Nat.pow_succ] at hn; exact Nat.div_lt_of_lt_mul (by omega)
      have H := ih (n / 128) (l ++ [((n % 128 + 128 : Nat) : Int)]) hd h0 (by simp; omega)
      rw [putN_big h]
      have e : l ++ ((n % 128 + 128 : Nat) : Int) :: putN (n / 128) = l ++ [((n % 128 + 128 : Nat) : Int)] ++ putN (n / 128) := by simp
      rw [e]
      refine Ev.step (fun k => ?_) H
      simp only [codec_add.l0]
      rw [if_pos (by omega), if_pos (by omega), or_u8]
      rfl
theorem add_ev (l : List Int) (a : Int) (ha : a < 9223372036854775808) (hl : l.length + 9 ≤ 140737488355328) : Ev (fun k => codec_add.f k l a) (l ++ putN a.toNat) := by
  have hm : mx a 0 = ((a.toNat : Nat) : Int) := by unfold mx; split <;> omega
  unfold codec_add.f
  rw [hm]
  exact add_l0 9 a.toNat l (by omega) (by decide) hl
theorem put_ev (l : List Int) (a : Int) (ha : a < 9223372036854775808) (hl : l.length + 9 ≤ 140737488355328) : Ev (fun k => codec_Put.f k l a) (l ++ putN a.toNat) := by
  unfold codec_Put.f
  have h0 : ([] : List Int).length + l.length < 140737488355328 := by simp; omega
  simp only [if_pos h0]
  exact Ev.bind (add_ev _ a ha hl) (Ev.now _)
theorem bytesOf_inj : ∀ {l m : List Int}, Bytes l → Bytes m → Lib.bytesOf l = Lib.bytesOf m → l = m
  | [], [], _, _, _ => rfl
  | x :: r, y :: s, hl, hm, h => by
    have hx := hl x (by simp)
    have hy := hm y (by simp)
    have h2 := List.cons.inj h
    have e := bytesOf_inj (fun z hz => hl z (by simp [hz])) (fun z hz => hm z (by simp [hz])) h2.2
    have e1 := congrArg UInt8.toNat h2.1
    simp only [UInt8.toNat_ofNat'] at e1
    have : x = y := by omega
    rw [this, e]
  | [], _ :: _, _, _, h => by simp [Lib.bytesOf] at h
  | _ :: _, [], _, _, h => by simp [Lib.bytesOf] at h
theorem same_f {l m : List Int} (hl : Bytes l) (hm : Bytes m) : skiarearef03_Same.f l m = some (decide (l = m)) := by
  unfold skiarearef03_Same.f
  rw [Lib.strOfNums_toList, Lib.strOfNums_toList]
  congr 1
  by_cases h : l = m
  · subst h; simp
  · have h2 : ¬ Lib.bytesOf l = Lib.bytesOf m := fun e => h (bytesOf_inj hl hm e)
    rw [decide_eq_false h]
    exact beq_eq_false_iff_ne.mpr h2
theorem same_self {l : List Int} (hl : Bytes l) : skiarearef03_Same.f l l = some true := by
  rw [same_f hl hl, decide_eq_true rfl]
theorem clear128 (c : Int) (h0 : 0 ≤ c) (h1 : c < 256) : Go.bits .andNot .u8 c 128 = c % 128 := by
  have : ∀ y : Fin 256, Go.bits .andNot .u8 (y.val : Int) 128 = (y.val : Int) % 128 := by decide +kernel
  have h9 := this ⟨c.toNat, by omega⟩
  have e : ((c.toNat : Nat) : Int) = c := by omega
  simp only [e] at h9
  exact h9
theorem get_or (acc i : Nat) (c : Int) (h0 : 0 ≤ c) (h1 : c < 256) (hi : i ≤ 8) (ha : acc < 128 ^ i) :
    Go.bits .or .i64 (acc : Int) (shl .i64 (wrap64 (Go.bits .andNot .u8 c 128)) (wrap64 (7 * (i : Int)))) = ((acc + 128 ^ i * (c.toNat % 128) : Nat) : Int) := by
  rw [clear128 c h0 h1, wrap_id (i := c % 128) (by omega) (by omega), wrap_id (i := 7 * (i : Int)) (by omega) (by omega)]
  have hp : (128 : Nat) ^ i = 2 ^ (7 * i) := by rw [Nat.pow_mul]
  have h56 : 2 ^ (7 * i) ≤ 2 ^ 56 := Nat.pow_le_pow_right (by decide) (by omega)
  have hx : c.toNat % 128 < 128 := by omega
  have hm : 2 ^ (7 * i) * (c.toNat % 128) ≤ 2 ^ 56 * 127 := Nat.mul_le_mul h56 (by omega)
  have hs : shl .i64 (c % 128) (7 * (i : Int)) = ((2 ^ (7 * i) * (c.toNat % 128) : Nat) : Int) := by
    unfold shl
    have e1 : (7 * (i : Int)).toNat = 7 * i := by omega
    have e2 : min (7 * i) IntKind.i64.bits = 7 * i := Nat.min_eq_left (by simp [IntKind.bits]; omega)
    rw [e1, e2]
    have e3 : c % 128 * 2 ^ (7 * i) = ((2 ^ (7 * i) * (c.toNat % 128) : Nat) : Int) := by
      have e4 : c % 128 = ((c.toNat % 128 : Nat) : Int) := by omega
      rw [e4, Int.natCast_mul, Int.mul_comm]; push_cast; rfl
    rw [e3, IntKind.wrap_i64]; omega
  rw [hp] at ha
  have ho := bits_or_nat .i64 acc (2 ^ (7 * i) * (c.toNat % 128)) (by simp [IntKind.bits]; omega) (by simp [IntKind.bits]; omega)
  rw [hs, ho, Nat.or_comm, ← Nat.two_pow_add_eq_or_of_lt ha, IntKind.wrap_i64, hp]
  omega
theorem get_l0 (l : List Int) (hb : Bytes l) : ∀ (d i : Nat), i + d = min 9 l.length →
    Ev (fun k => codec_Get.l0 k l ((valN (l.take i) : Nat) : Int) (l.take 9) (((l.take 9).length : Nat) : Int) (i : Int)) (getA l (9 - i) i) := by
  have hlen : (l.take 9).length = min 9 l.length := by simp
  intro d
  induction d with
  | zero =>
    intro i hi
    refine Ev.at1 (fun k => ?_)
    simp only [codec_Get.l0]
    rw [if_neg (by omega)]
    by_cases h9 : (l.length : Int) ≥ 9
    · rw [if_pos h9]
      have : 9 - i = 0 := by omega
      rw [this]; rfl
    · rw [if_neg h9]
      obtain ⟨m, hm⟩ : ∃ m, 9 - i = m + 1 := ⟨8 - i, by omega⟩
      rw [hm]
      simp only [getA]
      rw [if_pos (by omega)]
  | succ d ih =>
    intro i hi
    have hil : i < l.length := by omega
    have hby := hb.at i
    have hrd : rd (l.take 9) (i : Int) = l.getD i 0 := by
      rw [rd_nat, List.getD_eq_getElem?_getD, List.getD_eq_getElem?_getD, List.getElem?_take_of_lt (by omega)]
    have hv := valN_lt (l.take i)
    have hti : (l.take i).length = i := by simp; omega
    rw [hti] at hv
    have hor := get_or (valN (l.take i)) i (l.getD i 0) hby.1 hby.2 (by omega) hv
    have hval : valN (l.take i) + 128 ^ i * ((l.getD i 0).toNat % 128) = valN (l.take (i + 1)) := by
      rw [take_succ l i hil, valN_snoc, hti]
    rw [hval] at hor
    have HOR := Aside0.mk hor
    clear hor hval hv
    have hw : wrap64 (7 * (i : Int)) = 7 * (i : Int) := wrap_id (by omega) (by omega)
    have hw2 : wrap64 ((i : Int) + 1) = ((i + 1 : Nat) : Int) := by rw [wrap_id (by omega) (by omega)]; rfl
    obtain ⟨m, hm⟩ : ∃ m, 9 - i = m + 1 := ⟨8 - i, by omega⟩
    rw [hm]
    have hga : getA l (m + 1) i = if l.length ≤ i then (0, 0, 5) else if l.getD i 0 ≥ 128 then getA l m (i + 1) else if l.getD i 0 = 0 ∧ 0 < i then (0, 0, 3) else (((valN (l.take (i + 1)) : Nat) : Int), ((i + 1 : Nat) : Int), 0) := rfl
    rw [hga, if_neg (by omega)]
    by_cases h2 : l.getD i 0 ≥ 128
    · rw [if_pos h2]
      have hm2 : m = 9 - (i + 1) := by omega
      rw [hm2]
      refine Ev.step (fun k => ?_) (ih (i + 1) (by omega))
      simp only [codec_Get.l0]
      rw [if_pos (by omega), if_pos (by omega), if_pos (by omega), if_pos (by rw [hw]; omega), hrd, if_pos h2, HOR.out, hw2]
    · rw [if_neg h2]
      refine Ev.at1 (fun k => ?_)
      simp only [codec_Get.l0]
      rw [if_pos (by omega), if_pos (by omega), if_pos (by omega), if_pos (by rw [hw]; omega), hrd, if_neg h2, HOR.out, hw2]
      by_cases h3 : l.getD i 0 = 0
      · rw [if_pos h3]
        by_cases h4 : (i : Int) > 0
        · rw [if_pos h4, if_pos ⟨h3, by omega⟩]
        · rw [if_neg h4, if_neg (fun h => h4 (by omega))]
      · rw [if_neg h3, if_neg (fun h => h3 h.1)]
theorem get_ev (l : List Int) (hb : Bytes l) : Ev (fun k => codec_Get.f k l) (getI l) := by
  unfold codec_Get.f
  have hm : mn (l.length : Int) 9 = ((min 9 l.length : Nat) : Int) := by unfold mn; split <;> omega
  have ht : l.take (mn (l.length : Int) 9).toNat = l.take 9 := by
    rw [hm, Int.toNat_natCast]
    by_cases h : l.length ≤ 9
    · rw [Nat.min_eq_right h, List.take_of_length_le (Nat.le_refl _), List.take_of_length_le h]
    · rw [Nat.min_eq_left (by omega)]
  have H := get_l0 l hb (min 9 l.length) 0 (by omega)
  refine Ev.congr (fun k => ?_) H
  rw [if_pos (by rw [hm]; omega), if_pos (by rw [hm]; omega)]
  simp only [ht]
  rfl
theorem be4_int (s : Nat) : ([((s : Int) / 16777216) % 256, ((s : Int) / 65536) % 256, ((s : Int) / 256) % 256, (s : Int) % 256] : List Int) = be4 s := by
  simp only [be4, List.cons.injEq, and_true]
  omega
theorem frame_ev (l : List Int) (hb : Bytes l) (hl : l.length ≤ 140737488351232) : Ev (fun k => codec_Frame.f k l) (frameN l) := by
  unfold codec_Frame.f
  rw [codec_Sum.f_of hb (by omega)]
  simp only [Option.bind_some]
  refine Ev.bind (put_ev [] (l.length : Int) (by omega) (by simp)) ?_
  have h9 := putN_len9 l.length (by omega)
  refine Ev.fix (fun k => ?_)
  simp only [Int.toNat_natCast, List.nil_append]
  rw [if_pos (by omega), if_pos (by simp; omega), be4_int]
  rfl
theorem or_be (a b c d : Nat) (ha : a < 256) (hb : b < 256) (hc : c < 256) (hd : d < 256) :
    Go.bits .or .u32 (Go.bits .or .u32 (Go.bits .or .u32 ((((a : Int) % 4294967296) * 16777216) % 4294967296) ((((b : Int) % 4294967296) * 65536) % 4294967296)) ((((c : Int) % 4294967296) * 256) % 4294967296)) ((d : Int) % 4294967296) = ((a * 16777216 + b * 65536 + c * 256 + d : Nat) : Int) := by
  have e1 : (((a : Int) % 4294967296) * 16777216) % 4294967296 = ((a * 16777216 : Nat) : Int) := by omega
  have e2 : (((b : Int) % 4294967296) * 65536) % 4294967296 = ((b * 65536 : Nat) : Int) := by omega
  have e3 : (((c : Int) % 4294967296) * 256) % 4294967296 = ((c * 256 : Nat) : Int) := by omega
  have e4 : (d : Int) % 4294967296 = ((d : Nat) : Int) := by omega
  have o : ∀ x y i : Nat, 2 ^ i * x + y < 4294967296 → y < 2 ^ i → Go.bits .or .u32 ((2 ^ i * x : Nat) : Int) (y : Int) = ((2 ^ i * x + y : Nat) : Int) := fun x y i h1 h2 => by
    have h3 := bits_or_nat .u32 (2 ^ i * x) y (by simp [IntKind.bits]; omega) (by simp [IntKind.bits]; omega)
    rw [h3, ← Nat.two_pow_add_eq_or_of_lt h2, IntKind.wrap_u32]
    omega
  have o1 := o a (b * 65536) 24 (by omega) (by omega)
  have o2 := o (a * 256 + b) (c * 256) 16 (by omega) (by omega)
  have o3 := o (a * 65536 + b * 256 + c) d 8 (by omega) (by omega)
  rw [e1, e2, e3, e4]
  have f1 : a * 16777216 = 2 ^ 24 * a := by omega
  have f2 : 2 ^ 24 * a + b * 65536 = 2 ^ 16 * (a * 256 + b) := by omega
  have f3 : 2 ^ 16 * (a * 256 + b) + c * 256 = 2 ^ 8 * (a * 65536 + b * 256 + c) := by omega
  have f4 : 2 ^ 8 * (a * 65536 + b * 256 + c) + d = 2 ^ 24 * a + b * 65536 + c * 256 + d := by omega
  rw [f1, o1, f2, o2, f3, o3, f4]
theorem or_ofBe {l : List Int} (hb : Bytes l) :
    Go.bits .or .u32 (Go.bits .or .u32 (Go.bits .or .u32 (((rd l 0 % 4294967296) * 16777216) % 4294967296) (((rd l 1 % 4294967296) * 65536) % 4294967296)) (((rd l 2 % 4294967296) * 256) % 4294967296)) (rd l 3 % 4294967296) = ((ofBe l : Nat) : Int) := by
  have h0 := hb.at 0
  have h1 := hb.at 1
  have h2 := hb.at 2
  have h3 := hb.at 3
  have e0 : rd l 0 = (((l.getD 0 0).toNat : Nat) : Int) := by have : rd l 0 = l.getD 0 0 := rfl; rw [this]; omega
  have e1 : rd l 1 = (((l.getD 1 0).toNat : Nat) : Int) := by have : rd l 1 = l.getD 1 0 := rfl; rw [this]; omega
  have e2 : rd l 2 = (((l.getD 2 0).toNat : Nat) : Int) := by have : rd l 2 = l.getD 2 0 := rfl; rw [this]; omega
  have e3 : rd l 3 = (((l.getD 3 0).toNat : Nat) : Int) := by have : rd l 3 = l.getD 3 0 := rfl; rw [this]; omega
  rw [e0, e1, e2, e3, or_be _ _ _ _ (by omega) (by omega) (by omega) (by omega)]
  rfl
theorem cut_mid (l : List Int) (k n : Nat) : (l.take (k + n)).drop k = (l.drop k).take n := by
  rw [List.drop_take, Nat.add_sub_cancel_left]
theorem unframe_ev (l : List Int) (hb : Bytes l) (hl : l.length ≤ 140737488351232) : Ev (fun k => codec_Unframe.f k l) (unI l) := by
  unfold codec_Unframe.f
  refine Ev.bind (get_ev l hb) ?_
  unfold unI
  by_cases h1 : (getI l).2.2 = 0
  · obtain ⟨n, k, hg, hn, hk1, hk9, hkl, _⟩ := getI_tells hb h1
    rw [hg]
    refine Ev.fix (fun _ => ?_)
    simp only [if_true, ne_eq, not_true_eq_false, if_false, Int.toNat_natCast]
    by_cases h2 : (n : Int) > 65536
    · rw [if_pos h2, if_pos h2]
    · rw [if_neg h2, if_neg h2]
      have w1 : wrap64 ((l.length : Int) - (k : Int)) = (l.length : Int) - (k : Int) := wrap_id (by omega) (by omega)
      have w2 : wrap64 ((n : Int) + 4) = (n : Int) + 4 := wrap_id (by omega) (by omega)
      have w3 : wrap64 ((k : Int) + (n : Int)) = ((k + n : Nat) : Int) := by rw [wrap_id (by omega) (by omega)]; rfl
      rw [w1, w2, w3]
      have w4 : wrap64 (((k + n : Nat) : Int) + 4) = ((k + n + 4 : Nat) : Int) := by rw [wrap_id (by omega) (by omega)]; rfl
      rw [w4]
      by_cases h3 : (l.length : Int) - (k : Int) < (n : Int) + 4
      · rw [if_pos h3, if_pos h3]
      · rw [if_neg h3, if_neg h3]
        simp only [Int.toNat_natCast]
        rw [cut_mid l k n, cut_mid l (k + n) 4]
        have hb1 : Bytes ((l.drop k).take n) := (hb.drop k).take n
        have hb2 : Bytes ((l.drop (k + n)).take 4) := (hb.drop (k + n)).take 4
        have hl2 : ((l.drop (k + n)).take 4).length = 4 := by simp; omega
        have hl1 : ((l.drop k).take n).length = n := by simp; omega
        rw [if_pos (by omega), if_pos (by omega), if_pos (by omega), if_pos (by omega), if_pos (by omega), if_pos (by omega), codec_Sum.f_of hb1 (by omega), Option.bind_some]
        rw [if_pos (by omega), if_pos (by omega), if_pos (by omega), if_pos (by omega), or_ofBe hb2]
        have e9 : ((k : Int) + (n : Int)).toNat = k + n := by omega
        rw [e9]
        by_cases h4 : crcN ((l.drop k).take n) = ofBe ((l.drop (k + n)).take 4)
        · rw [if_pos (by rw [h4]), if_pos h4, if_pos (by simp; omega)]
          simp
        · rw [if_neg (by omega), if_neg h4]
  · rw [if_pos h1]
    refine Ev.fix (fun _ => ?_)
    simp only [if_neg h1]
theorem bytes_of_bytesOf (s : ByteArray) : Bytes (bytesOf s) := fun x hx => by
  unfold bytesOf at hx
  obtain ⟨b, _, rfl⟩ := List.mem_map.mp hx
  have := UInt8.toNat_lt b
  omega
theorem puttext_ev (l : List Int) (s : ByteArray) (hs : s.size ≤ 140737488351000) (hl : l.length ≤ 4096) (hsz : l.length + s.size ≤ 140737488351232) : Ev (fun k => codec_PutText.f k l s) (l ++ putN s.size ++ bytesOf s) := by
  unfold codec_PutText.f
  refine Ev.bind (put_ev l (s.size : Int) (by omega) (by omega)) ?_
  have h9 := putN_len9 s.size (by omega)
  refine Ev.fix (fun k => ?_)
  simp only [Int.toNat_natCast]
  rw [if_pos (by simp; omega)]
theorem gettext_ev (l : List Int) (hb : Bytes l) (hl : l.length ≤ 140737488351232) : Ev (fun k => codec_GetText.f k l) (strOfNums (textI l).1, (textI l).2.1, (textI l).2.2) := by
  unfold codec_GetText.f
  refine Ev.bind (get_ev l hb) ?_
  unfold textI
  by_cases h1 : (getI l).2.2 = 0
  · obtain ⟨n, k, hg, hn, hk1, hk9, hkl, ht⟩ := getI_tells hb h1
    rw [hg]
    refine Ev.fix (fun _ => ?_)
    simp only [if_true, ne_eq, not_true_eq_false, if_false, Int.toNat_natCast]
    by_cases h2 : (n : Int) > 2000
    · rw [if_pos h2, if_pos h2]; rfl
    · rw [if_neg h2, if_neg h2]
      have w1 : wrap64 ((l.length : Int) - (k : Int)) = (l.length : Int) - (k : Int) := wrap_id (by omega) (by omega)
      have w3 : wrap64 ((k : Int) + (n : Int)) = ((k + n : Nat) : Int) := by rw [wrap_id (by omega) (by omega)]; rfl
      rw [w1, w3]
      by_cases h3 : (l.length : Int) - (k : Int) < (n : Int)
      · rw [if_pos (by omega), if_pos h3]; rfl
      · rw [if_neg (by omega), if_neg h3, if_pos (by omega), if_pos (by omega), if_pos (by omega)]
        simp only [Int.toNat_natCast]
        rw [cut_mid l k n]
        rfl
  · rw [if_pos h1]
    refine Ev.fix (fun _ => ?_)
    simp only [if_neg h1]
    rfl
theorem putL_len (x : List Int) (hx : ∀ n ∈ x, n < 9223372036854775808) : (putL x).length ≤ 9 * x.length := by
  induction x with
  | nil => simp [putL]
  | cons n x ih =>
    have h1 := putN_len9 n.toNat (by have := hx n (by simp); omega)
    have h2 := ih (fun m hm => hx m (by simp [hm]))
    rw [putL_cons]; simp; omega
theorem putlist_l0 (x : List Int) (hx : ∀ n ∈ x, n < 9223372036854775808) (hl : x.length ≤ 100000) : ∀ (d i : Nat) (l : List Int), i + d = x.length → l.length + 9 * d + 9 ≤ 140737488355328 →
    Ev (fun k => codec_PutList.l0 k l x (x.length : Int) (i : Int)) (l ++ putL (x.drop i)) := by
  intro d
  induction d with
  | zero =>
    intro i l hi hll
    refine Ev.at1 (fun k => ?_)
    simp only [codec_PutList.l0]
    rw [if_neg (by omega), List.drop_eq_nil_of_le (by omega)]
    simp [putL]
  | succ d ih =>
    intro i l hi hll
    have hil : i < x.length := by omega
    have hmem : x.getD i 0 < 9223372036854775808 := by
      rw [List.getD_eq_getElem?_getD, List.getElem?_eq_getElem hil]; exact hx _ (List.getElem_mem hil)
    have h9 := putN_len9 (x.getD i 0).toNat (by omega)
    have H := ih (i + 1) (l ++ putN (x.getD i 0).toNat) (by omega) (by rw [List.length_append]; omega)
    rw [drop_cons x i hil, putL_cons, ← List.append_assoc]
    refine Ev.step (f := fun k => (codec_add.f k l (x.getD i 0)).bind fun t => codec_PutList.l0 k t x (x.length : Int) ((i + 1 : Nat) : Int)) (fun k => ?_) (Ev.bind (add_ev l _ hmem (by omega)) H)
    simp only [codec_PutList.l0]
    have w : wrap64 ((i : Int) + 1) = ((i + 1 : Nat) : Int) := by rw [wrap_id (by omega) (by omega)]; rfl
    rw [if_pos (by omega), if_pos (by omega), if_pos (by omega), rd_nat, w]
theorem putlist_ev (l x : List Int) (hx : ∀ n ∈ x, n < 9223372036854775808) (hl : x.length ≤ 100000) (hll : l.length ≤ 100000) : Ev (fun k => codec_PutList.f k l x) (l ++ putN x.length ++ putL x) := by
  unfold codec_PutList.f
  refine Ev.bind (put_ev l (x.length : Int) (by omega) (by omega)) ?_
  have h9 := putN_len9 x.length (by omega)
  have H := putlist_l0 x hx hl x.length 0 (l ++ putN x.length) (by omega) (by simp; omega)
  simp only [Int.toNat_natCast]
  exact H
theorem getlist_l0 (l : List Int) (hb : Bytes l) (hl : l.length ≤ 140737488351232) (n : Nat) (hn : n ≤ 10000) : ∀ (d i p : Nat) (acc : List Int), i + d = n → acc.length = i → p ≤ l.length →
    Ev (fun k => codec_GetList.l0 k l (p : Int) acc (n : Int) (i : Int)) (listA l d p acc) := by
  intro d
  induction d with
  | zero =>
    intro i p acc hi ha hp
    refine Ev.at1 (fun k => ?_)
    simp only [codec_GetList.l0]
    rw [if_neg (by omega)]; rfl
  | succ d ih =>
    intro i p acc hi ha hp
    have hla : listA l (d + 1) p acc = if (getI (l.drop p)).2.2 = 0 then listA l d (p + (getI (l.drop p)).2.1.toNat) (acc ++ [(getI (l.drop p)).1]) else ([], 0, (getI (l.drop p)).2.2) := rfl
    rw [hla]
    refine Ev.step (f := fun k => (codec_Get.f k (l.drop p)).bind fun bt => if bt.2.2 = 0 then codec_GetList.l0 k l (wrap64 ((p : Int) + bt.2.1)) (acc ++ [bt.1]) (n : Int) ((i + 1 : Nat) : Int) else some (([] : List Int), 0, bt.2.2)) (fun k => ?_) (Ev.bind (get_ev _ (hb.drop p)) ?_)
    · simp only [codec_GetList.l0]
      have w : wrap64 ((i : Int) + 1) = ((i + 1 : Nat) : Int) := by rw [wrap_id (by omega) (by omega)]; rfl
      have h1 : acc.length < 17592186044416 := by omega
      rw [if_pos (by omega), if_pos (by omega), if_pos (by omega), w, Int.toNat_natCast]
      simp only [if_pos h1]
    · by_cases h1 : (getI (l.drop p)).2.2 = 0
      · simp only [if_pos h1]
        obtain ⟨m, k, hg, hm, hk1, hk9, hkl, _⟩ := getI_tells (hb.drop p) h1
        rw [hg]
        have hkl2 : p + k ≤ l.length := by simp at hkl; omega
        have w : wrap64 ((p : Int) + (k : Int)) = ((p + k : Nat) : Int) := by rw [wrap_id (by omega) (by omega)]; rfl
        simp only [w, Int.toNat_natCast]
        exact ih (i + 1) (p + k) _ (by omega) (by simp; omega) hkl2
      · simp only [if_neg h1]
        exact Ev.now _
theorem getlist_ev (l : List Int) (hb : Bytes l) (hl : l.length ≤ 140737488351232) : Ev (fun k => codec_GetList.f k l) (listI l) := by
  unfold codec_GetList.f
  refine Ev.bind (get_ev l hb) ?_
  unfold listI
  by_cases h1 : (getI l).2.2 = 0
  · obtain ⟨n, k, hg, hn, hk1, hk9, hkl, ht⟩ := getI_tells hb h1
    rw [hg]
    simp only [if_true, ne_eq, not_true_eq_false, if_false, Int.toNat_natCast]
    by_cases h2 : (n : Int) > 10000
    · simp only [if_pos h2]; exact Ev.now _
    · simp only [if_neg h2]
      exact getlist_l0 l hb hl n (by omega) n 0 k [] (by omega) rfl hkl
  · simp only [if_neg h1, ne_eq, h1, not_false_eq_true, if_true]
    exact Ev.now _
theorem samelist_l0 (x : List Int) (hl : x.length ≤ 9223372036854775800) : ∀ d i : Nat, i + d = x.length → Ev (fun k => skiarearef03_SameList.l0 k x x (i : Int)) true := by
  intro d
  induction d with
  | zero =>
    intro i hi
    refine Ev.at1 (fun k => ?_)
    simp only [skiarearef03_SameList.l0]
    rw [if_neg (by omega)]
  | succ d ih =>
    intro i hi
    refine Ev.step (fun k => ?_) (ih (i + 1) (by omega))
    simp only [skiarearef03_SameList.l0]
    have w : wrap64 ((i : Int) + 1) = ((i + 1 : Nat) : Int) := by rw [wrap_id (by omega) (by omega)]; rfl
    rw [if_pos (by omega), if_pos (by omega), if_pos (by omega)]
    simp only [if_true, w]
theorem samelist_ev (x : List Int) (hl : x.length ≤ 9223372036854775800) : Ev (fun k => skiarearef03_SameList.f k x x) true := by
  unfold skiarearef03_SameList.f
  simp only [ne_eq, not_true_eq_false, if_false, if_true]
  exact samelist_l0 x hl x.length 0 (by omega)
theorem putN_300 : putN 300 = [172, 2] := by rw [putN_big (by decide), putN_small (by decide)]; rfl
theorem putN_2 : putN 2 = [2] := by rw [putN_small (by decide)]; rfl
theorem putN_1 : putN 1 = [1] := by rw [putN_small (by decide)]; rfl
theorem putN_0 : putN 0 = [0] := by rw [putN_small (by decide)]; rfl
theorem alive_ev : Ev (fun k => skiarealaw03_alive.f k) true := by
  have G1 : Ev (fun k => codec_Get.f k [172, 2]) (300, 2, 0) := by
    have e : getI [172, 2] = (300, 2, 0) := by decide +kernel
    rw [← e]; exact get_ev _ (by unfold Bytes; decide)
  have G2 : Ev (fun k => codec_Get.f k [128, 0]) (0, 0, 3) := by
    have e : getI [128, 0] = (0, 0, 3) := by decide +kernel
    rw [← e]; exact get_ev _ (by unfold Bytes; decide)
  have G3 : Ev (fun k => codec_Get.f k [128]) (0, 0, 5) := by
    have e : getI [128] = (0, 0, 5) := by decide +kernel
    rw [← e]; exact get_ev _ (by unfold Bytes; decide)
  have G4 : Ev (fun k => codec_Unframe.f k [1, 0, 0, 0, 0, 0]) ([], 0, 6) := by
    have e : unI [1, 0, 0, 0, 0, 0] = ([], 0, 6) := by decide +kernel
    rw [← e]; exact unframe_ev _ (by unfold Bytes; decide) (by decide)
  have P1 : Ev (fun k => codec_Put.f k [] 300) [172, 2] := by
    have h := put_ev [] 300 (by decide) (by decide)
    have e : (300 : Int).toNat = 300 := rfl
    rw [e, putN_300] at h; exact h
  have P2 : Ev (fun k => codec_PutText.f k [] (⟨#[97, 98]⟩ : ByteArray)) [2, 97, 98] := by
    have h := puttext_ev [] (⟨#[97, 98]⟩ : ByteArray) (by decide) (by decide) (by decide)
    have e : (⟨#[97, 98]⟩ : ByteArray).size = 2 := rfl
    rw [e, putN_2] at h; exact h
  have P3 : Ev (fun k => codec_PutList.f k [] ([1, 300] : List Int)) [2, 1, 172, 2] := by
    have h := putlist_ev [] [1, 300] (by decide) (by decide) (by decide)
    have e : ([1, 300] : List Int).length = 2 := rfl
    have e2 : putL [1, 300] = putN 1 ++ (putN 300 ++ []) := rfl
    rw [e, e2, putN_2, putN_1, putN_300] at h; exact h
  have S1 : codec_Sum.f [49, 50, 51, 52, 53, 54, 55, 56, 57] = some 3808858755 := by
    rw [codec_Sum.f_of (by unfold Bytes; decide) (by decide)]
    have e : crcN [49, 50, 51, 52, 53, 54, 55, 56, 57] = 3808858755 := by decide +kernel
    rw [e]; rfl
  have S2 : codec_Sum.f [] = some 0 := by
    rw [codec_Sum.f_of (by unfold Bytes; decide) (by decide)]
    have e : crcN [] = 0 := by decide +kernel
    rw [e]; rfl
  have F1 : Ev (fun k => codec_Frame.f k []) [0, 0, 0, 0, 0] := by
    have h := frame_ev [] (by unfold Bytes; decide) (by decide)
    have e : frameN [] = putN 0 ++ [] ++ be4 (crcN []) := rfl
    have e2 : be4 (crcN []) = [0, 0, 0, 0] := by decide +kernel
    rw [e, e2, putN_0] at h; exact h
  have B1 := same_self (l := [172, 2]) (by unfold Bytes; decide)
  have B2 := same_self (l := [2, 97, 98]) (by unfold Bytes; decide)
  have B3 := same_self (l := [2, 1, 172, 2]) (by unfold Bytes; decide)
  have B4 := same_self (l := [0, 0, 0, 0, 0]) (by unfold Bytes; decide)
  unfold skiarealaw03_alive.f
  refine Ev.bind G1 (Ev.bind G2 (Ev.bind G3 (Ev.bind G4 ?_)))
  simp only [eq_self, if_true]
  refine Ev.bind P1 ?_
  simp only [B1, Option.bind_some, eq_self, if_true]
  refine Ev.bind P2 ?_
  simp only [B2, Option.bind_some, eq_self, if_true]
  refine Ev.bind P3 ?_
  simp only [B3, S1, S2, Option.bind_some, eq_self, if_true]
  refine Ev.bind F1 ?_
  simp only [B4, Option.bind_some]
  exact Ev.now _
theorem str_bytes (s : ByteArray) : strOfNums (bytesOf s) = s := by
  have h : (strOfNums (bytesOf s)).data.toList = s.data.toList := by
    rw [strOfNums_data]
    unfold bytesOf
    rw [List.map_map]
    exact (List.map_congr_left (fun x _ => by simp [Function.comp])).trans (List.map_id' _)
  have h2 : (strOfNums (bytesOf s)).data = s.data := Array.toList_inj.mp h
  cases hs : strOfNums (bytesOf s); rw [hs] at h2; cases s; simp_all
theorem bytesOf_len (s : ByteArray) : (bytesOf s).length = s.size := by unfold bytesOf; rw [List.length_map]; rfl
/-- What natural tells. -/
def natB (l : List Int) : Bool := decide (l.length ≤ 300) && l.all (fun x => decide (0 ≤ x))
theorem natB_neg {l : List Int} {i : Nat} (h : i < l.length) (hn : rd l (i : Int) < 0) : natB l = false := by
  refine Bool.eq_false_iff.mpr (fun ht => ?_)
  unfold natB at ht
  rw [Bool.and_eq_true] at ht
  have := List.all_eq_true.mp ht.2 (rd l (i : Int)) (by unfold rd; rw [Int.toNat_natCast, List.getD_eq_getElem?_getD, List.getElem?_eq_getElem h]; exact List.getElem_mem h)
  simp at this; omega
theorem natB_end {l : List Int} {i : Nat} (hi : i = min l.length 301) (h : ∀ j : Nat, j < i → 0 ≤ rd l (j : Int)) : natB l = decide ((l.length : Int) ≤ 300) := by
  unfold natB
  by_cases c : l.length ≤ 300
  · have e : l.all (fun x => decide (0 ≤ x)) = true := by
      refine List.all_eq_true.mpr (fun x hx => ?_)
      obtain ⟨j, hj, rfl⟩ := List.getElem_of_mem hx
      have := h j (by omega)
      unfold rd at this
      rw [Int.toNat_natCast, List.getD_eq_getElem?_getD, List.getElem?_eq_getElem hj] at this
      exact decide_eq_true this
    rw [e, decide_eq_true c, decide_eq_true (by omega : (l.length : Int) ≤ 300)]; rfl
  · rw [decide_eq_false c, decide_eq_false (by omega : ¬ (l.length : Int) ≤ 300)]; rfl
theorem natural_l0 (l : List Int) : ∀ d i : Nat, i + d = min l.length 301 → (∀ j : Nat, j < i → 0 ≤ rd l (j : Int)) → Ev (fun k => skiarealaw03_natural.l0 k l (i : Int)) (natB l) := by
  intro d
  induction d with
  | zero =>
    intro i hi h
    rw [natB_end (by omega) h]
    by_cases c : (i : Int) < (l.length : Int)
    · have c2 : decide ((i : Int) < 301) = false := decide_eq_false (by omega)
      refine Ev.step (f := fun k => skiarealaw03_natural.j1 k l (i : Int) false) (fun k => by simp only [skiarealaw03_natural.l0, if_pos c, c2]) ?_
      exact Ev.at1 (fun k => by simp only [skiarealaw03_natural.j1, Bool.false_eq_true, if_false])
    · refine Ev.step (f := fun k => skiarealaw03_natural.j1 k l (i : Int) false) (fun k => by simp only [skiarealaw03_natural.l0, if_neg c]) ?_
      exact Ev.at1 (fun k => by simp only [skiarealaw03_natural.j1, Bool.false_eq_true, if_false])
  | succ d ih =>
    intro i hi h
    have c : (i : Int) < (l.length : Int) := by omega
    have c2 : decide ((i : Int) < 301) = true := decide_eq_true (by omega)
    have c0 : (0 : Int) ≤ (i : Int) := by omega
    have hw : wrap64 ((i : Int) + 1) = ((i + 1 : Nat) : Int) := by unfold wrap64; omega
    refine Ev.step (f := fun k => skiarealaw03_natural.j1 k l (i : Int) true) (fun k => by simp only [skiarealaw03_natural.l0, if_pos c, c2]) ?_
    by_cases hn : rd l (i : Int) < 0
    · rw [natB_neg (by omega) hn]
      exact Ev.at1 (fun k => by simp only [skiarealaw03_natural.j1, if_true, if_pos c, if_pos c0, if_pos hn])
    · refine Ev.step (f := fun k => skiarealaw03_natural.l0 k l ((i + 1 : Nat) : Int)) (fun k => by simp only [skiarealaw03_natural.j1, if_true, if_pos c, if_pos c0, if_neg hn, hw]) ?_
      exact ih (i + 1) (by omega) (fun j hj => by
        by_cases e : j = i
        · subst e; omega
        · exact h j (by omega))
theorem natural_ev (l : List Int) : Ev (fun k => skiarealaw03_natural.f k l) (natB l) :=
  natural_l0 l (min l.length 301) 0 (by omega) (fun j hj => absurd hj (by omega))
theorem natB_of {l : List Int} (hw : ∀ x ∈ l, x < 9223372036854775808) (h : natB l = true) : l.length ≤ 300 ∧ Nats l := by
  unfold natB at h
  rw [Bool.and_eq_true] at h
  refine ⟨of_decide_eq_true h.1, fun x hx => ⟨?_, hw x hx⟩⟩
  exact of_decide_eq_true (List.all_eq_true.mp h.2 x hx)
theorem xor8 {a b : Int} (ha : 0 ≤ a ∧ a < 256) (hb : 0 ≤ b ∧ b < 256) : ∃ c : Nat, Go.bits .xor .u8 a b = (c : Int) ∧ c < 256 ∧ ((c : Int) = a ↔ b = 0) := by
  obtain ⟨x, rfl⟩ := Int.eq_ofNat_of_zero_le ha.1
  obtain ⟨y, rfl⟩ := Int.eq_ofNat_of_zero_le hb.1
  have hx : x < 2 ^ 8 := by have := ha.2; omega
  have hy : y < 2 ^ 8 := by have := hb.2; omega
  have hc := Nat.xor_lt_two_pow hx hy
  refine ⟨x ^^^ y, ?_, by omega, ?_⟩
  · rw [bits_xor_nat .u8 x y hx hy]
    generalize x ^^^ y = z at hc
    simp [IntKind.wrap, IntKind.bits, IntKind.signed]
    omega
  · constructor
    · intro e
      have e2 : x ^^^ y = x ^^^ 0 := by rw [Nat.xor_zero]; exact Int.ofNat.inj e
      rw [xor_inj _ _ _ e2]; rfl
    · intro e
      have : y = 0 := by omega
      rw [this, Nat.xor_zero]
theorem set_bytes {l : List Int} (hb : Bytes l) (i : Nat) {v : Int} (hv : 0 ≤ v ∧ v < 256) : Bytes (l.set i v) := fun x hx => by
  rcases List.mem_or_eq_of_mem_set hx with h | h
  · exact hb x h
  · rw [h]; exact hv
theorem back_j2 (b r : List Int) (hb : Bytes b) (hbl : b.length ≤ 3000) (hr : Bytes r) (hrl : r.length ≤ 3000) (n : Int) (s : ByteArray) (l b' r' : List Int) (at_ ch : Int) (ha : -9223372036854775808 ≤ at_ ∧ at_ < 9223372036854775808) (hc : 0 ≤ ch ∧ ch < 256) :
    Ev (fun k => skiarealaw03_CodecBack.j2 k b r (frameN b) false n s l b' r' at_ ch) true := by
  have hlen := frameN_len b
  have hp9 := putN_len9 b.length (by omega)
  have hfb := frameN_bytes hb
  have hw : wrap64 (wrap64 (((frameN b).length : Int) - (b.length : Int)) - 4) = ((putN b.length).length : Int) := by unfold wrap64; omega
  refine Ev.step (fun k => rfl) ?_
  simp only [skiarealaw03_CodecBack.j2, Bool.false_eq_true, if_false, hw]
  by_cases c1 : ch = 0
  · simp only [if_pos c1]; exact Ev.now _
  · simp only [if_neg c1]
    by_cases c2 : at_ < ((putN b.length).length : Int)
    · simp only [if_pos c2]; exact Ev.now _
    · simp only [if_neg c2]
      by_cases c3 : at_ ≥ ((frameN b).length : Int)
      · simp only [if_pos c3]; exact Ev.now _
      · simp only [if_neg c3]
        obtain ⟨i, rfl⟩ := Int.eq_ofNat_of_zero_le (by omega : 0 ≤ at_)
        have p1 : 0 + (frameN b).length < 140737488355328 := by omega
        have p2 : (0 : Int) ≤ (i : Int) := by omega
        have p3 : (i : Int) < ((frameN b).length : Int) := by omega
        obtain ⟨c, e1, e2, e3⟩ := xor8 (hfb.at i) hc
        have hrd : rd (frameN b) (i : Int) = (frameN b).getD i 0 := by unfold rd; rw [Int.toNat_natCast]
        have p4 : ((frameN b).set i (c : Int)).length + r.length < 140737488355328 := by rw [List.length_set]; omega
        simp only [Option.bind_some, List.length_nil, List.nil_append, if_pos p1, if_pos p2, if_pos p3, hrd, e1, Int.toNat_natCast, if_pos p4]
        have hD := unI_damaged b r hb (by omega) i (c : Int) (by omega) (by omega) (by omega) (by omega) (fun e => c1 (e3.mp e.symm))
        have U := unframe_ev ((frameN b).set i (c : Int) ++ r) ((set_bytes hfb i (by omega)).append hr) (by rw [List.length_append, List.length_set]; omega)
        rw [hD] at U
        refine Ev.bind U ?_
        exact Ev.now _
theorem back_j1 (b r : List Int) (hb : Bytes b) (hbl : b.length ≤ 3000) (hr : Bytes r) (hrl : r.length ≤ 3000) (A B C : List Int) (n : Int) (s : ByteArray) (l b' r' : List Int) (at_ ch : Int) (ha : -9223372036854775808 ≤ at_ ∧ at_ < 9223372036854775808) (hc : 0 ≤ ch ∧ ch < 256) :
    Ev (fun k => skiarealaw03_CodecBack.j1 k b r A ((A.length : Nat) : Int) B ((B.length : Nat) : Int) C ((C.length : Nat) : Int) (frameN b) (((frameN b).length : Nat) : Int) false n s l b' r' at_ ch) true := by
  have hlen := frameN_len b
  obtain ⟨_, f, _⟩ := putN_form b.length
  have hpos : 1 ≤ (putN b.length).length := by
    rcases Nat.eq_zero_or_pos (putN b.length).length with h | h
    · exact absurd (List.eq_nil_of_length_eq_zero h) (putN_ne b.length)
    · exact h
  have hd : decide (((frameN b).length : Int) < wrap64 ((b.length : Int) + 5)) = false := decide_eq_false (by unfold wrap64; omega)
  refine Ev.step (fun k => rfl) ?_
  simp only [skiarealaw03_CodecBack.j1, Bool.false_eq_true, if_false, if_true, hd]
  exact back_j2 b r hb hbl hr hrl n s l b' r' at_ ch ha hc
theorem back_j0 (n : Int) (s : ByteArray) (l b r : List Int) (hn : 0 ≤ n ∧ n < 9223372036854775808) (hs : s.size ≤ 2000) (hl : Nats l) (hll : l.length ≤ 300) (hb : Bytes b) (hbl : b.length ≤ 3000) (hr : Bytes r) (hrl : r.length ≤ 3000) (n' : Int) (s' : ByteArray) (l' b' r' : List Int) (at_ ch : Int) (ha : -9223372036854775808 ≤ at_ ∧ at_ < 9223372036854775808) (hc : 0 ≤ ch ∧ ch < 256) :
    Ev (fun k => skiarealaw03_CodecBack.j0 k n s l b r false n' s' l' b' r' at_ ch) true := by
  obtain ⟨m, rfl⟩ := Int.eq_ofNat_of_zero_le hn.1
  have lA := putN_len9 m (by omega)
  have lB0 := putN_len9 s.size (by omega)
  have lB := bytesOf_len s
  have lC0 := putN_len9 l.length (by omega)
  have lC := putL_len l (fun x hx => (hl x hx).2)
  have lD := frameN_len b
  have lD0 := putN_len9 b.length (by omega)
  have eA := put_ev [] (m : Int) hn.2 (by simp)
  have eB := puttext_ev [] s (by omega) (by simp) (by simp; omega)
  have eC := putlist_ev [] l (fun x hx => (hl x hx).2) (by omega) (by simp)
  have eD := frame_ev b hb (by omega)
  have gA := get_ev (putN m ++ r) ((putN_bytes m).append hr)
  rw [getI_put m r (by omega)] at gA
  have gB := gettext_ev (putN s.size ++ bytesOf s ++ r) (((putN_bytes _).append (bytes_of_bytesOf s)).append hr) (by rw [List.length_append, List.length_append, lB]; omega)
  have tB := textI_put (bytesOf s) r (by rw [lB]; exact hs)
  rw [lB] at tB
  rw [tB, str_bytes] at gB
  have gC := getlist_ev (putN l.length ++ putL l ++ r) (((putN_bytes _).append (putL_bytes l)).append hr) (by rw [List.length_append, List.length_append]; omega)
  rw [listI_put l r hl (by omega)] at gC
  have gD := unframe_ev (frameN b ++ r) ((frameN_bytes hb).append hr) (by rw [List.length_append]; omega)
  rw [unI_frame b r hb (by omega)] at gD
  have S := samelist_ev l (by omega)
  have T := same_self hb
  rw [List.nil_append, Int.toNat_natCast] at eA
  rw [List.nil_append] at eB eC
  have J := fun A B C => back_j1 b r hb hbl hr hrl A B C n' s' l' b' r' at_ ch ha hc
  refine Ev.step (fun k => rfl) ?_
  simp only [skiarealaw03_CodecBack.j0, Bool.false_eq_true, if_false]
  refine Ev.bind eA ?_
  have a1 : 0 + (putN m).length < 140737488355328 := by omega
  have a2 : (putN m).length + r.length < 140737488355328 := by omega
  simp only [Option.bind_some, List.length_nil, List.nil_append, if_pos a1, if_pos a2]
  refine Ev.bind gA ?_
  refine Ev.bind eB ?_
  have b0 : (putN s.size ++ bytesOf s).length = (putN s.size).length + s.size := by rw [List.length_append, lB]
  have b1 : 0 + (putN s.size ++ bytesOf s).length < 140737488355328 := by omega
  have b2 : (putN s.size ++ bytesOf s).length + r.length < 140737488355328 := by omega
  simp only [if_pos b1, if_pos b2]
  refine Ev.bind gB ?_
  refine Ev.bind eC ?_
  have d0 : (putN l.length ++ putL l).length = (putN l.length).length + (putL l).length := by rw [List.length_append]
  have d1 : 0 + (putN l.length ++ putL l).length < 140737488355328 := by omega
  have d2 : (putN l.length ++ putL l).length + r.length < 140737488355328 := by omega
  simp only [if_pos d1, if_pos d2]
  refine Ev.bind gC ?_
  refine Ev.bind eD ?_
  have f1 : 0 + (frameN b).length < 140737488355328 := by omega
  have f2 : (frameN b).length + r.length < 140737488355328 := by omega
  simp only [if_pos f1, if_pos f2]
  refine Ev.bind gD ?_
  simp only [eq_self, if_true]
  refine Ev.bind S ?_
  simp only [if_true, T, Option.bind_some, Bool.not_true]
  exact J _ _ _
/-- The law's function over what is sent. -/
theorem CodecBack (n : Int) (s : ByteArray) (l b r : List Int) (at_ ch : Int) (hn : (Lit.int .i64 n).wf = true) (hl : ∀ x ∈ l, (Lit.int .i64 x).wf = true) (hb : ∀ x ∈ b, (Lit.int .u8 x).wf = true) (hr : ∀ x ∈ r, (Lit.int .u8 x).wf = true) (ha : (Lit.int .i64 at_).wf = true) (hc : (Lit.int .u8 ch).wf = true) :
    ∃ k, skiarealaw03_CodecBack.f k n s l b r at_ ch = some true := by
  have i64_bd : ∀ {a : Int}, (Lit.int .i64 a).wf = true → -9223372036854775808 ≤ a ∧ a < 9223372036854775808 := fun {a} h => by
    simp [Lit.wf, IntKind.min, IntKind.max, IntKind.bits, IntKind.signed] at h
    omega
  have u8_bd : 0 ≤ ch ∧ ch < 256 := by
    simp [Lit.wf, IntKind.min, IntKind.max, IntKind.bits, IntKind.signed] at hc
    omega
  have hbb := Bytes.of_wf hb
  have hrb := Bytes.of_wf hr
  have hN := natural_ev l
  refine Ev.rounds ?_
  unfold skiarealaw03_CodecBack.f
  refine Ev.bind alive_ev ?_
  simp only [if_true]
  have E := fun (n' : Int) (s' : ByteArray) (l' b' r' : List Int) => (Ev.at1 (g := fun k => skiarealaw03_CodecBack.j0 k n s l b r true n' s' l' b' r' at_ ch) (r := true) (fun k => by simp only [skiarealaw03_CodecBack.j0, if_true]))
  by_cases c1 : n < 0
  · simp only [if_pos c1]; exact E _ _ _ _ _
  · simp only [if_neg c1]
    by_cases c2 : (s.size : Int) > 2000
    · simp only [if_pos c2]; exact E _ _ _ _ _
    · simp only [if_neg c2]
      refine Ev.bind hN ?_
      by_cases c3 : natB l = true
      · simp only [if_pos c3]
        by_cases c4 : (b.length : Int) > 3000
        · simp only [if_pos c4]; exact E _ _ _ _ _
        · simp only [if_neg c4]
          by_cases c5 : (r.length : Int) > 3000
          · simp only [decide_eq_true c5]; exact E _ _ _ _ _
          · simp only [decide_eq_false c5]
            obtain ⟨h3, hN2⟩ := natB_of (fun x hx => (i64_bd (hl x hx)).2) c3
            exact back_j0 n s l b r ⟨by omega, (i64_bd hn).2⟩ (by omega) hN2 h3 hbb (by omega) hrb (by omega) _ _ _ _ _ at_ ch (i64_bd ha) u8_bd
      · simp only [if_neg c3]; exact E _ _ _ _ _
end Go.Proofs.Ytiifecmecphaeaa.Pure
