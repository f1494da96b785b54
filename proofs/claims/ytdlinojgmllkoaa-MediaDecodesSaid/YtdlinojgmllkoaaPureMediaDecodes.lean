/- Decode returns the specified medium or error for any bytes. Condition: the statement's own bound of 1000 bytes. -/
import Derived.Test.YtdlinojgmllkoaaQmMediaDecodes1
import Derived.Test.YtdlinojgmllkoaaMm
set_option linter.unusedSimpArgs false
set_option linter.unusedVariables false
namespace Go.Proofs.Ytdlinojgmllkoaa.Pure
open Go.RowKit Go.Proofs.Ytdlinojgmllkoaa.Q Go.Proofs.YtdlinojgmllkoaaW.PrintWords Go.Proofs.YtdlinojgmllkoaaW.PrintLast Go.Proofs.YtdlinojgmllkoaaW.PrintMore Go.Proofs.Ytdlinojgmllkoaa.MSeal Go.Proofs.Ytdlinojgmllkoaa.MCrc Go.Proofs.Ytdlinojgmllkoaa.MCodec Go.Proofs.Ytdlinojgmllkoaa.MMedia

theorem wrap_id {i : Int} (h0 : -9223372036854775808 ≤ i) (h : i < 9223372036854775808) : wrap64 i = i := by unfold wrap64; omega
theorem rd_nat (l : List Int) (i : Nat) : rd l (i : Int) = l.getD i 0 := by unfold rd; rw [Int.toNat_natCast]
theorem Ev.at1 {α : Type} {g : Nat → Option α} {r : α} (h : ∀ k, g (k + 1) = some r) : Ev g r := Ev.step h (Ev.now r)
theorem Ev.fix {α : Type} {g : Nat → Option α} {r : α} (h : ∀ k, g k = some r) : Ev g r := Ev.congr h (Ev.now r)
theorem u64_of {a : Int} (h : (Lit.int .u64 a).wf = true) : ∃ n : Nat, a = n ∧ n < 2 ^ 64 := by
  simp [Lit.wf, IntKind.min, IntKind.max, IntKind.bits, IntKind.signed] at h
  exact ⟨a.toNat, by omega, by omega⟩
theorem mix_f (a : Nat) (ha : a < 2 ^ 64) : seal_Mix.f (a : Int) = some ((mixN a : Nat) : Int) := by
  unfold seal_Mix.f; rw [mix_text a ha]
theorem mix_xor (a b : Nat) (ha : a < 2 ^ 64) (hb : b < 2 ^ 64) : seal_Mix.f (Go.bits .xor .u64 (a : Int) (b : Int)) = some ((mixN (a ^^^ b) : Nat) : Int) := by
  rw [xor_u64 a b ha hb, mix_f _ (Nat.xor_lt_two_pow ha hb)]
theorem wrap_at {i : Int} (h0 : 0 ≤ i) (h : i ≤ 140737488351240) : wrap64 i = i := by unfold wrap64; omega
/-- One byte more of a block. -/
theorem or_byte (b : List Int) (i : Nat) (hb : Bytes b) (hi : i < b.length) (h8 : b.length ≤ 8) :
    Go.bits .or .u64 ((blk (b.take i) : Nat) : Int) (shl .u64 (IntKind.u64.wrap (rd b i)) (wrap64 (8 * (i : Int)))) = ((blk (b.take (i + 1)) : Nat) : Int) := by
  have hx := hb.at i
  have hrd : rd b (i : Int) = b.getD i 0 := by unfold rd; simp
  obtain ⟨x, hxe⟩ := Int.eq_ofNat_of_zero_le hx.1
  have hx256 : x < 256 := by omega
  rw [hrd, hxe]
  have hw : wrap64 (8 * (i : Int)) = 8 * (i : Int) := wrap_at (by omega) (by omega)
  rw [hw, u64_nat x (by omega)]
  have hp : (256 : Nat) ^ i = 2 ^ (8 * i) := by rw [Nat.pow_mul]
  have hs : shl .u64 (x : Int) (8 * (i : Int)) = ((2 ^ (8 * i) * x : Nat) : Int) := by
    unfold shl
    have e1 : (8 * (i : Int)).toNat = 8 * i := by omega
    have e2 : min (8 * i) IntKind.u64.bits = 8 * i := Nat.min_eq_left (by simp [IntKind.bits]; omega)
    rw [e1, e2]
    have hlt : 2 ^ (8 * i) * x < 2 ^ 64 := by
      have h1 : 2 ^ (8 * i) * x < 2 ^ (8 * i) * 256 := Nat.mul_lt_mul_of_pos_left hx256 (Nat.two_pow_pos _)
      have h2 : 2 ^ (8 * i) * 256 = 2 ^ (8 * i + 8) := by rw [Nat.pow_add]
      have h3 : 2 ^ (8 * i + 8) ≤ 2 ^ 64 := Nat.pow_le_pow_right (by decide) (by omega)
      omega
    have e3 : (x : Int) * 2 ^ (8 * i) = ((2 ^ (8 * i) * x : Nat) : Int) := by push_cast; rw [Int.mul_comm]
    rw [e3, u64_nat _ hlt]
  have hl : (b.take i).length = i := by simp; omega
  have ha : blk (b.take i) < 2 ^ (8 * i) := by
    have := blk_lt (hb.take i); rw [hl, hp] at this; exact this
  have h64 : 2 ^ (8 * i) ≤ 2 ^ 64 := Nat.pow_le_pow_right (by decide) (by omega)
  have hlt : 2 ^ (8 * i) * x < 2 ^ 64 := by
    have h1 : 2 ^ (8 * i) * x < 2 ^ (8 * i) * 256 := Nat.mul_lt_mul_of_pos_left hx256 (Nat.two_pow_pos _)
    have h2 : 2 ^ (8 * i) * 256 = 2 ^ (8 * i + 8) := by rw [Nat.pow_add]
    have h3 : 2 ^ (8 * i + 8) ≤ 2 ^ 64 := Nat.pow_le_pow_right (by decide) (by omega)
    omega
  rw [hs, or_u64 _ _ (by omega) hlt, Nat.or_comm, ← Nat.two_pow_add_eq_or_of_lt ha]
  have ht : b.take (i + 1) = b.take i ++ [b.getD i 0] := by
    rw [List.take_succ_eq_append_getElem hi, List.getD_eq_getElem?_getD, List.getElem?_eq_getElem hi]; rfl
  rw [ht, blk_snoc, hl, hp, hxe]
  simp [Nat.add_comm]
theorem tag_l1 (l b : List Int) (hb : Bytes b) (h8 : b.length ≤ 8) (h : Nat) (hh : h < 2 ^ 64) (n sz : Int) (hs : 0 ≤ sz) (hsl : sz ≤ l.length) (R : Int)
    (H : Ev (fun k => seal_Tag.l0 k (l.drop sz.toNat) ((mixN (h ^^^ blk b) : Nat) : Int) n) R) :
    ∀ d i : Nat, i + d = b.length → Ev (fun k => seal_Tag.l1 k l (h : Int) n sz ((blk (b.take i) : Nat) : Int) b (b.length : Int) (i : Int)) R := by
  intro d
  induction d with
  | zero =>
    intro i hi
    refine Ev.step (fun k => ?_) H
    simp only [seal_Tag.l1]
    rw [if_neg (by omega), List.take_of_length_le (by omega), mix_xor _ _ hh (blk_lt64 hb h8)]
    simp only [Option.bind_some]
    rw [if_pos hs, if_pos hsl]
  | succ d ih =>
    intro i hi
    refine Ev.step (fun k => ?_) (ih (i + 1) (by omega))
    simp only [seal_Tag.l1]
    have hw : wrap64 (8 * (i : Int)) = 8 * (i : Int) := wrap_at (by omega) (by omega)
    have hw2 : wrap64 ((i : Int) + 1) = ((i + 1 : Nat) : Int) := by rw [wrap_at (by omega) (by omega)]; rfl
    rw [if_pos (by omega), if_pos (by omega), if_pos (by omega), if_pos (by rw [hw]; omega), or_byte b i hb (by omega) h8, hw2]
theorem tag_l0 (n : Nat) (hn : n < 2 ^ 64) (l : List Int) : ∀ (h : Nat), h < 2 ^ 64 → Bytes l → Ev (fun k => seal_Tag.l0 k l (h : Int) (n : Int)) ((mixN (tags h l ^^^ n) : Nat) : Int) := by
  refine tags_ind (P := fun l => ∀ (h : Nat), h < 2 ^ 64 → Bytes l → Ev (fun k => seal_Tag.l0 k l (h : Int) (n : Int)) ((mixN (tags h l ^^^ n) : Nat) : Int)) ?_ ?_ l
  · intro h hh _
    refine ⟨1, fun k hk => ?_⟩
    obtain ⟨k, rfl⟩ : ∃ m, k = m + 1 := ⟨k - 1, by omega⟩
    simp only [seal_Tag.l0]
    rw [if_neg (by simp), mix_xor _ _ hh hn, tags_nil]; rfl
  · intro l hl ih h hh hb
    have hlen : 0 < l.length := List.length_pos_iff.mpr hl
    have hm : 0 ≤ mn 8 (l.length : Int) ∧ mn 8 (l.length : Int) ≤ l.length ∧ (mn 8 (l.length : Int)).toNat ≤ 8 := by unfold mn; split <;> omega
    have hbt := hb.take (mn 8 (l.length : Int)).toNat
    have ht : l.take (mn 8 (l.length : Int)).toNat = l.take 8 := by
      unfold mn
      by_cases h8 : (l.length : Int) < 8
      · rw [if_pos h8, List.take_of_length_le (by omega), List.take_of_length_le (by omega)]
      · rw [if_neg h8]; rfl
    have hd : l.drop (mn 8 (l.length : Int)).toNat = l.drop 8 := by
      unfold mn
      by_cases h8 : (l.length : Int) < 8
      · rw [if_pos h8, List.drop_eq_nil_of_le (by omega), List.drop_eq_nil_of_le (by omega)]
      · rw [if_neg h8]; rfl
    rw [tags_cons _ _ hl]
    have H : Ev (fun k => seal_Tag.l0 k (l.drop (mn 8 (l.length : Int)).toNat) ((mixN (h ^^^ blk (l.take 8)) : Nat) : Int) (n : Int)) ((mixN (tags (mixN (h ^^^ blk (l.take 8))) (l.drop 8) ^^^ n) : Nat) : Int) := by
      rw [hd]; exact ih (mixN (h ^^^ blk (l.take 8))) (mixN_lt _) (hb.drop 8)
    rw [ht] at hbt
    refine Ev.step (fun k => ?_) (tag_l1 l (l.take 8) hbt (List.length_take_le _ _) h hh n _ hm.1 hm.2.1 _ H (l.take 8).length 0 (by omega))
    simp only [seal_Tag.l0]
    rw [if_pos (by omega), if_pos hm.1, if_pos hm.2.1, ht]
    rfl
theorem tag_ev (key : Nat) (l : List Int) (hk : key < 2 ^ 64) (hb : Bytes l) (hl : l.length ≤ 140737488351232) : Ev (fun k => seal_Tag.f k (key : Int) l) ((tagN key l : Nat) : Int) := by
  unfold seal_Tag.f tagN
  rw [mix_f _ hk]
  simp only [Option.bind_some]
  rw [u64_nat l.length (by omega)]
  exact tag_l0 l.length (by omega) l (mixN key) (mixN_lt _) hb
theorem key_text (key : Nat) (i : Int) : (IntKind.u64.wrap ((key : Int) + (IntKind.u64.wrap ((IntKind.u64.wrap i) * 11400714819323198485)))) = (((key + (i % 18446744073709551616).toNat * 11400714819323198485) % 2 ^ 64 : Nat) : Int) := by
  rw [u64_wrap, u64_wrap, u64_wrap]
  omega
theorem key_f (key : Nat) (i : Int) : seal_Key.f (key : Int) i = some ((keyN key i : Nat) : Int) := by
  unfold seal_Key.f keyN
  rw [key_text, mix_f _ (Nat.mod_lt _ (by decide))]
  rfl
theorem or128 (x : Nat) (h : x < 256) : x ||| 128 = x % 128 + 128 := by
  have : ∀ y : Fin 256, y.val ||| 128 = y.val % 128 + 128 := by decide +kernel
  exact this ⟨x, h⟩
theorem or_u8 (n : Nat) : Go.bits .or .u8 ((n : Int) % 256) 128 = ((n % 128 + 128 : Nat) : Int) := by
  have e : Go.bits .or .u8 ((n % 256 : Nat) : Int) ((128 : Nat) : Int) = IntKind.u8.wrap ((n % 256 ||| 128 : Nat) : Int) := bits_or_nat .u8 (n % 256) 128 (by simp [IntKind.bits]; omega) (by decide)
  rw [or128 _ (by omega), IntKind.wrap_u8] at e
  have e2 : ((n % 256 : Nat) : Int) = (n : Int) % 256 := by omega
  rw [e2] at e
  exact e.trans (by omega)
theorem add_l0 (m : Nat) : ∀ (n : Nat) (l : List Int), n < 128 ^ m → 0 < m → l.length + m ≤ 140737488355328 → Ev (fun k => codec_add.l0 k l (n : Int)) (l ++ putN n) := by
  induction m with
  | zero => intro n l _ h; omega
  | succ m ih =>
    intro n l hn _ hl
    by_cases h : n < 128
    · refine Ev.at1 (fun k => ?_)
      simp only [codec_add.l0]
      rw [if_neg (by omega), if_pos (by omega), putN_small h]
      have : (n : Int) % 256 = n := by omega
      rw [this]
    · have h0 : 0 < m := by
        rcases Nat.eq_zero_or_pos m with rfl | h0
        · simp at hn; omega
        · exact h0
      have hd : n / 128 < 128 ^ m := by rw [Nat.pow_succ] at hn; exact Nat.div_lt_of_lt_mul (by omega)
      have H := ih (n / 128) (l ++ [((n % 128 + 128 : Nat) : Int)]) hd h0 (by simp; omega)
      rw [putN_big h]
      have e : l ++ ((n % 128 + 128 : Nat) : Int) :: putN (n / 128) = l ++ [((n % 128 + 128 : Nat) : Int)] ++ putN (n / 128) := by simp
      rw [e]
      refine Ev.step (fun k => ?_) H
      simp only [codec_add.l0]
      rw [if_pos (by omega), if_pos (by omega), or_u8]
      rfl
theorem add_ev (l : List Int) (a : Int) (ha : a < 9223372036854775808) (hl : l.length + 9 ≤ 140737488355328) : Ev (fun k => codec_add.f k l a) (l ++ putN a.toNat) := by
  have hm : mx a 0 = ((a.toNat : Nat) : Int) := by unfold mx; split <;> omega
  unfold codec_add.f
  rw [hm]
  exact add_l0 9 a.toNat l (by omega) (by decide) hl
theorem put_ev (l : List Int) (a : Int) (ha : a < 9223372036854775808) (hl : l.length + 9 ≤ 140737488355328) : Ev (fun k => codec_Put.f k l a) (l ++ putN a.toNat) := by
  unfold codec_Put.f
  have h0 : ([] : List Int).length + l.length < 140737488355328 := by simp; omega
  simp only [if_pos h0]
  exact Ev.bind (add_ev _ a ha hl) (Ev.now _)
theorem bytesOf_inj : ∀ {l m : List Int}, Bytes l → Bytes m → Lib.bytesOf l = Lib.bytesOf m → l = m
  | [], [], _, _, _ => rfl
  | x :: r, y :: s, hl, hm, h => by
    have hx := hl x (by simp)
    have hy := hm y (by simp)
    have h2 := List.cons.inj h
    have e := bytesOf_inj (fun z hz => hl z (by simp [hz])) (fun z hz => hm z (by simp [hz])) h2.2
    have e1 := congrArg UInt8.toNat h2.1
    simp only [UInt8.toNat_ofNat'] at e1
    have : x = y := by omega
    rw [this, e]
  | [], _ :: _, _, _, h => by simp [Lib.bytesOf] at h
  | _ :: _, [], _, _, h => by simp [Lib.bytesOf] at h
theorem same_f {l m : List Int} (hl : Bytes l) (hm : Bytes m) : skiarearef03_Same.f l m = some (decide (l = m)) := by
  unfold skiarearef03_Same.f
  rw [Lib.strOfNums_toList, Lib.strOfNums_toList]
  congr 1
  by_cases h : l = m
  · subst h; simp
  · have h2 : ¬ Lib.bytesOf l = Lib.bytesOf m := fun e => h (bytesOf_inj hl hm e)
    rw [decide_eq_false h]
    exact beq_eq_false_iff_ne.mpr h2
theorem same_self {l : List Int} (hl : Bytes l) : skiarearef03_Same.f l l = some true := by
  rw [same_f hl hl, decide_eq_true rfl]
theorem clear128 (c : Int) (h0 : 0 ≤ c) (h1 : c < 256) : Go.bits .andNot .u8 c 128 = c % 128 := by
  have : ∀ y : Fin 256, Go.bits .andNot .u8 (y.val : Int) 128 = (y.val : Int) % 128 := by decide +kernel
  have h9 := this ⟨c.toNat, by omega⟩
  have e : ((c.toNat : Nat) : Int) = c := by omega
  simp only [e] at h9
  exact h9
theorem get_or (acc i : Nat) (c : Int) (h0 : 0 ≤ c) (h1 : c < 256) (hi : i ≤ 8) (ha : acc < 128 ^ i) :
    Go.bits .or .i64 (acc : Int) (shl .i64 (wrap64 (Go.bits .andNot .u8 c 128)) (wrap64 (7 * (i : Int)))) = ((acc + 128 ^ i * (c.toNat % 128) : Nat) : Int) := by
  rw [clear128 c h0 h1, wrap_id (i := c % 128) (by omega) (by omega), wrap_id (i := 7 * (i : Int)) (by omega) (by omega)]
  have hp : (128 : Nat) ^ i = 2 ^ (7 * i) := by rw [Nat.pow_mul]
  have h56 : 2 ^ (7 * i) ≤ 2 ^ 56 := Nat.pow_le_pow_right (by decide) (by omega)
  have hx : c.toNat % 128 < 128 := by omega
  have hm : 2 ^ (7 * i) * (c.toNat % 128) ≤ 2 ^ 56 * 127 := Nat.mul_le_mul h56 (by omega)
  have hs : shl .i64 (c % 128) (7 * (i : Int)) = ((2 ^ (7 * i) * (c.toNat % 128) : Nat) : Int) := by
    unfold shl
    have e1 : (7 * (i : Int)).toNat = 7 * i := by omega
    have e2 : min (7 * i) IntKind.i64.bits = 7 * i := Nat.min_eq_left (by simp [IntKind.bits]; omega)
    rw [e1, e2]
    have e3 : c % 128 * 2 ^ (7 * i) = ((2 ^ (7 * i) * (c.toNat % 128) : Nat) : Int) := by
      have e4 : c % 128 = ((c.toNat % 128 : Nat) : Int) := by omega
      rw [e4, Int.natCast_mul, Int.mul_comm]; push_cast; rfl
    rw [e3, IntKind.wrap_i64]; omega
  rw [hp] at ha
  have ho := bits_or_nat .i64 acc (2 ^ (7 * i) * (c.toNat % 128)) (by simp [IntKind.bits]; omega) (by simp [IntKind.bits]; omega)
  rw [hs, ho, Nat.or_comm, ← Nat.two_pow_add_eq_or_of_lt ha, IntKind.wrap_i64, hp]
  omega
theorem get_l0 (l : List Int) (hb : Bytes l) : ∀ (d i : Nat), i + d = min 9 l.length →
    Ev (fun k => codec_Get.l0 k l ((valN (l.take i) : Nat) : Int) (l.take 9) (((l.take 9).length : Nat) : Int) (i : Int)) (getA l (9 - i) i) := by
  have hlen : (l.take 9).length = min 9 l.length := by simp
  intro d
  induction d with
  | zero =>
    intro i hi
    refine Ev.at1 (fun k => ?_)
    simp only [codec_Get.l0]
    rw [if_neg (by omega)]
    by_cases h9 : (l.length : Int) ≥ 9
    · rw [if_pos h9]
      have : 9 - i = 0 := by omega
      rw [this]; rfl
    · rw [if_neg h9]
      obtain ⟨m, hm⟩ : ∃ m, 9 - i = m + 1 := ⟨8 - i, by omega⟩
      rw [hm]
      simp only [getA]
      rw [if_pos (by omega)]
  | succ d ih =>
    intro i hi
    have hil : i < l.length := by omega
    have hby := hb.at i
    have hrd : rd (l.take 9) (i : Int) = l.getD i 0 := by
      rw [rd_nat, List.getD_eq_getElem?_getD, List.getD_eq_getElem?_getD, List.getElem?_take_of_lt (by omega)]
    have hv := valN_lt (l.take i)
    have hti : (l.take i).length = i := by simp; omega
    rw [hti] at hv
    have hor := get_or (valN (l.take i)) i (l.getD i 0) hby.1 hby.2 (by omega) hv
    have hval : valN (l.take i) + 128 ^ i * ((l.getD i 0).toNat % 128) = valN (l.take (i + 1)) := by
      rw [take_succ l i hil, valN_snoc, hti]
    rw [hval] at hor
    have HOR := Aside0.mk hor
    clear hor hval hv
    have hw : wrap64 (7 * (i : Int)) = 7 * (i : Int) := wrap_id (by omega) (by omega)
    have hw2 : wrap64 ((i : Int) + 1) = ((i + 1 : Nat) : Int) := by rw [wrap_id (by omega) (by omega)]; rfl
    obtain ⟨m, hm⟩ : ∃ m, 9 - i = m + 1 := ⟨8 - i, by omega⟩
    rw [hm]
    have hga : getA l (m + 1) i = if l.length ≤ i then (0, 0, 5) else if l.getD i 0 ≥ 128 then getA l m (i + 1) else if l.getD i 0 = 0 ∧ 0 < i then (0, 0, 3) else (((valN (l.take (i + 1)) : Nat) : Int), ((i + 1 : Nat) : Int), 0) := rfl
    rw [hga, if_neg (by omega)]
    by_cases h2 : l.getD i 0 ≥ 128
    · rw [if_pos h2]
      have hm2 : m = 9 - (i + 1) := by omega
      rw [hm2]
      refine Ev.step (fun k => ?_) (ih (i + 1) (by omega))
      simp only [codec_Get.l0]
      rw [if_pos (by omega), if_pos (by omega), if_pos (by omega), if_pos (by rw [hw]; omega), hrd, if_pos h2, HOR.out, hw2]
    · rw [if_neg h2]
      refine Ev.at1 (fun k => ?_)
      simp only [codec_Get.l0]
      rw [if_pos (by omega), if_pos (by omega), if_pos (by omega), if_pos (by rw [hw]; omega), hrd, if_neg h2, HOR.out, hw2]
      by_cases h3 : l.getD i 0 = 0
      · rw [if_pos h3]
        by_cases h4 : (i : Int) > 0
        · rw [if_pos h4, if_pos ⟨h3, by omega⟩]
        · rw [if_neg h4, if_neg (fun h => h4 (by omega))]
      · rw [if_neg h3, if_neg (fun h => h3 h.1)]
theorem get_ev (l : List Int) (hb : Bytes l) : Ev (fun k => codec_Get.f k l) (getI l) := by
  unfold codec_Get.f
  have hm : mn (l.length : Int) 9 = ((min 9 l.length : Nat) : Int) := by unfold mn; split <;> omega
  have ht : l.take (mn (l.length : Int) 9).toNat = l.take 9 := by
    rw [hm, Int.toNat_natCast]
    by_cases h : l.length ≤ 9
    · rw [Nat.min_eq_right h, List.take_of_length_le (Nat.le_refl _), List.take_of_length_le h]
    · rw [Nat.min_eq_left (by omega)]
  have H := get_l0 l hb (min 9 l.length) 0 (by omega)
  refine Ev.congr (fun k => ?_) H
  rw [if_pos (by rw [hm]; omega), if_pos (by rw [hm]; omega)]
  simp only [ht]
  rfl
theorem be4_int (s : Nat) : ([((s : Int) / 16777216) % 256, ((s : Int) / 65536) % 256, ((s : Int) / 256) % 256, (s : Int) % 256] : List Int) = be4 s := by
  simp only [be4, List.cons.injEq, and_true]
  omega
theorem frame_ev (l : List Int) (hb : Bytes l) (hl : l.length ≤ 140737488351232) : Ev (fun k => codec_Frame.f k l) (frameN l) := by
  unfold codec_Frame.f
  rw [codec_Sum.f_of hb (by omega)]
  simp only [Option.bind_some]
  refine Ev.bind (put_ev [] (l.length : Int) (by omega) (by simp)) ?_
  have h9 := putN_len9 l.length (by omega)
  refine Ev.fix (fun k => ?_)
  simp only [Int.toNat_natCast, List.nil_append]
  rw [if_pos (by omega), if_pos (by simp; omega), be4_int]
  rfl
theorem or_be (a b c d : Nat) (ha : a < 256) (hb : b < 256) (hc : c < 256) (hd : d < 256) :
    Go.bits .or .u32 (Go.bits .or .u32 (Go.bits .or .u32 ((((a : Int) % 4294967296) * 16777216) % 4294967296) ((((b : Int) % 4294967296) * 65536) % 4294967296)) ((((c : Int) % 4294967296) * 256) % 4294967296)) ((d : Int) % 4294967296) = ((a * 16777216 + b * 65536 + c * 256 + d : Nat) : Int) := by
  have e1 : (((a : Int) % 4294967296) * 16777216) % 4294967296 = ((a * 16777216 : Nat) : Int) := by omega
  have e2 : (((b : Int) % 4294967296) * 65536) % 4294967296 = ((b * 65536 : Nat) : Int) := by omega
  have e3 : (((c : Int) % 4294967296) * 256) % 4294967296 = ((c * 256 : Nat) : Int) := by omega
  have e4 : (d : Int) % 4294967296 = ((d : Nat) : Int) := by omega
  have o : ∀ x y i : Nat, 2 ^ i * x + y < 4294967296 → y < 2 ^ i → Go.bits .or .u32 ((2 ^ i * x : Nat) : Int) (y : Int) = ((2 ^ i * x + y : Nat) : Int) := fun x y i h1 h2 => by
    have h3 := bits_or_nat .u32 (2 ^ i * x) y (by simp [IntKind.bits]; omega) (by simp [IntKind.bits]; omega)
    rw [h3, ← Nat.two_pow_add_eq_or_of_lt h2, IntKind.wrap_u32]
    omega
  have o1 := o a (b * 65536) 24 (by omega) (by omega)
  have o2 := o (a * 256 + b) (c * 256) 16 (by omega) (by omega)
  have o3 := o (a * 65536 + b * 256 + c) d 8 (by omega) (by omega)
  rw [e1, e2, e3, e4]
  have f1 : a * 16777216 = 2 ^ 24 * a := by omega
  have f2 : 2 ^ 24 * a + b * 65536 = 2 ^ 16 * (a * 256 + b) := by omega
  have f3 : 2 ^ 16 * (a * 256 + b) + c * 256 = 2 ^ 8 * (a * 65536 + b * 256 + c) := by omega
  have f4 : 2 ^ 8 * (a * 65536 + b * 256 + c) + d = 2 ^ 24 * a + b * 65536 + c * 256 + d := by omega
  rw [f1, o1, f2, o2, f3, o3, f4]
theorem or_ofBe {l : List Int} (hb : Bytes l) :
    Go.bits .or .u32 (Go.bits .or .u32 (Go.bits .or .u32 (((rd l 0 % 4294967296) * 16777216) % 4294967296) (((rd l 1 % 4294967296) * 65536) % 4294967296)) (((rd l 2 % 4294967296) * 256) % 4294967296)) (rd l 3 % 4294967296) = ((ofBe l : Nat) : Int) := by
  have h0 := hb.at 0
  have h1 := hb.at 1
  have h2 := hb.at 2
  have h3 := hb.at 3
  have e0 : rd l 0 = (((l.getD 0 0).toNat : Nat) : Int) := by have : rd l 0 = l.getD 0 0 := rfl; rw [this]; omega
  have e1 : rd l 1 = (((l.getD 1 0).toNat : Nat) : Int) := by have : rd l 1 = l.getD 1 0 := rfl; rw [this]; omega
  have e2 : rd l 2 = (((l.getD 2 0).toNat : Nat) : Int) := by have : rd l 2 = l.getD 2 0 := rfl; rw [this]; omega
  have e3 : rd l 3 = (((l.getD 3 0).toNat : Nat) : Int) := by have : rd l 3 = l.getD 3 0 := rfl; rw [this]; omega
  rw [e0, e1, e2, e3, or_be _ _ _ _ (by omega) (by omega) (by omega) (by omega)]
  rfl
theorem cut_mid (l : List Int) (k n : Nat) : (l.take (k + n)).drop k = (l.drop k).take n := by
  rw [List.drop_take, Nat.add_sub_cancel_left]
theorem unframe_ev (l : List Int) (hb : Bytes l) (hl : l.length ≤ 140737488351232) : Ev (fun k => codec_Unframe.f k l) (unI l) := by
  unfold codec_Unframe.f
  refine Ev.bind (get_ev l hb) ?_
  unfold unI
  by_cases h1 : (getI l).2.2 = 0
  · obtain ⟨n, k, hg, hn, hk1, hk9, hkl, _⟩ := getI_tells hb h1
    rw [hg]
    refine Ev.fix (fun _ => ?_)
    simp only [if_true, ne_eq, not_true_eq_false, if_false, Int.toNat_natCast]
    by_cases h2 : (n : Int) > 65536
    · rw [if_pos h2, if_pos h2]
    · rw [if_neg h2, if_neg h2]
      have w1 : wrap64 ((l.length : Int) - (k : Int)) = (l.length : Int) - (k : Int) := wrap_id (by omega) (by omega)
      have w2 : wrap64 ((n : Int) + 4) = (n : Int) + 4 := wrap_id (by omega) (by omega)
      have w3 : wrap64 ((k : Int) + (n : Int)) = ((k + n : Nat) : Int) := by rw [wrap_id (by omega) (by omega)]; rfl
      rw [w1, w2, w3]
      have w4 : wrap64 (((k + n : Nat) : Int) + 4) = ((k + n + 4 : Nat) : Int) := by rw [wrap_id (by omega) (by omega)]; rfl
      rw [w4]
      by_cases h3 : (l.length : Int) - (k : Int) < (n : Int) + 4
      · rw [if_pos h3, if_pos h3]
      · rw [if_neg h3, if_neg h3]
        simp only [Int.toNat_natCast]
        rw [cut_mid l k n, cut_mid l (k + n) 4]
        have hb1 : Bytes ((l.drop k).take n) := (hb.drop k).take n
        have hb2 : Bytes ((l.drop (k + n)).take 4) := (hb.drop (k + n)).take 4
        have hl2 : ((l.drop (k + n)).take 4).length = 4 := by simp; omega
        have hl1 : ((l.drop k).take n).length = n := by simp; omega
        rw [if_pos (by omega), if_pos (by omega), if_pos (by omega), if_pos (by omega), if_pos (by omega), if_pos (by omega), codec_Sum.f_of hb1 (by omega), Option.bind_some]
        rw [if_pos (by omega), if_pos (by omega), if_pos (by omega), if_pos (by omega), or_ofBe hb2]
        have e9 : ((k : Int) + (n : Int)).toNat = k + n := by omega
        rw [e9]
        by_cases h4 : crcN ((l.drop k).take n) = ofBe ((l.drop (k + n)).take 4)
        · rw [if_pos (by rw [h4]), if_pos h4, if_pos (by simp; omega)]
          simp
        · rw [if_neg (by omega), if_neg h4]
  · rw [if_pos h1]
    refine Ev.fix (fun _ => ?_)
    simp only [if_neg h1]
/-- A medium's fields as the printed functions have them. -/
def T9 (m : Med) : Int × Int × Int × Int × Int × Int × Int × Int × Int := (m.s, m.c, m.p, m.f, m.l, m.t, m.i, m.a, m.g)
theorem right_j0 (m : Med) (b : Bool) : Ev (fun k => media_Right.j0 k b m.s m.c m.p m.f m.l m.t m.i m.a m.g) (if b = true then 2 else if stateB m = true then 10 else 0) := by
  refine Ev.at1 (fun k => ?_)
  simp only [media_Right.j0]
  cases b with
  | true => rfl
  | false =>
    simp only [Bool.false_eq_true, if_false]
    by_cases h : (m.f = -1 ∧ m.a ≠ -1) ∨ (m.a = -1 ∧ (m.i ≠ 0 ∨ m.t ≠ -1)) ∨ m.f > m.a
    · have e : stateB m = true := decide_eq_true h
      rw [e]
      simp only [if_true]
      repeat' split
      all_goals first | rfl | (exfalso; omega)
    · have e : stateB m = false := decide_eq_false h
      rw [e]
      simp only [Bool.false_eq_true, if_false]
      repeat' split
      all_goals first | rfl | (exfalso; omega)
theorem right_ev (m : Med) : Ev (fun k => media_Right.f k m.s m.c m.p m.f m.l m.t m.i m.a m.g) (rightM m) := by
  unfold media_Right.f media_within.f
  have two : Ev (fun k => media_Right.j0 k true m.s m.c m.p m.f m.l m.t m.i m.a m.g) 2 := right_j0 m true
  have bad : (rangeB m = false) → rightM m = 2 := fun h => by unfold rightM; rw [h]; rfl
  by_cases hr : rangeB m = true
  · have h := of_decide_eq_true hr
    obtain ⟨a1, a2, a3, a4, a5, a6, a7, a8, a9, b1, b2, b3, b4, b5, b6, b7⟩ := h
    have H := right_j0 m false
    have e : rightM m = (if false = true then 2 else if stateB m = true then 10 else 0) := by unfold rightM; rw [hr]; rfl
    rw [e]
    simp only [ge_iff_le, if_pos a1, if_pos a3, if_pos a5, if_pos a7, if_pos a9, if_pos b2, if_pos b4, if_pos b6, decide_eq_true a2, decide_eq_true a4, decide_eq_true a6, decide_eq_true a8, decide_eq_true b1, decide_eq_true b3, decide_eq_true b5, decide_eq_true b7, Option.bind_some, if_true, Bool.not_true]
    exact H
  · have hr2 : rangeB m = false := by simpa using hr
    rw [bad hr2]
    by_cases c1 : (1 ≤ m.s ∧ m.s ≤ 9999)
    · simp only [ge_iff_le, if_pos c1.1, decide_eq_true c1.2, Option.bind_some, if_true]
      by_cases c2 : (1 ≤ m.p ∧ m.p ≤ 9999)
      · simp only [if_pos c2.1, decide_eq_true c2.2, Option.bind_some, if_true]
        by_cases c3 : (0 ≤ m.c ∧ m.c ≤ 1000000)
        · simp only [if_pos c3.1, decide_eq_true c3.2, Option.bind_some, if_true]
          by_cases c4 : (-1 ≤ m.f ∧ m.f ≤ 20000000)
          · simp only [if_pos c4.1, decide_eq_true c4.2, Option.bind_some, if_true]
            by_cases c5 : (-1 ≤ m.a ∧ m.a ≤ 20000000)
            · simp only [if_pos c5.1, decide_eq_true c5.2, Option.bind_some, if_true]
              by_cases c6 : (0 ≤ m.l ∧ m.l ≤ 100)
              · simp only [if_pos c6.1, decide_eq_true c6.2, Option.bind_some, if_true]
                by_cases c7 : (-1 ≤ m.t ∧ m.t ≤ 231)
                · simp only [if_pos c7.1, decide_eq_true c7.2, Option.bind_some, if_true]
                  have c8 : ¬ (0 ≤ m.i ∧ m.i ≤ 9999) := fun c8 => hr (decide_eq_true ⟨c1.1, c1.2, c2.1, c2.2, c3.1, c3.2, c4.1, c4.2, c5.1, c5.2, c6.1, c6.2, c7.1, c7.2, c8.1, c8.2⟩)
                  by_cases d : 0 ≤ m.i
                  · have d2 : ¬ m.i ≤ 9999 := fun d2 => c8 ⟨d, d2⟩
                    simp only [if_pos d, decide_eq_false d2, Option.bind_some, Bool.not_false]; exact two
                  · simp only [if_neg d, Option.bind_some, Bool.not_false]; exact two
                · by_cases d : -1 ≤ m.t
                  · have d2 : ¬ m.t ≤ 231 := fun d2 => c7 ⟨d, d2⟩
                    simp only [if_pos d, decide_eq_false d2, Option.bind_some, Bool.false_eq_true, if_false]; exact two
                  · simp only [if_neg d, Option.bind_some, Bool.false_eq_true, if_false]; exact two
              · by_cases d : 0 ≤ m.l
                · have d2 : ¬ m.l ≤ 100 := fun d2 => c6 ⟨d, d2⟩
                  simp only [if_pos d, decide_eq_false d2, Option.bind_some, Bool.false_eq_true, if_false]; exact two
                · simp only [if_neg d, Option.bind_some, Bool.false_eq_true, if_false]; exact two
            · by_cases d : -1 ≤ m.a
              · have d2 : ¬ m.a ≤ 20000000 := fun d2 => c5 ⟨d, d2⟩
                simp only [if_pos d, decide_eq_false d2, Option.bind_some, Bool.false_eq_true, if_false]; exact two
              · simp only [if_neg d, Option.bind_some, Bool.false_eq_true, if_false]; exact two
          · by_cases d : -1 ≤ m.f
            · have d2 : ¬ m.f ≤ 20000000 := fun d2 => c4 ⟨d, d2⟩
              simp only [if_pos d, decide_eq_false d2, Option.bind_some, Bool.false_eq_true, if_false]; exact two
            · simp only [if_neg d, Option.bind_some, Bool.false_eq_true, if_false]; exact two
        · by_cases d : 0 ≤ m.c
          · have d2 : ¬ m.c ≤ 1000000 := fun d2 => c3 ⟨d, d2⟩
            simp only [if_pos d, decide_eq_false d2, Option.bind_some, Bool.false_eq_true, if_false]; exact two
          · simp only [if_neg d, Option.bind_some, Bool.false_eq_true, if_false]; exact two
      · by_cases d : 1 ≤ m.p
        · have d2 : ¬ m.p ≤ 9999 := fun d2 => c2 ⟨d, d2⟩
          simp only [if_pos d, decide_eq_false d2, Option.bind_some, Bool.false_eq_true, if_false]; exact two
        · simp only [if_neg d, Option.bind_some, Bool.false_eq_true, if_false]; exact two
    · by_cases d : 1 ≤ m.s
      · have d2 : ¬ m.s ≤ 9999 := fun d2 => c1 ⟨d, d2⟩
        simp only [ge_iff_le, if_pos d, decide_eq_false d2, Option.bind_some, Bool.false_eq_true, if_false]; exact two
      · simp only [ge_iff_le, if_neg d, Option.bind_some, Bool.false_eq_true, if_false]; exact two
theorem body_l0 (x : List Int) (hx : Nats x) (h8 : x.length = 8) : ∀ (d i : Nat) (acc : List Int), i + d = 8 → acc.length ≤ 9 * i → Ev (fun k => media_Body.l0 k x acc (i : Int)) (acc ++ putL (x.drop i)) := by
  intro d
  induction d with
  | zero =>
    intro i acc hi ha
    refine Ev.at1 (fun k => ?_)
    simp only [media_Body.l0]
    rw [if_neg (by omega), List.drop_eq_nil_of_le (by omega)]
    simp [putL]
  | succ d ih =>
    intro i acc hi ha
    have hil : i < x.length := by omega
    have hmem := hx (x.getD i 0) (by rw [List.getD_eq_getElem?_getD, List.getElem?_eq_getElem hil]; exact List.getElem_mem hil)
    have h9 := putN_len9 (x.getD i 0).toNat (by omega)
    have H := ih (i + 1) (acc ++ putN (x.getD i 0).toNat) (by omega) (by rw [List.length_append]; omega)
    rw [drop_cons x i hil, putL_cons, ← List.append_assoc]
    refine Ev.step (f := fun k => (codec_Put.f k acc (x.getD i 0)).bind fun t => media_Body.l0 k x t ((i + 1 : Nat) : Int)) (fun k => ?_) (Ev.bind (put_ev acc _ hmem.2 (by omega)) H)
    simp only [media_Body.l0]
    rw [if_pos (by omega), if_pos (by omega), rd_nat]
    rfl
theorem body_ev {m : Med} (h : rightM m = 0) : Ev (fun k => media_Body.f k m.s m.c m.p m.f m.l m.t m.i m.a m.g) (bodyN m) := by
  have hr := right_range h
  have e3 : wrap64 (m.f + 1) = m.f + 1 := wrap_id (by omega) (by omega)
  have e5 : wrap64 (m.t + 1) = m.t + 1 := wrap_id (by omega) (by omega)
  have e7 : wrap64 (m.a + 1) = m.a + 1 := wrap_id (by omega) (by omega)
  unfold media_Body.f
  rw [e3, e5, e7]
  exact body_l0 (numsM m) (nums_nats h) rfl 8 0 [] rfl (by simp)
theorem sign_ev {m : Med} (h : rightM m = 0) (key : Nat) (hk : key < 2 ^ 64) : Ev (fun k => media_Sign.f k (key : Int) m.s m.c m.p m.f m.l m.t m.i m.a m.g) (T9 { m with g := (signN key m : Int) }) := by
  unfold media_Sign.f
  rw [key_f]
  simp only [Option.bind_some]
  refine Ev.bind (body_ev h) ?_
  have hl := body_len h
  refine Ev.bind (tag_ev (keyN key m.s) (bodyN m) (keyN_lt _ _) (body_bytes m) (by omega)) ?_
  exact Ev.now _
theorem check_ev (m : Med) (key : Nat) (hk : key < 2 ^ 64) : Ev (fun k => media_Check.f k (key : Int) m.s m.c m.p m.f m.l m.t m.i m.a m.g) (decide (rightM m = 0 ∧ m.g = (signN key m : Int))) := by
  unfold media_Check.f
  refine Ev.bind (right_ev m) ?_
  by_cases h : rightM m = 0
  · simp only [if_pos h]
    refine Ev.bind (sign_ev h key hk) ?_
    refine Ev.fix (fun k => ?_)
    simp only [T9, BEq.rfl, Bool.true_and]
    congr 1
    by_cases hg : m.g = (signN key m : Int)
    · rw [decide_eq_true ⟨h, hg⟩, hg, BEq.rfl]
    · rw [decide_eq_false (fun e => hg e.2)]
      exact beq_eq_false_iff_ne.mpr (fun e => hg e.symm)
  · simp only [if_neg h]
    refine Ev.fix (fun k => ?_)
    rw [decide_eq_false (fun e => h e.1)]
theorem shr8 (g : Nat) (i : Nat) (hi : i < 8) (hg : g < 2 ^ 64) : (shr .u64 (g : Int) (wrap64 (8 * (wrap64 (7 - (i : Int)))))) % 256 = (be8 g).getD i 0 := by
  rw [be8_at g i hi]
  have e1 : wrap64 (7 - (i : Int)) = 7 - (i : Int) := wrap_id (by omega) (by omega)
  have e2 : wrap64 (8 * (7 - (i : Int))) = 8 * (7 - (i : Int)) := wrap_id (by omega) (by omega)
  rw [e1, e2]
  unfold shr
  have e3 : (8 * (7 - (i : Int))).toNat = 8 * (7 - i) := by omega
  have e4 : min (8 * (7 - i)) IntKind.u64.bits = 8 * (7 - i) := Nat.min_eq_left (by simp [IntKind.bits]; omega)
  rw [e3, e4]
  have e5 : ((2 : Int) ^ (8 * (7 - i))) = ((2 ^ (8 * (7 - i)) : Nat) : Int) := by push_cast; rfl
  rw [e5]
  generalize 2 ^ (8 * (7 - i)) = q
  rw [← Int.natCast_ediv]
  omega
theorem encode_l0 (m : Med) (hg0 : 0 ≤ m.g) (hg1 : m.g < 18446744073709551616) (b : List Int) (hb : Bytes b) (hl : b.length ≤ 1000) : ∀ (d i : Nat), i + d = 8 →
    Ev (fun k => media_Encode.l0 k (b ++ (be8 m.g.toNat).take i) (i : Int) m.s m.c m.p m.f m.l m.t m.i m.a m.g) (frameN (b ++ be8 m.g.toNat)) := by
  intro d
  induction d with
  | zero =>
    intro i hi
    obtain rfl : i = 8 := by omega
    have e : (be8 m.g.toNat).take 8 = be8 m.g.toNat := rfl
    rw [e]
    refine Ev.step (f := fun k => (codec_Frame.f k (b ++ be8 m.g.toNat)).bind fun t => some t) (fun k => ?_) (Ev.bind (frame_ev _ (hb.append (be8_bytes _)) (by rw [List.length_append, be8_len]; omega)) (Ev.now _))
    simp only [media_Encode.l0]
    rw [if_neg (by decide)]
  | succ d ih =>
    intro i hi
    refine Ev.step (fun k => ?_) (ih (i + 1) (by omega))
    simp only [media_Encode.l0]
    have e1 : wrap64 (7 - (i : Int)) = 7 - (i : Int) := wrap_id (by omega) (by omega)
    have e2 : wrap64 (8 * (7 - (i : Int))) = 8 * (7 - (i : Int)) := wrap_id (by omega) (by omega)
    have e3 : wrap64 ((i : Int) + 1) = ((i + 1 : Nat) : Int) := by rw [wrap_id (by omega) (by omega)]; rfl
    have hs := shr8 m.g.toNat i (by omega) (by omega)
    have hgn : ((m.g.toNat : Nat) : Int) = m.g := by omega
    rw [hgn] at hs
    have hlen : (b ++ (be8 m.g.toNat).take i).length < 140737488355328 := by
      rw [List.length_append, List.length_take, be8_len]; omega
    rw [if_pos (by omega), if_pos (by rw [e1, e2]; omega), if_pos hlen, hs, e3, take_succ _ i (by rw [be8_len]; omega), ← List.append_assoc]
theorem encode_ev {m : Med} (h : rightM m = 0) (hg0 : 0 ≤ m.g) (hg1 : m.g < 18446744073709551616) : Ev (fun k => media_Encode.f k m.s m.c m.p m.f m.l m.t m.i m.a m.g) (encN m) := by
  unfold media_Encode.f
  refine Ev.bind (body_ev h) ?_
  have hl := body_len h
  have H := encode_l0 m hg0 hg1 (bodyN m) (body_bytes m) (by omega) 8 0 rfl
  have e : bodyN m ++ (be8 m.g.toNat).take 0 = bodyN m := by simp
  rw [e] at H
  exact H
theorem tagOf_tagF (l : List Int) : tagOf 0 l = tagF 0 l := rfl
theorem read_l0 : ∀ (d : Nat) (b ns : List Int), ns.length + d = 8 → Bytes b → b.length ≤ 140737488351232 → Ev (fun k => media_read.l0 k b ns) (T9 (readA d b ns)) := by
  intro d
  induction d with
  | zero =>
    intro b ns hn hb hl
    refine Ev.at1 (fun k => ?_)
    simp only [media_read.l0]
    rw [if_neg (by omega), if_pos (by omega)]
    rfl
  | succ d ih =>
    intro b ns hn hb hl
    refine Ev.step (f := fun k => (codec_Get.f k b).bind fun g => if g.2.2 = 0 then (if 0 ≤ g.2.1 then (if g.2.1 ≤ (b.length : Int) then media_read.l0 k (b.drop g.2.1.toNat) (ns ++ [g.1]) else none) else none) else some (0, 0, 0, 0, 0, 0, 0, 0, 0)) (fun k => ?_) (Ev.bind (get_ev b hb) ?_)
    · simp only [media_read.l0]
      rw [if_pos (by omega)]
    · have hra : readA (d + 1) b ns = if (getI b).2.2 = 0 then readA d (b.drop (getI b).2.1.toNat) (ns ++ [(getI b).1]) else zeroM := rfl
      rw [hra]
      by_cases h : (getI b).2.2 = 0
      · obtain ⟨n, k, hg, hn2, hk1, hk9, hkl, _⟩ := getI_tells hb h
        rw [hg]
        have p1 : (0 : Int) ≤ (k : Int) := by omega
        have p2 : (k : Int) ≤ (b.length : Int) := by omega
        simp only [if_true, if_pos p1, if_pos p2, Int.toNat_natCast]
        exact ih _ _ (by simp; omega) (hb.drop k) (by simp; omega)
      · simp only [if_neg h]
        exact Ev.now _
theorem read_ev (b : List Int) (hb : Bytes b) (hl : b.length ≤ 140737488351232) : Ev (fun k => media_read.f k b) (T9 (readA 8 b [])) := by
  unfold media_read.f
  exact read_l0 8 b [] rfl hb hl
theorem unI_fst {l : List Int} (hb : Bytes l) : Bytes (unI l).1 ∧ (unI l).1.length ≤ 65536 := by
  by_cases h : (unI l).2.2 = 0
  · obtain ⟨b, k, e, h1, h2, _⟩ := unI_tells hb h
    rw [e]; exact ⟨h1, h2⟩
  · have : (unI l).1 = [] := by
      unfold unI at h ⊢
      split
      · rfl
      · split
        · rfl
        · split
          · rfl
          · split
            · rename_i h1 h2 h3 h4
              rw [if_neg h1, if_neg h2, if_neg h3, if_pos h4] at h
              exact absurd rfl h
            · rfl
    rw [this]; exact ⟨fun x hx => by simp at hx, by simp⟩
/-- What Decode tells, as the printed functions have it. -/
def T10 (d : Med × Int) : Int × Int × Int × Int × Int × Int × Int × Int × Int × Int := (d.1.s, d.1.c, d.1.p, d.1.f, d.1.l, d.1.t, d.1.i, d.1.a, d.1.g, d.2)
theorem decode_ev (l : List Int) (hb : Bytes l) (hl : l.length ≤ 140737488351232) : Ev (fun k => media_Decode.f k l) (T10 (decI l)) := by
  unfold media_Decode.f
  refine Ev.bind (unframe_ev l hb hl) ?_
  unfold decI
  by_cases h1 : (unI l).2.2 = 0
  · have n1 : ¬ (unI l).2.2 ≠ 0 := fun h => h h1
    simp only [if_pos h1, if_neg n1]
    by_cases h2 : (unI l).2.1 = (l.length : Int)
    · have n2 : ¬ (unI l).2.1 ≠ (l.length : Int) := fun h => h h2
      simp only [if_pos h2, if_neg n2]
      obtain ⟨b1, b2⟩ := unI_fst hb
      refine Ev.bind (read_ev _ b1 (by omega)) ?_
      refine Ev.bind (right_ev (readA 8 (unI l).1 [])) ?_
      by_cases h3 : rightM (readA 8 (unI l).1 []) = 0
      · simp only [if_pos h3]
        have hg := readA_g 8 (unI l).1 []
        refine Ev.bind (encode_ev h3 hg.1 hg.2) ?_
        refine Ev.fix (fun k => ?_)
        rw [Lib.strOfNums_toList, Lib.strOfNums_toList]
        by_cases h4 : encN (readA 8 (unI l).1 []) = l
        · rw [if_pos (by rw [h4]), if_pos ⟨h3, h4⟩]; rfl
        · rw [if_neg (fun e => h4 (bytesOf_inj (enc_bytes _) hb e)), if_neg (fun e => h4 e.2)]; rfl
      · simp only [if_neg h3]
        refine Ev.fix (fun k => ?_)
        rw [if_neg (fun e => h3 e.1)]; rfl
    · simp only [if_neg h2, ne_eq, h2, not_false_eq_true, if_true]
      exact Ev.now _
  · simp only [if_neg h1, ne_eq, h1, not_false_eq_true, if_true]
    exact Ev.now _
theorem new_ev (key : Nat) (hk : key < 2 ^ 64) (s p u : Int) : Ev (fun k => media_New.f k (key : Int) s p u) (if rightM ⟨s, 0, p, -1, u, -1, 0, -1, 0⟩ = 0 then T10 (⟨s, 0, p, -1, u, -1, 0, -1, (signN key ⟨s, 0, p, -1, u, -1, 0, -1, 0⟩ : Int)⟩, 0) else T10 (zeroM, 2)) := by
  unfold media_New.f
  refine Ev.bind (right_ev ⟨s, 0, p, -1, u, -1, 0, -1, 0⟩) ?_
  by_cases h : rightM ⟨s, 0, p, -1, u, -1, 0, -1, 0⟩ = 0
  · simp only [if_pos h]
    refine Ev.bind (sign_ev h key hk) ?_
    exact Ev.now _
  · simp only [if_neg h]
    exact Ev.now _
def m00 : Med := ⟨5, 0, 3, -1, 10, -1, 0, -1, 0⟩
def g00 : Nat := signN 7 m00
def m01 : Med := ⟨5, 0, 3, -1, 10, -1, 0, -1, (g00 : Int)⟩
def m02 : Med := ⟨5, 0, 3, -1, 9, -1, 0, -1, (g00 : Int)⟩
theorem g00_lt : (g00 : Int) < 18446744073709551616 := by have := signN_lt 7 m00; unfold g00; omega
theorem m01_right : rightM m01 = 0 := rfl
theorem body01 : bodyN m01 = [5, 0, 3, 0, 10, 0, 0, 0] := by
  show putL [5, 0, 3, -1 + 1, 10, -1 + 1, 0, -1 + 1] = _
  simp [putL, putN_small]
theorem body02 : bodyN m02 = [5, 0, 3, 0, 9, 0, 0, 0] := by
  show putL [5, 0, 3, -1 + 1, 9, -1 + 1, 0, -1 + 1] = _
  simp [putL, putN_small]
theorem nums01 : numsM m01 = numsM m00 := by simp only [numsM, m01, m00]
theorem sign_def (key : Nat) (m : Med) : signN key m = tagN (keyN key m.s) (putL (numsM m)) := rfl
theorem sign01 : signN 7 m01 = g00 := by
  unfold g00
  rw [sign_def, sign_def, nums01]
  have e : m01.s = m00.s := rfl
  rw [e]
theorem sign02 : (g00 : Int) ≠ (signN 7 m02 : Int) := by
  have e1 : g00 = tagN (keyN 7 5) [5, 0, 3, 0, 10, 0, 0, 0] := by
    rw [← sign01]; show tagN (keyN 7 5) (bodyN m01) = _; rw [body01]
  have e2 : signN 7 m02 = tagN (keyN 7 5) [5, 0, 3, 0, 9, 0, 0, 0] := by
    show tagN (keyN 7 5) (bodyN m02) = _; rw [body02]
  have h := tag_block (key := keyN 7 5) (a := [5, 0, 3, 0, 10, 0, 0, 0]) (b := [5, 0, 3, 0, 9, 0, 0, 0]) (by unfold Bytes; decide) (by unfold Bytes; decide) (by decide) (by decide +kernel)
  intro e
  rw [e1, e2] at e
  exact h (by omega)
theorem len01 : (bodyN m01 ++ be8 m01.g.toNat).length = 16 := by rw [List.length_append, body01, be8_len]; rfl
theorem enc01_len : (encN m01).length = 21 := by
  unfold encN
  rw [frameN_len, len01, putN_small (by decide)]; rfl
theorem enc01_0 : rd (encN m01) 0 = 16 := by
  unfold encN frameN
  rw [len01, putN_small (by decide)]; rfl
theorem alive_ev : Ev (fun k => skiarealaw25_alive.f k) true := by
  have hg1 := g00_lt
  have hg0 : 0 ≤ (g00 : Int) := by omega
  have N1 : Ev (fun k => media_New.f k 7 5 3 10) (5, 0, 3, -1, 10, -1, 0, -1, (g00 : Int), 0) := by
    have h := new_ev 7 (by decide) 5 3 10
    rw [if_pos (show rightM ⟨5, 0, 3, -1, 10, -1, 0, -1, 0⟩ = 0 from rfl)] at h
    exact h
  have E1 : Ev (fun k => media_Encode.f k 5 0 3 (-1) 10 (-1) 0 (-1) (g00 : Int)) (encN m01) := encode_ev (m := m01) m01_right hg0 hg1
  have hl := enc01_len
  have D1 : Ev (fun k => media_Decode.f k (encN m01)) (5, 0, 3, -1, 10, -1, 0, -1, (g00 : Int), 0) := by
    have h := decode_ev (encN m01) (enc_bytes m01) (by omega)
    rw [dec_enc m01_right hg0 hg1] at h
    exact h
  have D2 : Ev (fun k => media_Decode.f k (encN m01 ++ [0])) (0, 0, 0, 0, 0, 0, 0, 0, 0, 4) := by
    have h := decode_ev (encN m01 ++ [0]) ((enc_bytes m01).append (by unfold Bytes; decide)) (by rw [List.length_append]; simp; omega)
    have e : decI (encN m01 ++ [0]) = (zeroM, 4) := by
      unfold decI
      rw [unI_enc m01_right [0]]
      have n1 : ¬ ((((encN m01).length : Nat) : Int) = ((encN m01 ++ [0]).length : Int)) := by rw [List.length_append]; simp; omega
      simp only [ne_eq, not_true_eq_false, if_false, n1, not_false_eq_true, if_true]
    rw [e] at h
    exact h
  have B1 : Ev (fun k => media_Body.f k 5 0 3 (-1) 10 (-1) 0 (-1) (g00 : Int)) [5, 0, 3, 0, 10, 0, 0, 0] := by rw [← body01]; exact body_ev (m := m01) m01_right
  have C1 : Ev (fun k => media_Check.f k 7 5 0 3 (-1) 10 (-1) 0 (-1) (g00 : Int)) true := by
    have h := check_ev m01 7 (by decide)
    rw [decide_eq_true ⟨m01_right, by rw [sign01]; rfl⟩] at h
    exact h
  have C2 : Ev (fun k => media_Check.f k 7 5 0 3 (-1) 9 (-1) 0 (-1) (g00 : Int)) false := by
    have h := check_ev m02 7 (by decide)
    rw [decide_eq_false (fun e => sign02 e.2)] at h
    exact h
  have R1 : Ev (fun k => media_Right.f k 5 0 3 (-1) 10 (-1) 0 100 (g00 : Int)) 10 := right_ev ⟨5, 0, 3, -1, 10, -1, 0, 100, (g00 : Int)⟩
  have R2 : Ev (fun k => media_Right.f k 5 0 3 101 10 (-1) 0 100 (g00 : Int)) 10 := right_ev ⟨5, 0, 3, 101, 10, -1, 0, 100, (g00 : Int)⟩
  have S1 : skiarearef03_Same.f [5, 0, 3, 0, 10, 0, 0, 0] [5, 0, 3, 0, 10, 0, 0, 0] = some true := same_self (by unfold Bytes; decide)
  unfold skiarealaw25_alive.f
  refine Ev.bind N1 ?_
  simp only [if_true]
  refine Ev.bind E1 ?_
  refine Ev.bind D1 ?_
  simp only [Option.bind_some, List.nil_append, List.length_nil, Nat.zero_add]
  have p1 : (encN m01).length < 140737488355328 := by omega
  simp only [if_pos p1]
  refine Ev.bind D2 ?_
  simp only [if_true]
  refine Ev.bind B1 ?_
  have p2 : ((encN m01).length : Int) = 21 := by omega
  have p3 : (0 : Int) < ((encN m01).length : Int) := by omega
  simp only [S1, Option.bind_some, if_true, if_pos p2, if_pos p3, enc01_0, BEq.rfl, Bool.and_self]
  refine Ev.bind C1 ?_
  simp only [if_true]
  refine Ev.bind C2 ?_
  simp only [Bool.false_eq_true, if_false]
  refine Ev.bind R1 ?_
  simp only [if_true]
  refine Ev.bind R2 ?_
  exact Ev.now _
theorem rright_j0 (m : Med) (b : Bool) : Ev (fun k => skiarearef25_Right.j0 k b m.s m.c m.p m.f m.l m.t m.i m.a m.g) (if b = true then 2 else if stateB m = true then 10 else 0) := by
  refine Ev.at1 (fun k => ?_)
  simp only [skiarearef25_Right.j0]
  cases b with
  | true => rfl
  | false =>
    simp only [Bool.false_eq_true, if_false]
    by_cases h : (m.f = -1 ∧ m.a ≠ -1) ∨ (m.a = -1 ∧ (m.i ≠ 0 ∨ m.t ≠ -1)) ∨ m.f > m.a
    · have e : stateB m = true := decide_eq_true h
      rw [e]
      simp only [if_true]
      repeat' split
      all_goals first | rfl | (exfalso; omega)
    · have e : stateB m = false := decide_eq_false h
      rw [e]
      simp only [Bool.false_eq_true, if_false]
      repeat' split
      all_goals first | rfl | (exfalso; omega)
theorem rright_ev (m : Med) : Ev (fun k => skiarearef25_Right.f k m.s m.c m.p m.f m.l m.t m.i m.a m.g) (rightM m) := by
  unfold skiarearef25_Right.f
  have two : Ev (fun k => skiarearef25_Right.j0 k true m.s m.c m.p m.f m.l m.t m.i m.a m.g) 2 := rright_j0 m true
  have bad : (rangeB m = false) → rightM m = 2 := fun h => by unfold rightM; rw [h]; rfl
  by_cases hr : rangeB m = true
  · have h := of_decide_eq_true hr
    obtain ⟨a1, a2, a3, a4, a5, a6, a7, a8, a9, b1, b2, b3, b4, b5, b6, b7⟩ := h
    have H := rright_j0 m false
    have e : rightM m = (if false = true then 2 else if stateB m = true then 10 else 0) := by unfold rightM; rw [hr]; rfl
    rw [e]
    simp only [gt_iff_lt, if_neg (Int.not_lt.mpr a1), if_neg (Int.not_lt.mpr a2), if_neg (Int.not_lt.mpr a3), if_neg (Int.not_lt.mpr a4), if_neg (Int.not_lt.mpr a5), if_neg (Int.not_lt.mpr a6), if_neg (Int.not_lt.mpr a7), if_neg (Int.not_lt.mpr a8), if_neg (Int.not_lt.mpr a9), if_neg (Int.not_lt.mpr b1), if_neg (Int.not_lt.mpr b2), if_neg (Int.not_lt.mpr b3), if_neg (Int.not_lt.mpr b4), if_neg (Int.not_lt.mpr b5), if_neg (Int.not_lt.mpr b6), decide_eq_false (Int.not_lt.mpr b7)]
    exact H
  · have hr2 : rangeB m = false := by simpa using hr
    rw [bad hr2]
    have hn : ¬ (1 ≤ m.s ∧ m.s ≤ 9999 ∧ 1 ≤ m.p ∧ m.p ≤ 9999 ∧ 0 ≤ m.c ∧ m.c ≤ 1000000 ∧ -1 ≤ m.f ∧ m.f ≤ 20000000 ∧ -1 ≤ m.a ∧ m.a ≤ 20000000 ∧ 0 ≤ m.l ∧ m.l ≤ 100 ∧ -1 ≤ m.t ∧ m.t ≤ 231 ∧ 0 ≤ m.i ∧ m.i ≤ 9999) := of_decide_eq_false hr2
    by_cases a1 : m.s < 1
    · simp only [if_pos a1]; exact two
    by_cases a2 : m.s > 9999
    · simp only [if_neg a1, if_pos a2]; exact two
    by_cases a3 : m.p < 1
    · simp only [if_neg a1, if_neg a2, if_pos a3]; exact two
    by_cases a4 : m.p > 9999
    · simp only [if_neg a1, if_neg a2, if_neg a3, if_pos a4]; exact two
    by_cases a5 : m.c < 0
    · simp only [if_neg a1, if_neg a2, if_neg a3, if_neg a4, if_pos a5]; exact two
    by_cases a6 : m.c > 1000000
    · simp only [if_neg a1, if_neg a2, if_neg a3, if_neg a4, if_neg a5, if_pos a6]; exact two
    by_cases a7 : m.f < -1
    · simp only [if_neg a1, if_neg a2, if_neg a3, if_neg a4, if_neg a5, if_neg a6, if_pos a7]; exact two
    by_cases a8 : m.f > 20000000
    · simp only [if_neg a1, if_neg a2, if_neg a3, if_neg a4, if_neg a5, if_neg a6, if_neg a7, if_pos a8]; exact two
    by_cases a9 : m.a < -1
    · simp only [if_neg a1, if_neg a2, if_neg a3, if_neg a4, if_neg a5, if_neg a6, if_neg a7, if_neg a8, if_pos a9]; exact two
    by_cases b1 : m.a > 20000000
    · simp only [if_neg a1, if_neg a2, if_neg a3, if_neg a4, if_neg a5, if_neg a6, if_neg a7, if_neg a8, if_neg a9, if_pos b1]; exact two
    by_cases b2 : m.l < 0
    · simp only [if_neg a1, if_neg a2, if_neg a3, if_neg a4, if_neg a5, if_neg a6, if_neg a7, if_neg a8, if_neg a9, if_neg b1, if_pos b2]; exact two
    by_cases b3 : m.l > 100
    · simp only [if_neg a1, if_neg a2, if_neg a3, if_neg a4, if_neg a5, if_neg a6, if_neg a7, if_neg a8, if_neg a9, if_neg b1, if_neg b2, if_pos b3]; exact two
    by_cases b4 : m.t < -1
    · simp only [if_neg a1, if_neg a2, if_neg a3, if_neg a4, if_neg a5, if_neg a6, if_neg a7, if_neg a8, if_neg a9, if_neg b1, if_neg b2, if_neg b3, if_pos b4]; exact two
    by_cases b5 : m.t > 231
    · simp only [if_neg a1, if_neg a2, if_neg a3, if_neg a4, if_neg a5, if_neg a6, if_neg a7, if_neg a8, if_neg a9, if_neg b1, if_neg b2, if_neg b3, if_neg b4, if_pos b5]; exact two
    by_cases b6 : m.i < 0
    · simp only [if_neg a1, if_neg a2, if_neg a3, if_neg a4, if_neg a5, if_neg a6, if_neg a7, if_neg a8, if_neg a9, if_neg b1, if_neg b2, if_neg b3, if_neg b4, if_neg b5, if_pos b6]; exact two
    have b7 : m.i > 9999 := by omega
    simp only [if_neg a1, if_neg a2, if_neg a3, if_neg a4, if_neg a5, if_neg a6, if_neg a7, if_neg a8, if_neg a9, if_neg b1, if_neg b2, if_neg b3, if_neg b4, if_neg b5, if_neg b6, decide_eq_true b7]; exact two
theorem rmix_f (a : Nat) (ha : a < 2 ^ 64) : skiarearef04_Mix.f (a : Int) = some ((mixN a : Nat) : Int) := by
  unfold skiarearef04_Mix.f; rw [mix_text a ha]
theorem block_l0 (l : List Int) (hb : Bytes l) (hl : l.length ≤ 140737488351232) (p : Nat) : ∀ (d j : Nat), j + d = min 8 (l.length - p) → p ≤ l.length →
    Ev (fun k => skiarearef04_Block.l0 k l (p : Int) ((blk ((l.drop p).take j) : Nat) : Int) ((256 ^ j % 2 ^ 64 : Nat) : Int) ((p + j : Nat) : Int)) ((blk ((l.drop p).take 8) : Nat) : Int) := by
  intro d
  induction d with
  | zero =>
    intro j hj hp
    refine ⟨1, fun k hk => ?_⟩
    obtain ⟨k, rfl⟩ : ∃ m, k = m + 1 := ⟨k - 1, by omega⟩
    have e : (l.drop p).take j = (l.drop p).take 8 := by
      by_cases h8 : j = 8
      · rw [h8]
      · rw [List.take_of_length_le (by simp; omega), List.take_of_length_le (by simp; omega)]
    simp only [skiarearef04_Block.l0]
    by_cases h1 : ((p + j : Nat) : Int) < (l.length : Int)
    · rw [if_pos h1, if_neg (by rw [wrap_at (by omega) (by omega)]; omega), e]
    · rw [if_neg h1, e]
  | succ d ih =>
    intro j hj hp
    refine Ev.step (fun k => ?_) (ih (j + 1) (by omega) hp)
    simp only [skiarearef04_Block.l0]
    have hw : wrap64 ((p : Int) + 8) = (p : Int) + 8 := wrap_at (by omega) (by omega)
    have hw2 : wrap64 (((p + j : Nat) : Int) + 1) = ((p + (j + 1) : Nat) : Int) := by rw [wrap_at (by omega) (by omega)]; rfl
    rw [if_pos (by omega), if_pos (by rw [hw]; omega), if_pos (by omega), hw2]
    have hx := hb.at (p + j)
    have hrd : rd l ((p + j : Nat) : Int) = l.getD (p + j) 0 := by unfold rd; rw [Int.toNat_natCast]
    obtain ⟨x, hxe⟩ := Int.eq_ofNat_of_zero_le hx.1
    have hx256 : x < 256 := by omega
    have hj8 : j < 8 := by omega
    have hlt : p + j < l.length := by omega
    have ht : (l.drop p).take (j + 1) = (l.drop p).take j ++ [l.getD (p + j) 0] := by
      rw [List.take_succ_eq_append_getElem (by simp; omega), List.getD_eq_getElem?_getD, List.getElem?_eq_getElem hlt]; simp
    have hlj : ((l.drop p).take j).length = j := by simp; omega
    have hbj := blk_lt ((hb.drop p).take j)
    rw [hlj] at hbj
    have hp8 : (256 : Nat) ^ j * 256 ≤ 2 ^ 64 := by
      rw [← Nat.pow_succ]
      exact Nat.le_trans (Nat.pow_le_pow_right (by decide) (show j + 1 ≤ 8 by omega)) (by decide)
    have hm : 256 ^ j % 2 ^ 64 = 256 ^ j := Nat.mod_eq_of_lt (by have : 0 < 256 ^ j := Nat.pow_pos (by decide); omega)
    have hmul : x * 256 ^ j ≤ 255 * 256 ^ j := Nat.mul_le_mul_right _ (by omega)
    rw [hrd, hxe, u64_nat x (by omega), hm, ht, blk_snoc, hlj, hxe]
    have e1 : (x : Int) * ((256 ^ j : Nat) : Int) = ((x * 256 ^ j : Nat) : Int) := (Int.natCast_mul _ _).symm
    rw [e1, u64_nat _ (by omega)]
    have e2 : ((blk ((l.drop p).take j) : Nat) : Int) + ((x * 256 ^ j : Nat) : Int) = ((blk ((l.drop p).take j) + 256 ^ j * x : Nat) : Int) := by rw [Nat.mul_comm (256 ^ j) x]; exact (Int.natCast_add _ _).symm
    have hmul2 : 256 ^ j * x = x * 256 ^ j := Nat.mul_comm _ _
    rw [e2, u64_nat _ (by rw [hmul2]; omega)]
    have e3 : IntKind.u64.wrap (((256 ^ j : Nat) : Int) * 256) = ((256 ^ (j + 1) % 2 ^ 64 : Nat) : Int) := by
      rw [Nat.pow_succ]
      generalize 256 ^ j = m
      rw [u64_wrap]; omega
    rw [e3, Int.toNat_natCast]
theorem block_ev (l : List Int) (hb : Bytes l) (hl : l.length ≤ 140737488351232) (p : Nat) (hp : p ≤ l.length) : Ev (fun k => skiarearef04_Block.f k l (p : Int)) ((blk ((l.drop p).take 8) : Nat) : Int) := by
  unfold skiarearef04_Block.f
  exact block_l0 l hb hl p (min 8 (l.length - p)) 0 (by omega) hp
theorem rtag_l0 (l : List Int) (hb : Bytes l) (hl : l.length ≤ 140737488351232) : ∀ (d p h : Nat), l.length - p ≤ d → h < 2 ^ 64 → p ≤ l.length + 8 →
    Ev (fun k => skiarearef04_Tag.l0 k l (h : Int) (p : Int)) ((mixN (tags h (l.drop p) ^^^ l.length) : Nat) : Int) := by
  intro d
  induction d with
  | zero =>
    intro p h hd hh hp
    refine ⟨1, fun k hk => ?_⟩
    obtain ⟨k, rfl⟩ : ∃ m, k = m + 1 := ⟨k - 1, by omega⟩
    simp only [skiarearef04_Tag.l0]
    rw [if_neg (by omega), u64_nat l.length (by omega), xor_u64 _ _ hh (by omega), rmix_f _ (Nat.xor_lt_two_pow hh (by omega)), List.drop_eq_nil_of_le (by omega), tags_nil]
    rfl
  | succ d ih =>
    intro p h hd hh hp
    by_cases hlt : p < l.length
    · have hk8 : blk ((l.drop p).take 8) < 2 ^ 64 := blk_lt64 ((hb.drop p).take 8) (by simp; omega)
      have hB := block_ev l hb hl p (by omega)
      have hne : l.drop p ≠ [] := by rw [← List.length_pos_iff]; simp; omega
      have H := ih (p + 8) (mixN (h ^^^ blk ((l.drop p).take 8))) (by omega) (mixN_lt _) (by omega)
      rw [tags_cons _ _ hne]
      rw [show List.drop 8 (List.drop p l) = l.drop (p + 8) by rw [List.drop_drop]]
      refine Ev.step (f := fun k => (skiarearef04_Block.f k l (p : Int)).bind fun t => (skiarearef04_Mix.f (Go.bits .xor .u64 (h : Int) t)).bind fun t' => skiarearef04_Tag.l0 k l t' ((p + 8 : Nat) : Int)) (fun k => ?_) ?_
      · simp only [skiarearef04_Tag.l0]
        have hw : wrap64 ((p : Int) + 8) = ((p + 8 : Nat) : Int) := by rw [wrap_at (by omega) (by omega)]; rfl
        rw [if_pos (by omega), hw]
      · refine Ev.bind hB ?_
        refine Ev.congr (fun k => ?_) H
        rw [xor_u64 _ _ hh hk8, rmix_f _ (Nat.xor_lt_two_pow hh hk8)]
        rfl
    · refine ⟨1, fun k hk => ?_⟩
      obtain ⟨k, rfl⟩ : ∃ m, k = m + 1 := ⟨k - 1, by omega⟩
      simp only [skiarearef04_Tag.l0]
      rw [if_neg (by omega), u64_nat l.length (by omega), xor_u64 _ _ hh (by omega), rmix_f _ (Nat.xor_lt_two_pow hh (by omega)), List.drop_eq_nil_of_le (by omega), tags_nil]
      rfl
theorem rtag_ev (key : Nat) (l : List Int) (hk : key < 2 ^ 64) (hb : Bytes l) (hl : l.length ≤ 140737488351232) : Ev (fun k => skiarearef04_Tag.f k (key : Int) l) ((tagN key l : Nat) : Int) := by
  unfold skiarearef04_Tag.f tagN
  rw [rmix_f _ hk]
  simp only [Option.bind_some]
  have := rtag_l0 l hb hl l.length 0 (mixN key) (by omega) (mixN_lt _) (by omega)
  exact this
theorem rkey_f (key : Nat) (i : Int) : skiarearef04_Key.f (key : Int) i = some ((keyN key i : Nat) : Int) := by
  unfold skiarearef04_Key.f keyN
  rw [key_text, rmix_f _ (Nat.mod_lt _ (by decide))]
  rfl
theorem rput_l0 (m : Nat) : ∀ (n : Nat) (l : List Int), n < 128 ^ m → 0 < m → n < 9223372036854775808 → l.length + m ≤ 140737488355328 → Ev (fun k => skiarearef03_Put.l0 k (n : Int) l) (l ++ putN n) := by
  induction m with
  | zero => intro n l _ h; omega
  | succ m ih =>
    intro n l hn _ hn2 hl
    by_cases h : n < 128
    · refine Ev.at1 (fun k => ?_)
      simp only [skiarearef03_Put.l0]
      rw [if_neg (by omega), if_pos (by omega), putN_small h]
      have : (n : Int) % 256 = n := by omega
      rw [this]
    · have h0 : 0 < m := by
        rcases Nat.eq_zero_or_pos m with rfl | h0
        · simp at hn; omega
        · exact h0
      have hd : n / 128 < 128 ^ m := by rw [Nat.pow_succ] at hn; exact Nat.div_lt_of_lt_mul (by omega)
      have H := ih (n / 128) (l ++ [((n % 128 + 128 : Nat) : Int)]) hd h0 (by omega) (by simp; omega)
      rw [putN_big h]
      have e : l ++ ((n % 128 + 128 : Nat) : Int) :: putN (n / 128) = l ++ [((n % 128 + 128 : Nat) : Int)] ++ putN (n / 128) := by simp
      rw [e]
      refine Ev.step (fun k => ?_) H
      simp only [skiarearef03_Put.l0]
      have e1 : wrap64 (Int.tdiv (n : Int) 128) = ((n / 128 : Nat) : Int) := by
        rw [Int.tdiv_eq_ediv_of_nonneg (by omega), wrap_id (by omega) (by omega)]; rfl
      have e2 : (Int.tmod (n : Int) 128 + 128) % 256 = ((n % 128 + 128 : Nat) : Int) := by
        rw [Int.tmod_eq_emod_of_nonneg (by omega)]; omega
      rw [if_pos (by omega), if_pos (by omega), e1, e2]
theorem rput_ev (l : List Int) (a : Int) (ha : a < 9223372036854775808) (hl : l.length + 9 ≤ 140737488355328) : Ev (fun k => skiarearef03_Put.f k l a) (l ++ putN a.toNat) := by
  unfold skiarearef03_Put.f
  have h0 : ([] : List Int).length + l.length < 140737488355328 := by simp; omega
  simp only [if_pos h0]
  refine Ev.bind (Ev.now _) ?_
  by_cases hn : a < 0
  · simp only [if_pos hn]
    refine Ev.step (fun k => ?_) (rput_l0 9 a.toNat l (by omega) (by decide) (by omega) hl)
    simp only [skiarearef03_Put.j0]
    have : a.toNat = 0 := by omega
    rw [this]; rfl
  · simp only [if_neg hn]
    refine Ev.step (fun k => ?_) (rput_l0 9 a.toNat l (by omega) (by decide) (by omega) hl)
    simp only [skiarearef03_Put.j0]
    rw [Int.toNat_of_nonneg (by omega)]; rfl
theorem rbody_l0 (x : List Int) (hx : Nats x) (h8 : x.length = 8) : ∀ (d i : Nat) (acc : List Int), i + d = 8 → acc.length ≤ 9 * i → Ev (fun k => skiarearef25_Body.l0 k x acc (i : Int)) (acc ++ putL (x.drop i)) := by
  intro d
  induction d with
  | zero =>
    intro i acc hi ha
    refine Ev.at1 (fun k => ?_)
    simp only [skiarearef25_Body.l0]
    rw [if_neg (by omega), List.drop_eq_nil_of_le (by omega)]
    simp [putL]
  | succ d ih =>
    intro i acc hi ha
    have hil : i < x.length := by omega
    have hmem := hx (x.getD i 0) (by rw [List.getD_eq_getElem?_getD, List.getElem?_eq_getElem hil]; exact List.getElem_mem hil)
    have h9 := putN_len9 (x.getD i 0).toNat (by omega)
    have H := ih (i + 1) (acc ++ putN (x.getD i 0).toNat) (by omega) (by rw [List.length_append]; omega)
    have e1 : wrap64 ((i : Int) + 1) = ((i + 1 : Nat) : Int) := by rw [wrap_id (by omega) (by omega)]; rfl
    rw [drop_cons x i hil, putL_cons, ← List.append_assoc]
    refine Ev.step (f := fun k => (skiarearef03_Put.f k acc (x.getD i 0)).bind fun t => skiarearef25_Body.l0 k x t ((i + 1 : Nat) : Int)) (fun k => ?_) (Ev.bind (rput_ev acc _ hmem.2 (by omega)) H)
    simp only [skiarearef25_Body.l0]
    rw [if_pos (by omega), if_pos (by omega), rd_nat, e1]
theorem rbody_ev {m : Med} (h : rightM m = 0) : Ev (fun k => skiarearef25_Body.f k m.s m.c m.p m.f m.l m.t m.i m.a m.g) (bodyN m) := by
  have hr := right_range h
  have e3 : wrap64 (m.f + 1) = m.f + 1 := wrap_id (by omega) (by omega)
  have e5 : wrap64 (m.t + 1) = m.t + 1 := wrap_id (by omega) (by omega)
  have e7 : wrap64 (m.a + 1) = m.a + 1 := wrap_id (by omega) (by omega)
  unfold skiarearef25_Body.f
  rw [e3, e5, e7]
  exact rbody_l0 (numsM m) (nums_nats h) rfl 8 0 [] rfl (by simp)
theorem rtagm_ev {m : Med} (h : rightM m = 0) (key : Nat) (hk : key < 2 ^ 64) : Ev (fun k => skiarearef25_tag.f k (key : Int) m.s m.c m.p m.f m.l m.t m.i m.a m.g) (signN key m : Int) := by
  unfold skiarearef25_tag.f
  rw [rkey_f]
  simp only [Option.bind_some]
  refine Ev.bind (rbody_ev h) ?_
  have hl := body_len h
  refine Ev.bind (rtag_ev (keyN key m.s) (bodyN m) (keyN_lt _ _) (body_bytes m) (by omega)) ?_
  exact Ev.now _
theorem rsign_ev {m : Med} (h : rightM m = 0) (key : Nat) (hk : key < 2 ^ 64) : Ev (fun k => skiarearef25_Sign.f k (key : Int) m.s m.c m.p m.f m.l m.t m.i m.a m.g) (T9 { m with g := (signN key m : Int) }) := by
  unfold skiarearef25_Sign.f
  refine Ev.bind (rtagm_ev h key hk) ?_
  exact Ev.now _
theorem rget_l1 (l : List Int) (hb : Bytes l) (i : Nat) (hi : i < l.length) (hi9 : i < 9) : ∀ j : Nat, j ≤ i + 1 →
    Ev (fun k => skiarearef03_Get.l1 k l (i : Int) ((valN ((l.take (i + 1)).drop j) : Nat) : Int) ((j : Int) - 1)) (((valN (l.take (i + 1)) : Nat) : Int), ((i + 1 : Nat) : Int), 0) := by
  intro j
  induction j with
  | zero =>
    intro _
    refine Ev.at1 (fun k => ?_)
    simp only [skiarearef03_Get.l1]
    rw [if_neg (by omega), wrap_id (by omega) (by omega)]
    simp
  | succ j ih =>
    intro hj
    have hby := hb.at j
    have hjt : j < (l.take (i + 1)).length := by simp; omega
    have e := drop_cons (l.take (i + 1)) j hjt
    have hg : (l.take (i + 1)).getD j 0 = l.getD j 0 := by
      rw [List.getD_eq_getElem?_getD, List.getD_eq_getElem?_getD, List.getElem?_take_of_lt (by omega)]
    rw [hg] at e
    have hv : valN ((l.take (i + 1)).drop j) = (l.getD j 0).toNat % 128 + 128 * valN ((l.take (i + 1)).drop (j + 1)) := by rw [e]; rfl
    have hlt := valN_lt ((l.take (i + 1)).drop j)
    have hl9 : ((l.take (i + 1)).drop j).length ≤ 9 := by simp; omega
    have hp : 128 ^ ((l.take (i + 1)).drop j).length ≤ 128 ^ 9 := Nat.pow_le_pow_right (by decide) hl9
    refine Ev.step (fun k => ?_) (ih (by omega))
    simp only [skiarearef03_Get.l1]
    have hc : ((j + 1 : Nat) : Int) - 1 = (j : Int) := by omega
    rw [hc, if_pos (by omega), if_pos (by omega), if_pos (by omega), rd_nat, Int.tmod_eq_emod_of_nonneg hby.1]
    have w1 : wrap64 ((((valN ((l.take (i + 1)).drop (j + 1)) : Nat) : Int)) * 128) = (((valN ((l.take (i + 1)).drop (j + 1)) : Nat) : Int)) * 128 := wrap_id (by omega) (by omega)
    have w2 : wrap64 (l.getD j 0 % 128) = l.getD j 0 % 128 := wrap_id (by omega) (by omega)
    have w3 : wrap64 ((((valN ((l.take (i + 1)).drop (j + 1)) : Nat) : Int)) * 128 + l.getD j 0 % 128) = ((valN ((l.take (i + 1)).drop j) : Nat) : Int) := by rw [wrap_id (by omega) (by omega)]; omega
    rw [w1, w2, w3, wrap_id (i := (j : Int) - 1) (by omega) (by omega)]
theorem rget_l0 (l : List Int) (hb : Bytes l) : ∀ (m i : Nat), i + m = 9 → Ev (fun k => skiarearef03_Get.l0 k l (i : Int)) (getA l m i) := by
  intro m
  induction m with
  | zero =>
    intro i hi
    refine Ev.at1 (fun k => ?_)
    simp only [skiarearef03_Get.l0]
    rw [if_neg (by omega)]; rfl
  | succ m ih =>
    intro i hi
    have hga : getA l (m + 1) i = if l.length ≤ i then (0, 0, 5) else if l.getD i 0 ≥ 128 then getA l m (i + 1) else if l.getD i 0 = 0 ∧ 0 < i then (0, 0, 3) else (((valN (l.take (i + 1)) : Nat) : Int), ((i + 1 : Nat) : Int), 0) := rfl
    rw [hga]
    by_cases h1 : l.length ≤ i
    · rw [if_pos h1]
      refine Ev.at1 (fun k => ?_)
      simp only [skiarearef03_Get.l0]
      rw [if_pos (by omega), if_pos (by omega)]
    · rw [if_neg h1]
      have hil : i < l.length := by omega
      have hw2 : wrap64 ((i : Int) + 1) = ((i + 1 : Nat) : Int) := by rw [wrap_id (by omega) (by omega)]; rfl
      by_cases h2 : l.getD i 0 ≥ 128
      · rw [if_pos h2]
        refine Ev.step (fun k => ?_) (ih (i + 1) (by omega))
        simp only [skiarearef03_Get.l0]
        rw [if_pos (by omega), if_neg (by omega), if_pos (by omega), if_pos (by omega), rd_nat, if_pos h2, hw2]
      · rw [if_neg h2]
        have H := rget_l1 l hb i hil (by omega) (i + 1) (Nat.le_refl _)
        have e0 : (l.take (i + 1)).drop (i + 1) = [] := List.drop_eq_nil_of_le (by simp; omega)
        rw [e0] at H
        have hc : ((i + 1 : Nat) : Int) - 1 = (i : Int) := by omega
        rw [hc] at H
        by_cases h3 : l.getD i 0 = 0 ∧ 0 < i
        · rw [if_pos h3]
          refine Ev.step (f := fun k => skiarearef03_Get.j1 k l (i : Int) true) (fun k => ?_) (Ev.at1 (fun k => ?_))
          · simp only [skiarearef03_Get.l0]
            rw [if_pos (by omega), if_neg (by omega), if_pos (by omega), if_pos (by omega), rd_nat, if_neg h2, if_pos (by omega), h3.1]; rfl
          · simp only [skiarearef03_Get.j1, if_true]
        · rw [if_neg h3]
          refine Ev.step (f := fun k => skiarearef03_Get.j1 k l (i : Int) false) (fun k => ?_) (Ev.step (fun k => ?_) H)
          · simp only [skiarearef03_Get.l0]
            rw [if_pos (by omega), if_neg (by omega), if_pos (by omega), if_pos (by omega), rd_nat, if_neg h2]
            by_cases h4 : (i : Int) > 0
            · rw [if_pos h4]
              have : ¬ l.getD i 0 = 0 := fun e => h3 ⟨e, by omega⟩
              rw [beq_eq_false_iff_ne.mpr this]
            · rw [if_neg h4]
          · simp only [skiarearef03_Get.j1]; rfl
theorem rget_ev (l : List Int) (hb : Bytes l) : Ev (fun k => skiarearef03_Get.f k l) (getI l) := by
  unfold skiarearef03_Get.f
  exact rget_l0 l hb 9 0 rfl
theorem u32_nat (n : Nat) (h : n < 2 ^ 32) : IntKind.u32.wrap n = n := by rw [IntKind.wrap_u32]; omega
theorem xor_u32 (a b : Nat) (ha : a < 2 ^ 32) (hb : b < 2 ^ 32) : Go.bits .xor .u32 (a : Int) (b : Int) = ((a ^^^ b : Nat) : Int) := by
  rw [bits_xor_nat .u32 a b ha hb]; exact u32_nat _ (Nat.xor_lt_two_pow ha hb)
theorem and1_u32 (r : Nat) (h : r < 2 ^ 32) : Go.bits .and .u32 (r : Int) 1 = ((r % 2 : Nat) : Int) := by
  have e : Go.bits .and .u32 (r : Int) ((1 : Nat) : Int) = IntKind.u32.wrap ((r &&& 1 : Nat) : Int) := bits_and_nat .u32 r 1 h (by decide)
  rw [Nat.and_one_is_mod] at e
  exact e.trans (u32_nat _ (by omega))
theorem rsum_l1 (l : List Int) (r : Nat) (hr : r < 2 ^ 32) (i : Nat) (hi : i < 9223372036854775800) (R : Int) (H : Ev (fun k => skiarearef03_Sum.l0 k l ((stepsN 8 r : Nat) : Int) ((i + 1 : Nat) : Int)) R) :
    ∀ d j : Nat, j + d = 8 → Ev (fun k => skiarearef03_Sum.l1 k l ((stepsN j r : Nat) : Int) (i : Int) (j : Int)) R := by
  intro d
  induction d with
  | zero =>
    intro j hj
    obtain rfl : j = 8 := by omega
    refine Ev.step (fun k => ?_) H
    simp only [skiarearef03_Sum.l1]
    have w : wrap64 ((i : Int) + 1) = ((i + 1 : Nat) : Int) := by rw [wrap_id (by omega) (by omega)]; rfl
    rw [if_neg (by decide), w]
  | succ d ih =>
    intro j hj
    have hlt := steps_lt j hr
    refine Ev.step (fun k => ?_) (ih (j + 1) (by omega))
    simp only [skiarearef03_Sum.l1]
    have w : wrap64 ((j : Int) + 1) = ((j + 1 : Nat) : Int) := by rw [wrap_id (by omega) (by omega)]; rfl
    rw [if_pos (by omega), w, and1_u32 _ hlt]
    have hs : stepsN (j + 1) r = stepN (stepsN j r) := rfl
    rw [hs]
    generalize stepsN j r = s at hlt ⊢
    unfold stepN
    by_cases h : s % 2 = 1
    · rw [if_pos (by omega), if_pos h]
      have hx := xor_u32 (s / 2) 2197175160 (by omega) (by decide)
      have e : ((s / 2 : Nat) : Int) = (s : Int) / 2 := rfl
      rw [e] at hx
      have e2 : ((2197175160 : Nat) : Int) = 2197175160 := rfl
      rw [e2] at hx
      rw [hx]
    · rw [if_neg (by omega), if_neg h]
      rfl
theorem rsum_l0 (l : List Int) (hb : Bytes l) (hl : l.length ≤ 140737488351232) : ∀ d i : Nat, i + d = l.length → Ev (fun k => skiarearef03_Sum.l0 k l ((crcR 4294967295 (l.take i) : Nat) : Int) (i : Int)) ((crcN l : Nat) : Int) := by
  intro d
  induction d with
  | zero =>
    intro i hi
    refine Ev.at1 (fun k => ?_)
    simp only [skiarearef03_Sum.l0]
    rw [if_neg (by omega), List.take_of_length_le (by omega)]
    have hx := xor_u32 (crcR 4294967295 l) 4294967295 (crcR_lt (by decide) hb) (by decide)
    have e2 : ((4294967295 : Nat) : Int) = 4294967295 := rfl
    rw [e2] at hx
    rw [hx]; rfl
  | succ d ih =>
    intro i hi
    have hil : i < l.length := by omega
    have hby := hb.at i
    have hr : crcR 4294967295 (l.take i) < 2 ^ 32 := crcR_lt (by decide) (hb.take i)
    have hS : crcR 4294967295 (l.take (i + 1)) = stepsN 8 (crcR 4294967295 (l.take i) ^^^ (l.getD i 0).toNat) := by
      rw [take_succ l i hil, crcR_snoc, crcS_plain]
    have H := ih (i + 1) (by omega)
    rw [hS] at H
    refine Ev.step (fun k => ?_) (rsum_l1 l _ (Nat.xor_lt_two_pow hr (by omega)) i (by omega) _ H 8 0 rfl)
    simp only [skiarearef03_Sum.l0]
    rw [if_pos (by omega), if_pos (by omega), rd_nat]
    have e : l.getD i 0 % 4294967296 = (((l.getD i 0).toNat : Nat) : Int) := by omega
    rw [e, xor_u32 _ _ hr (by omega)]
    rfl
theorem rsum_ev (l : List Int) (hb : Bytes l) (hl : l.length ≤ 140737488351232) : Ev (fun k => skiarearef03_Sum.f k l) ((crcN l : Nat) : Int) := by
  unfold skiarearef03_Sum.f
  exact rsum_l0 l hb hl l.length 0 (by omega)
theorem rframe_ev (l : List Int) (hb : Bytes l) (hl : l.length ≤ 140737488351232) : Ev (fun k => skiarearef03_Frame.f k l) (frameN l) := by
  unfold skiarearef03_Frame.f
  refine Ev.bind (rsum_ev l hb hl) ?_
  refine Ev.bind (rput_ev [] (l.length : Int) (by omega) (by simp)) ?_
  have h9 := putN_len9 l.length (by omega)
  refine Ev.fix (fun k => ?_)
  simp only [Int.toNat_natCast, List.nil_append]
  rw [if_pos (by omega)]
  simp only [Option.bind_some]
  rw [if_pos (by simp; omega), be4_int]
  rfl
theorem runframe_ev (l : List Int) (hb : Bytes l) (hl : l.length ≤ 140737488351232) : Ev (fun k => skiarearef03_Unframe.f k l) (unI l) := by
  unfold skiarearef03_Unframe.f
  refine Ev.bind (rget_ev l hb) ?_
  unfold unI
  by_cases h1 : (getI l).2.2 = 0
  · obtain ⟨n, k, hg, hn, hk1, hk9, hkl, ht⟩ := getI_tells hb h1
    rw [hg]
    simp only [if_true, ne_eq, not_true_eq_false, if_false, Int.toNat_natCast]
    by_cases h2 : (n : Int) > 65536
    · simp only [if_pos h2]; exact Ev.now _
    · simp only [if_neg h2]
      have w1 : wrap64 ((l.length : Int) - (k : Int)) = (l.length : Int) - (k : Int) := wrap_id (by omega) (by omega)
      have w2 : wrap64 ((n : Int) + 4) = (n : Int) + 4 := wrap_id (by omega) (by omega)
      have w3 : wrap64 ((k : Int) + (n : Int)) = ((k + n : Nat) : Int) := by rw [wrap_id (by omega) (by omega)]; rfl
      have w4 : wrap64 (((k + n : Nat) : Int) + 4) = ((k + n + 4 : Nat) : Int) := by rw [wrap_id (by omega) (by omega)]; rfl
      simp only [w1, w2, w3, w4]
      by_cases h3 : (l.length : Int) - (k : Int) < (n : Int) + 4
      · simp only [if_pos h3]; exact Ev.now _
      · simp only [if_neg h3, Int.toNat_natCast]
        have c1 := cut_mid l k n
        have hb1 : Bytes ((l.drop k).take n) := (hb.drop k).take n
        have hb2 : Bytes ((l.drop (k + n)).take 4) := (hb.drop (k + n)).take 4
        have hl2 : ((l.drop (k + n)).take 4).length = 4 := by simp; omega
        have hl1 : ((l.drop k).take n).length = n := by simp; omega
        have p1 : (0 : Int) ≤ (k : Int) := by omega
        have p2 : (k : Int) ≤ ((k + n : Nat) : Int) := by omega
        have p3 : ((k + n : Nat) : Int) ≤ (l.length : Int) := by omega
        have p4 : ([] : List Int).length + ((l.drop k).take n).length < 140737488355328 := by simp; omega
        have p5 : (0 : Int) ≤ ((k + n + 4 : Nat) : Int) := by omega
        have p6 : ((k + n + 4 : Nat) : Int) ≤ (l.length : Int) := by omega
        have e9 : ((k : Int) + (n : Int)).toNat = k + n := by omega
        simp only [c1, if_pos p1, if_pos p2, if_pos p3, if_pos p4, if_pos p5, if_pos p6, e9, List.nil_append, Option.bind_some]
        refine Ev.bind (rframe_ev _ hb1 (by omega)) ?_
        refine Ev.fix (fun _ => ?_)
        rw [same_f (frameN_bytes hb1) (hb.take _), Option.bind_some]
        have ht4 : l.take (k + n + 4) = putN n ++ (l.drop k).take n ++ (l.drop (k + n)).take 4 := by
          rw [List.take_add, List.take_add, ht]
        have hbe := be4_ofBe hb2 hl2
        by_cases h4 : crcN ((l.drop k).take n) = ofBe ((l.drop (k + n)).take 4)
        · have hf : frameN ((l.drop k).take n) = l.take (k + n + 4) := by
            unfold frameN
            rw [hl1, h4, hbe.1, ht4]
          rw [decide_eq_true hf, if_pos rfl, if_pos h4]
          have : ((k + n + 4 : Nat) : Int) = (k : Int) + (n : Int) + 4 := by omega
          rw [this]
        · have hf : ¬ frameN ((l.drop k).take n) = l.take (k + n + 4) := by
            intro e
            apply h4
            unfold frameN at e
            rw [hl1, ht4] at e
            have e2 := List.append_cancel_left e
            rw [← e2, ofBe_be4 _ (crcN_lt hb1)]
          rw [decide_eq_false hf, if_neg (by simp), if_neg h4]
  · simp only [if_neg h1, ne_eq, h1, not_false_eq_true, if_true]
    exact Ev.now _
theorem rencode_l0 (m : Med) (hg0 : 0 ≤ m.g) (hg1 : m.g < 18446744073709551616) (b : List Int) (hb : Bytes b) (hl : b.length ≤ 1000) : ∀ (d i : Nat), i + d = 8 →
    Ev (fun k => skiarearef25_Encode.l0 k (b ++ (be8 m.g.toNat).take i) (7 - (i : Int)) m.s m.c m.p m.f m.l m.t m.i m.a m.g) (frameN (b ++ be8 m.g.toNat)) := by
  intro d
  induction d with
  | zero =>
    intro i hi
    obtain rfl : i = 8 := by omega
    have e : (be8 m.g.toNat).take 8 = be8 m.g.toNat := rfl
    rw [e]
    refine Ev.step (f := fun k => (skiarearef03_Frame.f k (b ++ be8 m.g.toNat)).bind fun t => some t) (fun k => ?_) (Ev.bind (rframe_ev _ (hb.append (be8_bytes _)) (by rw [List.length_append, be8_len]; omega)) (Ev.now _))
    simp only [skiarearef25_Encode.l0]
    rw [if_neg (by decide)]
  | succ d ih =>
    intro i hi
    refine Ev.step (fun k => ?_) (ih (i + 1) (by omega))
    simp only [skiarearef25_Encode.l0]
    have e1 : wrap64 (7 - (i : Int)) = 7 - (i : Int) := wrap_id (by omega) (by omega)
    have e2 : wrap64 (8 * (7 - (i : Int))) = 8 * (7 - (i : Int)) := wrap_id (by omega) (by omega)
    have e3 : wrap64 (7 - (i : Int) - 1) = 7 - ((i + 1 : Nat) : Int) := by rw [wrap_id (by omega) (by omega)]; push_cast; omega
    have hs := shr8 m.g.toNat i (by omega) (by omega)
    have hgn : ((m.g.toNat : Nat) : Int) = m.g := by omega
    rw [hgn, e1] at hs
    have hlen : (b ++ (be8 m.g.toNat).take i).length < 140737488355328 := by
      rw [List.length_append, List.length_take, be8_len]; omega
    rw [if_pos (by omega), if_pos (by rw [e2]; omega), if_pos hlen, hs, e3, take_succ _ i (by rw [be8_len]; omega), ← List.append_assoc]
theorem rencode_ev {m : Med} (h : rightM m = 0) (hg0 : 0 ≤ m.g) (hg1 : m.g < 18446744073709551616) : Ev (fun k => skiarearef25_Encode.f k m.s m.c m.p m.f m.l m.t m.i m.a m.g) (encN m) := by
  unfold skiarearef25_Encode.f
  refine Ev.bind (rbody_ev h) ?_
  have hl := body_len h
  have H := rencode_l0 m hg0 hg1 (bodyN m) (body_bytes m) (by omega) 8 0 rfl
  have e : bodyN m ++ (be8 m.g.toNat).take 0 = bodyN m := by simp
  rw [e] at H
  exact H
theorem rread_l1 (b : List Int) (x0 x1 x2 x3 x4 x5 x6 x7 : Int) : ∀ (d i : Nat), i + d = min 8 b.length → ∀ r : Int, r = tagF 0 (b.take i) →
    Ev (fun k => skiarearef25_read.l1 k b (i : Int) x0 x1 x2 x3 x4 x5 x6 x7 r) (x0, x1, x2, x3, x4, x5, x6, x7, tagF 0 (b.take 8)) := by
  intro d
  induction d with
  | zero =>
    intro i hi r hr
    refine Ev.at1 (fun k => ?_)
    simp only [skiarearef25_read.l1]
    have e : b.take i = b.take 8 := by
      rcases Nat.le_total 8 b.length with h | h
      · rw [show i = 8 by omega]
      · rw [List.take_of_length_le (by omega), List.take_of_length_le (by omega)]
    by_cases h1 : (i : Int) < (b.length : Int)
    · have h2 : ¬ (i : Int) < 8 := by omega
      rw [if_pos h1, if_neg h2, hr, e]
    · rw [if_neg h1, hr, e]
  | succ d ih =>
    intro i hi r hr
    have e3 : wrap64 ((i : Int) + 1) = ((i + 1 : Nat) : Int) := by rw [wrap_id (by omega) (by omega)]; rfl
    refine Ev.step (fun k => ?_) (ih (i + 1) (by omega) _ (by rw [take_succ b i (by omega), tagF_snoc, ← hr]))
    simp only [skiarearef25_read.l1]
    rw [if_pos (by omega), if_pos (by omega), if_pos (by omega), e3, rd_nat]
theorem rread_l0 : ∀ (d : Nat) (b ns : List Int), ns.length + d = 8 → Bytes b → b.length ≤ 140737488351232 → Ev (fun k => skiarearef25_read.l0 k b ns) (T9 (readB d b ns)) := by
  intro d
  induction d with
  | zero =>
    intro b ns hn hb hl
    refine Ev.step (f := fun k => skiarearef25_read.l1 k b 0 (rd ns 0) (rd ns 1) (rd ns 2) (wrap64 (rd ns 3 - 1)) (rd ns 4) (wrap64 (rd ns 5 - 1)) (rd ns 6) (wrap64 (rd ns 7 - 1)) 0) (fun k => ?_) (rread_l1 b _ _ _ _ _ _ _ _ (min 8 b.length) 0 (by omega) 0 rfl)
    simp only [skiarearef25_read.l0]
    rw [if_neg (by omega), if_pos (by omega), if_pos (by omega), if_pos (by omega), if_pos (by omega), if_pos (by omega), if_pos (by omega), if_pos (by omega), if_pos (by omega)]
  | succ d ih =>
    intro b ns hn hb hl
    refine Ev.step (f := fun k => (skiarearef03_Get.f k b).bind fun g => if g.2.2 = 0 then (if g.1 > 20000001 then some (0, 0, 0, 0, 0, 0, 0, 0, 0) else (if ns.length < 17592186044416 then (if 0 ≤ g.2.1 then (if g.2.1 ≤ (b.length : Int) then (skiarearef25_read.l0 k (b.drop (g.2.1 : Int).toNat) (ns ++ [g.1])) else none) else none) else none)) else some (0, 0, 0, 0, 0, 0, 0, 0, 0)) (fun k => ?_) (Ev.bind (rget_ev b hb) ?_)
    · simp only [skiarearef25_read.l0]
      rw [if_pos (by omega)]
    · have hra : readB (d + 1) b ns = if (getI b).2.2 = 0 then (if (getI b).1 > 20000001 then zeroM else readB d (b.drop (getI b).2.1.toNat) (ns ++ [(getI b).1])) else zeroM := rfl
      rw [hra]
      by_cases h : (getI b).2.2 = 0
      · obtain ⟨n, k, hg, hn2, hk1, hk9, hkl, _⟩ := getI_tells hb h
        rw [hg]
        have p1 : (0 : Int) ≤ (k : Int) := by omega
        have p2 : (k : Int) ≤ (b.length : Int) := by omega
        have p3 : ns.length < 17592186044416 := by omega
        simp only [if_true, if_pos p1, if_pos p2, if_pos p3, Int.toNat_natCast]
        by_cases h2 : (n : Int) > 20000001
        · simp only [if_pos h2]; exact Ev.now _
        · simp only [if_neg h2]
          exact ih _ _ (by simp; omega) (hb.drop k) (by simp; omega)
      · simp only [if_neg h]
        exact Ev.now _
theorem rread_ev (b : List Int) (hb : Bytes b) (hl : b.length ≤ 140737488351232) : Ev (fun k => skiarearef25_read.f k b) (T9 (readB 8 b [])) := by
  unfold skiarearef25_read.f
  exact rread_l0 8 b [] rfl hb hl
theorem rdecode_ev (l : List Int) (hb : Bytes l) (hl : l.length ≤ 140737488351232) : Ev (fun k => skiarearef25_Decode.f k l) (T10 (decI l)) := by
  unfold skiarearef25_Decode.f
  refine Ev.bind (runframe_ev l hb hl) ?_
  by_cases h1 : (unI l).2.2 = 0
  · obtain ⟨b, k, e, _, _, hk5, hkl, _, _⟩ := unI_tells hb h1
    simp only [if_pos h1]
    by_cases h2 : (unI l).2.1 = (l.length : Int)
    · have n2 : ¬ (unI l).2.1 < (l.length : Int) := by omega
      simp only [if_neg n2]
      obtain ⟨b1, b2⟩ := unI_fst hb
      rw [← decB hb h1 h2]
      refine Ev.bind (rread_ev _ b1 (by omega)) ?_
      refine Ev.bind (rright_ev (readB 8 (unI l).1 [])) ?_
      by_cases h3 : rightM (readB 8 (unI l).1 []) = 0
      · simp only [if_pos h3]
        have hg := readB_g 8 (unI l).1 []
        refine Ev.bind (rencode_ev h3 hg.1 hg.2) ?_
        refine Ev.fix (fun k => ?_)
        by_cases h4 : encN (readB 8 (unI l).1 []) = l
        · rw [if_pos ⟨h3, h4⟩, h4, same_self hb]; rfl
        · have hs : skiarearef03_Same.f (encN (readB 8 (unI l).1 [])) l = some false := by rw [same_f (enc_bytes _) hb, decide_eq_false h4]
          rw [if_neg (fun e => h4 e.2), hs]; rfl
      · simp only [if_neg h3]
        refine Ev.fix (fun k => ?_)
        rw [if_neg (fun e => h3 e.1)]; rfl
    · have h2' : (unI l).2.1 < (l.length : Int) := by
        rw [e] at h2 ⊢; simp only at h2 ⊢; omega
      unfold decI
      have n1 : ¬ (unI l).2.2 ≠ 0 := fun h => h h1
      simp only [if_pos h2', if_neg n1, ne_eq, h2, not_false_eq_true, if_true]
      exact Ev.now _
  · unfold decI
    simp only [if_neg h1, ne_eq, h1, not_false_eq_true, if_true]
    exact Ev.now _
theorem MediaDecodes : skiarealaw25_MediaDecodes.Pure := by
  intro l hm hl hw
  have hb := Bytes.of_wf hw
  refine Ev.rounds ?_
  unfold skiarealaw25_MediaDecodes.f
  refine Ev.bind alive_ev ?_
  simp only [if_true]
  by_cases h2 : (l.length : Int) > 1000
  · simp only [if_pos h2]; exact Ev.now true
  · simp only [if_neg h2]
    refine Ev.bind (decode_ev l hb (by omega)) ?_
    refine Ev.bind (rdecode_ev l hb (by omega)) ?_
    simp only [BEq.rfl, Bool.and_self, if_true]
    exact Ev.now true
end Go.Proofs.Ytdlinojgmllkoaa.Pure
