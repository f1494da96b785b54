/- journal: the next ride of a reader: three cells of its state are turned, or the reading ends. -/
import Derived.Test.YtohjkgboehnamaaQHRead
namespace Go.Proofs.Ytohjkgboehnamaa.Q
open Go.RowKit Go.Proofs.YtohjkgboehnamaaW.PrintWords Go.Proofs.YtohjkgboehnamaaW.PrintLast Go.Proofs.YtohjkgboehnamaaW.PrintMore
attribute [local irreducible] Calls codec_Get.f codec_Unframe.f journal_frame.f slices_Equal_byte_byte.f
set_option linter.unusedVariables false
set_option linter.unusedSimpArgs false

/-- The cells of a reader. -/
def rdr (A : Option Addr) (n c : Nat) (v : Value) (sz lk : Int) : Array Value := #[.slice A n c, v, .int .i64 sz, .int .u64 lk]
/-- A ride of seven numbers. -/
def rideOf (ns : List Int) : S39 := ⟨rd ns 0, rd ns 1, rd ns 2, rd ns 3, rd ns 4, rd ns 5, rd ns 6⟩
/-- The next ride, how long its frame is, and its link; or none, where the reading ends. -/
def nextF (k : Nat) (l : List Int) (sz lk : Int) : Option (Option (S39 × Int × Int)) :=
  if 0 ≤ sz then (if sz ≤ (l.length : Int) then ((codec_Unframe.f k (l.drop sz.toNat)).bind fun u => if u.2.2 = 0 then ((rideF k 7 u.1 []).bind fun o => match o with
    | none => some none
    | some ns => (journal_frame.f k (rd ns 0) (rd ns 1) (rd ns 2) (rd ns 3) (rd ns 4) (rd ns 5) (rd ns 6) lk).bind fun f => if sz ≤ wrap64 (sz + u.2.1) then (if wrap64 (sz + u.2.1) ≤ (l.length : Int) then ((slices_Equal_byte_byte.f k f.1 ((l.take (wrap64 (sz + u.2.1)).toNat).drop sz.toNat)).bind fun b => if b = true then some (some (rideOf ns, u.2.1, f.2)) else some none) else none) else none) else some none) else none) else none
/-- What a step leaves behind. -/
def nextPost (base g : Nat) (A : Option Addr) (n c : Nat) (v1 : Value) (sz lk : Int) (rs : List S39) : Option (S39 × Int × Int) → Ending → World → Prop
  | none, e, w' => e = .panicked [dam] ∧ w'.heap[g]? = some (.cells (rdr A n c v1 sz lk) 52 (0, 0)) ∧ Kd.R k39 39 w' base (fun _ => True) v1 rs
  | some x, e, w' => e = .returned (.tuple #[]) ∧ ∃ v2, w'.heap[g]? = some (.cells (rdr A n c v2 (wrap64 (sz + x.2.1)) x.2.2) 52 (0, 0)) ∧ Kd.R k39 39 w' base (fun _ => True) v2 (rs ++ [x.1])
set_option maxHeartbeats 4000000 in
set_option maxRecDepth 100000 in
theorem journal_next.calls (k : Nat) (w0 w : World) (g : Nat) (A : Option Addr) (c : Nat) (l : List Int) (v1 : Value) (rs : List S39) (sz lk : Int) (r : Option (S39 × Int × Int)) (hc : Kd.C (Kd.int .u8) w A l.length l) (hl : l.length ≤ c)
    (hbk : w.heap[g]? = some (.cells (rdr A l.length c v1 sz lk) 52 (0, 0))) (hR : Kd.R k39 39 w w0.heap.size (fun _ => True) v1 rs) (hB : Below w0.heap.size w0 w) (hg : w0.heap.size ≤ g) (hrs : (rs.length + 1) * 56 ≤ 140737488355328) (h : nextF k l sz lk = some r) :
    Calls Try.prog 49 #[.pointer (some ⟨g, 0, none⟩)] w fun e w' => Below w0.heap.size w0 w' ∧ nextPost w0.heap.size g A l.length c v1 sz lk rs r e w' := by
  unfold nextF at h
  by_cases c8 : 0 ≤ sz
  case neg => rw [if_neg c8] at h; simp at h
  rw [if_pos c8] at h
  by_cases c9 : sz ≤ (l.length : Int)
  case neg => rw [if_neg c9] at h; simp at h
  rw [if_pos c9] at h
  obtain ⟨⟨bd, un, ue⟩, hu, h⟩ := Option.bind_eq_some_iff.mp h
  have HU := Aside0.mk hu
  have HC := Aside0.mk hc
  have HL := Aside0.mk hl
  have BK := Aside0.mk hbk
  have HR := Aside0.mk hR
  have HB := Aside0.mk hB
  have HG := Aside0.mk hg
  have HRS := Aside0.mk hrs
  have HH := Aside0.mk h
  clear hu hc hl hbk hR hB hg hrs h
  go_enter Try.func49, Try.ntmps49
  go_wp2
  have hc0 : w.cell? ⟨g, 0, none⟩ = some (.slice A l.length c) := (blk_cell BK.out 0).trans rfl
  have hc2 : w.cell? ⟨g, 2, none⟩ = some (.int .i64 sz) := (blk_cell BK.out 2).trans rfl
  obtain ⟨i05, hi05, _, hsz5, _⟩ := info_parts info5
  obtain ⟨A', hcut, hA, hC⟩ := print_drop_of (P := Try.prog) (Value.int .u8) 0 24 5 .i64 Try.underlying24 hi05 hsz5 A c l sz c8 c9 HL.out
  have HC2 := Aside0.mk (Kd.C_of_reads (h1 := fun _ => rfl) (hA _ (Kd.reads_of_C HC.out)))
  have HL2 := Aside0.mk hC
  have HCUT5 := Aside0.mk hi05
  have HSZ5 := Aside0.mk hsz5
  clear hA hC hi05 hsz5
  refine start_ (n := 17) (S := fun w' => w'.cell? ⟨g, 0, none⟩ = some (.slice A l.length c) ∧ w'.cell? ⟨g, 2, none⟩ = some (.int .i64 sz)) (ds := []) #[false, false, false, false, false, false, false, false, false, false, false, false, false, false, false, false, false] (by kernel_rfl) rfl rfl ⟨hc0, hc2⟩ (fun hHeld => ?_)
  have n0_ := Aside0.mk (below_drew1 HB.out)
  have n1_ := Aside0.mk (blk_drew BK.out)
  have n2_ := Aside0.mk (Kd.R_drew HR.out)
  have n3_ := Aside0.mk (Kd.C_drew HC.out)
  clear HB BK HR HC
  have HB := n0_
  have BK := n1_
  have HR := n2_
  have HC := n3_
  clear n0_ n1_ n2_ n3_
  have HC3 := Aside0.mk (Kd.C_drew HC2.out)
  have HB0 := Aside0.mk HB.out
  generalize w.drew = wd0 at HB BK HR HC hHeld HC3 HB0 ⊢
  refine pure_ (i := 0) (N := some 9) (v := ?_) (a' := ?_) #[true, false, false, false, false, false, false, false, false, false, false, false, false, false, false, false, false] rfl rfl (by kernel_rfl) (fun _ _ _ h => h) (Or.inl ⟨by rfl, ?_⟩) ?_ ?_
  rotate_left
  · intro w'
    go_simp
    with_reducible rfl
  rotate_left
  · simp only [Act.put, List.setIfInBounds_toArray, List.set_cons_zero, List.set_cons_succ, i64_w, i32_w]
    rfl
  refine pure_ (i := 1) (N := some 10) (v := ?_) (a' := ?_) #[true, true, false, false, false, false, false, false, false, false, false, false, false, false, false, false, false] rfl rfl (by kernel_rfl) (fun _ _ _ h => h) (Or.inl ⟨by rfl, ?_⟩) ?_ ?_
  rotate_left
  · intro w'
    go_simp
    with_reducible rfl
  rotate_left
  · simp only [Act.put, List.setIfInBounds_toArray, List.set_cons_zero, List.set_cons_succ, i64_w, i32_w]
    rfl
  refine pure_ (i := 2) (N := some 11) (v := ?_) (a' := ?_) #[true, true, true, false, false, false, false, false, false, false, false, false, false, false, false, false, false] rfl rfl (by kernel_rfl) (fun _ _ _ h => h) (Or.inl ⟨by rfl, ?_⟩) ?_ ?_
  rotate_left
  · intro w'
    go_simp
    with_reducible rfl
  rotate_left
  · simp only [Act.put, List.setIfInBounds_toArray, List.set_cons_zero, List.set_cons_succ, i64_w, i32_w]
    rfl
  refine pure_ (i := 4) (N := some 13) (v := ?_) (a' := ?_) #[true, true, true, false, true, false, false, false, false, false, false, false, false, false, false, false, false] rfl rfl (by kernel_rfl) (fun _ _ _ h => h) (Or.inl ⟨by rfl, ?_⟩) ?_ ?_
  rotate_left
  · intro w'
    go_simp
    with_reducible rfl
  rotate_left
  · simp only [Act.put, List.setIfInBounds_toArray, List.set_cons_zero, List.set_cons_succ, i64_w, i32_w]
    rfl
  refine pure_ (i := 5) (N := some 14) (v := ?_) (a' := ?_) #[true, true, true, false, true, true, false, false, false, false, false, false, false, false, false, false, false] rfl rfl (by kernel_rfl) (fun _ _ _ h => h) (Or.inl ⟨by rfl, ?_⟩) ?_ ?_
  rotate_left
  · intro w'
    go_simp
    with_reducible rfl
  rotate_left
  · simp only [Act.put, List.setIfInBounds_toArray, List.set_cons_zero, List.set_cons_succ, i64_w, i32_w]
    rfl
  refine pure_ (i := 6) (N := some 15) (v := ?_) (a' := ?_) #[true, true, true, false, true, true, true, false, false, false, false, false, false, false, false, false, false] rfl rfl (by kernel_rfl) (fun _ _ _ h => h) (Or.inl ⟨by rfl, ?_⟩) ?_ ?_
  rotate_left
  · intro w'
    go_simp
    with_reducible rfl
  rotate_left
  · simp only [Act.put, List.setIfInBounds_toArray, List.set_cons_zero, List.set_cons_succ, i64_w, i32_w]
    rfl
  refine take_ (i := 3) (N := some 12) (v := ?_) (a' := ?_) #[true, true, true, true, true, true, true, false, false, false, false, false, false, false, false, false, false] rfl rfl (by kernel_rfl) (fun _ _ _ h => h) (Or.inl ⟨by rfl, ?_⟩) hHeld ?_ ?_
  rotate_left
  · rintro w' ⟨s0, s1⟩
    go_simp
    with_reducible rfl
  rotate_left
  · simp only [Act.put, List.setIfInBounds_toArray, List.set_cons_zero, List.set_cons_succ, i64_w, i32_w]
    rfl
  refine take_ (i := 7) (N := some 16) (v := ?_) (a' := ?_) #[true, true, true, true, true, true, true, true, false, false, false, false, false, false, false, false, false] rfl rfl (by kernel_rfl) (fun _ _ _ h => h) (Or.inl ⟨by rfl, ?_⟩) hHeld ?_ ?_
  rotate_left
  · rintro w' ⟨s0, s1⟩
    go_simp
    with_reducible rfl
  rotate_left
  · simp only [Act.put, List.setIfInBounds_toArray, List.set_cons_zero, List.set_cons_succ, i64_w, i32_w]
    rfl
  refine pure_ (i := 8) (N := some 17) (v := ?_) (a' := ?_) #[true, true, true, true, true, true, true, true, true, false, false, false, false, false, false, false, false] rfl rfl (by kernel_rfl) (fun _ _ _ h => h) (Or.inl ⟨by rfl, ?_⟩) ?_ ?_
  rotate_left
  · intro w'
    go_simp
    with_reducible rfl
  rotate_left
  · simp only [Act.put, List.setIfInBounds_toArray, List.set_cons_zero, List.set_cons_succ, i64_w, i32_w]
    rfl
  refine one_ (i := 9) (N := some 18) #[true, true, true, true, true, true, true, true, true, true, false, false, false, false, false, false, false] rfl rfl (by kernel_rfl) (by decide) (fun K hK => ?_)
  refine goes_ Try.func57 (by kernel_rfl) rfl #[.slice A' (l.drop sz.toNat).length (c - sz.toNat)] (by rfl) rfl rfl (by (try simp only [List.map_toArray, List.map_cons, List.map_nil]); first | done | rfl | (simp only [List.length_drop, List.length_take]; rfl)) ?_
  refine (codec_Unframe.calls k A' (c - sz.toNat) (l.drop sz.toNat) bd un ue _ HC3.out HL2.out HU.out).mono ?_
  rintro e w11 ⟨vb, rfl, ho, hb⟩
  refine ⟨_, rfl, ?_⟩
  have n0_ := Aside0.mk (below_step HB.out hb)
  have n1_ := Aside0.mk (blk_below BK.out hb)
  have n2_ := Aside0.mk (Kd.R_below HR.out hb)
  have n3_ := Aside0.mk (Kd.C_below HC.out hb)
  clear HB BK HR HC
  have HB := n0_
  have BK := n1_
  have HR := n2_
  have HC := n3_
  clear n0_ n1_ n2_ n3_
  have HO := Aside0.mk (Kd.R_lower ho (Nat.le_trans (below_size HB0.out) (Nat.le_refl _)))
  clear ho hb hc0 hc2
  refine hK.out _ _ ⟨(blk_cell BK.out 0).trans rfl, (blk_cell BK.out 2).trans rfl⟩ (fun hHeld => ?_)
  clear hK K
  refine norm_ (a' := ?_) ?_ ?_
  rotate_left
  · show Act.put _ (some 18) _ = _
    simp only [Act.put, List.setIfInBounds_toArray, List.set_cons_zero, List.set_cons_succ, i64_w, i32_w]
    rfl
  refine pure_ (i := 10) (N := some 8) (v := ?_) (a' := ?_) #[true, true, true, true, true, true, true, true, true, true, true, false, false, false, false, false, false] rfl rfl (by kernel_rfl) (fun _ _ _ h => h) (Or.inl ⟨by rfl, ?_⟩) ?_ ?_
  rotate_left
  · intro w'
    go_simp
    with_reducible rfl
  rotate_left
  · simp only [Act.put, List.setIfInBounds_toArray, List.set_cons_zero, List.set_cons_succ, i64_w, i32_w]
    rfl
  refine pure_ (i := 11) (N := some 19) (v := ?_) (a' := ?_) #[true, true, true, true, true, true, true, true, true, true, true, true, false, false, false, false, false] rfl rfl (by kernel_rfl) (fun _ _ _ h => h) (Or.inl ⟨by rfl, ?_⟩) ?_ ?_
  rotate_left
  · intro w'
    go_simp
    with_reducible rfl
  rotate_left
  · simp only [Act.put, List.setIfInBounds_toArray, List.set_cons_zero, List.set_cons_succ, i64_w, i32_w]
    rfl
  refine pure_ (i := 12) (N := some 20) (v := ?_) (a' := ?_) #[true, true, true, true, true, true, true, true, true, true, true, true, true, false, false, false, false] rfl rfl (by kernel_rfl) (fun _ _ _ h => h) (Or.inl ⟨by rfl, ?_⟩) ?_ ?_
  rotate_left
  · intro w'
    go_simp
    with_reducible rfl
  rotate_left
  · simp only [Act.put, List.setIfInBounds_toArray, List.set_cons_zero, List.set_cons_succ, i64_w, i32_w]
    rfl
  refine pure_ (i := 13) (N := some 21) (v := ?_) (a' := ?_) #[true, true, true, true, true, true, true, true, true, true, true, true, true, true, false, false, false] rfl rfl (by kernel_rfl) (fun _ _ _ h => h) (Or.inl ⟨by rfl, ?_⟩) ?_ ?_
  rotate_left
  · intro w'
    go_simp
    with_reducible rfl
  rotate_left
  · simp only [Act.put, List.setIfInBounds_toArray, List.set_cons_zero, List.set_cons_succ, i64_w, i32_w]
    rfl
  refine pure_ (i := 14) (N := some 2) (v := ?_) (a' := ?_) #[true, true, true, true, true, true, true, true, true, true, true, true, true, true, true, false, false] rfl rfl (by kernel_rfl) (fun _ _ _ h => h) (Or.inl ⟨by rfl, ?_⟩) ?_ ?_
  rotate_left
  · intro w'
    go_simp
    with_reducible rfl
  rotate_left
  · simp only [Act.put, List.setIfInBounds_toArray, List.set_cons_zero, List.set_cons_succ, i64_w, i32_w]
    rfl
  refine pure_ (i := 15) (N := some 3) (v := ?_) (a' := ?_) #[true, true, true, true, true, true, true, true, true, true, true, true, true, true, true, true, false] rfl rfl (by kernel_rfl) (fun _ _ _ h => h) (Or.inl ⟨by rfl, ?_⟩) ?_ ?_
  rotate_left
  · intro w'
    go_simp
    with_reducible rfl
  rotate_left
  · simp only [Act.put, List.setIfInBounds_toArray, List.set_cons_zero, List.set_cons_succ, i64_w, i32_w]
    rfl
  refine pure_ (i := 16) (N := some 4) (v := ?_) (a' := ?_) #[true, true, true, true, true, true, true, true, true, true, true, true, true, true, true, true, true] rfl rfl (by kernel_rfl) (fun _ _ _ h => h) (Or.inl ⟨by rfl, ?_⟩) ?_ ?_
  rotate_left
  · intro w'
    go_simp
    with_reducible rfl
  rotate_left
  · simp only [Act.put, List.setIfInBounds_toArray, List.set_cons_zero, List.set_cons_succ, i64_w, i32_w]
    rfl
  refine done_ (by kernel_rfl) ?_

  clear hHeld hcut HC3 HB0
  by_cases c7 : ue = 0
  case neg =>
    have hh := HH.out
    rw [if_neg c7] at hh
    have c7b : (ue != 0) = true := by simpa using c7
    obtain rfl := Option.some.inj hh
    go_wp2
    exact ⟨rfl, HB.out, rfl, BK.out, HR.out⟩
  have c7b : (ue != 0) = false := by simpa using c7
  have hh := HH.out
  rw [if_pos c7] at hh
  obtain ⟨o, ho, hh⟩ := Option.bind_eq_some_iff.mp hh
  obtain ⟨Ab, cb, rfl, hlb, hCb⟩ := Kd.R_reads HO.out
  have hr := journal_ride.calls k Ab cb bd o w11 hCb hlb ho
  cases o with
  | none =>
    obtain rfl := Option.some.inj hh
    simp only [rideE] at hr
    go_wp2_with (go_at_call 58; refine hr.mono ?_; rintro e w12 ⟨rfl, hb⟩)
    exact ⟨rfl, below_step HB.out hb, rfl, blk_below BK.out hb, Kd.R_below HR.out hb⟩
  | some ns =>
    obtain ⟨⟨f1, f2⟩, hf, hh⟩ := Option.bind_eq_some_iff.mp hh
    by_cases c10 : sz ≤ wrap64 (sz + un)
    case neg => simp only [if_neg c10] at hh; simp at hh
    by_cases c11 : wrap64 (sz + un) ≤ (l.length : Int)
    case neg => simp only [if_neg c11, ite_self] at hh; simp at hh
    simp only [if_pos c10, if_pos c11] at hh
    obtain ⟨b, he, hh⟩ := Option.bind_eq_some_iff.mp hh
    have HF := Aside0.mk hf
    have HE := Aside0.mk he
    have HX := Aside0.mk hh
    clear hf he hh ho hCb hlb
    simp only [rideE, arr7, sev] at hr
    go_wp2_with (go_at_call 58; refine hr.mono ?_; rintro e w12 ⟨rfl, hb⟩; have n0_ := Aside0.mk (below_step HB.out hb); have n1_ := Aside0.mk (blk_below BK.out hb); have n2_ := Aside0.mk (Kd.R_below HR.out hb); have n3_ := Aside0.mk (Kd.C_below HC.out hb); clear HB BK HR HC; have HB := n0_; have BK := n1_; have HR := n2_; have HC := n3_; clear n0_ n1_ n2_ n3_ hb)
    clear hr
    obtain ⟨n0, hn0⟩ : ∃ z, rd ns 0 = z := ⟨_, rfl⟩
    obtain ⟨n1, hn1⟩ : ∃ z, rd ns 1 = z := ⟨_, rfl⟩
    obtain ⟨n2, hn2⟩ : ∃ z, rd ns 2 = z := ⟨_, rfl⟩
    obtain ⟨n3, hn3⟩ : ∃ z, rd ns 3 = z := ⟨_, rfl⟩
    obtain ⟨n4, hn4⟩ : ∃ z, rd ns 4 = z := ⟨_, rfl⟩
    obtain ⟨n5, hn5⟩ : ∃ z, rd ns 5 = z := ⟨_, rfl⟩
    obtain ⟨n6, hn6⟩ : ∃ z, rd ns 6 = z := ⟨_, rfl⟩
    have hrid : rideOf ns = (⟨n0, n1, n2, n3, n4, n5, n6⟩ : S39) := by unfold rideOf; rw [hn0, hn1, hn2, hn3, hn4, hn5, hn6]
    have HRID := Aside0.mk hrid
    have hF2 := HF.out
    simp only [hn0, hn1, hn2, hn3, hn4, hn5, hn6] at hF2 ⊢
    have HF2 := Aside0.mk hF2
    clear hF2 hrid hn0 hn1 hn2 hn3 hn4 hn5 hn6 HF
    obtain ⟨W4, hW4⟩ : ∃ W4, W4 = w12.alloc (Obj.cells #[.int .i64 n0, .int .i64 n1, .int .i64 n2, .int .i64 n3, .int .i64 n4, .int .i64 n5, .int .i64 n6] 39) := ⟨_, rfl⟩
    have BR := Aside0.mk (show W4.heap[w12.heap.size]? = some (.cells (sev n0 n1 n2 n3 n4 n5 n6) 39 (0, 0)) by rw [hW4]; exact blk_new _ _)
    have m0 := Aside0.mk (show Below w0.heap.size w0 W4 by rw [hW4]; exact below_alloc HB.out _)
    have m1 := Aside0.mk (show W4.heap[g]? = some (.cells (rdr A l.length c v1 sz lk) 52 (0, 0)) by rw [hW4]; exact blk_alloc BK.out _)
    have m2 := Aside0.mk (show Kd.R k39 39 W4 w0.heap.size (fun _ => True) v1 rs by rw [hW4]; exact Kd.R_alloc HR.out _)
    have m3 := Aside0.mk (show Kd.C (Kd.int .u8) W4 A l.length l by rw [hW4]; exact Kd.C_alloc HC.out _)
    rw [← hW4]
    clear HB BK HR HC hW4
    have HB := m0
    have BK := m1
    have HR := m2
    have HC := m3
    clear m0 m1 m2 m3
    generalize w12.heap.size = gr at BR ⊢
    refine start_ (n := 11) (S := fun w' => w'.cell? ⟨gr, 0, none⟩ = some (.int .i64 n0) ∧ w'.cell? ⟨gr, 1, none⟩ = some (.int .i64 n1) ∧ w'.cell? ⟨gr, 2, none⟩ = some (.int .i64 n2) ∧ w'.cell? ⟨gr, 3, none⟩ = some (.int .i64 n3) ∧ w'.cell? ⟨gr, 4, none⟩ = some (.int .i64 n4) ∧ w'.cell? ⟨gr, 5, none⟩ = some (.int .i64 n5) ∧ w'.cell? ⟨gr, 6, none⟩ = some (.int .i64 n6) ∧ w'.cell? ⟨g, 3, none⟩ = some (.int .u64 lk)) (ds := []) #[false, false, false, false, false, false, false, false, false, false, false] (by kernel_rfl) rfl rfl ⟨(blk_cell BR.out 0).trans rfl, (blk_cell BR.out 1).trans rfl, (blk_cell BR.out 2).trans rfl, (blk_cell BR.out 3).trans rfl, (blk_cell BR.out 4).trans rfl, (blk_cell BR.out 5).trans rfl, (blk_cell BR.out 6).trans rfl, (blk_cell BK.out 3).trans rfl⟩ (fun hHeld => ?_)
    have n0_ := Aside0.mk (below_drew1 HB.out)
    have n1_ := Aside0.mk (blk_drew BK.out)
    have n2_ := Aside0.mk (Kd.R_drew HR.out)
    have n3_ := Aside0.mk (Kd.C_drew HC.out)
    clear HB BK HR HC
    have HB := n0_
    have BK := n1_
    have HR := n2_
    have HC := n3_
    clear n0_ n1_ n2_ n3_
    have m4 := Aside0.mk (blk_drew BR.out)
    clear BR
    have BR := m4
    clear m4
    generalize W4.drew = wd4 at HB BK HR HC BR hHeld ⊢
    refine pure_ (i := 1) (N := some 30) (v := ?_) (a' := ?_) #[false, true, false, false, false, false, false, false, false, false, false] rfl rfl (by kernel_rfl) (fun _ _ _ h => h) (Or.inl ⟨by rfl, ?_⟩) ?_ ?_
    rotate_left
    · intro w'
      go_simp
      with_reducible rfl
    rotate_left
    · simp only [Act.put, List.setIfInBounds_toArray, List.set_cons_zero, List.set_cons_succ, i64_w, i32_w]
      rfl
    refine pure_ (i := 2) (N := some 31) (v := ?_) (a' := ?_) #[false, true, true, false, false, false, false, false, false, false, false] rfl rfl (by kernel_rfl) (fun _ _ _ h => h) (Or.inl ⟨by rfl, ?_⟩) ?_ ?_
    rotate_left
    · intro w'
      go_simp
      with_reducible rfl
    rotate_left
    · simp only [Act.put, List.setIfInBounds_toArray, List.set_cons_zero, List.set_cons_succ, i64_w, i32_w]
      rfl
    refine pure_ (i := 3) (N := some 32) (v := ?_) (a' := ?_) #[false, true, true, true, false, false, false, false, false, false, false] rfl rfl (by kernel_rfl) (fun _ _ _ h => h) (Or.inl ⟨by rfl, ?_⟩) ?_ ?_
    rotate_left
    · intro w'
      go_simp
      with_reducible rfl
    rotate_left
    · simp only [Act.put, List.setIfInBounds_toArray, List.set_cons_zero, List.set_cons_succ, i64_w, i32_w]
      rfl
    refine take_ (i := 0) (N := some 29) (v := ?_) (a' := ?_) #[true, true, true, true, false, false, false, false, false, false, false] rfl rfl (by kernel_rfl) (fun _ _ _ h => h) (Or.inl ⟨by rfl, ?_⟩) hHeld ?_ ?_
    rotate_left
    · rintro w' ⟨s0, s1, s2, s3, s4, s5, s6, s7⟩
      go_simp
      with_reducible rfl
    rotate_left
    · simp only [Act.put, List.setIfInBounds_toArray, List.set_cons_zero, List.set_cons_succ, i64_w, i32_w]
      rfl
    refine take_ (i := 4) (N := some 33) (v := ?_) (a' := ?_) #[true, true, true, true, true, false, false, false, false, false, false] rfl rfl (by kernel_rfl) (fun _ _ _ h => h) (Or.inl ⟨by rfl, ?_⟩) hHeld ?_ ?_
    rotate_left
    · rintro w' ⟨s0, s1, s2, s3, s4, s5, s6, s7⟩
      go_simp
      with_reducible rfl
    rotate_left
    · simp only [Act.put, List.setIfInBounds_toArray, List.set_cons_zero, List.set_cons_succ, i64_w, i32_w]
      rfl
    refine one_ (i := 5) (N := some 34) #[true, true, true, true, true, true, false, false, false, false, false] rfl rfl (by kernel_rfl) (by decide) (fun K hK => ?_)
    refine goes_ Try.func25 (by kernel_rfl) rfl #[.agg #[.int .i64 n0, .int .i64 n1, .int .i64 n2, .int .i64 n3, .int .i64 n4, .int .i64 n5, .int .i64 n6], .int .u64 lk] (by rfl) rfl rfl (by (try simp only [List.map_toArray, List.map_cons, List.map_nil]); first | done | rfl | (simp only [List.length_drop, List.length_take]; rfl)) ?_
    refine (journal_frame.calls k n0 n1 n2 n3 n4 n5 n6 lk f1 f2 _ HF2.out).mono ?_
    rintro e w14 ⟨vf, rfl, ho, hb⟩
    refine ⟨_, rfl, ?_⟩
    have HO4 := Aside0.mk (Kd.R_lower ho (below_size HB.out))
    have n0_ := Aside0.mk (below_step HB.out hb)
    have n1_ := Aside0.mk (blk_below BK.out hb)
    have n2_ := Aside0.mk (Kd.R_below HR.out hb)
    have n3_ := Aside0.mk (Kd.C_below HC.out hb)
    clear HB BK HR HC
    have HB := n0_
    have BK := n1_
    have HR := n2_
    have HC := n3_
    clear n0_ n1_ n2_ n3_
    have m4 := Aside0.mk (blk_below BR.out hb)
    clear BR
    have BR := m4
    clear m4
    clear ho hb
    refine hK.out _ _ ⟨(blk_cell BR.out 0).trans rfl, (blk_cell BR.out 1).trans rfl, (blk_cell BR.out 2).trans rfl, (blk_cell BR.out 3).trans rfl, (blk_cell BR.out 4).trans rfl, (blk_cell BR.out 5).trans rfl, (blk_cell BR.out 6).trans rfl, (blk_cell BK.out 3).trans rfl⟩ (fun hHeld => ?_)
    clear hK K
    refine norm_ (a' := ?_) ?_ ?_
    rotate_left
    · show Act.put _ (some 34) _ = _
      simp only [Act.put, List.setIfInBounds_toArray, List.set_cons_zero, List.set_cons_succ, i64_w, i32_w]
      rfl
    refine pure_ (i := 6) (N := some 28) (v := ?_) (a' := ?_) #[true, true, true, true, true, true, true, false, false, false, false] rfl rfl (by kernel_rfl) (fun _ _ _ h => h) (Or.inl ⟨by rfl, ?_⟩) ?_ ?_
    rotate_left
    · intro w'
      go_simp
      with_reducible rfl
    rotate_left
    · simp only [Act.put, List.setIfInBounds_toArray, List.set_cons_zero, List.set_cons_succ, i64_w, i32_w]
      rfl
    refine pure_ (i := 7) (N := some 35) (v := ?_) (a' := ?_) #[true, true, true, true, true, true, true, true, false, false, false] rfl rfl (by kernel_rfl) (fun _ _ _ h => h) (Or.inl ⟨by rfl, ?_⟩) ?_ ?_
    rotate_left
    · intro w'
      go_simp
      with_reducible rfl
    rotate_left
    · simp only [Act.put, List.setIfInBounds_toArray, List.set_cons_zero, List.set_cons_succ, i64_w, i32_w]
      rfl
    refine pure_ (i := 8) (N := some 36) (v := ?_) (a' := ?_) #[true, true, true, true, true, true, true, true, true, false, false] rfl rfl (by kernel_rfl) (fun _ _ _ h => h) (Or.inl ⟨by rfl, ?_⟩) ?_ ?_
    rotate_left
    · intro w'
      go_simp
      with_reducible rfl
    rotate_left
    · simp only [Act.put, List.setIfInBounds_toArray, List.set_cons_zero, List.set_cons_succ, i64_w, i32_w]
      rfl
    refine pure_ (i := 9) (N := some 6) (v := ?_) (a' := ?_) #[true, true, true, true, true, true, true, true, true, true, false] rfl rfl (by kernel_rfl) (fun _ _ _ h => h) (Or.inl ⟨by rfl, ?_⟩) ?_ ?_
    rotate_left
    · intro w'
      go_simp
      with_reducible rfl
    rotate_left
    · simp only [Act.put, List.setIfInBounds_toArray, List.set_cons_zero, List.set_cons_succ, i64_w, i32_w]
      rfl
    refine pure_ (i := 10) (N := some 7) (v := ?_) (a' := ?_) #[true, true, true, true, true, true, true, true, true, true, true] rfl rfl (by kernel_rfl) (fun _ _ _ h => h) (Or.inl ⟨by rfl, ?_⟩) ?_ ?_
    rotate_left
    · intro w'
      go_simp
      with_reducible rfl
    rotate_left
    · simp only [Act.put, List.setIfInBounds_toArray, List.set_cons_zero, List.set_cons_succ, i64_w, i32_w]
      rfl
    refine done_ (by kernel_rfl) ?_

    clear hHeld
    go_wp2
    obtain ⟨Af, cf, rfl, hlf, hCf⟩ := Kd.R_reads HO4.out
    have HCf := Aside0.mk (Kd.C_drew hCf)
    have HLf := Aside0.mk hlf
    clear hCf hlf
    obtain ⟨A2, hcut2, hA2, hC2⟩ := print_mid_of (P := Try.prog) (Value.int .u8) 0 24 5 .i64 .i64 Try.underlying24 HCUT5.out HSZ5.out A c l sz (wrap64 (sz + un)) c8 c10 c11 HL.out
    obtain ⟨md, hmd⟩ : ∃ md, md = (l.take (wrap64 (sz + un)).toNat).drop sz.toNat := ⟨_, rfl⟩
    have he2 := HE.out
    rw [← hmd] at hcut2 hA2 hC2 he2
    have HE := Aside0.mk he2
    clear he2 hmd
    have HM2 := Aside0.mk (Kd.C_of_reads (h1 := fun _ => rfl) (hA2 _ (Kd.reads_of_C (Kd.C_drew HC.out))))
    have HML := Aside0.mk hC2
    clear hA2 hC2
    refine start_ (n := 18) (S := fun w' => w'.cell? ⟨g, 0, none⟩ = some (.slice A l.length c) ∧ w'.cell? ⟨g, 2, none⟩ = some (.int .i64 sz)) (ds := []) #[false, false, false, false, false, false, false, false, false, false, false, false, false, false, false, false, false, false] (by kernel_rfl) rfl rfl ⟨(blk_cell BK.out 0).trans rfl, (blk_cell BK.out 2).trans rfl⟩ (fun hHeld => ?_)
    have n0_ := Aside0.mk (below_drew1 HB.out)
    have n1_ := Aside0.mk (blk_drew BK.out)
    have n2_ := Aside0.mk (Kd.R_drew HR.out)
    have n3_ := Aside0.mk (Kd.C_drew HC.out)
    clear HB BK HR HC
    have HB := n0_
    have BK := n1_
    have HR := n2_
    have HC := n3_
    clear n0_ n1_ n2_ n3_
    have m4 := Aside0.mk (blk_drew BR.out)
    clear BR
    have BR := m4
    clear m4
    skip
    generalize w14.drew = wd5 at HB BK HR HC BR hHeld HCf HM2 ⊢
    refine pure_ (i := 0) (N := some 37) (v := ?_) (a' := ?_) #[true, false, false, false, false, false, false, false, false, false, false, false, false, false, false, false, false, false] rfl rfl (by kernel_rfl) (fun _ _ _ h => h) (Or.inl ⟨by rfl, ?_⟩) ?_ ?_
    rotate_left
    · intro w'
      go_simp
      with_reducible rfl
    rotate_left
    · simp only [Act.put, List.setIfInBounds_toArray, List.set_cons_zero, List.set_cons_succ, i64_w, i32_w]
      rfl
    refine pure_ (i := 1) (N := some 38) (v := ?_) (a' := ?_) #[true, true, false, false, false, false, false, false, false, false, false, false, false, false, false, false, false, false] rfl rfl (by kernel_rfl) (fun _ _ _ h => h) (Or.inl ⟨by rfl, ?_⟩) ?_ ?_
    rotate_left
    · intro w'
      go_simp
      with_reducible rfl
    rotate_left
    · simp only [Act.put, List.setIfInBounds_toArray, List.set_cons_zero, List.set_cons_succ, i64_w, i32_w]
      rfl
    refine pure_ (i := 2) (N := some 39) (v := ?_) (a' := ?_) #[true, true, true, false, false, false, false, false, false, false, false, false, false, false, false, false, false, false] rfl rfl (by kernel_rfl) (fun _ _ _ h => h) (Or.inl ⟨by rfl, ?_⟩) ?_ ?_
    rotate_left
    · intro w'
      go_simp
      with_reducible rfl
    rotate_left
    · simp only [Act.put, List.setIfInBounds_toArray, List.set_cons_zero, List.set_cons_succ, i64_w, i32_w]
      rfl
    refine pure_ (i := 3) (N := some 40) (v := ?_) (a' := ?_) #[true, true, true, true, false, false, false, false, false, false, false, false, false, false, false, false, false, false] rfl rfl (by kernel_rfl) (fun _ _ _ h => h) (Or.inl ⟨by rfl, ?_⟩) ?_ ?_
    rotate_left
    · intro w'
      go_simp
      with_reducible rfl
    rotate_left
    · simp only [Act.put, List.setIfInBounds_toArray, List.set_cons_zero, List.set_cons_succ, i64_w, i32_w]
      rfl
    refine pure_ (i := 5) (N := some 42) (v := ?_) (a' := ?_) #[true, true, true, true, false, true, false, false, false, false, false, false, false, false, false, false, false, false] rfl rfl (by kernel_rfl) (fun _ _ _ h => h) (Or.inl ⟨by rfl, ?_⟩) ?_ ?_
    rotate_left
    · intro w'
      go_simp
      with_reducible rfl
    rotate_left
    · simp only [Act.put, List.setIfInBounds_toArray, List.set_cons_zero, List.set_cons_succ, i64_w, i32_w]
      rfl
    refine pure_ (i := 6) (N := some 43) (v := ?_) (a' := ?_) #[true, true, true, true, false, true, true, false, false, false, false, false, false, false, false, false, false, false] rfl rfl (by kernel_rfl) (fun _ _ _ h => h) (Or.inl ⟨by rfl, ?_⟩) ?_ ?_
    rotate_left
    · intro w'
      go_simp
      with_reducible rfl
    rotate_left
    · simp only [Act.put, List.setIfInBounds_toArray, List.set_cons_zero, List.set_cons_succ, i64_w, i32_w]
      rfl
    refine pure_ (i := 7) (N := some 44) (v := ?_) (a' := ?_) #[true, true, true, true, false, true, true, true, false, false, false, false, false, false, false, false, false, false] rfl rfl (by kernel_rfl) (fun _ _ _ h => h) (Or.inl ⟨by rfl, ?_⟩) ?_ ?_
    rotate_left
    · intro w'
      go_simp
      with_reducible rfl
    rotate_left
    · simp only [Act.put, List.setIfInBounds_toArray, List.set_cons_zero, List.set_cons_succ, i64_w, i32_w]
      rfl
    refine pure_ (i := 9) (N := some 46) (v := ?_) (a' := ?_) #[true, true, true, true, false, true, true, true, false, true, false, false, false, false, false, false, false, false] rfl rfl (by kernel_rfl) (fun _ _ _ h => h) (Or.inl ⟨by rfl, ?_⟩) ?_ ?_
    rotate_left
    · intro w'
      go_simp
      with_reducible rfl
    rotate_left
    · simp only [Act.put, List.setIfInBounds_toArray, List.set_cons_zero, List.set_cons_succ, i64_w, i32_w]
      rfl
    refine pure_ (i := 10) (N := some 47) (v := ?_) (a' := ?_) #[true, true, true, true, false, true, true, true, false, true, true, false, false, false, false, false, false, false] rfl rfl (by kernel_rfl) (fun _ _ _ h => h) (Or.inl ⟨by rfl, ?_⟩) ?_ ?_
    rotate_left
    · intro w'
      go_simp
      with_reducible rfl
    rotate_left
    · simp only [Act.put, List.setIfInBounds_toArray, List.set_cons_zero, List.set_cons_succ, i64_w, i32_w]
      rfl
    refine pure_ (i := 11) (N := some 48) (v := ?_) (a' := ?_) #[true, true, true, true, false, true, true, true, false, true, true, true, false, false, false, false, false, false] rfl rfl (by kernel_rfl) (fun _ _ _ h => h) (Or.inl ⟨by rfl, ?_⟩) ?_ ?_
    rotate_left
    · intro w'
      go_simp
      with_reducible rfl
    rotate_left
    · simp only [Act.put, List.setIfInBounds_toArray, List.set_cons_zero, List.set_cons_succ, i64_w, i32_w]
      rfl
    refine pure_ (i := 13) (N := some 50) (v := ?_) (a' := ?_) #[true, true, true, true, false, true, true, true, false, true, true, true, false, true, false, false, false, false] rfl rfl (by kernel_rfl) (fun _ _ _ h => h) (Or.inl ⟨by rfl, ?_⟩) ?_ ?_
    rotate_left
    · intro w'
      go_simp
      with_reducible rfl
    rotate_left
    · simp only [Act.put, List.setIfInBounds_toArray, List.set_cons_zero, List.set_cons_succ, i64_w, i32_w]
      rfl
    refine take_ (i := 4) (N := some 41) (v := ?_) (a' := ?_) #[true, true, true, true, true, true, true, true, false, true, true, true, false, true, false, false, false, false] rfl rfl (by kernel_rfl) (fun _ _ _ h => h) (Or.inl ⟨by rfl, ?_⟩) hHeld ?_ ?_
    rotate_left
    · rintro w' ⟨s0, s1⟩
      go_simp
      with_reducible rfl
    rotate_left
    · simp only [Act.put, List.setIfInBounds_toArray, List.set_cons_zero, List.set_cons_succ, i64_w, i32_w]
      rfl
    refine take_ (i := 8) (N := some 45) (v := ?_) (a' := ?_) #[true, true, true, true, true, true, true, true, true, true, true, true, false, true, false, false, false, false] rfl rfl (by kernel_rfl) (fun _ _ _ h => h) (Or.inl ⟨by rfl, ?_⟩) hHeld ?_ ?_
    rotate_left
    · rintro w' ⟨s0, s1⟩
      go_simp
      with_reducible rfl
    rotate_left
    · simp only [Act.put, List.setIfInBounds_toArray, List.set_cons_zero, List.set_cons_succ, i64_w, i32_w]
      rfl
    refine take_ (i := 12) (N := some 49) (v := ?_) (a' := ?_) #[true, true, true, true, true, true, true, true, true, true, true, true, true, true, false, false, false, false] rfl rfl (by kernel_rfl) (fun _ _ _ h => h) (Or.inl ⟨by rfl, ?_⟩) hHeld ?_ ?_
    rotate_left
    · rintro w' ⟨s0, s1⟩
      go_simp
      with_reducible rfl
    rotate_left
    · simp only [Act.put, List.setIfInBounds_toArray, List.set_cons_zero, List.set_cons_succ, i64_w, i32_w]
      rfl
    refine pure_ (i := 14) (N := some 51) (v := ?_) (a' := ?_) #[true, true, true, true, true, true, true, true, true, true, true, true, true, true, true, false, false, false] rfl rfl (by kernel_rfl) (fun _ _ _ h => h) (Or.inl ⟨by rfl, ?_⟩) ?_ ?_
    rotate_left
    · intro w'
      go_simp
      with_reducible rfl
    rotate_left
    · simp only [Act.put, List.setIfInBounds_toArray, List.set_cons_zero, List.set_cons_succ, i64_w, i32_w]
      rfl
    refine pure_ (i := 15) (N := some 52) (v := ?_) (a' := ?_) #[true, true, true, true, true, true, true, true, true, true, true, true, true, true, true, true, false, false] rfl rfl (by kernel_rfl) (fun _ _ _ h => h) (Or.inl ⟨by rfl, ?_⟩) ?_ ?_
    rotate_left
    · intro w'
      go_simp
      with_reducible rfl
    rotate_left
    · simp only [Act.put, List.setIfInBounds_toArray, List.set_cons_zero, List.set_cons_succ, i64_w, i32_w]
      rfl
    refine one_ (i := 16) (N := some 53) #[true, true, true, true, true, true, true, true, true, true, true, true, true, true, true, true, true, false] rfl rfl (by kernel_rfl) (by decide) (fun K hK => ?_)
    refine goes_ Try.func59 (by kernel_rfl) rfl #[.slice Af f1.length cf, .slice A2 md.length (c - sz.toNat)] (by rfl) rfl rfl (by (try simp only [List.map_toArray, List.map_cons, List.map_nil]); first | done | rfl | (simp only [List.length_drop, List.length_take]; rfl)) ?_
    refine (slices_Equal_byte_byte.calls k Af cf f1 A2 (c - sz.toNat) md b _ HCf.out HLf.out HM2.out HML.out HE.out).mono ?_
    rintro e w16 ⟨rfl, hd⟩
    refine ⟨_, rfl, ?_⟩
    have hb := hd.below
    have n0_ := Aside0.mk (below_step HB.out hb)
    have n1_ := Aside0.mk (blk_below BK.out hb)
    have n2_ := Aside0.mk (Kd.R_below HR.out hb)
    have n3_ := Aside0.mk (Kd.C_below HC.out hb)
    clear HB BK HR HC
    have HB := n0_
    have BK := n1_
    have HR := n2_
    have HC := n3_
    clear n0_ n1_ n2_ n3_
    have m4 := Aside0.mk (blk_below BR.out hb)
    clear BR
    have BR := m4
    clear m4
    clear hb hd
    refine hK.out _ _ ⟨(blk_cell BK.out 0).trans rfl, (blk_cell BK.out 2).trans rfl⟩ (fun hHeld => ?_)
    clear hK K
    refine norm_ (a' := ?_) ?_ ?_
    rotate_left
    · show Act.put _ (some 53) _ = _
      simp only [Act.put, List.setIfInBounds_toArray, List.set_cons_zero, List.set_cons_succ, i64_w, i32_w]
      rfl
    refine pure_ (i := 17) (N := some 54) (v := ?_) (a' := ?_) #[true, true, true, true, true, true, true, true, true, true, true, true, true, true, true, true, true, true] rfl rfl (by kernel_rfl) (fun _ _ _ h => h) (Or.inl ⟨by rfl, ?_⟩) ?_ ?_
    rotate_left
    · intro w'
      go_simp
      with_reducible rfl
    rotate_left
    · simp only [Act.put, List.setIfInBounds_toArray, List.set_cons_zero, List.set_cons_succ, i64_w, i32_w]
      rfl
    refine done_ (by kernel_rfl) ?_

    clear hHeld hcut2
    cases b with
    | false =>
      obtain rfl := Option.some.inj HX.out
      go_wp2
      exact ⟨rfl, HB.out, rfl, BK.out, HR.out⟩
    | true =>
      obtain rfl := Option.some.inj HX.out
      go_wp2
      refine start_ (n := 11) (S := fun w' => w'.cell? ⟨g, 1, none⟩ = some v1 ∧ w'.cell? ⟨gr, 0, none⟩ = some (.int .i64 n0) ∧ w'.cell? ⟨gr, 1, none⟩ = some (.int .i64 n1) ∧ w'.cell? ⟨gr, 2, none⟩ = some (.int .i64 n2) ∧ w'.cell? ⟨gr, 3, none⟩ = some (.int .i64 n3) ∧ w'.cell? ⟨gr, 4, none⟩ = some (.int .i64 n4) ∧ w'.cell? ⟨gr, 5, none⟩ = some (.int .i64 n5) ∧ w'.cell? ⟨gr, 6, none⟩ = some (.int .i64 n6)) (ds := [7, 10]) #[false, false, false, false, false, false, false, false, false, false, false] (by kernel_rfl) rfl rfl ⟨(blk_cell BK.out 1).trans rfl, (blk_cell BR.out 0).trans rfl, (blk_cell BR.out 1).trans rfl, (blk_cell BR.out 2).trans rfl, (blk_cell BR.out 3).trans rfl, (blk_cell BR.out 4).trans rfl, (blk_cell BR.out 5).trans rfl, (blk_cell BR.out 6).trans rfl⟩ (fun hHeld => ?_)
      have n0_ := Aside0.mk (below_drew1 HB.out)
      have n1_ := Aside0.mk (blk_drew BK.out)
      have n2_ := Aside0.mk (Kd.R_drew HR.out)
      have n3_ := Aside0.mk (Kd.C_drew HC.out)
      clear HB BK HR HC
      have HB := n0_
      have BK := n1_
      have HR := n2_
      have HC := n3_
      clear n0_ n1_ n2_ n3_
      have m4 := Aside0.mk (blk_drew BR.out)
      clear BR
      have BR := m4
      clear m4
      skip
      generalize w16.drew = wd7 at HB BK HR HC BR hHeld ⊢
      refine pure_ (i := 0) (N := some 57) (v := ?_) (a' := ?_) #[true, false, false, false, false, false, false, false, false, false, false] rfl rfl (by kernel_rfl) (fun _ _ _ h => h) (Or.inl ⟨by rfl, ?_⟩) ?_ ?_
      rotate_left
      · intro w'
        go_simp
        with_reducible rfl
      rotate_left
      · simp only [Act.put, List.setIfInBounds_toArray, List.set_cons_zero, List.set_cons_succ, i64_w, i32_w]
        rfl
      refine pure_ (i := 1) (N := some 58) (v := ?_) (a' := ?_) #[true, true, false, false, false, false, false, false, false, false, false] rfl rfl (by kernel_rfl) (fun _ _ _ h => h) (Or.inl ⟨by rfl, ?_⟩) ?_ ?_
      rotate_left
      · intro w'
        go_simp
        with_reducible rfl
      rotate_left
      · simp only [Act.put, List.setIfInBounds_toArray, List.set_cons_zero, List.set_cons_succ, i64_w, i32_w]
        rfl
      refine pure_ (i := 2) (N := some 59) (v := ?_) (a' := ?_) #[true, true, true, false, false, false, false, false, false, false, false] rfl rfl (by kernel_rfl) (fun _ _ _ h => h) (Or.inl ⟨by rfl, ?_⟩) ?_ ?_
      rotate_left
      · intro w'
        go_simp
        with_reducible rfl
      rotate_left
      · simp only [Act.put, List.setIfInBounds_toArray, List.set_cons_zero, List.set_cons_succ, i64_w, i32_w]
        rfl
      refine pure_ (i := 3) (N := some 60) (v := ?_) (a' := ?_) #[true, true, true, true, false, false, false, false, false, false, false] rfl rfl (by kernel_rfl) (fun _ _ _ h => h) (Or.inl ⟨by rfl, ?_⟩) ?_ ?_
      rotate_left
      · intro w'
        go_simp
        with_reducible rfl
      rotate_left
      · simp only [Act.put, List.setIfInBounds_toArray, List.set_cons_zero, List.set_cons_succ, i64_w, i32_w]
        rfl
      refine take_ (i := 4) (N := some 61) (v := ?_) (a' := ?_) #[true, true, true, true, true, false, false, false, false, false, false] rfl rfl (by kernel_rfl) (fun _ _ _ h => h) (Or.inl ⟨by rfl, ?_⟩) hHeld ?_ ?_
      rotate_left
      · rintro w' ⟨s0, s1, s2, s3, s4, s5, s6, s7⟩
        go_simp
        with_reducible rfl
      rotate_left
      · simp only [Act.put, List.setIfInBounds_toArray, List.set_cons_zero, List.set_cons_succ, i64_w, i32_w]
        rfl
      refine take_ (i := 5) (N := some 62) (v := ?_) (a' := ?_) #[true, true, true, true, true, true, false, false, false, false, false] rfl rfl (by kernel_rfl) (fun _ _ _ h => h) (Or.inl ⟨by rfl, ?_⟩) hHeld ?_ ?_
      rotate_left
      · rintro w' ⟨s0, s1, s2, s3, s4, s5, s6, s7⟩
        go_simp
        with_reducible rfl
      rotate_left
      · simp only [Act.put, List.setIfInBounds_toArray, List.set_cons_zero, List.set_cons_succ, i64_w, i32_w]
        rfl
      refine one_ (i := 6) (N := some 63) #[true, true, true, true, true, true, true, false, false, false, false] rfl rfl (by kernel_rfl) (by decide) (fun K hK => ?_)
      refine value_ (w1 := ?_) (v := ?_) (by rfl) rfl ?_ ?_
      rotate_left 2
      · go_simp
        constructor
        · rfl
        · rfl
      refine hK.out _ _ ⟨(blk_cell (blk_alloc BK.out _) 1).trans rfl, (blk_cell (blk_alloc BR.out _) 0).trans rfl, (blk_cell (blk_alloc BR.out _) 1).trans rfl, (blk_cell (blk_alloc BR.out _) 2).trans rfl, (blk_cell (blk_alloc BR.out _) 3).trans rfl, (blk_cell (blk_alloc BR.out _) 4).trans rfl, (blk_cell (blk_alloc BR.out _) 5).trans rfl, (blk_cell (blk_alloc BR.out _) 6).trans rfl⟩ (fun hHeld => ?_)
      clear hK K
      refine norm_ (a' := ?_) ?_ ?_
      rotate_left
      · show Act.put _ (some 63) _ = _
        simp only [Act.put, List.setIfInBounds_toArray, List.set_cons_zero, List.set_cons_succ, i64_w, i32_w]
        rfl
      refine last_ (i := 7) (N := some 64) #[true, true, true, true, true, true, true, true, false, false, false] rfl rfl (by kernel_rfl) (by decide) (fun K hK => ?_)
      refine Kd.R_append_step k39 (w0 := w0) w0.heap.size (by rfl) (.tmp 61) (.tmp 63) 22 39 (.agg #[(.int .i64 0), (.int .i64 0), (.int .i64 0), (.int .i64 0), (.int .i64 0), (.int .i64 0), (.int .i64 0)]) 56 rfl Try.underlying22 info39 rfl (by decide) (by omega) v1 rs (⟨n0, n1, n2, n3, n4, n5, n6⟩ : S39) [.int .i64 n0, .int .i64 n1, .int .i64 n2, .int .i64 n3, .int .i64 n4, .int .i64 n5, .int .i64 n6] (fun _ => True) (fun _ => False) rfl (by first | (go_simp; done) | (go_simp; rfl)) (k39_mkM _ _ _ (⟨n0, n1, n2, n3, n4, n5, n6⟩ : S39)) (fun _ hk => hk.elim) (fun _ _ => trivial) HR.out HB.out (below_size HB.out) HRS.out ?_
      intro v2 w18 ho hb hg hat
      obtain ⟨rs2, hrs2⟩ : ∃ q : List S39, q = rs ++ [(⟨n0, n1, n2, n3, n4, n5, n6⟩ : S39)] := ⟨_, rfl⟩
      rw [← hrs2] at ho
      have HRS2 := Aside0.mk hrs2
      clear hrs2
      have m1 := Aside0.mk (blk_grown BK.out hg (Kd.R_ne HR.out BK.out (by decide)))
      clear HB BK HR
      have HB := Aside0.mk hb
      have BK := m1
      have HR := Aside0.mk ho
      obtain ⟨A3, c3, rfl⟩ := Kd.R_slice ho
      clear m1 ho hb hg hat
      refine hK.out _ _ ?_
      clear hK K
      refine norm_ (a' := ?_) ?_ ?_
      rotate_left
      · show Act.put _ (some 64) _ = _
        simp only [Act.put, List.setIfInBounds_toArray, List.set_cons_zero, List.set_cons_succ, i64_w, i32_w]
        rfl
      refine pure_ (i := 8) (N := some 65) (v := ?_) (a' := ?_) #[true, true, true, true, true, true, true, true, true, false, false] rfl rfl (by kernel_rfl) (fun _ _ _ h => h) (Or.inl ⟨by rfl, ?_⟩) ?_ ?_
      rotate_left
      · intro w'
        go_simp
        with_reducible rfl
      rotate_left
      · simp only [Act.put, List.setIfInBounds_toArray, List.set_cons_zero, List.set_cons_succ, i64_w, i32_w]
        rfl
      refine pure_ (i := 9) (N := some 66) (v := ?_) (a' := ?_) #[true, true, true, true, true, true, true, true, true, true, false] rfl rfl (by kernel_rfl) (fun _ _ _ h => h) (Or.inl ⟨by rfl, ?_⟩) ?_ ?_
      rotate_left
      · intro w'
        go_simp
        with_reducible rfl
      rotate_left
      · simp only [Act.put, List.setIfInBounds_toArray, List.set_cons_zero, List.set_cons_succ, i64_w, i32_w]
        rfl
      refine last_ (i := 10) (N := none) #[true, true, true, true, true, true, true, true, true, true, true] rfl rfl (by kernel_rfl) (by decide) (fun K hK => ?_)
      have hcv : w18.cell? ⟨g, 1, none⟩ = some v1 := (blk_cell BK.out 1).trans rfl
      have hfv : w18.frozen? ⟨g, 1, none⟩ = false := blk_frozen BK.out 1
      refine skip_ (w1 := ?_) (by rfl) rfl ?_ ?_
      rotate_left
      · go_simp
        rfl
      refine hK.out _ _ ?_
      clear hK K
      refine done_ (by kernel_rfl) ?_

      have m0 := Aside0.mk (Below.setCell HB.out HG.out (p := ⟨g, 1, none⟩) (.slice A3 rs2.length c3))
      have m1 := Aside0.mk (blk_put BK.out 1 (.slice A3 rs2.length c3) (cs' := rdr A l.length c (.slice A3 rs2.length c3) sz lk) rfl)
      have m2 := Aside0.mk (Kd.R_set HR.out BK.out (by decide) 1 (.slice A3 rs2.length c3))
      generalize w18.setCell ⟨g, 1, none⟩ (.slice A3 rs2.length c3) = w20 at m0 m1 m2 ⊢
      have hc2 : w20.cell? ⟨g, 2, none⟩ = some (.int .i64 sz) := (blk_cell m1.out 2).trans rfl
      have hc3 : w20.cell? ⟨g, 3, none⟩ = some (.int .u64 lk) := (blk_cell m1.out 3).trans rfl
      have hfz : ∀ j, w20.frozen? ⟨g, j, none⟩ = false := fun j => blk_frozen m1.out j
      go_wp2
      have m3 := Aside0.mk (blk_put m1.out 2 (.int .i64 (wrap64 (sz + un))) (cs' := rdr A l.length c (.slice A3 rs2.length c3) (wrap64 (sz + un)) lk) rfl)
      have m4 := Aside0.mk (Kd.R_set m2.out m1.out (by decide) 2 (.int .i64 (wrap64 (sz + un))))
      go_end0
      refine ⟨Below.setCell (Below.setCell m0.out HG.out _) HG.out _, rfl, .slice A3 rs2.length c3, blk_put m3.out 3 (.int .u64 f2) rfl, ?_⟩
      rw [HRID.out, ← HRS2.out]
      exact Kd.R_set m4.out m3.out (by decide) 3 (.int .u64 f2)
end Go.Proofs.Ytohjkgboehnamaa.Q
