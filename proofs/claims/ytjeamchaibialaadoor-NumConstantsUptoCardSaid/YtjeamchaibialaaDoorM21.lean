/- Joined: Const TopConst -/
import Derived.Test.YtjeamchaibialaaDoorM11
import Derived.Test.YtjeamchaibialaaDoorM17
import Derived.Test.YtjeamchaibialaaDoorM19
import Derived.Test.YtjeamchaibialaaDoorM20
set_option linter.unusedVariables false
set_option linter.unusedSimpArgs false
/- A constant taken apart: the law's own calls. -/
namespace Go.Proofs.YtjeamchaibialaaDoor.Consts
open Go.RowKit Go.Proofs.YtjeamchaibialaaDoorW.PrintWords Go.Proofs.YtjeamchaibialaaDoorW.PrintLast Go.Proofs.YtjeamchaibialaaDoorW.PrintMore Fns Limbs Nats Go.Proofs.YtjeamchaibialaaDoor.Told ReadWalk Texts Rats Parses Heaps Go.Proofs.YtjeamchaibialaaDoor.Splits Go.Proofs.YtjeamchaibialaaDoor.Nums Go.Proofs.YtjeamchaibialaaDoor.Laws Go.Proofs.YtjeamchaibialaaDoor.SpellWalk Go.Proofs.YtjeamchaibialaaDoor.Reads2

theorem lit_point (n : Nat) : Reads2.Lit (txt n ++ [46, 48]) ∧ litOf (txt n ++ [46, 48]) = ((n : Int) : Rat) := by
  have hc : Lib.cut (txt n ++ [46, 48]) [46] = (txt n, [48], true) := cut_one (txt n) [48] 46 (fun b hb => (fun e => by
    have := txt_dig n b hb
    rw [e] at this
    exact absurd this (by decide)))
  unfold Reads2.Lit litOf
  rw [hc]
  refine ⟨⟨num_txt n, fun _ => ⟨by simp, fun b hb => ?_⟩⟩, ?_⟩
  · rw [List.mem_singleton.1 hb]; decide
  · rw [dec_append, dec_txt]
    show frac false (n * 10 ^ 1 + dec [48]) (10 ^ 1) = _
    rw [show dec [48] = 0 from rfl, Nat.add_zero]
    unfold frac
    rw [sg_false, show ((n * 10 ^ 1 : Nat) : Int) = (n : Int) * ((10 : Nat) : Int) from by push_cast; rfl, show (10 ^ 1 : Nat) = 1 * 10 from rfl, Rat.mkRat_mul_right (by omega), Rat.mkRat_one]
theorem sz_int {z : Int} {N : Nat} (h : (limbs z.natAbs).length ≤ N) (h1 : 1 ≤ N) : Sizes.Sz (z : Rat) N := ⟨by rw [Rat.num_intCast]; exact h, by rw [Rat.den_intCast, Sizes.limbs_one]; exact h1⟩

set_option maxRecDepth 100000 in
theorem reads_yes (N : Nat) (s : ByteArray) (r : Rat) (hs : s.size ≤ 30000000) (hl : Reads2.Lit s.data.toList) (hr : litOf s.data.toList = r) (hz : Sizes.Sz r N) (w : World) (hok : Ok w) :
    Calls Tryd.prog 81 #[.string s] w (Tells N r w) := by
  go_enter Tryd.func81, Tryd.ntmps81
  go_wp2_with fail
  refine (Reads2.calls s hs _ hok).mono ?_
  rintro e w1 ⟨hb1, ⟨_, rfl⟩ | ⟨hn, rfl⟩⟩
  · rw [hr]
    have HB := Lib.hid hb1
    obtain ⟨v, hv⟩ : ∃ v : ByteArray, v = ⟨(rtxt r).toArray⟩ := ⟨_, rfl⟩
    rw [← hv]
    have HV : Hid (Is N v r) := Lib.hid ⟨by rw [hv], hz⟩
    clear hb1 hl hr hv
    go_wp2_with fail
    refine (told_yes v _).mono ?_
    rintro e w2 ⟨rfl, rfl⟩
    go_wp2_with fail
    go_ret
    exact ⟨_, rfl, HV.out, HB.out⟩
  · exact absurd hl hn

def absq (q : Rat) : Rat := mkRat q.num.natAbs q.den
theorem absq_pos {q : Rat} (h : ¬ q.num < 0) : absq q = q := by
  unfold absq
  rw [show ((q.num.natAbs : Nat) : Int) = q.num from by omega, Rat.mkRat_self]
theorem absq_neg {q : Rat} (h : q.num < 0) : 0 - absq q = q := by
  unfold absq
  rw [Rat.sub_eq_add_neg, Rat.zero_add, Rat.neg_mkRat, show -((q.num.natAbs : Nat) : Int) = q.num from by omega, Rat.mkRat_self]
theorem absq_one {q : Rat} (h : q.den = 1) : ((q.num.natAbs : Int) : Rat) = absq q := by
  unfold absq
  rw [h, Rat.mkRat_one]
theorem absq_div (q : Rat) : ((q.num.natAbs : Int) : Rat) / ((q.den : Int) : Rat) = absq q := by
  unfold absq
  rw [Rat.mkRat_eq_div]
  rfl
theorem sz_absq {q : Rat} {N : Nat} (h : Sizes.Sz q N) : Sizes.Sz (absq q) N := Sizes.sz_mkRat q.den_nz h.1 h.2

set_option maxRecDepth 100000 in
set_option maxHeartbeats 400000 in
theorem positive_one (N : Nat) (hN : 1 ≤ N ∧ N ≤ 800000) (s : ByteArray) (q : Rat) (hq : q.den = 1) (hs : s.data.toList = stem q) (hz : Sizes.Sz q N) (w : World) (hok : Ok w) :
    Calls Tryd.prog 37 #[.string s] w (Tells (2 * N + 1) (absq q) w) := by
  have hl := lit_point q.num.natAbs
  rw [stem_one hq] at hs
  rw [← hs] at hl
  have hlen : s.size ≤ 30000000 := by
    rw [Lib.size_eq, hs, List.length_append]
    have := Sizes.txt_len q.num.natAbs
    have := hz.1
    show _ + 2 ≤ _
    omega
  have hza := (sz_absq hz).mono (show N ≤ 2 * N + 1 by omega)
  have HR := Lib.hid (reads_yes (2 * N + 1) s (absq q) hlen hl.1 (hl.2.trans (absq_one hq)) hza w hok)
  have hne : ((s.extract 0 3).toList == [40, 47, 32]) = false := by
    rw [Lib.toList_data, ByteArray.data_extract, Array.toList_extract, hs, List.extract_eq_take_drop, List.drop_zero]
    refine beq_eq_false_iff_ne.2 (fun e => ?_)
    have h0 := txt_ne q.num.natAbs
    have h1 := txt_dig q.num.natAbs
    generalize txt q.num.natAbs = l at *
    cases l with
    | nil => exact h0 rfl
    | cons x l =>
      have hx := h1 x List.mem_cons_self
      injection e with e _
      rw [e] at hx
      exact absurd hx (by decide)
  clear hz hq hs hl hza hok
  go_enter Tryd.func37, Tryd.ntmps37
  by_cases h5 : s.size < 5
  · go_wp2_with fail
    refine HR.out.mono ?_
    rintro e w1 ⟨v, rfl, h1, h2⟩
    have H := Lib.hid (And.intro h1 h2)
    clear h1 h2
    go_wp2_with fail
    go_ret
    exact ⟨_, rfl, H.out⟩
  · go_wp2_with fail
    refine HR.out.mono ?_
    rintro e w1 ⟨v, rfl, h1, h2⟩
    have H := Lib.hid (And.intro h1 h2)
    clear h1 h2
    go_wp2_with fail
    go_ret
    exact ⟨_, rfl, H.out⟩
set_option maxRecDepth 100000 in
set_option maxHeartbeats 1000000 in
theorem positive_more (N : Nat) (hN : 1 ≤ N ∧ N ≤ 800000) (s : ByteArray) (q : Rat) (hq : q.den ≠ 1) (hs : s.data.toList = stem q) (hz : Sizes.Sz q N) (w : World) (hok : Ok w) :
    Calls Tryd.prog 37 #[.string s] w (Tells (2 * N + 1) (absq q) w) := by
  obtain ⟨n, hn⟩ : ∃ n, n = (txt q.num.natAbs).length + 5 := ⟨_, rfl⟩
  have hsz : s.size = n + 1 + ((txt q.den).length + 2) + 1 := by
    rw [Lib.size_eq, hs, stem_more hq, hn]
    simp
    omega
  have hst := stem_more hq
  rw [← hs] at hst
  obtain ⟨x, hx⟩ : ∃ x, x = txt q.num.natAbs ++ [46, 48] := ⟨_, rfl⟩
  obtain ⟨y, hy⟩ : ∃ y, y = txt q.den ++ [46, 48] := ⟨_, rfl⟩
  have hxl : n = 3 + x.length := by rw [hx, List.length_append, hn]; show _ = 3 + (_ + 2); omega
  have hyl : s.size = n + 1 + y.length + 1 := by rw [hy, List.length_append]; show _ = n + 1 + (_ + 2) + 1; omega
  have hst2 : s.data.toList = ([40, 47, 32] ++ x) ++ 32 :: (y ++ [41]) := by
    rw [hst, hx, hy]; simp
  have hget : ∀ k (h : k < s.size), s[k] = s.data.toList[k]'(by rw [← Lib.size_eq]; exact h) := fun k h => rfl
  have hpl : ([40, 47, 32] ++ x).length = n := by rw [List.length_append, hxl]; rfl
  have h32 : ∀ h : n < s.size, s[n] = 32 := by
    intro h
    rw [hget n h]
    simp only [hst2]
    rw [List.getElem_append_right (by omega)]
    simp only [hpl, Nat.sub_self]
    rfl
  have hno : ∀ k, 3 ≤ k → k < n → ∀ h : k < s.size, s[k] ≠ 32 := by
    intro k h1 h2 h
    rw [hget k h]
    simp only [hst2]
    rw [List.getElem_append_left (by omega), List.getElem_append_right (by simpa using h1)]
    intro e
    have hm : (32 : UInt8) ∈ x := by rw [← e]; exact List.getElem_mem _
    rw [hx] at hm
    rcases List.mem_append.1 hm with h | h
    · exact absurd (txt_dig _ _ h) (by decide)
    · exact absurd h (by decide)
  have h3 : ((s.extract 0 3).toList == [40, 47, 32]) = true := by
    rw [Lib.toList_data, ByteArray.data_extract, Array.toList_extract, hst2, List.extract_eq_take_drop, List.drop_zero]
    rfl
  have ha : (s.extract 3 n).data.toList = txt q.num.natAbs ++ [46, 48] := by
    rw [ByteArray.data_extract, Array.toList_extract, hst2, List.extract_eq_take_drop, ← hx, hxl]
    simp
  have hb : (s.extract (n + 1) (s.size - 1)).data.toList = txt q.den ++ [46, 48] := by
    rw [ByteArray.data_extract, Array.toList_extract, hst2, List.extract_eq_take_drop, ← hy, List.append_cons ([40, 47, 32] ++ x) 32 (y ++ [41]), List.drop_left' (by rw [List.length_append, hpl]; rfl), List.take_left' (by omega)]
  have hlo : 9 ≤ s.size := by omega
  have hhi : s.size ≤ 20000000 := by
    have h1 := Sizes.txt_len q.num.natAbs
    have h2 := Sizes.txt_len q.den
    have h3 := hz.1; have h4 := hz.2
    omega
  have hla := lit_point q.num.natAbs
  have hlb := lit_point q.den
  rw [← ha] at hla
  rw [← hb] at hlb
  have HA := Lib.hid (reads_yes N (s.extract 3 n) _ (by rw [Lib.size_eq, ha, ← hx]; omega) hla.1 hla.2 (sz_int hz.1 hN.1))
  have HB := Lib.hid (reads_yes N (s.extract (n + 1) (s.size - 1)) _ (by rw [Lib.size_eq, hb, ← hy]; omega) hlb.1 hlb.2 (sz_int hz.2 hN.1))
  have H32 := Lib.hid h32
  have HNO := Lib.hid hno
  have HSZ := Lib.hid (And.intro hsz (And.intro hz hok))
  have hn2 : n + 4 ≤ s.size := by omega
  have hn3 : 3 ≤ n := by omega
  have hq0 : ((q.den : Int) : Rat) ≠ 0 := by
    intro e
    have := q.den_nz
    rw [show (0 : Rat) = ((0 : Int) : Rat) from rfl, Rat.intCast_inj] at e
    omega
  clear h32 hno ha hb hla hlb hsz hz hok hs hn hx hy hxl hyl hst hst2 hget hpl
  go_enter Tryd.func37, Tryd.ntmps37
  go_wp2_with fail
  go_loop [3] (fun v => ∃ k : Nat, 3 ≤ k ∧ k ≤ n ∧ v = .int .i64 k) (fun v => n - (intOf v).toNat)
  case atStart => exact ⟨3, by omega, by omega, rfl⟩
  case round =>
    obtain ⟨k, hk1, hk2, rfl⟩ := hrel
    by_cases he : k = n
    · subst he
      have h8 : s[k] = 32 := H32.out (by omega)
      go_wp2_with fail
      have HOK := Lib.hid (show Ok w.drew from HSZ.out.2.2.below (Drawn0.below ⟨1, rfl⟩))
      have b1 : (3 : Int) ≤ (k : Int) := by omega
      have b2 : (k : Int) ≤ (s.size : Int) := by omega
      have b3 : (k : Int) + 1 ≤ (s.size : Int) - 1 := by omega
      have b4 : (s.size : Int) - 1 ≤ (s.size : Int) := by omega
      have b5 : (0 : Int) ≤ (k : Int) + 1 := by omega
      have t1 : ((k : Int) + 1).toNat = k + 1 := by omega
      have t2 : ((s.size : Int) - 1).toNat = s.size - 1 := by omega
      have w1 : IntKind.i64.wrap ((k : Int) + 1) = (k : Int) + 1 := IntWalk.i64_in _ (by omega)
      have w2 : IntKind.i64.wrap ((s.size : Int) - 1) = (s.size : Int) - 1 := IntWalk.i64_in _ (by omega)
      go_region_with (first | (go_at_call 81; (with_reducible refine (HA.out _ HOK.out).mono ?_); rintro e w1 ⟨v, rfl, h1, h2⟩; have H1 := Lib.hid (And.intro h1 (And.intro h2 (HOK.out.below h2))); clear h1 h2) | (go_at_call 81; (with_reducible refine (HB.out _ H1.out.2.2).mono ?_); rintro e w2 ⟨v2, rfl, h1, h2⟩; have H2 := Lib.hid (And.intro h1 (And.intro h2 (H1.out.2.2.below h2))); clear h1 h2) | (go_at_call 74; (with_reducible refine (quo_yes N (by omega) _ _ _ _ (by exact hq0) H1.out.1 H2.out.1 _ H2.out.2.2).mono ?_); rintro e w3 ⟨v3, rfl, h1, h2⟩; have H3 := Lib.hid (And.intro h1 h2); clear h1 h2))
      all_goals
        go_wp2_with fail
        go_ret
        exact ⟨_, rfl, by rw [← absq_div q]; exact H3.out.1, below_step (below_step (below_step (Drawn0.below ⟨1, rfl⟩) H1.out.2.1) H2.out.2.1) H3.out.2⟩
    · have hlt : k < n := by omega
      have hks : k < s.size := by omega
      have h8 : ((((s[k]'hks).toNat : Nat) : Int) == 32) = false := by
        refine beq_eq_false_iff_ne.2 (fun e => HNO.out k hk1 hlt hks ?_)
        apply UInt8.toNat_inj.1
        show _ = 32
        omega
      go_wp2_with fail
      go_round
      case rel => exact ⟨k + 1, by omega, by omega, by go_num⟩
      case measure => simp [intOf]; omega
end Go.Proofs.YtjeamchaibialaaDoor.Consts

/- NumConstants: the walk. -/
namespace Go.Proofs.YtjeamchaibialaaDoor.TopConst
open Go.RowKit Go.Proofs.YtjeamchaibialaaDoorW.PrintWords Go.Proofs.YtjeamchaibialaaDoorW.PrintLast Go.Proofs.YtjeamchaibialaaDoorW.PrintMore Fns Limbs Nats Go.Proofs.YtjeamchaibialaaDoor.Told ReadWalk Texts Rats Parses Heaps Go.Proofs.YtjeamchaibialaaDoor.Splits Go.Proofs.YtjeamchaibialaaDoor.Nums Go.Proofs.YtjeamchaibialaaDoor.Laws Go.Proofs.YtjeamchaibialaaDoor.SpellWalk Go.Proofs.YtjeamchaibialaaDoor.Consts Go.Proofs.YtjeamchaibialaaDoor.Sums

theorem half_text : sptxt (-1 / 2) = [40, 45, 32, 40, 47, 32, 49, 46, 48, 32, 50, 46, 48, 41, 41] := by
  have h1 : (-1 / 2 : Rat).num = -1 := by decide +kernel
  have h2 : (-1 / 2 : Rat).den = 2 := by decide +kernel
  rw [sptxt_neg (by rw [h1]; decide), stem_more (by rw [h2]; decide), h1, h2]
  simp [txt1, txt2]

set_option maxRecDepth 100000 in
theorem spell_half (w : World) (hok : Ok w) :
    Calls Tryd.prog 36 #[.string ⟨#[45, 49, 47, 50]⟩] w fun e w' => e = .returned (.tuple #[.string ⟨#[40, 45, 32, 40, 47, 32, 49, 46, 48, 32, 50, 46, 48, 41, 41]⟩, .int .i64 0]) ∧ Below w.heap.size w w' := by
  refine (SpellWalk.calls ⟨#[45, 49, 47, 50]⟩ (by decide) w hok).mono ?_
  rintro e w1 ⟨hb, ⟨q, hq, rfl⟩ | ⟨hn, rfl⟩⟩
  · have hqq : q = -1 / 2 := rtxt_inj (by rw [← hq, k_mhalf.txt])
    subst hqq
    exact ⟨by rw [half_text], hb⟩
  · exact absurd k_mhalf.txt (hn _)

theorem stem_head (q : Rat) (t : ByteArray) (h : t.data.toList = stem q) : ((t.extract 0 3).toList == [40, 45, 32]) = false := by
  rw [Lib.toList_data, ByteArray.data_extract, Array.toList_extract, h, List.extract_eq_take_drop, List.drop_zero]
  refine beq_eq_false_iff_ne.2 (fun e => ?_)
  by_cases hd : q.den = 1
  · rw [stem_one hd] at e
    have h0 := txt_ne q.num.natAbs
    have h1 := txt_dig q.num.natAbs
    generalize txt q.num.natAbs = l at *
    cases l with
    | nil => exact h0 rfl
    | cons x l =>
      have hx := h1 x List.mem_cons_self
      injection e with e _
      rw [e] at hx
      exact absurd hx (by decide)
  · rw [stem_more hd] at e
    injection e with _ e
    injection e with e _
    exact absurd e (by decide)
theorem neg_parts (q : Rat) (hq : q.num < 0) (t : ByteArray) (h : t.data.toList = sptxt q) : ((t.extract 0 3).toList == [40, 45, 32]) = true ∧ (t.extract 3 (t.size - 1)).data.toList = stem q ∧ t.size = (stem q).length + 4 := by
  rw [sptxt_neg hq] at h
  have hsz : t.size = (stem q).length + 4 := by rw [Lib.size_eq, h]; simp
  refine ⟨?_, ?_, hsz⟩
  · rw [Lib.toList_data, ByteArray.data_extract, Array.toList_extract, h, List.extract_eq_take_drop, List.drop_zero]
    rfl
  · rw [ByteArray.data_extract, Array.toList_extract, h, List.extract_eq_take_drop, hsz]
    simp
theorem stem_ge (q : Rat) : 3 ≤ (stem q).length := by
  have h := txt_ne q.num.natAbs
  have : 0 < (txt q.num.natAbs).length := List.length_pos_iff.2 h
  by_cases hd : q.den = 1
  · rw [stem_one hd, List.length_append]; show 3 ≤ _ + 2; omega
  · rw [stem_more hd]; simp

set_option maxRecDepth 100000 in
theorem positive_any (N : Nat) (hN : 1 ≤ N ∧ N ≤ 800000) (s : ByteArray) (q : Rat) (hs : s.data.toList = stem q) (hz : Sizes.Sz q N) (w : World) (hok : Ok w) :
    Calls Tryd.prog 37 #[.string s] w (Tells (2 * N + 1) (absq q) w) := by
  by_cases hd : q.den = 1
  · exact positive_one N hN s q hd hs hz w hok
  · exact positive_more N hN s q hd hs hz w hok

set_option maxRecDepth 100000 in
set_option maxHeartbeats 1000000 in
theorem law (s : ByteArray) (hs : s.size ≤ 1048576) (w : World) (hok : Ok w) :
    Calls Tryd.prog 10 #[.string s] w (Says true w) := by
  have HOK := Lib.hid hok
  clear hok
  go_enter Tryd.func10, Tryd.ntmps10
  go_wp2_with fail
  refine (spell_half _ HOK.out).mono ?_
  rintro e w1 ⟨rfl, hb⟩
  have H1 := Lib.hid (And.intro hb (HOK.out.below hb))
  clear hb HOK
  go_wp2_with fail
  refine (no_calls 0 (by omega) (by omega) _).mono ?_
  rintro e w2 ⟨rfl, rfl⟩
  go_wp2_with fail
  refine (SpellWalk.calls s (by omega) _ H1.out.2).mono ?_
  rintro e w3 ⟨hb, ⟨q, hq, rfl⟩ | ⟨hn, rfl⟩⟩
  · have his := Is.of hq hs
    obtain ⟨t, ht⟩ : ∃ t : ByteArray, t = ⟨(sptxt q).toArray⟩ := ⟨_, rfl⟩
    rw [← ht]
    have htl : t.data.toList = sptxt q := by rw [ht]
    have H3 := Lib.hid (And.intro (below_step H1.out.1 hb) (And.intro (H1.out.2.below hb) (And.intro his htl)))
    clear hb his H1 ht hq
    go_wp2_with fail
    refine (canon_yes 120000 (by omega) s q H3.out.2.2.1 _ H3.out.2.1).mono ?_
    rintro e w4 ⟨rfl, hb⟩
    have H4 := Lib.hid (And.intro (below_step H3.out.1 hb) (H3.out.2.1.below hb))
    have HI := Lib.hid H3.out.2.2.1
    clear hb H3
    go_wp2_with fail
    refine (no_calls 0 (by omega) (by omega) _).mono ?_
    rintro e w5 ⟨rfl, rfl⟩
    by_cases hneg : q.num < 0
    · obtain ⟨h3, hex, hsz⟩ := neg_parts q hneg t htl
      have hge := stem_ge q
      have hle := stem_len HI.out.sz
      have h5 : 5 ≤ t.size := by omega
      have h9 : t.size ≤ 30000000 := by omega
      have b1 : (3 : Int) ≤ (t.size : Int) - 1 := by omega
      have b2 : (t.size : Int) - 1 ≤ (t.size : Int) := by omega
      have t2 : ((t.size : Int) - 1).toNat = t.size - 1 := by omega
      obtain ⟨u, hu⟩ : ∃ u, u = t.extract 3 (t.size - 1) := ⟨_, rfl⟩
      rw [← hu] at hex
      have HX := Lib.hid (And.intro hex (And.intro (absq_neg hneg) hu))
      clear hex hsz hge hle htl hneg hu
      go_wp2_with fail
      rw [← HX.out.2.2]
      refine (positive_any 120000 (by omega) u q HX.out.1 HI.out.sz _ H4.out.2).mono ?_
      rintro e w6 ⟨v, rfl, hv, hb⟩
      have H6 := Lib.hid (And.intro hv (And.intro (below_step H4.out.1 hb) (H4.out.2.below hb)))
      clear hv hb H4
      go_wp2_with fail
      refine (sub_yes 240001 (by omega) _ _ 0 (absq q) (k_0.mono (by omega)) H6.out.1 _ H6.out.2.2).mono ?_
      rintro e w7 ⟨v2, rfl, hv, hb⟩
      have hsame := HI.out.same hv HX.out.2.1
      subst hsame
      have H7 := Lib.hid (below_step H6.out.2.1 hb)
      clear hv hb H6
      go_wp2_with fail
      go_ret
      exact ⟨by simp, H7.out⟩
    · rw [sptxt_pos hneg] at htl
      have h3 := stem_head q t htl
      have hle := stem_len HI.out.sz
      have h9 : t.size ≤ 30000000 := by rw [Lib.size_eq, htl]; omega
      have HX := Lib.hid (And.intro htl (absq_pos hneg))
      clear htl hneg hle
      by_cases h5 : t.size < 5
      all_goals
        go_wp2_with fail
        refine (positive_any 120000 (by omega) t q HX.out.1 HI.out.sz _ H4.out.2).mono ?_
        rintro e w6 ⟨v, rfl, hv, hb⟩
        have hsame := HI.out.same hv HX.out.2
        subst hsame
        have H7 := Lib.hid (below_step H4.out.1 hb)
        clear hv hb H4
        go_wp2_with fail
        go_ret
        exact ⟨by simp, H7.out⟩
  · have H3 := Lib.hid (And.intro (below_step H1.out.1 hb) (And.intro (H1.out.2.below hb) hn))
    clear hb H1 hn
    go_wp2_with fail
    refine (canon_no s (by omega) H3.out.2.2 _ H3.out.2.1).mono ?_
    rintro e w4 ⟨rfl, hb⟩
    have H4 := Lib.hid (below_step H3.out.1 hb)
    clear hb H3
    go_wp2_with fail
    refine (no_calls 1 (by omega) (by omega) _).mono ?_
    rintro e w5 ⟨rfl, rfl⟩
    go_wp2_with fail
    go_ret
    exact ⟨rfl, H4.out⟩
end Go.Proofs.YtjeamchaibialaaDoor.TopConst
