/- Joined: TopPlaces -/
import Derived.Test.YtjeamchaibialaaGreatDoorM28
import Derived.Test.YtjeamchaibialaaGreatDoorM26
import Derived.Test.YtjeamchaibialaaGreatDoorM25
import Derived.Test.YtjeamchaibialaaGreatDoorM20
set_option linter.unusedVariables false
set_option linter.unusedSimpArgs false
/- NumPlaces: the walk. -/
namespace Go.Proofs.YtjeamchaibialaaGreatDoor.TopPlaces
open Go.RowKit Go.Proofs.YtjeamchaibialaaGreatDoorW.PrintWords Go.Proofs.YtjeamchaibialaaGreatDoorW.PrintLast Go.Proofs.YtjeamchaibialaaGreatDoorW.PrintMore Fns Limbs Nats Go.Proofs.YtjeamchaibialaaGreatDoor.Told ReadWalk Texts Rats Parses Heaps Go.Proofs.YtjeamchaibialaaGreatDoor.Splits Go.Proofs.YtjeamchaibialaaGreatDoor.Nums Go.Proofs.YtjeamchaibialaaGreatDoor.Laws Go.Proofs.YtjeamchaibialaaGreatDoor.Consts Go.Proofs.YtjeamchaibialaaGreatDoor.Sums Go.Proofs.YtjeamchaibialaaGreatDoor.Placs Go.Proofs.YtjeamchaibialaaGreatDoor.Bares Go.Proofs.YtjeamchaibialaaGreatDoor.Reads2 Go.Proofs.YtjeamchaibialaaGreatDoor.Decis Go.Proofs.YtjeamchaibialaaGreatDoor.DecimalWalk

theorem dig1 : Dig [49] := fun b hb => by rw [List.mem_singleton.1 hb]; decide
theorem lit_150 : Reads2.Lit [49, 46, 53, 48] ∧ litOf [49, 46, 53, 48] = 3 / 2 := by
  have h1 : Num [49] := ⟨dig1, .inr ⟨by simp, by decide⟩⟩
  refine ⟨(lit_iff [49] [53, 48]).2 ⟨h1, by simp, fun b hb => ?_⟩, ?_⟩
  · simp at hb
    rcases hb with rfl | rfl <;> decide
  · rw [show ([49, 46, 53, 48] : List UInt8) = [49] ++ 46 :: [53, 48] from rfl, lit_val h1]
    decide +kernel
theorem lit_0 : Reads2.Lit [48] ∧ litOf [48] = 0 := by
  have h1 : Num [48] := ⟨fun b hb => by rw [List.mem_singleton.1 hb]; decide, .inl rfl⟩
  exact ⟨(lit_num h1).1, (lit_num h1).2.trans (by decide +kernel)⟩
open Classical in
theorem decimal_yes (s : ByteArray) (hs : s.size ≤ 1000000000) (h : Figs s.data.toList) (w : World) :
    Calls Tryz.prog 22 #[.string s] w fun e w' => e = .returned (.bool true) ∧ w' = w := by
  have := Bares.decimal_calls s hs w
  rw [decide_eq_true h] at this
  exact this
open Classical in
theorem decimal_no (s : ByteArray) (hs : s.size ≤ 1000000000) (h : ¬ Figs s.data.toList) (w : World) :
    Calls Tryz.prog 22 #[.string s] w fun e w' => e = .returned (.bool false) ∧ w' = w := by
  have := Bares.decimal_calls s hs w
  rw [decide_eq_false h] at this
  exact this
theorem num_bare {l : List UInt8} (h : Figs l) : Num l ↔ txt (dec l) = l := ⟨fun h => txt_num h, fun e => e ▸ num_txt _⟩
theorem lit_den {h t : List UInt8} (hh : Num h) : (litOf (h ++ 46 :: t)).den ∣ 10 ^ t.length := by
  have hp : 10 ^ t.length ≠ 0 := Nat.pos_iff_ne_zero.1 (Nat.pow_pos (by omega))
  rw [lit_val hh, show mkRat ((dec (h ++ t) : Nat) : Int) (10 ^ t.length) = frac false (dec (h ++ t)) (10 ^ t.length) from rfl, frac_den hp]
  exact Nat.div_dvd_of_dvd (Nat.gcd_dvd_right _ _)
theorem ten_sz (k N : Nat) (h : k + 1 ≤ 9 * N) (h1 : 1 ≤ N) : (limbs (10 ^ k)).length ≤ N + 1 := by
  have := lt_ten_limbs (n := 10 ^ k) (k := k + 1) (Nat.pow_lt_pow_right (by omega) (by omega))
  omega
theorem lit_sz {h t : List UInt8} (hh : Num h) (ht : Figs t) (N : Nat) (h1 : h.length + t.length + 9 ≤ 9 * N) : Sizes.Sz (litOf (h ++ 46 :: t)) (N + 1) := by
  have hp : 10 ^ t.length ≠ 0 := Nat.pos_iff_ne_zero.1 (Nat.pow_pos (by omega))
  rw [lit_val hh]
  refine Sizes.sz_mkRat hp ?_ (ten_sz _ _ (by omega) (by omega))
  rw [Int.natAbs_natCast]
  have := lt_ten_limbs (dec_lt (l := h ++ t) (dig_app.2 ⟨hh.1, ht.2⟩))
  rw [List.length_append] at this
  omega
theorem dec_sz {l : List UInt8} (hd : Dig l) (N : Nat) (h1 : l.length + 9 ≤ 9 * N) : Sizes.Sz ((dec l : Int) : Rat) (N + 1) := by
  refine sz_int ?_ (by omega)
  rw [Int.natAbs_natCast]
  have := lt_ten_limbs (dec_lt hd)
  omega
theorem rtxt_nat (n : Nat) : rtxt ((n : Int) : Rat) = txt n := by
  unfold rtxt
  rw [Rat.num_intCast, Rat.den_intCast, if_neg (by omega), Int.natAbs_natCast, if_pos rfl, List.append_nil]; rfl
theorem size3 (a b c : ByteArray) : (a ++ b ++ c).data.toList = a.data.toList ++ (b.data.toList ++ c.data.toList) := by
  rw [ByteArray.data_append, ByteArray.data_append, Array.toList_append, Array.toList_append, List.append_assoc]

set_option maxRecDepth 100000 in
set_option maxHeartbeats 1000000 in
theorem law_no (a b : ByteArray) (ha : a.size ≤ 1048576) (hb : b.size ≤ 1048576) (hn : ¬ (Num a.data.toList ∧ Figs b.data.toList)) (w : World) (hok : Ok w) :
    Calls Tryz.prog 6 #[.string a, .string b] w (Says true w) := by
  have HOK := Lib.hid hok
  have HN : Hid (¬ Reads2.Lit (a ++ ⟨#[46]⟩ ++ b).data.toList) := Lib.hid (by rw [size3]; exact fun h => hn ((lit_iff _ _).1 h))
  have hz1 : (a ++ (⟨#[46]⟩ : ByteArray)).size ≤ 1048577 := by rw [ByteArray.size_append]; show _ + 1 ≤ _; omega
  have hz2 : (a ++ (⟨#[46]⟩ : ByteArray) ++ b).size ≤ 2100000 := by rw [ByteArray.size_append]; omega
  have HH := Lib.hid hn
  clear hok hn
  go_enter Tryz.func6, Tryz.ntmps6
  go_wp2_with fail
  refine (reads_yes 120000 ⟨#[49, 46, 53, 48]⟩ (3 / 2) (by decide) lit_150.1 lit_150.2 k_32.sz _ HOK.out).mono ?_
  rintro e w1 ⟨v, rfl, hv, hb1⟩
  have hsame := k_32.same hv rfl
  subst hsame
  have H1 := Lib.hid (And.intro hb1 (HOK.out.below hb1))
  clear hv hb1 HOK
  go_wp2_with fail
  refine (reads_yes 120000 ⟨#[48]⟩ 0 (by decide) lit_0.1 lit_0.2 k_0.sz _ H1.out.2).mono ?_
  rintro e w2 ⟨v, rfl, hv, hb2⟩
  have hsame := k_0.same hv rfl
  subst hsame
  have H2 := Lib.hid (And.intro (below_step H1.out.1 hb2) (H1.out.2.below hb2))
  clear hv hb2 H1
  go_wp2_with fail
  obtain ⟨z, hz⟩ : ∃ z, z = a ++ (⟨#[46]⟩ : ByteArray) ++ b := ⟨_, rfl⟩
  rw [← hz] at HN hz2 ⊢
  clear hz
  refine (Reads2.calls z (by omega) _ H2.out.2).mono ?_
  rintro e w3 ⟨hb3, ⟨h, _⟩ | ⟨_, rfl⟩⟩
  · exact absurd h HN.out
  · have H3 := Lib.hid (below_step H2.out.1 hb3)
    clear hb3 H2
    by_cases hfb : Figs b.data.toList
    · have HFB := Lib.hid hfb
      clear hfb
      go_wp2_with fail
      refine (decimal_yes b (by omega) HFB.out _).mono ?_
      rintro e w4 ⟨rfl, hw4⟩
      rw [hw4]
      clear hw4
      by_cases hfa : Figs a.data.toList
      · have HFA := Lib.hid hfa
        have hne : txt (dec a.data.toList) ≠ a.data.toList := fun e => HH.out ⟨(num_bare hfa).2 e, HFB.out⟩
        have hne2 : ((⟨(txt (dec a.data.toList)).toArray⟩ : ByteArray).toList == a.toList) = false := beq_eq_false_iff_ne.2 (by rw [Lib.toList_data, Lib.toList_data]; exact hne)
        obtain ⟨x, hx⟩ : ∃ x : ByteArray, x = ⟨(txt (dec a.data.toList)).toArray⟩ := ⟨_, rfl⟩
        rw [← hx] at hne2
        have HX := Lib.hid hx
        clear hfa hne hx
        go_wp2_with fail
        refine (decimal_yes a (by omega) HFA.out _).mono ?_
        rintro e w4 ⟨rfl, hw4⟩
        rw [hw4]
        clear hw4
        go_wp2_with fail
        refine (bare_calls a (by omega) HFA.out _).mono ?_
        rintro e w4 ⟨rfl, hw4⟩
        rw [hw4, ← HX.out]
        clear hw4
        go_wp2_with fail
        refine (no_calls 1 (by omega) (by omega) _).mono ?_
        rintro e w5 ⟨rfl, hw5⟩
        rw [hw5]
        clear hw5
        go_wp2_with fail
        go_ret
        exact ⟨rfl, H3.out⟩
      · have HFA := Lib.hid hfa
        clear hfa
        go_wp2_with fail
        refine (decimal_no a (by omega) HFA.out _).mono ?_
        rintro e w4 ⟨rfl, hw4⟩
        rw [hw4]
        clear hw4
        go_wp2_with fail
        refine (no_calls 1 (by omega) (by omega) _).mono ?_
        rintro e w5 ⟨rfl, hw5⟩
        rw [hw5]
        clear hw5
        go_wp2_with fail
        go_ret
        exact ⟨rfl, H3.out⟩
    · have HFB := Lib.hid hfb
      clear hfb
      go_wp2_with fail
      refine (decimal_no b (by omega) HFB.out _).mono ?_
      rintro e w4 ⟨rfl, hw4⟩
      rw [hw4]
      clear hw4
      go_wp2_with fail
      refine (no_calls 1 (by omega) (by omega) _).mono ?_
      rintro e w5 ⟨rfl, hw5⟩
      rw [hw5]
      clear hw5
      go_wp2_with fail
      go_ret
      exact ⟨rfl, H3.out⟩
theorem byte_size (l : List UInt8) : (⟨l.toArray⟩ : ByteArray).size = l.length := by
  show l.toArray.size = _
  rw [List.size_toArray]
theorem cut_last (t : ByteArray) (h : 0 < t.size) : t.data.toList = (t.extract 0 (t.size - 1)).data.toList ++ [t[t.size - 1]] := by
  have h1 : t.size - 1 < t.data.toList.length := by rw [← Lib.size_eq]; omega
  have h2 : t[t.size - 1] = t.data.toList[t.size - 1]'h1 := rfl
  rw [ByteArray.data_extract, Array.toList_extract, List.extract_eq_take_drop, Nat.sub_zero, List.drop_zero, h2, ← List.take_succ_eq_append_getElem h1, show t.size - 1 + 1 = t.size from by omega, Lib.size_eq, List.take_length]

set_option maxRecDepth 100000 in
set_option maxHeartbeats 2000000 in
theorem law_yes (a b : ByteArray) (ha : a.size ≤ 1048576) (hb : b.size ≤ 1048576) (hA : Num a.data.toList) (hB : Figs b.data.toList) (w : World) (hok : Ok w) :
    Calls Tryz.prog 6 #[.string a, .string b] w (Says true w) := by
  obtain ⟨q, hq⟩ : ∃ q, q = litOf (a.data.toList ++ 46 :: b.data.toList) := ⟨_, rfl⟩
  have HOK := Lib.hid hok
  have hqz : Sizes.Sz q 250001 := by
    rw [hq]
    refine lit_sz hA hB 250000 ?_
    rw [← Lib.size_eq, ← Lib.size_eq]; omega
  have HL : Hid (Reads2.Lit (a ++ ⟨#[46]⟩ ++ b).data.toList ∧ litOf (a ++ ⟨#[46]⟩ ++ b).data.toList = q) := Lib.hid (by rw [size3]; exact ⟨(lit_iff _ _).2 ⟨hA, hB⟩, hq.symm⟩)
  have HL0 : Hid (Reads2.Lit (a ++ ⟨#[46]⟩ ++ b ++ ⟨#[48]⟩).data.toList ∧ litOf (a ++ ⟨#[46]⟩ ++ b ++ ⟨#[48]⟩).data.toList = q) := Lib.hid (by
    rw [ByteArray.data_append, Array.toList_append, size3]
    have e : a.data.toList ++ ((⟨#[46]⟩ : ByteArray).data.toList ++ b.data.toList) ++ (⟨#[48]⟩ : ByteArray).data.toList = a.data.toList ++ 46 :: (b.data.toList ++ List.replicate 1 48) := by
      rw [List.append_assoc]; rfl
    rw [e]
    exact ⟨(lit_iff _ _).2 ⟨hA, by simp, dig_app.2 ⟨hB.2, dig_rep 1⟩⟩, by rw [lit_zeros hA, hq]⟩)
  have hz1 : (a ++ (⟨#[46]⟩ : ByteArray)).size ≤ 1048577 := by rw [ByteArray.size_append]; show _ + 1 ≤ _; omega
  have hz2 : (a ++ (⟨#[46]⟩ : ByteArray) ++ b).size ≤ 2100000 := by rw [ByteArray.size_append]; omega
  have hz3 : (a ++ (⟨#[46]⟩ : ByteArray) ++ b ++ (⟨#[48]⟩ : ByteArray)).size ≤ 2100001 := by rw [ByteArray.size_append]; show _ + 1 ≤ _; omega
  have HQ := Lib.hid (And.intro hA (And.intro hB (And.intro hq hqz)))
  have hbare : txt (dec a.data.toList) = a.data.toList := txt_num hA
  have HFA := Lib.hid hA.figs
  have HFB := Lib.hid hB
  have HE := Lib.hid (show (⟨(txt (dec a.data.toList)).toArray⟩ : ByteArray) = a by rw [hbare])
  have hb1 : 1 ≤ b.size := by rw [Lib.size_eq]; exact List.length_pos_iff.2 hB.1
  clear hok hA hB hq hqz hbare
  go_enter Tryz.func6, Tryz.ntmps6
  go_wp2_with fail
  refine (reads_yes 120000 ⟨#[49, 46, 53, 48]⟩ (3 / 2) (by decide) lit_150.1 lit_150.2 k_32.sz _ HOK.out).mono ?_
  rintro e w1 ⟨v, rfl, hv, hb1⟩
  have hsame := k_32.same hv rfl
  subst hsame
  have H1 := Lib.hid (And.intro hb1 (HOK.out.below hb1))
  clear hv hb1 HOK
  go_wp2_with fail
  refine (reads_yes 120000 ⟨#[48]⟩ 0 (by decide) lit_0.1 lit_0.2 k_0.sz _ H1.out.2).mono ?_
  rintro e w2 ⟨v, rfl, hv, hb2⟩
  have hsame := k_0.same hv rfl
  subst hsame
  have H2 := Lib.hid (And.intro (below_step H1.out.1 hb2) (H1.out.2.below hb2))
  clear hv hb2 H1
  go_wp2_with fail
  refine (Reads2.calls _ (by omega) _ H2.out.2).mono ?_
  rintro e w3 ⟨hb3, ⟨_, rfl⟩ | ⟨h, _⟩⟩
  · rw [HL.out.2]
    obtain ⟨r, hr⟩ : ∃ r : ByteArray, r = ⟨(rtxt q).toArray⟩ := ⟨_, rfl⟩
    rw [← hr]
    have HR : Hid (Is 250001 r q) := Lib.hid ⟨by rw [hr], HQ.out.2.2.2⟩
    have H3 := Lib.hid (And.intro (below_step H2.out.1 hb3) (H2.out.2.below hb3))
    clear hb3 H2 hr
    go_wp2_with fail
    refine (decimal_yes b (by omega) HFB.out _).mono ?_
    rintro e w4 ⟨rfl, hw4⟩
    rw [hw4]
    clear hw4
    go_wp2_with fail
    refine (decimal_yes a (by omega) HFA.out _).mono ?_
    rintro e w4 ⟨rfl, hw4⟩
    rw [hw4]
    clear hw4
    go_wp2_with fail
    refine (bare_calls a (by omega) HFA.out _).mono ?_
    rintro e w4 ⟨rfl, hw4⟩
    rw [hw4, HE.out]
    clear hw4
    have haa : (a.toList == a.toList) = true := beq_self_eq_true _
    go_wp2_with fail
    go_loop [7, 8] (fun v7 v8 => ∃ (i : Nat) (t : ByteArray), i ≤ b.size ∧ v8 = .int .i64 i ∧ v7 = .string t ∧ t.size ≤ 2000000 ∧ Hid (t.data.toList = 49 :: List.replicate i 48 ∧ t.size = i + 1)) (fun _ v8 => b.size - (intOf v8).toNat)
    case atStart => exact ⟨0, ⟨#[49]⟩, Nat.zero_le _, rfl, rfl, by decide, Lib.hid ⟨rfl, rfl⟩⟩
    case round =>
      obtain ⟨i, t, hi, rfl, rfl, ht, HT⟩ := hrel
      by_cases hib : i < b.size
      · have hts : (t ++ (⟨#[48]⟩ : ByteArray)).size ≤ 2000000 := by rw [ByteArray.size_append, HT.out.2]; show _ + 1 ≤ _; omega
        have HT2 : Hid ((t ++ (⟨#[48]⟩ : ByteArray)).data.toList = 49 :: List.replicate (i + 1) 48 ∧ (t ++ (⟨#[48]⟩ : ByteArray)).size = i + 1 + 1) := Lib.hid
          ⟨by rw [ByteArray.data_append, Array.toList_append, HT.out.1, List.replicate_succ']; rfl, by rw [ByteArray.size_append, HT.out.2]; rfl⟩
        go_wp2_with fail
        go_round
        case rel => exact ⟨i + 1, _, by omega, by go_num, rfl, hts, HT2⟩
        case measure => simp [intOf]; omega
      · have hie : i = b.size := by omega
        have HI : Hid (Is 250001 t (((10 ^ b.data.toList.length : Nat) : Int) : Rat)) := Lib.hid (by
          refine ⟨?_, sz_int ?_ (by omega)⟩
          · rw [HT.out.1, rtxt_nat, txt_pow, hie, Lib.size_eq]
          · rw [Int.natAbs_natCast]
            refine ten_sz _ 250000 ?_ (by omega)
            rw [← Lib.size_eq]; omega)
        clear HT ht
        go_wp2_with fail
        have hl1 := lit_num HQ.out.1
        have hs1 := (dec_sz HQ.out.1.1 250000 (by rw [← Lib.size_eq]; omega))
        refine (reads_yes 250001 a _ (by omega) hl1.1 hl1.2 hs1 _ H3.out.2).mono ?_
        rintro e w4 ⟨v1, rfl, hv1, hb4⟩
        have H4 := Lib.hid (And.intro hv1 (And.intro (below_step H3.out.1 hb4) (H3.out.2.below hb4)))
        clear hv1 hb4 hl1 hs1 H3
        go_wp2_with fail
        refine (bare_calls b (by omega) HFB.out _).mono ?_
        rintro e w5 ⟨rfl, hw5⟩
        rw [hw5]
        clear hw5
        obtain ⟨y, hy⟩ : ∃ y : ByteArray, y = ⟨(txt (dec b.data.toList)).toArray⟩ := ⟨_, rfl⟩
        rw [← hy]
        have hyd : y.data.toList = txt (dec b.data.toList) := by rw [hy]
        have hl2 := lit_num (num_txt (dec b.data.toList))
        rw [dec_txt, ← hyd] at hl2
        have hs2 := dec_sz HFB.out.2 250000 (by rw [← Lib.size_eq]; omega)
        have hys : y.size ≤ 1048576 := by
          rw [Lib.size_eq, hyd]
          have := txt_short (dec_lt HFB.out.2) (by rw [← Lib.size_eq]; omega)
          rw [← Lib.size_eq] at this
          omega
        have HY := Lib.hid (And.intro hl2 hs2)
        clear hy hyd hl2 hs2
        go_wp2_with fail
        refine (reads_yes 250001 y _ (by omega) HY.out.1.1 HY.out.1.2 HY.out.2 _ H4.out.2.2).mono ?_
        rintro e w5 ⟨v2, rfl, hv2, hb5⟩
        have H5 := Lib.hid (And.intro hv2 (And.intro (below_step H4.out.2.1 hb5) (H4.out.2.2.below hb5)))
        clear hv2 hb5
        have hp0 : (((10 ^ b.data.toList.length : Nat) : Int) : Rat) ≠ 0 := by
          intro e
          rw [show (0 : Rat) = ((0 : Int) : Rat) from rfl, Rat.intCast_inj] at e
          have : 0 < 10 ^ b.data.toList.length := Nat.pow_pos (by omega)
          omega
        have HP0 := Lib.hid hp0
        clear hp0
        go_wp2_with fail
        refine (quo_yes 250001 (by omega) _ _ _ _ HP0.out H5.out.1 HI.out _ H5.out.2.2).mono ?_
        rintro e w6 ⟨v3, rfl, hv3, hb6⟩
        have H6 := Lib.hid (And.intro hv3 (And.intro (below_step H5.out.2.1 hb6) (H5.out.2.2.below hb6)))
        clear hv3 hb6 H5
        go_wp2_with fail
        refine (add_yes 500003 (by omega) _ _ _ _ (H4.out.1.mono (by omega)) H6.out.1 _ H6.out.2.2).mono ?_
        rintro e w7 ⟨v4, rfl, hv4, hb7⟩
        have hsum := lit_sum (t := b.data.toList) HQ.out.1
        rw [← HQ.out.2.2.1] at hsum
        have hsame := HR.out.same hv4 hsum
        subst hsame
        have H7 := Lib.hid (And.intro (below_step H6.out.2.1 hb7) (H6.out.2.2.below hb7))
        clear hv4 hb7 H6 H4 hsum
        go_wp2_with fail
        refine (no_calls 0 (by omega) (by omega) _).mono ?_
        rintro e w8 ⟨rfl, hw8⟩
        rw [hw8]
        clear hw8
        go_wp2_with fail
        refine (canon_yes 250001 (by omega) _ q HR.out _ H7.out.2).mono ?_
        rintro e w8 ⟨rfl, hb8⟩
        have H8 := Lib.hid (And.intro (below_step H7.out.1 hb8) (H7.out.2.below hb8))
        clear hb8 H7
        go_wp2_with fail
        refine (reads_yes 250001 _ q (by omega) HL0.out.1 HL0.out.2 HQ.out.2.2.2 _ H8.out.2).mono ?_
        rintro e w9 ⟨v5, rfl, hv, hb9⟩
        have hsame := HR.out.same hv rfl
        subst hsame
        have H9 := Lib.hid (And.intro (below_step H8.out.1 hb9) (H8.out.2.below hb9))
        clear hv hb9 H8 hie hib hi HY HP0 hys HI
        go_wp2_with fail
        go_loop [10] (fun v10 => ∃ (t : ByteArray) (j : Nat), v10 = .string t ∧ 1 ≤ t.size ∧ t.size ≤ b.size ∧ Hid (b.data.toList = t.data.toList ++ List.replicate j 48)) (fun v10 => match v10 with | .string t => t.size | _ => 0)
        case atStart => exact ⟨b, 0, rfl, hb1, Nat.le_refl _, Lib.hid (by simp)⟩
        case round =>
          obtain ⟨s, j, rfl, hs1, hs2, HS⟩ := hrel
          have hcl := cut_last s (by omega)
          have b1 : (0 : Int) ≤ (s.size : Int) - 1 := by omega
          have b2 : (s.size : Int) - 1 < (s.size : Int) := by omega
          have b3 : (s.size : Int) - 1 ≤ (s.size : Int) := by omega
          have t2 : ((s.size : Int) - 1).toNat = s.size - 1 := by omega
          have ww : IntKind.i64.wrap ((s.size : Int) - 1) = (s.size : Int) - 1 := IntWalk.i64_in _ (by omega)
          have hfin : ∀ t : ByteArray, t = s → (t.size = 1 ∨ t.data.toList.getLast? ≠ some 48) → ∀ p, Least q.den p → dtxt q (max p 1) = (a ++ (⟨#[46]⟩ : ByteArray) ++ s).data.toList := by
            intro t e hl p hp
            subst e
            have hd : Dig t.data.toList := (dig_app.1 (HS.out ▸ HQ.out.2.1.2)).1
            have hq : q = litOf (a.data.toList ++ 46 :: (t.data.toList ++ List.replicate j 48)) := by rw [← HS.out]; exact HQ.out.2.2.1
            rw [hq] at hp ⊢
            rw [places HQ.out.1 hd (fun e => by rw [Lib.size_eq, e] at hs1; simp at hs1) (by rw [← Lib.size_eq]; exact hl) hp, size3]
            rfl
          have HFIN := Lib.hid hfin
          have hsz2 : (a ++ (⟨#[46]⟩ : ByteArray) ++ s).size ≤ 2100000 := by rw [ByteArray.size_append]; omega
          clear hfin
          have hdec : ∀ (e : Ending) (w10 : World), OutDc v5.data.toList w9 e w10 → (s.size = 1 ∨ s.data.toList.getLast? ≠ some 48) → Below w9.heap.size w9 w10 ∧ e = .returned (.tuple #[.string (a ++ (⟨#[46]⟩ : ByteArray) ++ s), .int .i64 0]) := by
            intro e w10 h hl
            refine ⟨h.1, ?_⟩
            rcases h.2 with ⟨q', p, h1, h2, _, rfl⟩ | ⟨⟨q', h1, h2⟩, _⟩ | ⟨h1, _⟩
            · have : q' = q := rtxt_inj (by rw [← h1, HR.out.txt])
              subst this
              rw [HFIN.out s rfl hl p h2]
            · have : q' = q := rtxt_inj (by rw [← h1, HR.out.txt])
              subst this
              exact absurd (by rw [HQ.out.2.2.1]; exact lit_den HQ.out.1) (h2 b.data.toList.length)
            · exact absurd HR.out.txt (h1 q)
          have HDEC := Lib.hid hdec
          have HZ : Hid (∀ q', v5.data.toList = rtxt q' → Sizes.Sz q' 1000000) := Lib.hid (fun q' h => by
            have : q' = q := rtxt_inj (by rw [← h, HR.out.txt])
            rw [this]; exact HQ.out.2.2.2.mono (by omega))
          have hvs : v5.size ≤ 100000000 := by have := HR.out.long; omega
          clear hdec
          by_cases h1 : 1 < s.size
          · have h1i : (1 : Int) < s.size := by omega
            have hk : s.size - 1 < s.size := by omega
            by_cases h8 : (s[s.size - 1]'hk).toNat = 48
            · have h8' : ((((s[s.size - 1]'hk).toNat : Nat) : Int) == 48) = true := beq_iff_eq.2 (by omega)
              have hx : s[s.size - 1]'hk = 48 := UInt8.toNat_inj.1 h8
              have HX : Hid (1 ≤ (s.extract 0 (s.size - 1)).size ∧ (s.extract 0 (s.size - 1)).size ≤ b.size ∧ (s.extract 0 (s.size - 1)).size < s.size ∧ b.data.toList = (s.extract 0 (s.size - 1)).data.toList ++ List.replicate (j + 1) 48) := Lib.hid (by
                have he : (s.extract 0 (s.size - 1)).size = s.size - 1 := by rw [ByteArray.size_extract]; omega
                refine ⟨by omega, by omega, by omega, ?_⟩
                rw [HS.out, hcl, hx, List.append_assoc]
                rfl)
              clear hcl hx h8 HFIN HDEC
              go_wp2_with fail
              exact ⟨⟨_, j + 1, rfl, HX.out.1, HX.out.2.1, Lib.hid HX.out.2.2.2⟩, HX.out.2.2.1⟩
            · have h8' : ((((s[s.size - 1]'hk).toNat : Nat) : Int) == 48) = false := beq_eq_false_iff_ne.2 (by omega)
              have HG : Hid (s.data.toList.getLast? ≠ some 48) := Lib.hid (by
                rw [hcl, List.getLast?_append]
                exact fun e => h8 (by injection e with e; have e' : s[s.size - 1]'hk = 48 := e; rw [e']; rfl))
              clear hcl h8 HFIN
              go_wp2_with fail
              refine (DecimalWalk.calls v5 hvs HZ.out _ H9.out.2).mono ?_
              rintro e w10 h10
              obtain ⟨hb10, rfl⟩ := HDEC.out e w10 h10 (.inr HG.out)
              have H10 := Lib.hid (below_step H9.out.1 hb10)
              clear h10 hb10 HDEC
              have hww : ((a ++ (⟨#[46]⟩ : ByteArray) ++ s).toList == (a ++ (⟨#[46]⟩ : ByteArray) ++ s).toList) = true := beq_self_eq_true _
              go_wp2_with fail
              refine (no_calls 0 (by omega) (by omega) _).mono ?_
              rintro e w11 ⟨rfl, hw11⟩
              rw [hw11]
              clear hw11
              go_wp2_with fail
              go_ret
              exact ⟨rfl, H10.out⟩
          · have h1i : ¬ (1 : Int) < s.size := by omega
            have HG : Hid (s.size = 1) := Lib.hid (by omega)
            clear hcl HFIN
            go_wp2_with fail
            refine (DecimalWalk.calls v5 hvs HZ.out _ H9.out.2).mono ?_
            rintro e w10 h10
            obtain ⟨hb10, rfl⟩ := HDEC.out e w10 h10 (.inl HG.out)
            have H10 := Lib.hid (below_step H9.out.1 hb10)
            clear h10 hb10 HDEC
            have hww : ((a ++ (⟨#[46]⟩ : ByteArray) ++ s).toList == (a ++ (⟨#[46]⟩ : ByteArray) ++ s).toList) = true := beq_self_eq_true _
            go_wp2_with fail
            refine (no_calls 0 (by omega) (by omega) _).mono ?_
            rintro e w11 ⟨rfl, hw11⟩
            rw [hw11]
            clear hw11
            go_wp2_with fail
            go_ret
            exact ⟨rfl, H10.out⟩
  · exact absurd HL.out.1 h
theorem law (a b : ByteArray) (ha : a.size ≤ 1048576) (hb : b.size ≤ 1048576) (w : World) (hok : Ok w) :
    Calls Tryz.prog 6 #[.string a, .string b] w (Says true w) := by
  by_cases h : Num a.data.toList ∧ Figs b.data.toList
  · exact law_yes a b ha hb h.1 h.2 w hok
  · exact law_no a b ha hb h w hok
end Go.Proofs.YtjeamchaibialaaGreatDoor.TopPlaces
