/- Joined: RefR TopReads -/
import Derived.Test.YtjeamchaibialaaDoorM12
import Derived.Test.YtjeamchaibialaaDoorM17
import Derived.Test.YtjeamchaibialaaDoorM10
set_option linter.unusedVariables false
set_option linter.unusedSimpArgs false
/- The reference's Literal and Read: the walks. -/
namespace Go.Proofs.YtjeamchaibialaaDoor.RefR
open Go.RowKit Heaps Go.Proofs.YtjeamchaibialaaDoorW.PrintWords Go.Proofs.YtjeamchaibialaaDoorW.PrintLast Go.Proofs.YtjeamchaibialaaDoorW.PrintMore Fns Limbs Pure1 Pure3 Nats Arrs Texts Rats RefA RefB RefC RefD RefE RefF RefG RefH RefI RefJ RefK RefL RefM RefN RefO RefP Go.Proofs.YtjeamchaibialaaDoor.Reads2 ReadWalk Parses


def pt (l : List UInt8) : Int := if (Lib.cut l [46]).2.2 then ((Lib.cut l [46]).1.length : Int) else -1
set_option maxRecDepth 100000 in
set_option maxHeartbeats 400000 in
theorem point_calls (s : ByteArray) (hs : s.size ≤ 1000000000) (w : World) :
    Calls Tryd.prog 110 #[.string s] w fun e w' => e = .returned (.int .i64 (pt s.data.toList)) ∧ w' = w := by
  obtain ⟨l, hl⟩ : ∃ l, l = s.data.toList := ⟨_, rfl⟩
  have hsl : s.size = l.length := by rw [hl, Lib.size_eq]
  have hx : ∀ k (hk : k < s.size), l.take (k + 1) = l.take k ++ [s[k]] ∧ l = l.take k ++ s[k] :: l.drop (k + 1) := fun k hk => by
    have h1 : k < l.length := by omega
    have h2 : s[k] = l[k] := by simp only [hl]; rfl
    exact ⟨by rw [h2, List.take_succ_eq_append_getElem h1], by rw [h2, ← List.drop_eq_getElem_cons h1, List.take_append_drop]⟩
  have HX := Lib.hid hx
  have HSL := Lib.hid hsl
  rw [← hl]
  clear hl hsl hx
  go_enter Tryd.func110, Tryd.ntmps110
  go_wp2_with fail
  go_loopw [3] (fun v3 wr => ∃ k : Nat, k ≤ s.size ∧ v3 = .int .i64 k ∧ Hid (∀ b ∈ l.take k, b ≠ 46) ∧ wr = w) (fun v3 _ => s.size - (intOf v3).toNat)
  case atStart => exact ⟨0, Nat.zero_le _, rfl, Lib.hid (by rw [List.take_zero]; exact fun b hb => by cases hb), rfl⟩
  case round =>
    obtain ⟨k, hk, rfl, hd, rfl⟩ := hrel
    by_cases hks : k < s.size
    · have hki : (k : Int) < s.size := by omega
      by_cases h46 : s[k].toNat = 46
      · have h46' : ((s[k].toNat : Int) == 46) = true := beq_iff_eq.2 (by omega)
        have hp : Hid (pt l = k) := Lib.hid (by
          have e : s[k] = 46 := UInt8.toNat_inj.1 h46
          have h2 := (HX.out k hks).2
          rw [e] at h2
          have hc := cut_one (l.take k) (l.drop (k + 1)) 46 hd.out
          rw [← h2] at hc
          unfold pt
          rw [hc, if_pos rfl, List.length_take, Nat.min_eq_left (by have := HSL.out; omega)])
        go_wp2_with fail
        go_ret
        exact ⟨by rw [hp.out]; rfl, rfl⟩
      · have h46' : ((s[k].toNat : Int) == 46) = false := beq_eq_false_iff_ne.2 (by omega)
        have hn2 : Hid (∀ b ∈ l.take (k + 1), b ≠ 46) := Lib.hid (fun b hb => by
          rw [(HX.out k hks).1, List.mem_append] at hb
          rcases hb with hb | hb
          · exact hd.out b hb
          · rw [List.mem_singleton] at hb
            rw [hb]
            exact fun e => h46 (by rw [e]; rfl))
        go_wp2_with fail
        go_roundw
        case rel => exact ⟨k + 1, by omega, rfl, hn2, trivial⟩
        case measure => simp [intOf]; omega
    · have hki : ¬ (k : Int) < s.size := by omega
      have hp : Hid (pt l = -1) := Lib.hid (by
        have h2 := hd.out
        rw [show k = l.length by have := HSL.out; omega, List.take_length] at h2
        unfold pt
        rw [cut_no l 46 h2]
        rfl)
      go_wp2_with fail
      go_ret
      exact ⟨by rw [hp.out]; rfl, rfl⟩

def OutL (l : List UInt8) (w : World) (e : Ending) (W : World) : Prop :=
  Below w.heap.size w W ∧ ((Reads2.Lit l ∧ ∃ v, e = .returned (.tuple #[v, .bool true]) ∧ RatV W v (litOf l)) ∨ (¬ Reads2.Lit l ∧ e = .returned (.tuple #[.agg #[.bool false, .slice none 0 0, .slice none 0 0], .bool false])))
theorem lit_plain {l : List UInt8} (h : (Lib.cut l [46]).2.2 = false) : (Lib.cut l [46]).1 = l ∧ (Reads2.Lit l ↔ Num l) ∧ litOf l = ((dec l : Int) : Rat) := by
  have h1 : (Lib.cut l [46]).1 = l ∧ (Lib.cut l [46]).2.1 = [] := by
    rcases cut_cases l 46 with ⟨a, x, _, _, e⟩ | ⟨_, e⟩
    · rw [e] at h; cases h
    · rw [e]; exact ⟨rfl, rfl⟩
  refine ⟨h1.1, ?_, ?_⟩
  · unfold Reads2.Lit
    rw [h1.1]
    exact ⟨fun k => k.1, fun k => ⟨k, fun e => absurd e (by rw [h]; decide)⟩⟩
  · unfold litOf
    rw [h1.1, h1.2, List.append_nil, List.length_nil, Nat.pow_zero]
    unfold frac
    rw [sg_false, Rat.mkRat_one]

set_option maxRecDepth 100000 in
set_option maxHeartbeats 2000000 in
theorem literal_calls (s : ByteArray) (hs : s.size ≤ 30000000) (w : World) :
    Calls Tryd.prog 54 #[.string s] w (OutL s.data.toList w) := by
  have hb0 := (Below.refl w.heap.size w).alloc (Nat.le_refl _) (.cells #[.bool false, .slice none 0 0, .slice none 0 0] 56)
  have hB0 := Blk.alloc w #[.bool false, .slice none 0 0, .slice none 0 0] 56
  have HB := Lib.hid (And.intro hb0 hB0)
  clear hb0 hB0
  obtain ⟨l, hl⟩ : ∃ l, l = s.data.toList := ⟨_, rfl⟩
  have hpt := fun W => point_calls s (by omega) W
  rw [← hl] at hpt ⊢
  have HPT := Lib.hid hpt
  have HL := Lib.hid hl
  clear hpt hl
  go_enter Tryd.func54, Tryd.ntmps54
  go_upto_region 1 with fail
  generalize w.alloc (.cells #[.bool false, .slice none 0 0, .slice none 0 0] 56) = w1 at *
  go_wp2_with fail
  refine (HPT.out _).mono ?_
  rintro e w2 ⟨rfl, hw2⟩
  rw [hw2]
  clear hw2 HPT
  by_cases hsp : (Lib.cut l [46]).2.2 = true
  · obtain ⟨a, x, hla, hcut⟩ : ∃ a x, l = a ++ 46 :: x ∧ Lib.cut l [46] = (a, x, true) := by
      rcases cut_cases l 46 with ⟨a, x, h1, _, h2⟩ | ⟨_, h2⟩
      · exact ⟨a, x, h1, h2⟩
      · rw [h2] at hsp; cases hsp
    have hp : pt l = (a.length : Int) := by unfold pt; rw [hcut, if_pos rfl]
    have hsz : s.size = a.length + 1 + x.length := by rw [Lib.size_eq, ← HL.out, hla, List.length_append, List.length_cons]; omega
    have hlit : Reads2.Lit l ↔ Num a ∧ Figs x := by
      unfold Reads2.Lit
      rw [hcut]
      exact ⟨fun h => ⟨h.1, h.2 rfl⟩, fun h => ⟨h.1, fun _ => h.2⟩⟩
    have hval : litOf l = frac false (dec (a ++ x)) (10 ^ x.length) := by unfold litOf; rw [hcut]
    obtain ⟨k, hk⟩ : ∃ k, k = a.length := ⟨_, rfl⟩
    have hH : (s.extract 0 k).data.toList = a := by
      rw [ByteArray.data_extract, Array.toList_extract, ← HL.out, hla, List.extract_eq_take_drop, hk]
      simp
    have hT : (s.extract (k + 1) s.size).data.toList = x := by
      rw [ByteArray.data_extract, Array.toList_extract, ← HL.out, hla, List.extract_eq_take_drop, hk, hsz, ← List.drop_drop, List.drop_left, List.drop_succ_cons, List.drop_zero]
      exact List.take_of_length_le (by omega)
    have hk0 : (k : Int) ≤ s.size := by omega
    have hk1 : (k : Int) + 1 ≤ s.size := by omega
    have W1 : IntKind.i64.wrap ((k : Int) + 1) = (k : Int) + 1 := IntWalk.i64_in _ (by omega)
    have hkn : ¬ (k : Int) < 0 := by omega
    rw [hp, ← hk]
    have HK0 := Lib.hid (And.intro hk hsz)
    clear hp hsp hla hcut hk hsz
    go_upto_region 8 with fail
    obtain ⟨h, hh⟩ : ∃ h, h = s.extract 0 k := ⟨_, rfl⟩
    obtain ⟨t, ht⟩ : ∃ t, t = s.extract (k + 1) s.size := ⟨_, rfl⟩
    rw [← hh] at hH ⊢
    rw [← ht] at hT ⊢
    have hhs : h.size ≤ 30000000 := by rw [Lib.size_eq, hH]; have := HK0.out; omega
    have hts : t.size = x.length := by rw [Lib.size_eq, hT]
    have htl : t.size ≤ 30000000 := by have := HK0.out; omega
    have HV := Lib.hid (And.intro hlit (And.intro hval (And.intro hH (And.intro hT hts))))
    clear hlit hval hH hT hts hk0 hk1 W1 hkn hh ht
    obtain ⟨na, hna⟩ : ∃ na : Bool, na = decide (Num h.data.toList) := ⟨_, rfl⟩
    have HN := Lib.hid hna
    clear hna
    go_cut [35] (fun v wx => v = .bool (!na || decide (t.size = 0)) ∧ wx = w1)
    case first =>
      go_wp2_with fail
      refine (digits_calls h (by omega) _).mono ?_
      rintro e w3 ⟨rfl, hw3⟩
      rw [hw3, ← HN.out]
      clear hw3
      cases na
      · go_wp2_with fail
        go_meet
        case rel => exact ⟨rfl, rfl⟩
      · have hd : decide (t.size = 0) = ((t.size : Int) == 0) := by
          by_cases h0 : t.size = 0
          · rw [h0]; rfl
          · rw [decide_eq_false h0, beq_eq_false_iff_ne.2 (by omega)]
        have HD := Lib.hid hd
        clear hd
        go_wp2_with fail
        go_meet
        case rel => exact ⟨by rw [HD.out]; simp, rfl⟩
    case rest =>
      obtain ⟨rfl, hw⟩ := hcut
      rw [hw]
      clear hw
      by_cases hok : na = true ∧ t.size ≠ 0
      · have hb : (!na || decide (t.size = 0)) = false := by rw [hok.1, decide_eq_false hok.2]; rfl
        have HK := Lib.hid (And.intro (of_decide_eq_true (by rw [← HN.out]; exact hok.1)) hok.2)
        rw [hb]
        clear hb hok
        go_wp2_with fail
        refine (one_calls _).mono ?_
        rintro e w3 ⟨v3, rfl, h3, hb3⟩
        have H3 := Lib.hid (And.intro h3 (And.intro (below_step HB.out.1 hb3) (HB.out.2.same (hb3.block _ HB.out.2.lt))))
        clear h3 hb3 HB
        have hx : ∀ j (hj : j < t.size), t[j] ∈ x ∧ x.take (j + 1) = x.take j ++ [t[j]] := fun j hj => by
          have h1 : j < x.length := by have := HV.out.2.2.2.2; omega
          have h2 : t[j] = x[j] := by
            have : x[j] = t.data.toList[j]'(by rw [HV.out.2.2.2.1]; exact h1) := by simp only [HV.out.2.2.2.1]
            rw [this]; rfl
          exact ⟨by rw [h2]; exact List.getElem_mem h1, by rw [h2, List.take_succ_eq_append_getElem h1]⟩
        have HX := Lib.hid hx
        clear hx
        go_wp2_with fail
        go_loopw [3, 7, 8] (fun v3 v7 v8 wr => ∃ j : Nat, j ≤ t.size ∧ v3 = .bool false ∧ v8 = .int .i64 j ∧ Hid (IsI wr v7 (10 ^ j)) ∧ Hid (Dig (x.take j)) ∧ Hid (Below w.heap.size w wr ∧ Blk wr w.heap.size #[.bool false, .slice none 0 0, .slice none 0 0])) (fun _ _ v8 _ => t.size - (intOf v8).toNat)
        case atStart => exact ⟨0, Nat.zero_le _, rfl, rfl, Lib.hid H3.out.1, Lib.hid (by rw [List.take_zero]; exact fun b hb => by cases hb), Lib.hid H3.out.2⟩
        case round =>
          clear H3
          obtain ⟨j, hj, rfl, rfl, hv7, hd, hB⟩ := hrel
          by_cases hjs : j < t.size
          · have hji : (j : Int) < t.size := by omega
            have hno : ¬ (48 ≤ (t[j]).toNat ∧ (t[j]).toNat ≤ 57) → ¬ Reads2.Lit l := fun h h2 => h ((HV.out.1.1 h2).2.2 _ (HX.out j hjs).1)
            have HNO := Lib.hid hno
            have hgo : (48 ≤ (t[j]).toNat ∧ (t[j]).toNat ≤ 57) → Dig (x.take (j + 1)) := fun h b hb => by
              rw [(HX.out j hjs).2, List.mem_append] at hb
              rcases hb with hb | hb
              · exact hd.out b hb
              · rw [List.mem_singleton] at hb; rw [hb]; exact h
            have HGO := Lib.hid hgo
            clear hno hgo
            obtain ⟨⟨s0, t0⟩, ⟨s1, t1⟩, ⟨s2, t2⟩, hB3⟩ := store3 hB.out.2 (.bool false) (.slice none 0 0) (.slice none 0 0)
            obtain ⟨m0, m1, m2⟩ := load3 hB3
            clear hB3
            by_cases h1 : (t[j]).toNat < 48
            · have h1' : ((t[j]).toNat : Int) < 48 := by omega
              go_wp2_with fail
              refine bodyPost_ret (v := .tuple #[.agg #[.bool false, .slice none 0 0, .slice none 0 0], .bool false]) (by simp [results, Tryd.results54, go_sem, m0, m1, m2]) rfl ?_
              exact ⟨below_set3 hB.out.1 (Nat.le_refl _) _ _ _, .inr ⟨HNO.out (by omega), rfl⟩⟩
            · have h1' : ¬ ((t[j]).toNat : Int) < 48 := by omega
              by_cases h2 : 57 < (t[j]).toNat
              · have h2' : (57 : Int) < (t[j]).toNat := by omega
                go_wp2_with fail
                refine bodyPost_ret (v := .tuple #[.agg #[.bool false, .slice none 0 0, .slice none 0 0], .bool false]) (by simp [results, Tryd.results54, go_sem, m0, m1, m2]) rfl ?_
                exact ⟨below_set3 hB.out.1 (Nat.le_refl _) _ _ _, .inr ⟨HNO.out (by omega), rfl⟩⟩
              · have h2' : ¬ (57 : Int) < (t[j]).toNat := by omega
                clear s0 t0 s1 t1 s2 t2 m0 m1 m2
                go_wp2_with fail
                refine (int_calls 10 (by omega) _).mono ?_
                rintro e w4 ⟨v4, rfl, h4, hb4⟩
                have H4 := Lib.hid (And.intro h4 (And.intro (isI_below hv7.out hb4) (And.intro (below_step hB.out.1 hb4) (hB.out.2.same (hb4.block _ hB.out.2.lt)))))
                have ht1 : (limbs (10 ^ j)).length ≤ 1000000000 := Nat.le_trans (ten_len j) (by omega)
                have ht3 : (limbs 10).length ≤ 1 := limbs_len_le (by simp [pw])
                have ht2 : (limbs 10).length ≤ 1000000000 := by omega
                clear h4 hb4
                go_wp2_with fail
                refine (mul_calls (10 ^ j) 10 ht1 ht2 _ _ _ H4.out.2.1 H4.out.1).mono ?_
                rintro e w5 ⟨v5, rfl, h5, hb5⟩
                have H5 := Lib.hid (And.intro h5 (And.intro (below_step H4.out.2.2.1 hb5) (H4.out.2.2.2.same (hb5.block _ H4.out.2.2.2.lt))))
                clear h5 hb5 H4
                go_wp2_with fail
                go_roundw
                case rel => exact ⟨j + 1, by omega, rfl, rfl, Lib.hid (by rw [Nat.pow_succ]; exact H5.out.1), Lib.hid (HGO.out (by omega)), Lib.hid H5.out.2⟩
                case measure => simp [intOf]; omega
          · have hji : ¬ (j : Int) < t.size := by omega
            have hjx : j = x.length := by have := HV.out.2.2.2.2; omega
            have hfx : Figs x := ⟨fun e => HK.out.2 (by rw [HV.out.2.2.2.2, e]; rfl), by have := hd.out; rw [hjx, List.take_length] at this; exact this⟩
            have hlit := HV.out.1.2 ⟨by rw [← HV.out.2.2.1]; exact HK.out.1, hfx⟩
            have hz : (h ++ t).size ≤ 100000000 := by rw [ByteArray.size_append]; omega
            have hzd : (h ++ t).data.toList = a ++ x := by rw [ByteArray.data_append, Array.toList_append, HV.out.2.2.1, HV.out.2.2.2.1]
            have hdig : Dig (h ++ t).data.toList := by
              rw [hzd]
              intro b hb
              rcases List.mem_append.1 hb with hb | hb
              · exact (show Num a by rw [← HV.out.2.2.1]; exact HK.out.1).1 b hb
              · exact hfx.2 b hb
            obtain ⟨z, hzz⟩ : ∃ z, z = h ++ t := ⟨_, rfl⟩
            rw [← hzz] at hzd hdig
            have hzl : z.size ≤ 100000000 := by rw [hzz]; exact hz
            have hv := hv7.out
            rw [hjx] at hv
            have HZ := Lib.hid (And.intro hlit (And.intro hzd (And.intro hdig hv)))
            clear hlit hzd hdig hfx hjx hv
            go_wp2_with fail
            rw [← hzz]
            clear hzz hz
            refine (of_calls z hzl (Lib.hid HZ.out.2.2.1) _).mono ?_
            rintro e w4 ⟨v4, rfl, h4, hb4⟩
            have H4 := Lib.hid (And.intro h4 (And.intro (isI_below HZ.out.2.2.2 hb4) (And.intro (below_step hB.out.1 hb4) (hB.out.2.same (hb4.block _ hB.out.2.lt)))))
            clear h4 hb4
            have hl1 := RefN.dec_len HZ.out.2.2.1 (N := 100000000) (by rw [← Lib.size_eq]; exact hzl)
            have hl2 := ten_len x.length
            have hxl : x.length ≤ 30000000 := by have := HV.out.2.2.2.2; omega
            have hp : 10 ^ x.length ≠ 0 := Nat.pos_iff_ne_zero.1 (Nat.pow_pos (by omega))
            go_wp2_with fail
            refine (ratio_calls false (dec z.data.toList) (10 ^ x.length) hp (by omega) (by omega) _ _ _ (Lib.hid H4.out.1) (Lib.hid H4.out.2.1)).mono ?_
            rintro e w5 ⟨v5, rfl, h5, hb5⟩
            have hq : litOf l = frac false (dec z.data.toList) (10 ^ x.length) := by rw [HV.out.2.1, HZ.out.2.1]
            rw [← hq] at h5
            obtain ⟨b3, A3, k5, c3, B3, k6, d3, rfl⟩ := ratV_flat h5
            have hBk := H4.out.2.2.2.same (hb5.block _ H4.out.2.2.2.lt)
            have H5 := Lib.hid (And.intro h5 (And.intro (below_step H4.out.2.2.1 hb5) hBk))
            obtain ⟨⟨s0, t0⟩, ⟨s1, t1⟩, ⟨s2, t2⟩, hB3⟩ := store3 hBk (.bool b3) (.slice A3 k5 c3) (.slice B3 k6 d3)
            obtain ⟨m0, m1, m2⟩ := load3 hB3
            clear h5 hb5 hBk hB3 hq hp hl1 hl2 hxl H4
            go_wp2_with fail
            refine bodyPost_ret (v := .tuple #[.agg #[.bool b3, .slice A3 k5 c3, .slice B3 k6 d3], .bool true]) (by simp [results, Tryd.results54, go_sem, m0, m1, m2]) rfl ?_
            exact ⟨below_set3 H5.out.2.1 (Nat.le_refl _) _ _ _, .inl ⟨HZ.out.1, _, rfl, ratV_set3 H5.out.2.2 H5.out.1⟩⟩
      · have hb : (!na || decide (t.size = 0)) = true := by
          cases na
          · rfl
          · simp at hok; simp [hok]
        have hbad : Hid (¬ Reads2.Lit l) := Lib.hid (fun h => by
          obtain ⟨h1, h2⟩ := HV.out.1.1 h
          refine hok ⟨by rw [HN.out, HV.out.2.2.1]; exact decide_eq_true h1, fun e => h2.1 (List.eq_nil_of_length_eq_zero (by rw [← HV.out.2.2.2.2]; exact e))⟩)
        obtain ⟨⟨s0, t0⟩, ⟨s1, t1⟩, ⟨s2, t2⟩, hB3⟩ := store3 HB.out.2 (.bool false) (.slice none 0 0) (.slice none 0 0)
        obtain ⟨m0, m1, m2⟩ := load3 hB3
        rw [hb]
        clear hB3 hb hok
        go_wp2_with fail
        refine bodyPost_ret (v := .tuple #[.agg #[.bool false, .slice none 0 0, .slice none 0 0], .bool false]) (by simp [results, Tryd.results54, go_sem, m0, m1, m2]) rfl ?_
        exact ⟨below_set3 HB.out.1 (Nat.le_refl _) _ _ _, .inr ⟨hbad.out, rfl⟩⟩
  · have hsp' : (Lib.cut l [46]).2.2 = false := by simpa using hsp
    have hp : pt l = -1 := by unfold pt; rw [hsp']; rfl
    obtain ⟨_, hlit, hval⟩ := lit_plain hsp'
    have HV := Lib.hid (And.intro hlit hval)
    rw [hp]
    clear hp hsp hsp' hlit hval
    go_wp2_with fail
    refine (digits_calls s (by omega) _).mono ?_
    rintro e w3 ⟨rfl, hw3⟩
    rw [hw3, ← HL.out]
    clear hw3
    by_cases hn : Num l
    · have HN := Lib.hid hn
      rw [decide_eq_true hn]
      clear hn
      go_wp2_with fail
      refine (of_calls s (by omega) (Lib.hid (by rw [← HL.out]; exact HN.out.1)) _).mono ?_
      rintro e w4 ⟨v4, rfl, h4, hb4⟩
      rw [← HL.out] at h4
      have H4 := Lib.hid (And.intro h4 hb4)
      clear h4 hb4
      go_wp2_with fail
      refine (one_calls _).mono ?_
      rintro e w5 ⟨v5, rfl, h5, hb5⟩
      have hbb := below_step H4.out.2 hb5
      have hv4 := isI_below H4.out.1 hb5
      obtain ⟨A, c, rfl, _⟩ := hv4.form
      obtain ⟨B, d, rfl, _⟩ := h5.form
      have hBk := HB.out.2.same (hbb.block _ HB.out.2.lt)
      have H5 := Lib.hid (And.intro hv4 (And.intro h5 (And.intro (below_step HB.out.1 hbb) hBk)))
      obtain ⟨⟨s0, t0⟩, ⟨s1, t1⟩, ⟨s2, t2⟩, hB3⟩ := store3 hBk (.bool false) (.slice A (limbs (dec l)).length c) (.slice B (limbs 1).length d)
      obtain ⟨m0, m1, m2⟩ := load3 hB3
      clear hb5 hbb hv4 h5 hBk hB3 H4
      go_wp2_with fail
      refine bodyPost_ret (v := .tuple #[.agg #[.bool false, .slice A (limbs (dec l)).length c, .slice B (limbs 1).length d], .bool true]) (by simp [results, Tryd.results54, go_sem, m0, m1, m2]) rfl ?_
      refine ⟨below_set3 H5.out.2.2.1 (Nat.le_refl _) _ _ _, .inl ⟨HV.out.1.2 HN.out, _, rfl, ?_⟩⟩
      rw [HV.out.2]
      have hr := RefL.ratV_int (W := ((w5.setCell ⟨w.heap.size, 0, none⟩ (.bool false)).setCell ⟨w.heap.size, 1, none⟩ (.slice A (limbs (dec l)).length c)).setCell ⟨w.heap.size, 2, none⟩ (.slice B (limbs 1).length d)) (z := (dec l : Int)) (keeps_set3 H5.out.2.2.2 (v := .slice A (limbs (dec l)).length c) (by rw [Int.natAbs_natCast]; exact H5.out.1)) (keeps_set3 H5.out.2.2.2 H5.out.2.1)
      rw [decide_eq_false (by omega : ¬ ((dec l : Nat) : Int) < 0)] at hr
      exact hr
    · have HN := Lib.hid hn
      rw [decide_eq_false hn]
      clear hn
      obtain ⟨⟨s0, t0⟩, ⟨s1, t1⟩, ⟨s2, t2⟩, hB3⟩ := store3 HB.out.2 (.bool false) (.slice none 0 0) (.slice none 0 0)
      obtain ⟨m0, m1, m2⟩ := load3 hB3
      clear hB3
      go_wp2_with fail
      refine bodyPost_ret (v := .tuple #[.agg #[.bool false, .slice none 0 0, .slice none 0 0], .bool false]) (by simp [results, Tryd.results54, go_sem, m0, m1, m2]) rfl ?_
      exact ⟨below_set3 HB.out.1 (Nat.le_refl _) _ _ _, .inr ⟨fun h => HN.out (HV.out.1.1 h), rfl⟩⟩

theorem sz_lit {l : List UInt8} (h : Reads2.Lit l) (hl : l.length ≤ 30000000) : Sizes.Sz (litOf l) 40000000 := by
  have hc := RatSet.cut_le l 46
  have hd : Dig ((Lib.cut l [46]).1 ++ (Lib.cut l [46]).2.1) := by
    intro b hb
    rcases List.mem_append.1 hb with hb | hb
    · exact h.1.1 b hb
    · by_cases hs : (Lib.cut l [46]).2.2 = true
      · exact (h.2 hs).2 b hb
      · rw [cut_rest l 46 (by simpa using hs)] at hb
        cases hb
  unfold litOf
  refine Sizes.sz_frac (Nat.pos_iff_ne_zero.1 (Nat.pow_pos (by omega))) ?_ ?_
  · exact Nat.le_trans (RefN.dec_len hd (N := 60000000) (by rw [List.length_append]; omega)) (by omega)
  · exact Nat.le_trans (ten_len _) (by omega)

set_option maxRecDepth 100000 in
set_option maxHeartbeats 400000 in
theorem read_calls (s : ByteArray) (hs : s.size ≤ 30000000) (w : World) :
    Calls Tryd.prog 15 #[.string s] w (Reads2.Out s.data.toList w) := by
  have hll : s.data.toList.length ≤ 30000000 := by rw [← Lib.size_eq]; exact hs
  go_enter Tryd.func15, Tryd.ntmps15
  go_wp2_with fail
  refine (literal_calls s hs _).mono ?_
  rintro e w2 ⟨hb, ⟨h1, v, rfl, h2⟩ | ⟨h1, rfl⟩⟩
  · obtain ⟨b, A, n, c, B, m, d, rfl⟩ := ratV_flat h2
    obtain ⟨w3, hw3, hX, hb3, hb23⟩ := RefP.new_flat hb b A n c B m d
    have H := Lib.hid (And.intro h1 (And.intro (ratV_below h2 hb23) (And.intro hX hb3)))
    have hz := sz_lit h1 hll
    have HZ := Lib.hid hz
    clear h1 h2 hX hb hb3 hb23 hz
    go_upto_region 2 with fail
    rw [← hw3]
    clear hw3
    generalize w2.heap.size = g at *
    obtain ⟨l0, l1, l2⟩ := load3 H.out.2.2.1
    go_wp2_with fail
    refine (text_calls (litOf s.data.toList) _ _ (Lib.hid H.out.2.1) (by have := HZ.out.1; omega) (by have := HZ.out.2; omega)).mono ?_
    rintro e w5 ⟨rfl, hb5⟩
    have HB := Lib.hid (below_step H.out.2.2.2 hb5)
    clear hb5
    go_wp2_with fail
    go_ret2
    exact ⟨HB.out, .inl ⟨H.out.1, rfl⟩⟩
  · have H := Lib.hid (And.intro h1 hb)
    clear h1 hb
    go_wp2_with fail
    go_ret2
    exact ⟨H.out.2.alloc H.out.2.size _, .inr ⟨H.out.1, rfl⟩⟩
end Go.Proofs.YtjeamchaibialaaDoor.RefR

/- NumReads: the walk. -/
namespace Go.Proofs.YtjeamchaibialaaDoor.TopReads
open Go.RowKit Go.Proofs.YtjeamchaibialaaDoorW.PrintWords Go.Proofs.YtjeamchaibialaaDoorW.PrintLast Go.Proofs.YtjeamchaibialaaDoorW.PrintMore Fns Limbs Nats Go.Proofs.YtjeamchaibialaaDoor.Told ReadWalk Texts Rats Parses Heaps Go.Proofs.YtjeamchaibialaaDoor.Splits Go.Proofs.YtjeamchaibialaaDoor.SaysLaw

theorem read_same {l : List UInt8} {w w' W W' : World} {e e' : Ending} (h : Reads2.Out l w e W) (h' : Reads2.Out l w' e' W') : ∃ (x : ByteArray) (z : Int), (z = 0 ∨ z = 1 ∨ z = 2) ∧ e = .returned (.tuple #[.string x, .int .i64 z]) ∧ e' = .returned (.tuple #[.string x, .int .i64 z]) := by
  rcases h.2 with ⟨h1, rfl⟩ | ⟨h1, rfl⟩ <;> rcases h'.2 with ⟨k1, rfl⟩ | ⟨k1, rfl⟩
  · exact ⟨_, 0, .inl rfl, rfl, rfl⟩
  · exact absurd h1 k1
  · exact absurd k1 h1
  · exact ⟨_, 1, .inr (.inl rfl), rfl, rfl⟩
theorem read_form {l : List UInt8} {w W : World} {e : Ending} (h : Reads2.Out l w e W) : ∃ (x : ByteArray) (z : Int), e = .returned (.tuple #[.string x, .int .i64 z]) := by
  rcases h.2 with ⟨h1, rfl⟩ | ⟨h1, rfl⟩
  · exact ⟨_, _, rfl⟩
  · exact ⟨_, _, rfl⟩

set_option maxRecDepth 100000 in
set_option maxHeartbeats 400000 in
theorem law (s : ByteArray) (hs : s.size ≤ 1048576) (w : World) (hok : Ok w) :
    Calls Tryd.prog 4 #[.string s] w (Says true w) := by
  go_enter Tryd.func4, Tryd.ntmps4
  go_wp2_with fail
  refine (Reads2.calls s (by omega) _ hok).mono ?_
  rintro e w1 h1
  obtain ⟨x, z, rfl⟩ := read_form h1
  have H1 := Lib.hid h1
  clear h1
  go_wp2_with fail
  refine (RefR.read_calls s (by omega) _).mono ?_
  rintro e w2 h2
  obtain ⟨x2, z2, hz, e1, e2⟩ := read_same H1.out h2
  injection e1 with e1
  injection e1 with e1
  obtain ⟨rfl, rfl⟩ : x = x2 ∧ z = z2 := by simp at e1; exact e1
  subst e2
  have HB := Lib.hid (below_step H1.out.1 h2.1)
  have HE : (x.toList == x.toList) = true := beq_self_eq_true _
  have HZ : (z == z) = true := beq_self_eq_true _
  clear h2 e1 H1
  go_wp2_with fail
  refine (no_calls z (by omega) (by omega) _).mono ?_
  rintro e w3 ⟨rfl, hw3⟩
  rw [hw3]
  clear hw3
  go_wp2_with fail
  go_ret
  exact ⟨rfl, HB.out⟩
end Go.Proofs.YtjeamchaibialaaDoor.TopReads
