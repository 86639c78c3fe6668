/- Joined: Rat1 Set Numeral NumParse Canon Sum Tiny Take Ops -/
import Derived.Test.YtjeamchaibialaaGreatDoorM3
import Derived.Deep.RegionWith
import Derived.Test.YtjeamchaibialaaGreatDoorM1
import Derived.Deep.RegionHeld3
set_option linter.unusedVariables false
set_option linter.unusedSimpArgs false
/- big's fractions: what is told of one. -/
namespace Go.Proofs.YtjeamchaibialaaGreatDoor.RatTell
open Go.RowKit Go.Proofs.YtjeamchaibialaaGreatDoorW.PrintWords Go.Proofs.YtjeamchaibialaaGreatDoorW.PrintLast Go.Proofs.YtjeamchaibialaaGreatDoorW.PrintMore Fns Limbs Nats Go.Proofs.YtjeamchaibialaaGreatDoor.Told ReadWalk Texts Rats Parses Heaps Go.Proofs.YtjeamchaibialaaGreatDoor.Ints Go.Proofs.YtjeamchaibialaaGreatDoor.PutWalk

theorem under_len (q : Rat) : (((under q.den).length : Int) == 0) = decide (q.den = 1) := by
  by_cases h : q.den = 1
  · rw [h, decide_eq_true rfl]; rfl
  · rw [decide_eq_false h, show under q.den = limbs q.den from if_neg h]
    have := limbs_len_pos q.den_nz
    exact beq_eq_false_iff_ne.2 (by omega)
set_option maxRecDepth 100000 in
theorem whole_calls (q : Rat) (g : Nat) (w : World) (h : RatAt w g q) :
    Calls Tryz.prog 77 #[.pointer (some ⟨g, 0, none⟩)] w fun e w' => e = .returned (.bool (decide (q.den = 1))) ∧ w' = w := by
  obtain ⟨A, B, c, d, hB, hn, hd⟩ := h
  have hc2 : w.cell? ⟨g, 2, none⟩ = some (.slice B (under q.den).length d) := hB.cell 2
  have hu := Lib.hid (under_len q)
  clear hB hn hd
  go_enter Tryz.func77, Tryz.ntmps77
  go_wp2_with fail
  go_ret
  exact ⟨by rw [← hu.out]; rfl, rfl⟩
set_option maxRecDepth 100000 in
theorem isInt_calls (q : Rat) (g : Nat) (w : World) (h : RatAt w g q) :
    Calls Tryz.prog 40 #[.pointer (some ⟨g, 0, none⟩)] w fun e w' => e = .returned (.bool (decide (q.den = 1))) ∧ w' = w := by
  go_enter Tryz.func40, Tryz.ntmps40
  go_wp2_with fail
  refine (whole_calls q g _ h).mono ?_
  rintro e w' ⟨rfl, rfl⟩
  go_wp2_with fail
  go_ret
  exact ⟨rfl, rfl⟩
set_option maxRecDepth 100000 in
theorem low_calls (q : Rat) (g : Nat) (w : World) (h : RatAt w g q) :
    Calls Tryz.prog 67 #[.pointer (some ⟨g, 0, none⟩)] w fun e w' => ∃ v, e = .returned v ∧ IsU w' v q.den ∧ Below w.heap.size w w' := by
  have hq := whole_calls q g w h
  obtain ⟨A, B, c, d, hB, hn, hd⟩ := h
  have hc2 : w.cell? ⟨g, 2, none⟩ = some (.slice B (under q.den).length d) := hB.cell 2
  have HD := Lib.hid hd
  clear hB hn hd
  go_enter Tryz.func67, Tryz.ntmps67
  go_wp2_with fail
  refine hq.mono ?_
  rintro e w' ⟨rfl, rfl⟩
  clear hq
  by_cases h1 : q.den = 1
  · have H1 := Lib.hid h1
    rw [decide_eq_true h1]
    clear h1
    go_wp2_with fail
    refine (one_calls _).mono ?_
    rintro e w2 ⟨v, rfl, hv, hb⟩
    have HV := Lib.hid hv
    have HB := Lib.hid hb
    clear hv hb
    go_wp2_with fail
    go_ret
    exact ⟨_, rfl, by rw [H1.out]; exact HV.out, HB.out⟩
  · rw [decide_eq_false h1]
    have hu : under q.den = limbs q.den := if_neg h1
    rw [hu] at HD hc2
    clear hu h1
    go_wp2_with fail
    go_ret
    exact ⟨_, rfl, HD.out, Below.refl _ _⟩

set_option maxRecDepth 100000 in
set_option maxHeartbeats 1000000 in
theorem num_calls (q : Rat) (g : Nat) (w : World) (h : RatAt w g q) :
    Calls Tryz.prog 38 #[.pointer (some ⟨g, 0, none⟩)] w fun e w' => ∃ k, e = .returned (.pointer (some ⟨k, 0, none⟩)) ∧ IntAt w' k q.num ∧ w.heap.size ≤ k ∧ Below w.heap.size w w' := by
  obtain ⟨A, B, c, d, hB, hn, hd⟩ := h
  have hlt := hB.lt
  have hc0 : w.cell? ⟨g, 0, none⟩ = some (.bool (decide (q.num < 0))) := hB.cell 0
  have hc1 : w.cell? ⟨g, 1, none⟩ = some (.slice A (limbs q.num.natAbs).length c) := hB.cell 1
  have HN := Lib.hid hn
  clear hB hn hd
  go_enter Tryz.func38, Tryz.ntmps38
  have ha0 : ∀ o, (w.alloc o).cell? ⟨g, 0, none⟩ = some (.bool (decide (q.num < 0))) := fun o => (World.cell?_alloc_lt _ _ _ hlt).trans hc0
  have ha1 : ∀ o, (w.alloc o).cell? ⟨g, 1, none⟩ = some (.slice A (limbs q.num.natAbs).length c) := fun o => (World.cell?_alloc_lt _ _ _ hlt).trans hc1
  have HBN : Hid (Blk (w.alloc (.cells #[.bool false, .slice none 0 0] 62)).drew w.heap.size #[.bool false, .slice none 0 0]) := Lib.hid ((Blk.alloc w _ _).same rfl)
  have hbw : Below w.heap.size w (w.alloc (.cells #[.bool false, .slice none 0 0] 62)).drew := below_new (Below.refl _ _) _
  have HNN : Hid (IsU (w.alloc (.cells #[.bool false, .slice none 0 0] 62)).drew (.slice A (limbs q.num.natAbs).length c) q.num.natAbs) := Lib.hid (HN.out.below hbw)
  have HBW := Lib.hid hbw
  clear hbw HN
  go_upto_region 1 with fail
  go_region_with (go_at_call 86; refine (set_calls (decide (q.num < 0)) q.num.natAbs w.heap.size false none 0 0 _ _ HBN.out HNN).mono ?_; rintro e w2 ⟨rfl, h1, h2, h3⟩)
  all_goals
    have H := Lib.hid (And.intro h1 h3)
    clear h1 h2 h3 ha0 ha1
    go_wp2_with fail
    go_ret
    refine ⟨_, rfl, ?_, Nat.le_refl _, below_grown HBW.out H.out.2 (Nat.le_refl _)⟩
    have h := H.out.1
    rw [sg_self] at h
    exact h

set_option maxRecDepth 100000 in
theorem sign_calls (q : Rat) (g : Nat) (w : World) (h : RatAt w g q) :
    Calls Tryz.prog 28 #[.pointer (some ⟨g, 0, none⟩)] w fun e w' => e = .returned (.int .i64 q.num.sign) ∧ Below w.heap.size w w' := by
  go_enter Tryz.func28, Tryz.ntmps28
  go_wp2_with fail
  refine (num_calls q g _ h).mono ?_
  rintro e w1 ⟨k, rfl, hi, hk, hb⟩
  have HB := Lib.hid hb
  have HI := Lib.hid hi
  clear hb hi hk
  go_wp2_with fail
  refine (Ints.sign_calls q.num k _ HI.out).mono ?_
  rintro e w2 ⟨rfl, rfl⟩
  go_wp2_with fail
  go_ret
  exact ⟨rfl, HB.out⟩

set_option maxRecDepth 100000 in
theorem text_calls (q : Rat) (hz : Sizes.Sz q 1000000000) (g : Nat) (w : World) (h : RatAt w g q) :
    Calls Tryz.prog 30 #[.pointer (some ⟨g, 0, none⟩)] w fun e w' => e = .returned (.string ⟨(rtxt q).toArray⟩) ∧ Below w.heap.size w w' := by
  have hl1 := Sizes.txt_len q.num.natAbs
  have hl2 := Sizes.txt_len q.den
  have hz1 := hz.1
  have hz2 := hz.2
  go_enter Tryz.func30, Tryz.ntmps30
  go_wp2_with fail
  refine (num_calls q g _ h).mono ?_
  rintro e w1 ⟨k, rfl, hi, hk, hb⟩
  have HB := Lib.hid hb
  have HI := Lib.hid hi
  have HR := Lib.hid (h.below hb)
  clear hb hi hk h
  go_wp2_with fail
  refine (Ints.string_calls q.num hz1 k _ HI.out).mono ?_
  rintro e w2 ⟨rfl, hb⟩
  have HB2 := Lib.hid (below_step HB.out hb)
  have HR2 := Lib.hid (HR.out.below hb)
  obtain ⟨t, ht⟩ : ∃ t : ByteArray, t = ⟨(ztxt q.num).toArray⟩ := ⟨_, rfl⟩
  have hts : t.size ≤ 10000000000 := by
    rw [ht]
    show (ztxt q.num).toArray.size ≤ _
    rw [List.size_toArray]
    unfold ztxt
    rw [List.length_append]
    have : (if q.num < 0 then [45] else [] : List UInt8).length ≤ 1 := by split <;> simp
    omega
  have HT := Lib.hid ht
  rw [← ht]
  clear ht hb
  go_wp2_with fail
  refine (whole_calls q g _ HR2.out).mono ?_
  rintro e w3 ⟨rfl, rfl⟩
  by_cases h1 : q.den = 1
  · have H1 := Lib.hid h1
    rw [decide_eq_true h1]
    clear h1
    go_wp2_with fail
    go_ret
    refine ⟨?_, HB2.out⟩
    have e1 : rtxt q = ztxt q.num := by unfold rtxt ztxt; rw [if_pos H1.out, List.append_nil]
    rw [e1, ← HT.out]; rfl
  · have H1 := Lib.hid h1
    rw [decide_eq_false h1]
    obtain ⟨A, B, c, d, hB, hn, hd⟩ := HR2.out
    have hc2 : w3.cell? ⟨g, 2, none⟩ = some (.slice B (under q.den).length d) := hB.cell 2
    have hu : under q.den = limbs q.den := if_neg h1
    rw [hu] at hd hc2
    have HD : Hid (IsU w3 (.slice B (limbs q.den).length d) q.den) := Lib.hid hd
    clear hu h1 hd hn hB
    go_wp2_with fail
    refine (DigitsWalk.calls q.den hz2 _ _ HD).mono ?_
    rintro e w4 ⟨rfl, hb⟩
    have HB4 := Lib.hid (below_step HB2.out hb)
    obtain ⟨u, hu⟩ : ∃ u : ByteArray, u = ⟨(txt q.den).toArray⟩ := ⟨_, rfl⟩
    have hus : u.size ≤ 10000000000 := by
      rw [hu]
      show (txt q.den).toArray.size ≤ _
      rw [List.size_toArray]
      omega
    have HU := Lib.hid hu
    rw [← hu]
    have hsz : ((⟨#[47]⟩ : ByteArray) ++ u).size ≤ 10000000001 := by rw [ByteArray.size_append]; show 1 + _ ≤ _; omega
    clear hu hb
    go_wp2_with fail
    go_ret
    refine ⟨?_, HB4.out⟩
    have e1 : rtxt q = ztxt q.num ++ ([47] ++ txt q.den) := by unfold rtxt ztxt; rw [if_neg H1.out, List.append_assoc]; rfl
    rw [e1, ← str_app, ← str_app, ← HT.out, ← HU.out]; rfl

end Go.Proofs.YtjeamchaibialaaGreatDoor.RatTell

/- big's fraction of a text: the walk. -/
namespace Go.Proofs.YtjeamchaibialaaGreatDoor.RatSet
open Go.RowKit Go.Proofs.YtjeamchaibialaaGreatDoorW.PrintWords Go.Proofs.YtjeamchaibialaaGreatDoorW.PrintLast Go.Proofs.YtjeamchaibialaaGreatDoorW.PrintMore Fns Limbs Nats Go.Proofs.YtjeamchaibialaaGreatDoor.Told ReadWalk Texts Rats Parses Heaps Go.Proofs.YtjeamchaibialaaGreatDoor.Ints Go.Proofs.YtjeamchaibialaaGreatDoor.PutWalk Go.Proofs.YtjeamchaibialaaGreatDoor.Splits

theorem trim_le (s : List UInt8) : (Lib.trimPrefix s [45]).length ≤ s.length := by
  unfold Lib.trimPrefix
  split
  · rw [List.length_drop]; omega
  · exact Nat.le_refl _
theorem cut_le (s : List UInt8) (c : UInt8) : (Lib.cut s [c]).1.length ≤ s.length ∧ (Lib.cut s [c]).2.1.length ≤ s.length := by
  unfold Lib.cut
  split
  · exact ⟨by rw [List.length_take]; omega, by rw [List.length_drop]; omega⟩
  · exact ⟨Nat.le_refl _, by simp⟩

def Out (sgn : Bool) (n d : List UInt8) (split : Bool) (g : Nat) (e : Ending) (w' : World) : Prop :=
  if split = true ∧ dec d = 0 then e = .returned (.tuple #[.pointer none, .bool false]) else e = .returned (.tuple #[.pointer (some ⟨g, 0, none⟩), .bool true]) ∧ RatAt w' g (frac sgn (dec n) (if split = true then dec d else 1))
theorem out_no {sgn : Bool} {n d : List UInt8} {split : Bool} {g : Nat} {e : Ending} {w' : World} (h : split = true ∧ dec d = 0) (he : e = .returned (.tuple #[.pointer none, .bool false])) : Out sgn n d split g e w' := by
  unfold Out; rw [if_pos h]; exact he
theorem out_yes {sgn : Bool} {n d : List UInt8} {split : Bool} {g : Nat} {e : Ending} {w' : World} (h : ¬ (split = true ∧ dec d = 0)) (he : e = .returned (.tuple #[.pointer (some ⟨g, 0, none⟩), .bool true])) (hr : RatAt w' g (frac sgn (dec n) (if split = true then dec d else 1))) : Out sgn n d split g e w' := by
  unfold Out; rw [if_neg h]; exact ⟨he, hr⟩

set_option maxRecDepth 100000 in
set_option maxHeartbeats 400000 in
theorem calls (s : ByteArray) (hs : s.size ≤ 100000000) (T n d : List UInt8) (split : Bool) (hT : Lib.trimPrefix s.data.toList [45] = T) (hC : Lib.cut T [47] = (n, d, split)) (hn : Figs n) (hd : split = true → Figs d)
    (g : Nat) (b0 : Bool) (A0 B0 : Option Addr) (n0 c0 m0 d0 : Nat) (w : World) (hB : Blk w g #[.bool b0, .slice A0 n0 c0, .slice B0 m0 d0]) (hok : Ok w) :
    Calls Tryz.prog 85 #[.pointer (some ⟨g, 0, none⟩), .string s] w fun e w' =>
      Out (decide (T.length < s.data.toList.length)) n d split g e w' ∧ Keeps w w' ∧ w.grownBy w' (some g) := by
  have hTl : T.length ≤ 100000000 := by rw [← hT]; exact Nat.le_trans (trim_le _) (by simpa using hs)
  have hnl : n.length ≤ 100000000 := by have := (cut_le T 47).1; rw [hC] at this; exact Nat.le_trans this hTl
  have hdl : d.length ≤ 100000000 := by have := (cut_le T 47).2; rw [hC] at this; exact Nat.le_trans this hTl
  obtain ⟨t, ht⟩ : ∃ t : ByteArray, t = ⟨T.toArray⟩ := ⟨_, rfl⟩
  obtain ⟨x, hx⟩ : ∃ t : ByteArray, t = ⟨n.toArray⟩ := ⟨_, rfl⟩
  obtain ⟨y, hy⟩ : ∃ t : ByteArray, t = ⟨d.toArray⟩ := ⟨_, rfl⟩
  have htd : t.data.toList = T := by rw [ht]
  have hxd : x.data.toList = n := by rw [hx]
  have hyd : y.data.toList = d := by rw [hy]
  have hts : t.size = T.length := by rw [Lib.size_eq, htd]
  have hxs : x.size ≤ 100000000 := by rw [Lib.size_eq, hxd]; exact hnl
  have hys : y.size ≤ 100000000 := by rw [Lib.size_eq, hyd]; exact hdl
  have EXT := Lib.hid ht
  have EXX := Lib.hid hx
  have EXY := Lib.hid hy
  have ETD := Lib.hid htd
  have EXD := Lib.hid hxd
  have EYD := Lib.hid hyd
  have ETS := Lib.hid hts
  have hts9 : t.size ≤ 100000000 := by omega
  have HT := Lib.hid hT
  have HC := Lib.hid hC
  have HN := Lib.hid hn
  have HD := Lib.hid hd
  have HB := Lib.hid hB
  have HOK := Lib.hid hok
  clear hT hC hn hd hB hok ht hx hy htd hxd hyd hts
  go_enter Tryz.func85, Tryz.ntmps85
  go_wp2_with fail
  refine (prefix_calls s _).mono ?_
  rintro e w1 ⟨rfl, rfl⟩
  rw [HT.out, ← EXT.out]
  go_wp2_with fail
  refine (cut_calls t 47 _ (by omega) HOK.out).mono ?_
  rintro e w2 ⟨rfl, hb⟩
  rw [ETD.out, HC.out, ← EXX.out, ← EXY.out]
  have HB2 := Lib.hid hb
  clear hb
  go_wp2_with fail
  refine (figures_yes x (by omega) (by rw [EXD.out]; exact HN.out) _).mono ?_
  rintro e w3 ⟨rfl, hb⟩
  have HB3 := Lib.hid (below_step HB2.out hb)
  clear hb
  have HXF : Hid (Dig x.data.toList) := by rw [EXD.out]; exact HN.out.2
  have hln : (limbs (dec n)).length ≤ 100000000 := Nat.le_trans (lt_ten_limbs (dec_lt HN.out.2)) (by omega)
  cases split
  · go_wp2_with fail
    refine (one_calls _).mono ?_
    rintro e w4 ⟨v4, rfl, h4, hb⟩
    have H4 := Lib.hid h4
    have HB4 := Lib.hid (below_step HB3.out hb)
    obtain ⟨A4, c4, rfl, hc4⟩ := h4.form
    rw [Sizes.limbs_one] at H4 hc4 ⊢
    clear h4 hb
    go_wp2_with fail
    refine (ReadWalk.calls x (by omega) HXF _).mono ?_
    rintro e w5 ⟨v5, rfl, h5, hb⟩
    rw [EXD.out] at h5
    have H5 := Lib.hid h5
    have H45 := Lib.hid (H4.out.below hb)
    have hb5 := below_step HB4.out hb
    have hB5 := HB.out.same (hb5.block g HB.out.lt)
    have HB5 := Lib.hid hb5
    have HBB := Lib.hid hB5
    clear h5 hb hb5 hB5
    go_wp2_with fail
    refine (PutWalk.calls (decide (t.size < s.size)) (dec n) 1 (by omega) hln (by rw [Sizes.limbs_one]; omega) g b0 A0 B0 n0 c0 m0 d0 _ _ _ HBB.out H5 H45).mono ?_
    rintro e w6 ⟨rfl, h6, h7, h8⟩
    have H6 := Lib.hid (And.intro h6 (And.intro h7 h8))
    clear h6 h7 h8
    go_wp2_with fail
    go_ret2
    refine ⟨?_, (Keeps.below HB5.out).trans H6.out.2.1, (grown_below HB5.out).trans H6.out.2.2⟩
    refine out_yes (by simp) rfl ?_
    rw [← ETS.out, ← Lib.size_eq, if_neg (by simp)]
    exact H6.out.1
  · have HDF : Hid (Figs d) := Lib.hid (HD.out rfl)
    have HYF : Hid (Dig y.data.toList) := by rw [EYD.out]; exact HDF.out.2
    have hld : (limbs (dec d)).length ≤ 100000000 := Nat.le_trans (lt_ten_limbs (dec_lt HDF.out.2)) (by omega)
    go_wp2_with fail
    refine (figures_yes y (by omega) (by rw [EYD.out]; exact HDF.out) _).mono ?_
    rintro e w4 ⟨rfl, hb⟩
    have HB4 := Lib.hid (below_step HB3.out hb)
    clear hb
    go_wp2_with fail
    refine (one_calls _).mono ?_
    rintro e w5 ⟨v5, rfl, h5, hb⟩
    have HB5 := Lib.hid (below_step HB4.out hb)
    clear h5 hb
    go_wp2_with fail
    refine (ReadWalk.calls y (by omega) HYF _).mono ?_
    rintro e w6 ⟨v6, rfl, h6, hb⟩
    rw [EYD.out] at h6
    obtain ⟨A6, c6, rfl, hc6⟩ := h6.form
    have H6 := Lib.hid h6
    have HB6 := Lib.hid (below_step HB5.out hb)
    clear h6 hb
    by_cases hd0 : dec d = 0
    · have HD0 := Lib.hid hd0
      rw [hd0, len_zero]
      clear hd0
      go_wp2_with fail
      go_ret2
      refine ⟨?_, Keeps.below HB6.out, grown_below HB6.out⟩
      exact out_no ⟨rfl, HD0.out⟩ rfl
    · have hpd := limbs_len_pos hd0
      go_wp2_with fail
      refine (ReadWalk.calls x (by omega) HXF _).mono ?_
      rintro e w7 ⟨v7, rfl, h7, hb⟩
      rw [EXD.out] at h7
      have H7 := Lib.hid h7
      have H67 := Lib.hid (H6.out.below hb)
      have hb7 := below_step HB6.out hb
      have hB7 := HB.out.same (hb7.block g HB.out.lt)
      have HB7 := Lib.hid hb7
      have HBB := Lib.hid hB7
      clear h7 hb hb7 hB7
      go_wp2_with fail
      refine (PutWalk.calls (decide (t.size < s.size)) (dec n) (dec d) hd0 hln hld g b0 A0 B0 n0 c0 m0 d0 _ _ _ HBB.out H7 H67).mono ?_
      rintro e w8 ⟨rfl, h6, h7, h8⟩
      have H8 := Lib.hid (And.intro h6 (And.intro h7 h8))
      clear h6 h7 h8
      go_wp2_with fail
      go_ret2
      refine ⟨?_, (Keeps.below HB7.out).trans H8.out.2.1, (grown_below HB7.out).trans H8.out.2.2⟩
      refine out_yes (fun h => hd0 h.2) rfl ?_
      rw [← ETS.out, ← Lib.size_eq, if_pos rfl]
      exact H8.out.1

end Go.Proofs.YtjeamchaibialaaGreatDoor.RatSet

/- num's numeral: the walk. -/
namespace Go.Proofs.YtjeamchaibialaaGreatDoor.NumeralWalk
open Go.RowKit Go.Proofs.YtjeamchaibialaaGreatDoorW.PrintWords Go.Proofs.YtjeamchaibialaaGreatDoorW.PrintLast Go.Proofs.YtjeamchaibialaaGreatDoorW.PrintMore Fns Limbs Nats Go.Proofs.YtjeamchaibialaaGreatDoor.Told ReadWalk Texts Rats Parses Heaps

theorem dig_take {l : List UInt8} {j : Nat} (hj : j < l.length) (h : Dig (l.take j)) (hb : 48 ≤ (l.getD j 0).toNat ∧ (l.getD j 0).toNat ≤ 57) : Dig (l.take (j + 1)) := by
  rw [List.take_succ_eq_append_getElem hj]
  intro b hb'
  rcases List.mem_append.1 hb' with h1 | h1
  · exact h b h1
  · rw [List.mem_singleton.1 h1]
    have e : l.getD j 0 = l[j] := by simp [List.getD, hj]
    rw [← e]; exact hb
theorem dig_at {l : List UInt8} {j : Nat} (hj : j < l.length) (h : Dig l) : 48 ≤ (l.getD j 0).toNat ∧ (l.getD j 0).toNat ≤ 57 := by
  have e : l.getD j 0 = l[j] := by simp [List.getD, hj]
  rw [e]; exact h _ (List.getElem_mem hj)

def Out (l : List UInt8) (w : World) (e : Ending) (w' : World) : Prop := ∃ b, e = .returned (.bool b) ∧ (b = true ↔ Num l) ∧ Below w.heap.size w w'
set_option maxRecDepth 100000 in
set_option maxHeartbeats 400000 in
theorem calls (s : ByteArray) (hs : s.size ≤ 100000000) (w : World) :
    Calls Tryz.prog 58 #[.string s] w (Out s.data.toList w) := by
  have hconv : ∀ (W : World) (t : ByteArray), (convert 9 113 (.string t)).run Tryz.prog W = .ok (.slice (some ⟨W.heap.size, 0, none⟩) t.size (grownCap W t.size 0 5)) (Lib.bytesWorld W 5 t) := fun W t => Lib.run_convert_string_bytes W 9 113 5 t Tryz.underlying9 Tryz.underlying113 Tryz.underlying5
  obtain ⟨l, hl⟩ : ∃ l, l = s.data.toList := ⟨_, rfl⟩
  have hsz : s.size = l.length := by rw [hl, Lib.size_eq]
  have HL := Lib.hid hl
  have HSZ := Lib.hid hsz
  rw [← hl]
  clear hl hsz
  go_enter Tryz.func58, Tryz.ntmps58
  go_wp2_with fail
  have hcl : ∀ j, j < s.size → (Lib.bytesWorld w 5 s).cell? ⟨w.heap.size, j, none⟩ = some (.int .u8 ((l.getD j 0).toNat : Int)) := fun j hj => by
    have := Lib.bytesWorld_cell w 5 s j hj
    rw [← HL.out] at this
    exact this
  have hbw : Below w.heap.size w (Lib.bytesWorld w 5 s) := ⟨rfl, rfl, rfl, by rw [Lib.bytesWorld_size]; omega, fun k hk => Lib.bytesWorld_at_old w 5 _ k hk⟩
  have HCL := Lib.hid hcl
  have HBW := Lib.hid hbw
  clear hcl hbw hconv
  generalize Lib.bytesWorld w 5 s = wb at *
  go_loopw [4, 8] (fun _ v8 ws => ∃ (j : Nat), j ≤ s.size ∧ v8 = .int .i64 j ∧ ws = wb ∧ Hid (Dig (l.take j))) (fun _ v8 _ => s.size - (intOf v8).toNat)
  case atStart => exact ⟨0, Nat.zero_le _, rfl, rfl, Lib.hid (fun b hb => by simp at hb)⟩
  case round =>
    obtain ⟨j, hj, rfl, rfl, hd⟩ := hrel
    by_cases hjq : j < s.size
    · have hc := HCL.out j hjq
      have hjl : j < l.length := by have := HSZ.out; omega
      have HJ := Lib.hid hjl
      have HT := Lib.hid (fun h => dig_take (l := l) hjl hd.out h)
      have HAT := Lib.hid (fun h => dig_at (l := l) hjl h)
      generalize (l.getD j 0).toNat = x at *
      by_cases h1 : x < 48
      · have h2 : (x : Int) < 48 := by omega
        go_wp2_with fail
        go_ret
        exact ⟨false, rfl, ⟨fun h => by simp at h, fun h => by have := HAT.out h.1; omega⟩, HBW.out⟩
      · have h2 : ¬ (x : Int) < 48 := by omega
        by_cases h3 : 57 < x
        · have h4 : 57 < (x : Int) := by omega
          go_wp2_with fail
          go_ret
          exact ⟨false, rfl, ⟨fun h => by simp at h, fun h => by have := HAT.out h.1; omega⟩, HBW.out⟩
        · have h4 : ¬ 57 < (x : Int) := by omega
          have HN := Lib.hid (HT.out ⟨by omega, by omega⟩)
          go_wp2_with fail
          go_roundw
          case rel => exact ⟨j + 1, by omega, by rfl, trivial, HN⟩
          case measure => simp [intOf]; omega
    · have hje : j = s.size := by omega
      subst hje
      have HD : Hid (Dig l) := by
        have := hd.out
        rw [List.take_of_length_le (by have := HSZ.out; omega)] at this
        exact this
      clear hd HCL
      by_cases h48 : s.toList = [48]
      · go_wp2_with fail
        go_ret
        exact ⟨true, rfl, ⟨fun _ => ⟨HD.out, .inl (by rw [HL.out, ← Lib.toList_data]; exact h48)⟩, fun _ => rfl⟩, HBW.out⟩
      · by_cases h0 : s.toList = []
        · go_wp2_with fail
          go_ret
          exact ⟨false, rfl, ⟨fun h => by simp at h, fun h => absurd (by rw [HL.out, ← Lib.toList_data]; exact h0) h.figs.1⟩, HBW.out⟩
        · have hp : 0 < s.size := by
            rw [Lib.size_eq, ← Lib.toList_data]
            exact List.length_pos_iff.2 h0
          go_wp2_with fail
          go_ret
          refine ⟨s.toList == [48] || !s.toList.isEmpty && (s[0].toNat : Int) != 48, rfl, ?_, HBW.out⟩
          have hhd : l.head? = some s[0] := by
            rw [HL.out, List.head?_eq_getElem?]
            have hp' : 0 < s.data.toList.length := by rw [← Lib.size_eq]; exact hp
            rw [List.getElem?_eq_getElem hp']
            rfl
          have e1 : (s.toList == [48]) = false := beq_eq_false_iff_ne.2 h48
          have e2 : s.toList.isEmpty = false := List.isEmpty_eq_false_iff.2 h0
          rw [e1, e2]
          have hne : l ≠ [] := by rw [HL.out, ← Lib.toList_data]; exact h0
          have hn48 : l ≠ [48] := by rw [HL.out, ← Lib.toList_data]; exact h48
          generalize s[0] = b at *
          constructor
          · intro h
            refine ⟨HD.out, .inr ⟨hne, ?_⟩⟩
            rw [hhd]
            intro e
            injection e with e
            subst e
            simp at h
          · intro h
            rcases h.2 with h | h
            · exact absurd h hn48
            · have hb : b ≠ 48 := fun e => h.2 (by rw [hhd, e])
              have hb2 : b.toNat ≠ 48 := fun e => hb (UInt8.toNat_inj.1 (by rw [e]; rfl))
              simp
              omega

end Go.Proofs.YtjeamchaibialaaGreatDoor.NumeralWalk

/- num's parse: the walk. -/
namespace Go.Proofs.YtjeamchaibialaaGreatDoor.ParseWalk
open Go.RowKit Go.Proofs.YtjeamchaibialaaGreatDoorW.PrintWords Go.Proofs.YtjeamchaibialaaGreatDoorW.PrintLast Go.Proofs.YtjeamchaibialaaGreatDoorW.PrintMore Fns Limbs Nats Go.Proofs.YtjeamchaibialaaGreatDoor.Told ReadWalk Texts Rats Parses Heaps Go.Proofs.YtjeamchaibialaaGreatDoor.Splits Go.Proofs.YtjeamchaibialaaGreatDoor.PutWalk

def Out (l : List UInt8) (w : World) (e : Ending) (w' : World) : Prop :=
  ((∃ q g, l = rtxt q ∧ e = .returned (.pointer (some ⟨g, 0, none⟩)) ∧ RatAt w' g q ∧ w.heap.size ≤ g) ∨ ((∀ q, l ≠ rtxt q) ∧ e = .returned (.pointer none))) ∧ Below w.heap.size w w'
theorem out_nil {l : List UInt8} {w w' : World} {e : Ending} (h : ∀ q, l ≠ rtxt q) (he : e = .returned (.pointer none)) (hb : Below w.heap.size w w') : Out l w e w' := ⟨.inr ⟨h, he⟩, hb⟩
theorem out_rat {l : List UInt8} {w w' : World} {e : Ending} {q : Rat} {g : Nat} (h : l = rtxt q) (he : e = .returned (.pointer (some ⟨g, 0, none⟩))) (hr : RatAt w' g q) (hg : w.heap.size ≤ g) (hb : Below w.heap.size w w') : Out l w e w' := ⟨.inl ⟨q, g, h, he, hr, hg⟩, hb⟩
theorem parts {l T n d : List UInt8} {split : Bool} (hT : Lib.trimPrefix l [45] = T) (hC : Lib.cut T [47] = (n, d, split)) {q : Rat} (h : l = rtxt q) :
    Num n ∧ (split = true → Num d ∧ dec d ≠ 0) ∧ frac (decide (T.length < l.length)) (dec n) (if split = true then dec d else 1) = q := by
  have hr := ratOf_rtxt q
  unfold ratOf at hr
  rw [← h] at hr
  simp only [hT, hC] at hr
  rw [h, rtxt_trim] at hT
  rw [← hT, body_cut] at hC
  injection hC with e1 e2
  injection e2 with e2 e3
  refine ⟨by rw [← e1]; exact num_txt _, fun hs => ?_, hr⟩
  rw [hs] at e3
  have hd : ¬ q.den = 1 := by intro h1; rw [h1] at e3; simp at e3
  rw [if_neg hd] at e2
  rw [← e2]
  exact ⟨num_txt _, by rw [dec_txt]; exact q.den_nz⟩
theorem str_ne {a : ByteArray} {l : List UInt8} (h : l ≠ a.data.toList) : (⟨l.toArray⟩ : ByteArray).toList ≠ a.toList := by
  rw [Lib.toList_data, Lib.toList_data]; exact h

set_option maxRecDepth 100000 in
set_option maxHeartbeats 400000 in
theorem calls (s : ByteArray) (hs : s.size ≤ 100000000) (w : World) (hok : Ok w) :
    Calls Tryz.prog 36 #[.string s] w (Out s.data.toList w) := by
  obtain ⟨T, hT⟩ : ∃ T, Lib.trimPrefix s.data.toList [45] = T := ⟨_, rfl⟩
  obtain ⟨n, d, split, hC⟩ : ∃ n d split, Lib.cut T [47] = (n, d, split) := ⟨_, _, _, rfl⟩
  have hTl : T.length ≤ 100000000 := by rw [← hT]; exact Nat.le_trans (RatSet.trim_le _) (by simpa using hs)
  have hnl : n.length ≤ 100000000 := by have := (RatSet.cut_le T 47).1; rw [hC] at this; exact Nat.le_trans this hTl
  have hdl : d.length ≤ 100000000 := by have := (RatSet.cut_le T 47).2; rw [hC] at this; exact Nat.le_trans this hTl
  obtain ⟨t, ht⟩ : ∃ t : ByteArray, t = ⟨T.toArray⟩ := ⟨_, rfl⟩
  obtain ⟨x, hx⟩ : ∃ t : ByteArray, t = ⟨n.toArray⟩ := ⟨_, rfl⟩
  obtain ⟨y, hy⟩ : ∃ t : ByteArray, t = ⟨d.toArray⟩ := ⟨_, rfl⟩
  have htd : t.data.toList = T := by rw [ht]
  have hxd : x.data.toList = n := by rw [hx]
  have hyd : y.data.toList = d := by rw [hy]
  have hts : t.size ≤ 100000000 := by rw [Lib.size_eq, htd]; exact hTl
  have hxs : x.size ≤ 100000000 := by rw [Lib.size_eq, hxd]; exact hnl
  have hys : y.size ≤ 100000000 := by rw [Lib.size_eq, hyd]; exact hdl
  have EXT := Lib.hid ht
  have EXX := Lib.hid hx
  have EXY := Lib.hid hy
  have ETD := Lib.hid htd
  have EXD := Lib.hid hxd
  have EYD := Lib.hid hyd
  have HP := Lib.hid (fun q => parts hT hC (q := q))
  have HT := Lib.hid hT
  have HC := Lib.hid hC
  have HOK := Lib.hid hok
  clear hT hC hok ht hx hy htd hxd hyd
  go_enter Tryz.func36, Tryz.ntmps36
  go_wp2_with fail
  refine (prefix_calls s _).mono ?_
  rintro e w1 ⟨rfl, rfl⟩
  rw [HT.out, ← EXT.out]
  go_wp2_with fail
  refine (cut_calls t 47 _ (by omega) HOK.out).mono ?_
  rintro e w2 ⟨rfl, hb⟩
  rw [ETD.out, HC.out, ← EXX.out, ← EXY.out]
  have HB2 := Lib.hid hb
  clear hb
  go_wp2_with fail
  refine (NumeralWalk.calls x (by omega) _).mono ?_
  rintro e w3 ⟨b, rfl, hbn, hb⟩
  rw [EXD.out] at hbn
  have HB3 := Lib.hid (below_step HB2.out hb)
  clear hb
  by_cases hn : Num n
  · have hb1 := hbn.2 hn
    subst hb1
    have HN := Lib.hid hn
    clear hbn hn
    have hgo : ∀ K : Prop, (split = true → ¬ Num d → K) → ((split = true → Num d) → K) → K := fun K h1 h2 => by
      by_cases hs : split = true ∧ ¬ Num d
      · exact h1 hs.1 hs.2
      · exact h2 (fun h => Classical.not_not.1 fun h' => hs ⟨h, h'⟩)
    refine hgo _ (fun hsp hnd => ?_) (fun hnd => ?_)
    · subst hsp
      have HND := Lib.hid hnd
      clear hgo hnd
      go_wp2_with fail
      refine (NumeralWalk.calls y (by omega) _).mono ?_
      rintro e w4 ⟨b, rfl, hbd, hb⟩
      rw [EYD.out] at hbd
      have HB4 := Lib.hid (below_step HB3.out hb)
      have hbf : b = false := by cases b; rfl; exact absurd (hbd.1 rfl) HND.out
      subst hbf
      clear hb hbd
      go_wp2_with fail
      go_ret
      exact out_nil (fun q h => HND.out ((HP.out q h).2.1 (by trivial)).1) rfl HB4.out
    · have HND := Lib.hid hnd
      clear hgo hnd
      have HFD : Hid (split = true → Figs d) := Lib.hid (fun h => (HND.out h).figs)
      have HFN : Hid (Figs n) := Lib.hid HN.out.figs
      have HZ : Hid (split = true ∧ dec d = 0 → ∀ q, s.data.toList ≠ rtxt q) := Lib.hid (fun h q e => ((HP.out q e).2.1 h.1).2 h.2)
      have HQ : Hid (∀ q, s.data.toList = rtxt q → frac (decide (T.length < s.data.toList.length)) (dec n) (if split = true then dec d else 1) = q) := Lib.hid (fun q e => (HP.out q e).2.2)
      have hln : (limbs (dec n)).length ≤ 100000000 := Nat.le_trans (lt_ten_limbs (dec_lt HFN.out.2)) (by omega)
      have hld : split = true → (limbs (dec d)).length ≤ 100000000 := fun h => Nat.le_trans (lt_ten_limbs (dec_lt (HFD.out h).2)) (by omega)
      have HSZ : Hid (¬ (split = true ∧ dec d = 0) → Sizes.Sz (frac (decide (T.length < s.data.toList.length)) (dec n) (if split = true then dec d else 1)) 100000000) := by
        refine Lib.hid (fun h => Sizes.sz_frac ?_ hln ?_)
        · by_cases h1 : split = true
          · rw [if_pos h1]; exact fun h2 => h ⟨h1, h2⟩
          · rw [if_neg h1]; omega
        · by_cases h1 : split = true
          · rw [if_pos h1]; exact hld h1
          · rw [if_neg h1, Sizes.limbs_one]; omega
      clear HP hln hld
      refine (show ∀ K : Prop, (split = false → K) → (split = true → K) → K from fun K h1 h2 => by cases split; exact h1 rfl; exact h2 rfl) _ (fun hsp => ?_) (fun hsp => ?_)
      · rw [hsp]
        have HSP := Lib.hid hsp
        clear hsp
        go_wp2_with fail
        have HB4 := HB3
        clear HB3
        have hba := HB4.out.alloc HB4.out.size (.cells #[.bool false, .slice none 0 0, .slice none 0 0] 47)
        have HBA := Lib.hid hba
        have HSW := Lib.hid HB4.out.size
        clear hba HB4
        refine (RatSet.calls s hs T n d split HT.out HC.out HFN.out HFD.out w3.heap.size false none none 0 0 0 0 _ (Blk.alloc _ _ _) (HOK.out.below HBA.out)).mono ?_
        rintro e w5 ⟨ho, hk, hg⟩
        have HB5 := Lib.hid (below_grown HBA.out hg HSW.out)
        unfold RatSet.Out at ho
        clear hk hg HT HC HFN HFD
        by_cases hz : split = true ∧ dec d = 0
        · rw [if_pos hz] at ho
          subst ho
          have HN := Lib.hid (HZ.out hz)
          clear hz HZ HSZ HQ
          go_wp2_with fail
          go_ret
          exact out_nil HN.out rfl HB5.out
        · rw [if_neg hz] at ho
          obtain ⟨rfl, hr⟩ := ho
          have hsz := HSZ.out hz
          have hqq := HQ.out
          clear HZ HSZ HQ hz
          generalize frac (decide (T.length < s.data.toList.length)) (dec n) (if split = true then dec d else 1) = q at *
          have HR := Lib.hid hr
          have HSZ := Lib.hid hsz
          have HQ := Lib.hid hqq
          clear hr hsz hqq
          go_wp2_with fail
          refine (RatTell.text_calls q (HSZ.out.mono (by omega)) _ _ HR.out).mono ?_
          rintro e w6 ⟨rfl, hb⟩
          have HB6 := Lib.hid (below_step HB5.out hb)
          have HR6 := Lib.hid (HR.out.below hb)
          clear hb HR
          by_cases he : rtxt q = s.data.toList
          · have hu : (⟨(rtxt q).toArray⟩ : ByteArray).toList = s.toList := by rw [Lib.toList_data, Lib.toList_data]; exact he
            obtain ⟨u, hue⟩ : ∃ u : ByteArray, u = ⟨(rtxt q).toArray⟩ := ⟨_, rfl⟩
            rw [← hue] at hu ⊢
            have HE := Lib.hid he
            clear hue he
            go_wp2_with fail
            go_ret
            exact out_rat HE.out.symm rfl HR6.out HSW.out HB6.out
          · have hu : (⟨(rtxt q).toArray⟩ : ByteArray).toList ≠ s.toList := str_ne he
            obtain ⟨u, hue⟩ : ∃ u : ByteArray, u = ⟨(rtxt q).toArray⟩ := ⟨_, rfl⟩
            rw [← hue] at hu ⊢
            have hub : (u.toList == s.toList) = false := beq_eq_false_iff_ne.2 hu
            have HE := Lib.hid he
            clear hue he
            go_wp2_with fail
            go_ret
            exact out_nil (fun q' h => HE.out (by rw [HQ.out q' h]; exact h.symm)) rfl HB6.out
      · rw [hsp]
        have HSP := Lib.hid hsp
        clear hsp
        go_wp2_with fail
        refine (NumeralWalk.calls y (by omega) _).mono ?_
        rintro e w4 ⟨b, rfl, hbd, hb⟩
        rw [EYD.out] at hbd
        have hbt := hbd.2 (HND.out HSP.out)
        subst hbt
        have HB4 := Lib.hid (below_step HB3.out hb)
        clear hb hbd HB3
        go_wp2_with fail
        have hba := HB4.out.alloc HB4.out.size (.cells #[.bool false, .slice none 0 0, .slice none 0 0] 47)
        have HBA := Lib.hid hba
        have HSW := Lib.hid HB4.out.size
        clear hba HB4
        refine (RatSet.calls s hs T n d split HT.out HC.out HFN.out HFD.out w4.heap.size false none none 0 0 0 0 _ (Blk.alloc _ _ _) (HOK.out.below HBA.out)).mono ?_
        rintro e w5 ⟨ho, hk, hg⟩
        have HB5 := Lib.hid (below_grown HBA.out hg HSW.out)
        unfold RatSet.Out at ho
        clear hk hg HT HC HFN HFD
        by_cases hz : split = true ∧ dec d = 0
        · rw [if_pos hz] at ho
          subst ho
          have HN := Lib.hid (HZ.out hz)
          clear hz HZ HSZ HQ
          go_wp2_with fail
          go_ret
          exact out_nil HN.out rfl HB5.out
        · rw [if_neg hz] at ho
          obtain ⟨rfl, hr⟩ := ho
          have hsz := HSZ.out hz
          have hqq := HQ.out
          clear HZ HSZ HQ hz
          generalize frac (decide (T.length < s.data.toList.length)) (dec n) (if split = true then dec d else 1) = q at *
          have HR := Lib.hid hr
          have HSZ := Lib.hid hsz
          have HQ := Lib.hid hqq
          clear hr hsz hqq
          go_wp2_with fail
          refine (RatTell.text_calls q (HSZ.out.mono (by omega)) _ _ HR.out).mono ?_
          rintro e w6 ⟨rfl, hb⟩
          have HB6 := Lib.hid (below_step HB5.out hb)
          have HR6 := Lib.hid (HR.out.below hb)
          clear hb HR
          by_cases he : rtxt q = s.data.toList
          · have hu : (⟨(rtxt q).toArray⟩ : ByteArray).toList = s.toList := by rw [Lib.toList_data, Lib.toList_data]; exact he
            obtain ⟨u, hue⟩ : ∃ u : ByteArray, u = ⟨(rtxt q).toArray⟩ := ⟨_, rfl⟩
            rw [← hue] at hu ⊢
            have HE := Lib.hid he
            clear hue he
            go_wp2_with fail
            go_ret
            exact out_rat HE.out.symm rfl HR6.out HSW.out HB6.out
          · have hu : (⟨(rtxt q).toArray⟩ : ByteArray).toList ≠ s.toList := str_ne he
            obtain ⟨u, hue⟩ : ∃ u : ByteArray, u = ⟨(rtxt q).toArray⟩ := ⟨_, rfl⟩
            rw [← hue] at hu ⊢
            have hub : (u.toList == s.toList) = false := beq_eq_false_iff_ne.2 hu
            have HE := Lib.hid he
            clear hue he
            go_wp2_with fail
            go_ret
            exact out_nil (fun q' h => HE.out (by rw [HQ.out q' h]; exact h.symm)) rfl HB6.out
  · have hb1 : b = false := by cases b; rfl; exact absurd (hbn.1 rfl) hn
    subst hb1
    have HN := Lib.hid hn
    clear hbn hn
    go_wp2_with fail
    go_ret
    exact out_nil (fun q h => HN.out (HP.out q h).1) rfl HB3.out

end Go.Proofs.YtjeamchaibialaaGreatDoor.ParseWalk

/- num's Canon: the walk. -/
namespace Go.Proofs.YtjeamchaibialaaGreatDoor.CanonWalk
open Go.RowKit Go.Proofs.YtjeamchaibialaaGreatDoorW.PrintWords Go.Proofs.YtjeamchaibialaaGreatDoorW.PrintLast Go.Proofs.YtjeamchaibialaaGreatDoorW.PrintMore Fns Limbs Nats Go.Proofs.YtjeamchaibialaaGreatDoor.Told ReadWalk Texts Rats Parses Heaps Go.Proofs.YtjeamchaibialaaGreatDoor.Splits Go.Proofs.YtjeamchaibialaaGreatDoor.PutWalk

abbrev bs (l : List UInt8) : ByteArray := ⟨l.toArray⟩
open Go.Shelf in
theorem trim_zero (s : ByteArray) (w : World) (hs : s.size ≤ 9223372036854775807) :
    Calls Tryz.prog 99 #[.string s, .string ⟨#[48]⟩] w fun e w' => e = .returned (.string ⟨(Lib.trimS s.data.toList [48]).toArray⟩) ∧ Below w.heap.size w w' := by
  have hcon := Any.strings_Trim_laid Tryz.lays160 (by kernel_rfl) s ⟨#[48]⟩ w hs (by decide) (ascii_of_all (by decide))
  exact hcon

set_option maxRecDepth 100000 in
theorem figures_yes (s : ByteArray) (hs : s.size ≤ 9223372036854775807) (h : Figs s.data.toList) (w : World) :
    Calls Tryz.prog 59 #[.string s] w fun e w' => e = .returned (.bool true) ∧ Below w.heap.size w w' := by
  have h0 : s.toList ≠ [] := by rw [Lib.toList_data]; exact h.1
  have HD := Lib.hid ((dig_iff s.data.toList).2 h.2)
  clear h
  go_enter Tryz.func59, Tryz.ntmps59
  go_wp2_with fail
  refine (Trims.trim_digits s _ hs).mono ?_
  rintro e w1 ⟨rfl, hb⟩
  have HB := Lib.hid hb
  clear hb
  rw [show Lib.trimS s.data.toList [48, 49, 50, 51, 52, 53, 54, 55, 56, 57] = [] from HD.out]
  go_wp2_with fail
  go_ret
  refine ⟨?_, HB.out⟩
  show Ending.returned (Value.bool (!s.toList.isEmpty)) = _
  rw [List.isEmpty_eq_false_iff.2 h0]; rfl
set_option maxRecDepth 100000 in
theorem figures_no (s : ByteArray) (hs : s.size ≤ 9223372036854775807) (h : ¬ Figs s.data.toList) (w : World) :
    Calls Tryz.prog 59 #[.string s] w fun e w' => e = .returned (.bool false) ∧ Below w.heap.size w w' := by
  go_enter Tryz.func59, Tryz.ntmps59
  by_cases h0 : s.toList = []
  · clear h
    go_wp2_with fail
    go_ret
    exact ⟨rfl, Below.refl _ _⟩
  · have hd : Lib.trimS s.data.toList [48, 49, 50, 51, 52, 53, 54, 55, 56, 57] ≠ [] := fun e => h ⟨by rw [← Lib.toList_data]; exact h0, (dig_iff s.data.toList).1 e⟩
    have HD := Lib.hid hd
    clear h hd
    go_wp2_with fail
    refine (Trims.trim_digits s _ hs).mono ?_
    rintro e w1 ⟨rfl, hb⟩
    have HB := Lib.hid hb
    clear hb
    obtain ⟨t, ht⟩ : ∃ t : ByteArray, t = ⟨(Lib.trimS s.data.toList [48, 49, 50, 51, 52, 53, 54, 55, 56, 57]).toArray⟩ := ⟨_, rfl⟩
    have h2 : t.toList ≠ [] := by rw [Lib.toList_data, ht]; exact HD.out
    rw [← ht]
    clear ht
    go_wp2_with fail
    go_ret
    refine ⟨?_, HB.out⟩
    show Ending.returned (Value.bool (!s.toList.isEmpty && t.toList.isEmpty)) = _
    rw [List.isEmpty_eq_false_iff.2 h2, Bool.and_false]

def short (l : List UInt8) : List UInt8 := if Lib.trimLeftS l [48] = [] then [48] else Lib.trimLeftS l [48]
theorem short_ne (l : List UInt8) : short l ≠ [] := by
  unfold short
  split
  · simp
  · assumption
theorem short_dig {l : List UInt8} (h : Dig l) : Dig (short l) := by
  unfold short
  split
  · intro b hb
    rw [List.mem_singleton.1 hb]; decide
  · exact dig_zeros h
theorem dec_short (l : List UInt8) : dec (short l) = dec l := by
  unfold short
  split
  · rename_i h
    have := dec_zeros l
    rw [h] at this
    rw [← this]
    simp [dec, dig]
  · exact dec_zeros l
theorem short_len (l : List UInt8) : (short l).length ≤ l.length + 1 := by
  unfold short
  split
  · simp
  · have := (List.dropWhile_sublist (fun b => [(48 : UInt8)].contains b) (l := l)).length_le
    exact Nat.le_trans this (by omega)
set_option maxRecDepth 100000 in
theorem short_calls (s : ByteArray) (w : World) :
    Calls Tryz.prog 139 #[.string s] w fun e w' => e = .returned (.string (bs (short s.data.toList))) ∧ Below w.heap.size w w' := by
  go_enter Tryz.func139, Tryz.ntmps139
  go_wp2_with fail
  refine (Trims.left_zero s _).mono ?_
  rintro e w1 ⟨rfl, hb⟩
  have HB := Lib.hid hb
  clear hb
  obtain ⟨t, ht⟩ : ∃ t : ByteArray, t = ⟨(Lib.trimLeftS s.data.toList [48]).toArray⟩ := ⟨_, rfl⟩
  have htl : t.toList = Lib.trimLeftS s.data.toList [48] := by rw [Lib.toList_data, ht]
  have HT := Lib.hid ht
  have HTL := Lib.hid htl
  rw [← ht]
  clear ht htl
  by_cases h0 : t.toList = []
  · have H0 := Lib.hid h0
    go_wp2_with fail
    go_ret
    refine ⟨?_, HB.out⟩
    have e : short s.data.toList = [48] := by unfold short; rw [if_pos (by rw [← HTL.out]; exact H0.out)]
    rw [e]; rfl
  · have h0b : t.toList.isEmpty = false := List.isEmpty_eq_false_iff.2 h0
    have H0 := Lib.hid h0
    go_wp2_with fail
    go_ret
    refine ⟨?_, HB.out⟩
    have e : short s.data.toList = Lib.trimLeftS s.data.toList [48] := by unfold short; rw [if_neg (by rw [← HTL.out]; exact H0.out)]
    rw [e]
    show Ending.returned (Value.string t) = _
    rw [HT.out]

def tailS (m : Bool) (n d : List UInt8) (split : Bool) : List UInt8 := (if m then [45] else []) ++ (short n ++ (if split then 47 :: short d else []))
theorem bs_eq {t : ByteArray} {l : List UInt8} (h : t.data.toList = l) : t = bs l := by
  apply ByteArray.ext
  rw [← h]
theorem str_size {t : ByteArray} {l : List UInt8} (h : t = ⟨l.toArray⟩) : t.size = l.length := by
  rw [h]
  show l.toArray.size = _
  rw [List.size_toArray]
set_option maxRecDepth 100000 in
set_option maxHeartbeats 400000 in
theorem tail_calls (s x y : ByteArray) (split : Bool) (hs : 0 < s.size) (hx : x.size ≤ 100000000) (hy : y.size ≤ 100000000) (m : Bool) (hm : m = decide (s[0].toNat = 45)) (w : World) :
    Calls Tryz.prog 100 #[.string s, .string x, .string y, .bool split] w fun e w' => e = .returned (.string (bs (tailS m x.data.toList y.data.toList split))) ∧ Below w.heap.size w w' := by
  have hlx := short_len x.data.toList
  have hly := short_len y.data.toList
  rw [← Lib.size_eq] at hlx hly
  go_enter Tryz.func100, Tryz.ntmps100
  go_wp2_with fail
  refine (short_calls x _).mono ?_
  rintro e w1 ⟨rfl, hb⟩
  have HB1 := Lib.hid hb
  obtain ⟨u, hu⟩ : ∃ u : ByteArray, u = bs (short x.data.toList) := ⟨_, rfl⟩
  have hus : u.size ≤ 100000001 := by rw [str_size hu]; omega
  have HU := Lib.hid hu
  have HM := Lib.hid hm
  rw [← hu]
  clear hb hu hm
  go_upto_if 14 with fail
  go_cut [10] (fun v wx => ∃ t : ByteArray, v = .string t ∧ Hid (t.data.toList = short x.data.toList ++ (if split then 47 :: short y.data.toList else [])) ∧ t.size ≤ 300000000 ∧ Hid (Below w.heap.size w wx))
  case first =>
    cases split
    · go_wp2_with fail
      go_meet
      case rel => exact ⟨u, rfl, Lib.hid (by rw [HU.out]; simp), by omega, HB1⟩
    · go_wp2_with fail
      refine (short_calls y _).mono ?_
      rintro e w2 ⟨rfl, hb⟩
      have HB2 := Lib.hid (below_step HB1.out hb)
      obtain ⟨v, hv⟩ : ∃ u : ByteArray, u = bs (short y.data.toList) := ⟨_, rfl⟩
      have hvs : v.size ≤ 100000001 := by rw [str_size hv]; omega
      have HV := Lib.hid hv
      rw [← hv]
      have hsz : ((⟨#[47]⟩ : ByteArray) ++ v).size ≤ 100000002 := by rw [ByteArray.size_append]; show 1 + _ ≤ _; omega
      clear hb hv
      go_wp2_with fail
      go_meet
      case rel =>
        refine ⟨_, rfl, Lib.hid ?_, ?_, HB2⟩
        · rw [HU.out, HV.out]
          simp [ByteArray.data_append]
        · rw [ByteArray.size_append]; omega
  case rest =>
    obtain ⟨t, rfl, ht, hts, hbx⟩ := hcut
    clear HB1 HU hus hlx hly
    have hix : 0 < s.size := hs
    by_cases h45 : s[0].toNat = 45
    · have hmt : m = true := by rw [HM.out, decide_eq_true h45]
      subst hmt
      have hz : ((s[0].toNat : Int) == 45) = true := by rw [h45]; rfl
      have hz' : (s[0].toNat : Int) = 45 := by omega
      clear h45 HM
      go_wp2_with fail
      go_ret
      refine ⟨?_, hbx.out⟩
      rw [← bs_eq (t := (⟨#[45]⟩ : ByteArray) ++ t) (l := tailS true x.data.toList y.data.toList split) (by rw [ByteArray.data_append, Array.toList_append, ht.out]; rfl)]
      rfl
    · have hmt : m = false := by rw [HM.out, decide_eq_false h45]
      subst hmt
      have hz : ((s[0].toNat : Int) == 45) = false := beq_eq_false_iff_ne.2 (by omega)
      have hz' : (s[0].toNat : Int) ≠ 45 := by omega
      clear h45 HM
      go_wp2_with fail
      go_ret
      refine ⟨?_, hbx.out⟩
      rw [← bs_eq (t := t) (l := tailS false x.data.toList y.data.toList split) ht.out]
      rfl

def Loose (l : List UInt8) : Prop := Figs (Lib.cut (Lib.trimPrefix l [45]) [47]).1 ∧ ((Lib.cut (Lib.trimPrefix l [45]) [47]).2.2 = true → Figs (Lib.cut (Lib.trimPrefix l [45]) [47]).2.1)
def Zero (l : List UInt8) : Prop := (Lib.cut (Lib.trimPrefix l [45]) [47]).2.2 = true ∧ dec (Lib.cut (Lib.trimPrefix l [45]) [47]).2.1 = 0
def Out (l : List UInt8) (w : World) (e : Ending) (W : World) : Prop :=
  Below w.heap.size w W ∧ ((¬ Loose l ∧ e = .returned (.tuple #[.string ⟨#[]⟩, .int .i64 1])) ∨ (Loose l ∧ Zero l ∧ e = .returned (.tuple #[.string ⟨#[]⟩, .int .i64 2])) ∨ (Loose l ∧ ¬ Zero l ∧ e = .returned (.tuple #[.string (bs (rtxt (ratOf l))), .int .i64 0])))
theorem dig_ne {l : List UInt8} (h : Dig l) (c : UInt8) (hc : c = 45 ∨ c = 47) : ∀ b ∈ l, b ≠ c := by
  intro b hb e
  have := h b hb
  rw [e] at this
  rcases hc with rfl | rfl <;> exact absurd this (by decide)
theorem tail_trim {m : Bool} {n d : List UInt8} {split : Bool} (hn : Figs n) : Lib.trimPrefix (tailS m n d split) [45] = short n ++ (if split then 47 :: short d else []) := by
  cases m
  · show Lib.trimPrefix (short n ++ _) [45] = _
    refine trim_plain ?_
    rw [head_app (short_ne n)]
    intro e
    exact dig_ne (short_dig hn.2) 45 (.inl rfl) 45 (List.mem_of_mem_head? (by rw [e]; rfl)) rfl
  · exact trim_minus _
theorem tail_cut {n d : List UInt8} {split : Bool} (hn : Figs n) : Lib.cut (short n ++ (if split then 47 :: short d else [])) [47] = (short n, if split then short d else [], split) := by
  cases split
  · rw [if_neg (by simp), if_neg (by simp), List.append_nil]
    exact cut_no _ _ (dig_ne (short_dig hn.2) 47 (.inr rfl))
  · rw [if_pos rfl, if_pos rfl]
    exact cut_one _ _ _ (dig_ne (short_dig hn.2) 47 (.inr rfl))
theorem tail_len (m : Bool) (n d : List UInt8) (split : Bool) : decide ((short n ++ (if split then 47 :: short d else [])).length < (tailS m n d split).length) = m := by
  cases m
  · exact decide_eq_false (by simp [tailS])
  · exact decide_eq_true (by simp [tailS])
theorem trim_sign {s : ByteArray} (hs : 0 < s.size) : decide ((Lib.trimPrefix s.data.toList [45]).length < s.data.toList.length) = decide (s[0].toNat = 45) := by
  have hp : 0 < s.data.toList.length := by rw [← Lib.size_eq]; exact hs
  have hhd : s.data.toList.head? = some s[0] := by
    rw [List.head?_eq_getElem?, List.getElem?_eq_getElem hp]
    rfl
  obtain ⟨b, l, e⟩ : ∃ b l, s.data.toList = b :: l := by
    cases h : s.data.toList with
    | nil => rw [h] at hp; simp at hp
    | cons b l => exact ⟨b, l, rfl⟩
  rw [e] at hhd ⊢
  have hb : b = s[0] := by simpa using hhd
  rw [← hb]
  by_cases h : b = 45
  · subst h
    rw [trim_minus, decide_eq_true (show l.length < (45 :: l : List UInt8).length by simp), decide_eq_true (show (45 : UInt8).toNat = 45 from rfl)]
  · have hn : b.toNat ≠ 45 := fun e => h (UInt8.toNat_inj.1 (by rw [e]; rfl))
    rw [trim_plain (by simpa using h), decide_eq_false (by omega), decide_eq_false hn]

set_option maxRecDepth 100000 in
set_option maxHeartbeats 1000000 in
theorem calls (s : ByteArray) (hs : s.size ≤ 30000000) (w : World) (hok : Ok w) :
    Calls Tryz.prog 53 #[.string s] w (Out s.data.toList w) := by
  obtain ⟨T, hT⟩ : ∃ T, Lib.trimPrefix s.data.toList [45] = T := ⟨_, rfl⟩
  obtain ⟨n, d, split, hC⟩ : ∃ n d split, Lib.cut T [47] = (n, d, split) := ⟨_, _, _, rfl⟩
  have hTl : T.length ≤ 30000000 := by rw [← hT]; exact Nat.le_trans (RatSet.trim_le _) (by simpa using hs)
  have hnl : n.length ≤ 30000000 := by have := (RatSet.cut_le T 47).1; rw [hC] at this; exact Nat.le_trans this hTl
  have hdl : d.length ≤ 30000000 := by have := (RatSet.cut_le T 47).2; rw [hC] at this; exact Nat.le_trans this hTl
  obtain ⟨t, ht⟩ : ∃ t : ByteArray, t = ⟨T.toArray⟩ := ⟨_, rfl⟩
  obtain ⟨x, hx⟩ : ∃ t : ByteArray, t = ⟨n.toArray⟩ := ⟨_, rfl⟩
  obtain ⟨y, hy⟩ : ∃ t : ByteArray, t = ⟨d.toArray⟩ := ⟨_, rfl⟩
  have htd : t.data.toList = T := by rw [ht]
  have hxd : x.data.toList = n := by rw [hx]
  have hyd : y.data.toList = d := by rw [hy]
  have hts : t.size ≤ 30000000 := by rw [Lib.size_eq, htd]; exact hTl
  have hxs : x.size ≤ 30000000 := by rw [Lib.size_eq, hxd]; exact hnl
  have hys : y.size ≤ 30000000 := by rw [Lib.size_eq, hyd]; exact hdl
  have HLO : Hid (Loose s.data.toList ↔ (Figs n ∧ (split = true → Figs d))) := by
    show _ ↔ _
    unfold Loose
    rw [hT, hC]
  have HZE : Hid (Zero s.data.toList ↔ (split = true ∧ dec d = 0)) := by
    show _ ↔ _
    unfold Zero
    rw [hT, hC]
  have HRA : Hid (ratOf s.data.toList = frac (decide (T.length < s.data.toList.length)) (dec n) (if split = true then dec d else 1)) := by
    show _ = _
    unfold ratOf
    simp only [hT, hC]
  have EXT := Lib.hid ht
  have EXX := Lib.hid hx
  have EXY := Lib.hid hy
  have ETD := Lib.hid htd
  have EXD := Lib.hid hxd
  have EYD := Lib.hid hyd
  have HT := Lib.hid hT
  have HC := Lib.hid hC
  have HOK := Lib.hid hok
  have HNL := Lib.hid (And.intro hnl hdl)
  have HS0 : Hid (Figs n → 0 < s.size) := by
    refine Lib.hid (fun h => ?_)
    have h1 := List.length_pos_iff.2 h.1
    have h2 := (RatSet.cut_le T 47).1
    rw [hC] at h2
    have h3 := RatSet.trim_le s.data.toList
    rw [hT, ← Lib.size_eq] at h3
    have h4 : n.length ≤ T.length := h2
    omega
  clear hT hC hok ht hx hy htd hxd hyd
  go_enter Tryz.func53, Tryz.ntmps53
  go_wp2_with fail
  refine (prefix_calls s _).mono ?_
  rintro e w1 ⟨rfl, rfl⟩
  rw [HT.out, ← EXT.out]
  go_wp2_with fail
  refine (cut_calls t 47 _ (by omega) HOK.out).mono ?_
  rintro e w2 ⟨rfl, hb⟩
  rw [ETD.out, HC.out, ← EXX.out, ← EXY.out]
  have HB2 := Lib.hid hb
  clear hb
  go_wp2_with fail
  by_cases hn : Figs n
  · have HN := Lib.hid hn
    refine (figures_yes x (by omega) (by rw [EXD.out]; exact hn) _).mono ?_
    rintro e w3 ⟨rfl, hb⟩
    have HB3 := Lib.hid (below_step HB2.out hb)
    clear hb hn
    have hgo : ∀ K : Prop, (split = true → ¬ Figs d → K) → ((split = true → Figs d) → K) → K := fun K h1 h2 => by
      by_cases hs : split = true ∧ ¬ Figs d
      · exact h1 hs.1 hs.2
      · exact h2 (fun h => Classical.not_not.1 fun h' => hs ⟨h, h'⟩)
    refine hgo _ (fun hsp hnd => ?_) (fun hnd => ?_)
    · have HNL : Hid (¬ Loose s.data.toList) := Lib.hid (fun h => hnd ((HLO.out.1 h).2 hsp))
      subst hsp
      have HND := Lib.hid hnd
      clear hgo hnd
      go_wp2_with fail
      refine (figures_no y (by omega) (by rw [EYD.out]; exact HND.out) _).mono ?_
      rintro e w4 ⟨rfl, hb⟩
      have HB4 := Lib.hid (below_step HB3.out hb)
      clear hb
      go_wp2_with fail
      go_ret2
      exact ⟨HB4.out, .inl ⟨HNL.out, rfl⟩⟩
    · have HND := Lib.hid hnd
      have HLS : Hid (Loose s.data.toList) := Lib.hid (HLO.out.2 ⟨HN.out, hnd⟩)
      clear hgo hnd
      have hs0 := HS0.out HN.out
      obtain ⟨m, hm⟩ : ∃ m, m = decide (s[0].toNat = 45) := ⟨_, rfl⟩
      have HME : Hid (decide (T.length < s.data.toList.length) = m) := by
        show _ = _
        rw [hm, ← trim_sign hs0, HT.out]
      cases split
      · have HNZ : Hid (¬ Zero s.data.toList) := Lib.hid (fun h => by have := (HZE.out.1 h).1; simp at this)
        have HRT : Hid (ratOf s.data.toList = frac (decide (T.length < s.data.toList.length)) (dec n) 1) := HRA
        have HSZ : Hid (Sizes.Sz (ratOf s.data.toList) 30000000) := by
          show Sizes.Sz _ _
          rw [HRT.out]
          have := HNL.out.1
          exact Sizes.sz_frac (by omega) (Nat.le_trans (lt_ten_limbs (dec_lt HN.out.2)) (by omega)) (by rw [Sizes.limbs_one]; omega)
        clear HLO HZE
        go_wp2_with fail

        have hbw : Below w3.heap.size w3 (w3.alloc (.cells #[.bool false, .slice none 0 0, .slice none 0 0] 47)) := (Below.refl _ _).alloc (Nat.le_refl _) _
        have HBK : Hid (Blk (w3.alloc (.cells #[.bool false, .slice none 0 0, .slice none 0 0] 47)) w3.heap.size #[.bool false, .slice none 0 0, .slice none 0 0]) := Lib.hid (Blk.alloc _ _ _)
        have HBA := Lib.hid (below_step HB3.out hbw)
        have HSW := Lib.hid HB3.out.size
        clear hbw HB3
        refine (tail_calls s x y false hs0 (by omega) (by omega) m hm _).mono ?_
        rintro e w5 ⟨rfl, hb⟩
        have HB5 := Lib.hid (below_step HBA.out hb)
        have HK5 := Lib.hid (HBK.out.same (hb.block _ HBK.out.lt))
        rw [EXD.out, EYD.out]
        obtain ⟨u, hu⟩ : ∃ u : ByteArray, u = bs (tailS m n d false) := ⟨_, rfl⟩
        have hud : u.data.toList = tailS m n d false := by rw [hu]
        have hus : u.size ≤ 100000000 := by
          rw [Lib.size_eq, hud]
          unfold tailS
          have h1 := short_len n
          have h2 := short_len d
          have h3 := HNL.out
          rw [List.length_append, List.length_append]
          have h4 : (if m = true then [45] else [] : List UInt8).length ≤ 1 := by cases m <;> simp
          have h5 : (if (false : Bool) = true then 47 :: short d else [] : List UInt8).length ≤ d.length + 2 := by simp; try omega
          omega
        have HUD := Lib.hid hud
        rw [← hu]
        clear hb hu hud HBK
        go_wp2_with fail
        refine (RatSet.calls u hus _ (short n) (if (false : Bool) = true then short d else []) false (by rw [HUD.out]; exact tail_trim HN.out) (tail_cut HN.out) ⟨short_ne n, short_dig HN.out.2⟩ (fun h => by simp at h) w3.heap.size false none none 0 0 0 0 _ HK5.out (HOK.out.below HB5.out)).mono ?_
        rintro e w6 ⟨ho, hk, hg⟩
        have HB6 := Lib.hid (below_grown HB5.out hg HSW.out)
        unfold RatSet.Out at ho
        rw [if_neg (by simp)] at ho
        obtain ⟨rfl, hr⟩ := ho
        rw [HUD.out, tail_len, dec_short] at hr
        have hq : frac m (dec n) (if (false : Bool) = true then dec (if (false : Bool) = true then short d else []) else 1) = ratOf s.data.toList := by
          rw [HRT.out, HME.out]
          rfl
        rw [hq] at hr
        have HR := Lib.hid hr
        clear hk hg hr hq HK5 HUD hus
        go_wp2_with fail
        refine (RatTell.text_calls (ratOf s.data.toList) (HSZ.out.mono (by omega)) _ _ HR.out).mono ?_
        rintro e w7 ⟨rfl, hb⟩
        have HB7 := Lib.hid (below_step HB6.out hb)
        clear hb
        go_wp2_with fail
        go_ret2
        exact ⟨HB7.out, .inr (.inr ⟨HLS.out, HNZ.out, rfl⟩)⟩
      · have HFD : Hid (Figs d) := Lib.hid (HND.out rfl)
        have HRT : Hid (ratOf s.data.toList = frac (decide (T.length < s.data.toList.length)) (dec n) (dec d)) := HRA
        have HZE' : Hid (Zero s.data.toList ↔ dec d = 0) := by
          show _ ↔ _
          rw [HZE.out]; simp
        clear HLO HZE HND
        go_wp2_with fail
        refine (figures_yes y (by omega) (by rw [EYD.out]; exact HFD.out) _).mono ?_
        rintro e w4 ⟨rfl, hb⟩
        have HB4 := Lib.hid (below_step HB3.out hb)
        clear hb HB3
        go_wp2_with fail
        refine (trim_zero y _ (by omega)).mono ?_
        rintro e w5 ⟨rfl, hb⟩
        have HB5 := Lib.hid (below_step HB4.out hb)
        rw [EYD.out]
        have hzi := zero_iff HFD.out.2
        clear hb HB4
        by_cases hd0 : dec d = 0
        · have HZ : Hid (Zero s.data.toList) := Lib.hid (HZE'.out.2 hd0)
          rw [hzi.2 hd0]
          clear hzi hd0
          go_wp2_with fail
          go_ret2
          exact ⟨HB5.out, .inr (.inl ⟨HLS.out, HZ.out, rfl⟩)⟩
        · have HNZ : Hid (¬ Zero s.data.toList) := Lib.hid (fun h => hd0 (HZE'.out.1 h))
          have HD0 := Lib.hid hd0
          have HSZ : Hid (Sizes.Sz (ratOf s.data.toList) 30000000) := by
            show Sizes.Sz _ _
            rw [HRT.out]
            have := HNL.out
            exact Sizes.sz_frac hd0 (Nat.le_trans (lt_ten_limbs (dec_lt HN.out.2)) (by omega)) (Nat.le_trans (lt_ten_limbs (dec_lt HFD.out.2)) (by omega))
          obtain ⟨z, hz⟩ : ∃ z : ByteArray, z = ⟨(Lib.trimS d [48]).toArray⟩ := ⟨_, rfl⟩
          have hz0 : z.toList ≠ [] := by rw [Lib.toList_data, hz]; exact fun h => hd0 (hzi.1 h)
          have hzb : z.toList.isEmpty = false := List.isEmpty_eq_false_iff.2 hz0
          have hzc : (z.toList == []) = false := beq_eq_false_iff_ne.2 hz0
          rw [← hz]
          clear hz hzi hd0
          go_wp2_with fail

          have hbw : Below w5.heap.size w5 (w5.alloc (.cells #[.bool false, .slice none 0 0, .slice none 0 0] 47)) := (Below.refl _ _).alloc (Nat.le_refl _) _
          have HBK : Hid (Blk (w5.alloc (.cells #[.bool false, .slice none 0 0, .slice none 0 0] 47)) w5.heap.size #[.bool false, .slice none 0 0, .slice none 0 0]) := Lib.hid (Blk.alloc _ _ _)
          have HBA := Lib.hid (below_step HB5.out hbw)
          have HSW := Lib.hid HB5.out.size
          clear hbw HB5
          refine (tail_calls s x y true hs0 (by omega) (by omega) m hm _).mono ?_
          rintro e w5' ⟨rfl, hb⟩
          have HB5' := Lib.hid (below_step HBA.out hb)
          have HK5 := Lib.hid (HBK.out.same (hb.block _ HBK.out.lt))
          rw [EXD.out, EYD.out]
          obtain ⟨u, hu⟩ : ∃ u : ByteArray, u = bs (tailS m n d true) := ⟨_, rfl⟩
          have hud : u.data.toList = tailS m n d true := by rw [hu]
          have hus : u.size ≤ 100000000 := by
            rw [Lib.size_eq, hud]
            unfold tailS
            have h1 := short_len n
            have h2 := short_len d
            have h3 := HNL.out
            rw [List.length_append, List.length_append]
            have h4 : (if m = true then [45] else [] : List UInt8).length ≤ 1 := by cases m <;> simp
            have h5 : (if (true : Bool) = true then 47 :: short d else [] : List UInt8).length ≤ d.length + 2 := by simp; try omega
            omega
          have HUD := Lib.hid hud
          rw [← hu]
          clear hb hu hud HBK
          go_wp2_with fail
          refine (RatSet.calls u hus _ (short n) (if (true : Bool) = true then short d else []) true (by rw [HUD.out]; exact tail_trim HN.out) (tail_cut HN.out) ⟨short_ne n, short_dig HN.out.2⟩ (fun _ => by rw [if_pos rfl]; exact ⟨short_ne d, short_dig HFD.out.2⟩) w5.heap.size false none none 0 0 0 0 _ HK5.out (HOK.out.below HB5'.out)).mono ?_
          rintro e w6 ⟨ho, hk, hg⟩
          have HB6 := Lib.hid (below_grown HB5'.out hg HSW.out)
          unfold RatSet.Out at ho
          rw [if_neg (fun h => HD0.out (by have := h.2; rw [if_pos rfl, dec_short] at this; exact this))] at ho
          obtain ⟨rfl, hr⟩ := ho
          rw [HUD.out, tail_len, dec_short] at hr
          have hq : frac m (dec n) (if (true : Bool) = true then dec (if (true : Bool) = true then short d else []) else 1) = ratOf s.data.toList := by
            rw [HRT.out, HME.out]
            rw [if_pos rfl, if_pos rfl, dec_short]
          rw [hq] at hr
          have HR := Lib.hid hr
          clear hk hg hr hq HK5 HUD hus
          go_wp2_with fail
          refine (RatTell.text_calls (ratOf s.data.toList) (HSZ.out.mono (by omega)) _ _ HR.out).mono ?_
          rintro e w7 ⟨rfl, hb⟩
          have HB7 := Lib.hid (below_step HB6.out hb)
          clear hb
          go_wp2_with fail
          go_ret2
          exact ⟨HB7.out, .inr (.inr ⟨HLS.out, HNZ.out, rfl⟩)⟩
  · have HNL : Hid (¬ Loose s.data.toList) := Lib.hid (fun h => hn (HLO.out.1 h).1)
    refine (figures_no x (by omega) (by rw [EXD.out]; exact hn) _).mono ?_
    rintro e w3 ⟨rfl, hb⟩
    have HB3 := Lib.hid (below_step HB2.out hb)
    clear hb hn
    go_wp2_with fail
    go_ret2
    exact ⟨HB3.out, .inl ⟨HNL.out, rfl⟩⟩

end Go.Proofs.YtjeamchaibialaaGreatDoor.CanonWalk

/- big's sum, tiny and take: the walks. -/
namespace Go.Proofs.YtjeamchaibialaaGreatDoor.SumWalk
open Go.RowKit Go.Proofs.YtjeamchaibialaaGreatDoorW.PrintWords Go.Proofs.YtjeamchaibialaaGreatDoorW.PrintLast Go.Proofs.YtjeamchaibialaaGreatDoorW.PrintMore Fns Limbs Pure1 Nats Go.Proofs.YtjeamchaibialaaGreatDoor.Told ReadWalk Texts Rats Parses Heaps Go.Proofs.YtjeamchaibialaaGreatDoor.Ints Go.Proofs.YtjeamchaibialaaGreatDoor.PutWalk

def Out (a b : Bool) (n m : Nat) (w : World) (e : Ending) (w' : World) : Prop := ∃ s v k, e = .returned (.tuple #[.bool s, v]) ∧ IsU w' v k ∧ sg s k = sg a n + sg b m ∧ (limbs k).length ≤ 100000000 ∧ Below w.heap.size w w'
theorem add_lim {n m : Nat} (hn : (limbs n).length ≤ 90000000) (hm : (limbs m).length ≤ 90000000) : (limbs (n + m)).length ≤ 100000000 := by
  have := limbs_len_add n m
  omega

set_option maxRecDepth 100000 in
theorem sum_calls (a b : Bool) (n m : Nat) (hn : (limbs n).length ≤ 90000000) (hm : (limbs m).length ≤ 90000000) (vn vm : Value) (w : World) (hN : Hid (IsU w vn n)) (hM : Hid (IsU w vm m)) :
    Calls Tryz.prog 113 #[.bool a, vn, .bool b, vm] w (Out a b n m w) := by
  have hgo : ∀ K : Bool → Bool → Prop, (∀ c, K c c) → K false true → K true false → K a b := fun K h1 h2 h3 => by cases a <;> cases b <;> first | exact h1 _ | exact h2 | exact h3
  have HL := Lib.hid (And.intro hn hm)
  refine hgo (fun a b => Calls Tryz.prog 113 #[.bool a, vn, .bool b, vm] w (Out a b n m w)) (fun c => ?_) ?_ ?_
  · clear hgo
    go_enter Tryz.func113, Tryz.ntmps113
    go_wp2_with fail
    refine (PlusWalk.calls n m (by omega) (by omega) _ _ _ hN hM).mono ?_
    rintro e w1 ⟨v, rfl, hv, hb⟩
    have HV := Lib.hid (And.intro hv hb)
    clear hv hb
    go_wp2_with fail
    go_ret2
    exact ⟨c, v, n + m, rfl, HV.out.1, by cases c <;> simp [sg] <;> omega, add_lim HL.out.1 HL.out.2, HV.out.2⟩
  all_goals
    clear hgo
    go_enter Tryz.func113, Tryz.ntmps113
    go_wp2_with fail
    refine (cmp_calls n m (by omega) (by omega) _ _ _ hN.out hM.out).mono ?_
    rintro e w1 ⟨rfl, ⟨dn, rfl⟩⟩
    have HN := Lib.hid (hN.out.below (Drawn0.below (w := w) ⟨dn, rfl⟩))
    have HM := Lib.hid (hM.out.below (Drawn0.below (w := w) ⟨dn, rfl⟩))
    have HD := Lib.hid (Drawn0.below (w := w) (w' := w.drewN dn) ⟨dn, rfl⟩)
    generalize w.drewN dn = w1 at *
    by_cases hle : m ≤ n
    · have hs : ¬ sgn n m < 0 := by unfold sgn; rw [if_neg (by omega)]; split <;> omega
      have hs2 : 0 ≤ sgn n m := by omega
      have HLE := Lib.hid hle
      generalize sgn n m = z at *
      clear hle
      go_wp2_with fail
      refine (MinusWalk.calls n m HLE.out (by omega) _ _ _ HN HM).mono ?_
      rintro e w2 ⟨v, rfl, hv, hb⟩
      have HV := Lib.hid (And.intro hv (below_step HD.out hb))
      clear hv hb
      go_wp2_with fail
      go_ret2
      exact ⟨_, v, n - m, rfl, HV.out.1, by have := HLE.out; simp [sg]; omega, Nat.le_trans (limbs_len_mono (Nat.sub_le _ _)) (by omega), HV.out.2⟩
    · have hs : sgn n m < 0 := by unfold sgn; rw [if_pos (by omega)]; omega
      have hs2 : ¬ 0 ≤ sgn n m := by omega
      have HLE := Lib.hid hle
      generalize sgn n m = z at *
      clear hle
      go_wp2_with fail
      refine (MinusWalk.calls m n (by have := HLE.out; omega) (by omega) _ _ _ HM HN).mono ?_
      rintro e w2 ⟨v, rfl, hv, hb⟩
      have HV := Lib.hid (And.intro hv (below_step HD.out hb))
      clear hv hb
      go_wp2_with fail
      go_ret2
      exact ⟨_, v, m - n, rfl, HV.out.1, by have := HLE.out; simp [sg]; omega, Nat.le_trans (limbs_len_mono (Nat.sub_le _ _)) (by omega), HV.out.2⟩

end Go.Proofs.YtjeamchaibialaaGreatDoor.SumWalk

/- big's tiny and take: the walks. -/
namespace Go.Proofs.YtjeamchaibialaaGreatDoor.TinyWalk
open Go.RowKit Go.Proofs.YtjeamchaibialaaGreatDoorW.PrintWords Go.Proofs.YtjeamchaibialaaGreatDoorW.PrintLast Go.Proofs.YtjeamchaibialaaGreatDoorW.PrintMore Fns Limbs Pure1 Nats Go.Proofs.YtjeamchaibialaaGreatDoor.Told ReadWalk Texts Rats Parses Heaps Go.Proofs.YtjeamchaibialaaGreatDoor.Ints Go.Proofs.YtjeamchaibialaaGreatDoor.PutWalk

def Small (q : Rat) : Prop := q.num.natAbs < 1000000000 ∧ q.den < 1000000000
theorem len_big {n : Nat} (h : 1000000000 ≤ n) : 1 < (limbs n).length := by
  refine Nat.lt_of_not_le fun hc => ?_
  have h1 := limbs_lt (n := n)
  have h2 := pw_mono hc
  have h3 : pw 1 = 1000000000 := by simp [pw]
  omega
theorem len_small {n : Nat} (h0 : n ≠ 0) (h : n < 1000000000) : (limbs n).length = 1 := by rw [limbs_unit (by omega) h]; rfl
theorem beq_false {a b : Int} (h : a ≠ b) : (a == b) = false := beq_eq_false_iff_ne.2 h

set_option maxRecDepth 100000 in
theorem tiny_no (q : Rat) (hq : ¬ Small q) (g : Nat) (w : World) (h : RatAt w g q) :
    Calls Tryz.prog 144 #[.pointer (some ⟨g, 0, none⟩)] w fun e w' => e = .returned (.tuple #[.int .i64 0, .int .i64 0, .bool false]) ∧ w' = w := by
  obtain ⟨A, B, c, d, hB, hn, hd⟩ := h
  have hc1 : w.cell? ⟨g, 1, none⟩ = some (.slice A (limbs q.num.natAbs).length c) := hB.cell 1
  have hc2 : w.cell? ⟨g, 2, none⟩ = some (.slice B (under q.den).length d) := hB.cell 2
  go_enter Tryz.func144, Tryz.ntmps144
  by_cases h1 : 1 < (limbs q.num.natAbs).length
  · clear hB hn hd
    go_wp2_with fail
    go_ret3
    exact ⟨rfl, rfl⟩
  · have h2 : 1 < (under q.den).length := by
      have hd9 : 1000000000 ≤ q.den := by
        refine Nat.le_of_not_lt fun hc => hq ⟨?_, hc⟩
        exact Nat.lt_of_not_le fun hc2 => h1 (len_big hc2)
      rw [show under q.den = limbs q.den from if_neg (by omega)]
      exact len_big hd9
    clear hB hn hd
    go_wp2_with fail
    go_ret3
    exact ⟨rfl, rfl⟩

set_option maxRecDepth 100000 in
set_option maxHeartbeats 400000 in
theorem tiny_yes (q : Rat) (hq : Small q) (g : Nat) (w : World) (h : RatAt w g q) :
    Calls Tryz.prog 144 #[.pointer (some ⟨g, 0, none⟩)] w fun e w' => e = .returned (.tuple #[.int .i64 q.num, .int .i64 q.den, .bool true]) ∧ w' = w := by
  obtain ⟨A, B, c, d, hB, hn, hd⟩ := h
  have hc0 : w.cell? ⟨g, 0, none⟩ = some (.bool (decide (q.num < 0))) := hB.cell 0
  have hc1 : w.cell? ⟨g, 1, none⟩ = some (.slice A (limbs q.num.natAbs).length c) := hB.cell 1
  have hc2 : w.cell? ⟨g, 2, none⟩ = some (.slice B (under q.den).length d) := hB.cell 2
  have hq1 := hq.1
  have hq2 := hq.2
  have hdz := q.den_nz
  clear hB
  have hden : (under q.den).length = 0 ∧ q.den = 1 ∨ ∃ ad, B = some ad ∧ (under q.den).length = 1 ∧ w.cell? ad = some (.int .u32 q.den) := by
    by_cases h1 : q.den = 1
    · exact .inl ⟨by rw [h1]; rfl, h1⟩
    · right
      have hu : under q.den = limbs q.den := if_neg h1
      rw [hu] at hd ⊢
      have hl := len_small hdz hq2
      obtain ⟨ad, x, rfl, hcx, hx⟩ := cell_one (show IsU w _ q.den from hd) (by omega)
      rw [hx (by omega)] at hcx
      exact ⟨ad, rfl, hl, hcx⟩
  have hnum : (limbs q.num.natAbs).length = 0 ∧ q.num = 0 ∨ ∃ ad, A = some ad ∧ (limbs q.num.natAbs).length = 1 ∧ w.cell? ad = some (.int .u32 q.num.natAbs) := by
    by_cases h1 : q.num.natAbs = 0
    · exact .inl ⟨by rw [h1, len_zero], by omega⟩
    · right
      have hl := len_small h1 hq1
      obtain ⟨ad, x, rfl, hcx, hx⟩ := cell_one hn (by omega)
      rw [hx (by omega)] at hcx
      exact ⟨ad, rfl, hl, hcx⟩
  clear hn hd
  have hs : Hid (sg (decide (q.num < 0)) q.num.natAbs = q.num) := sg_self q.num
  generalize (under q.den).length = ld at *
  generalize (limbs q.num.natAbs).length = ln at *
  go_enter Tryz.func144, Tryz.ntmps144
  rcases hden with ⟨rfl, hd1⟩ | ⟨ad, rfl, rfl, hcd⟩ <;> rcases hnum with ⟨rfl, hn1⟩ | ⟨an, rfl, rfl, hcn⟩
  · rw [hn1] at hc0
    have H := Lib.hid (And.intro hd1 hn1)
    clear hd1 hn1
    go_wp2_with fail
    go_ret3
    exact ⟨by rw [H.out.1, H.out.2]; rfl, rfl⟩
  · have H := Lib.hid hd1
    clear hd1
    generalize q.num.natAbs = n at *
    by_cases hz : q.num < 0
    · rw [decide_eq_true hz] at hc0 hs
      have hm : q.num = -(n : Int) := by have := hs.out; simp [sg] at this; omega
      have HM := Lib.hid hm
      have hw : IntKind.i64.wrap (-(n : Int)) = -(n : Int) := IntWalk.i64_in _ (by omega)
      clear hz hm
      go_wp2_with fail
      go_ret3
      exact ⟨by rw [H.out, HM.out]; rfl, rfl⟩
    · rw [decide_eq_false hz] at hc0 hs
      have hm : q.num = (n : Int) := by have := hs.out; simp [sg] at this; omega
      have HM := Lib.hid hm
      clear hz hm
      go_wp2_with fail
      go_ret3
      exact ⟨by rw [H.out, HM.out]; rfl, rfl⟩
  · rw [hn1] at hc0
    have H := Lib.hid hn1
    clear hn1
    generalize q.den = dd at *
    go_wp2_with fail
    go_ret3
    exact ⟨by rw [H.out]; rfl, rfl⟩
  · generalize q.den = dd at *
    generalize q.num.natAbs = n at *
    by_cases hz : q.num < 0
    · rw [decide_eq_true hz] at hc0 hs
      have hm : q.num = -(n : Int) := by have := hs.out; simp [sg] at this; omega
      have HM := Lib.hid hm
      have hw : IntKind.i64.wrap (-(n : Int)) = -(n : Int) := IntWalk.i64_in _ (by omega)
      clear hz hm
      go_wp2_with fail
      go_ret3
      exact ⟨by rw [HM.out]; rfl, rfl⟩
    · rw [decide_eq_false hz] at hc0 hs
      have hm : q.num = (n : Int) := by have := hs.out; simp [sg] at this; omega
      have HM := Lib.hid hm
      clear hz hm
      go_wp2_with fail
      go_ret3
      exact ⟨by rw [HM.out]; rfl, rfl⟩

end Go.Proofs.YtjeamchaibialaaGreatDoor.TinyWalk

/- big's take: the walk. -/
namespace Go.Proofs.YtjeamchaibialaaGreatDoor.TakeWalk
open Go.RowKit Go.Proofs.YtjeamchaibialaaGreatDoorW.PrintWords Go.Proofs.YtjeamchaibialaaGreatDoorW.PrintLast Go.Proofs.YtjeamchaibialaaGreatDoorW.PrintMore Fns Limbs Pure1 Nats Go.Proofs.YtjeamchaibialaaGreatDoor.Told ReadWalk Texts Rats Parses Heaps Go.Proofs.YtjeamchaibialaaGreatDoor.Ints Go.Proofs.YtjeamchaibialaaGreatDoor.PutWalk

theorem Blk.drawn {w w' : World} {g : Nat} {cur : Array Value} (h : Blk w g cur) (hd : Drawn0 w w') : Blk w' g cur := h.same ((Drawn0.below hd).block g h.lt)

theorem ratAt_zero {w : World} {g : Nat} {A B : Option Addr} {c e : Nat} {q : Rat} (hq : q.num = 0) (h : Blk w g #[.bool false, .slice A 0 c, .slice B 0 e]) : RatAt w g q := by
  rw [Rat.num_eq_zero.1 hq]
  refine ⟨A, B, c, e, ?_, ?_, ?_⟩
  · rw [show (0 : Rat).num.natAbs = 0 from rfl, len_zero]; exact h
  · rw [show (0 : Rat).num.natAbs = 0 from rfl, len_zero]; exact isU_nil _ _ _
  · exact NatV.nil _ _ _ _

set_option maxRecDepth 100000 in
set_option maxHeartbeats 400000 in
theorem calls (neg : Bool) (N d : Nat) (hneg : neg = true → N ≠ 0) (hN : N < 9000000000000000000) (hd0 : d ≠ 0) (hd : d < 9000000000000000000) (g : Nat) (b0 : Bool) (A0 B0 : Option Addr) (n0 c0 m0 d0 : Nat) (w : World)
    (hB : Blk w g #[.bool b0, .slice A0 n0 c0, .slice B0 m0 d0]) :
    Calls Tryz.prog 145 #[.pointer (some ⟨g, 0, none⟩), .int .i64 (sg neg N), .int .i64 d] w fun e w' => e = .returned (.pointer (some ⟨g, 0, none⟩)) ∧ RatAt w' g (frac neg N d) ∧ Keeps w w' ∧ w.grownBy w' (some g) := by
  have HB := Lib.hid hB
  clear hB
  go_enter Tryz.func145, Tryz.ntmps145
  go_upto_region 1 with fail
  go_cut [7] (fun v wx => v = .bool neg ∧ wx = w)
  case first =>
    cases neg
    · have h1 : ¬ sg false N < 0 := by simp [sg]
      have h2 : 0 ≤ sg false N := by simp [sg]
      generalize sg false N = z at *
      go_wp2_with fail
      go_meet
      case rel => exact ⟨rfl, rfl⟩
    · have h0 := hneg rfl
      have h1 : sg true N < 0 := by simp [sg]; omega
      generalize sg true N = z at *
      go_wp2_with fail
      go_meet
      case rel => exact ⟨rfl, rfl⟩
  case rest =>
    obtain ⟨rfl, hw⟩ := hcut
    rw [hw]
    clear hw
    go_upto_if 12 with fail
    go_cut [1] (fun v wx => v = .int .i64 N ∧ wx = w)
    case first =>
      cases neg
      · rw [sg_false]
        go_wp2_with fail
        go_meet
        case rel => exact ⟨rfl, rfl⟩
      · have hw : IntKind.i64.wrap (-(sg true N)) = (N : Int) := by rw [show -(sg true N) = (N : Int) from by simp [sg]]; exact IntWalk.i64_in _ (by omega)
        generalize sg true N = z at *
        go_wp2_with fail
        go_meet
        case rel => exact ⟨rfl, rfl⟩
    case rest =>
      obtain ⟨rfl, hw⟩ := hcut
      rw [hw]
      clear hw
      go_wp2_with fail
      go_loopw [8, 9] (fun v8 v9 wr => ∃ p q : Nat, v8 = .int .i64 p ∧ v9 = .int .i64 q ∧ p < 9000000000000000000 ∧ q < 9000000000000000000 ∧ Hid (Nat.gcd p q = Nat.gcd N d) ∧ Hid (Blk wr g #[.bool b0, .slice A0 n0 c0, .slice B0 m0 d0] ∧ Below w.heap.size w wr)) (fun _ v9 _ => (intOf v9).toNat)
      case atStart => exact ⟨N, d, rfl, rfl, hN, hd, Lib.hid rfl, Lib.hid ⟨HB.out, Below.refl _ _⟩⟩
      case round =>
        obtain ⟨p, q, rfl, rfl, hp, hq, hpq, hbs⟩ := hrel
        by_cases hq0 : q = 0
        · subst hq0
          have hk : p = Nat.gcd N d := by have := hpq.out; rw [Nat.gcd_zero_right] at this; exact this
          have hkp : 0 < p := by rw [hk]; exact Nat.gcd_pos_of_pos_right _ (by omega)
          have HKN : Hid (p ∣ N) := by show p ∣ N; rw [hk]; exact Nat.gcd_dvd_left _ _
          have HKD : Hid (p ∣ d) := by show p ∣ d; rw [hk]; exact Nat.gcd_dvd_right _ _
          have HQ : Hid ((frac neg N d).num = sg neg (N / p) ∧ (frac neg N d).den = d / p) := by rw [hk]; exact ⟨frac_num hd0, frac_den hd0⟩
          clear hk hpq
          go_upto_if 24 with fail
          go_cut [1, 2] (fun v1 v2 wx => v1 = .int .i64 (N / p : Nat) ∧ v2 = .int .i64 (d / p : Nat) ∧ Hid (Blk wx g #[.bool b0, .slice A0 n0 c0, .slice B0 m0 d0] ∧ Below w.heap.size w wx))
          case first =>
            by_cases h1 : p = 1
            · subst h1
              go_wp2_with fail
              go_meet
              case rel => exact ⟨by rw [Nat.div_one], by rw [Nat.div_one], hbs⟩
            · have hp1 : (1 : Int) < p := by omega
              obtain ⟨x, hx⟩ : ∃ x, x = N / p := ⟨_, rfl⟩
              obtain ⟨y, hy⟩ : ∃ y, y = d / p := ⟨_, rfl⟩
              have hx9 : x < 9000000000000000000 := by rw [hx]; exact Nat.lt_of_le_of_lt (Nat.div_le_self _ _) hN
              have hy9 : y < 9000000000000000000 := by rw [hy]; exact Nat.lt_of_le_of_lt (Nat.div_le_self _ _) hd
              have X1 : Int.tdiv (N : Int) p = x := by rw [Int.tdiv_eq_ediv_of_nonneg (by omega), ← Int.natCast_ediv, ← hx]
              have X2 : (N : Int) / p = x := by rw [← Int.natCast_ediv, ← hx]
              have X3 : Int.tdiv (d : Int) p = y := by rw [Int.tdiv_eq_ediv_of_nonneg (by omega), ← Int.natCast_ediv, ← hy]
              have X4 : (d : Int) / p = y := by rw [← Int.natCast_ediv, ← hy]
              have W1 : IntKind.i64.wrap (x : Int) = x := IntWalk.i64_in _ (by omega)
              have W2 : IntKind.i64.wrap (y : Int) = y := IntWalk.i64_in _ (by omega)
              have W3 : IntKind.i64.wrap (Int.tdiv (N : Int) p) = x := by rw [X1]; exact W1
              have W4 : IntKind.i64.wrap (Int.tdiv (d : Int) p) = y := by rw [X3]; exact W2
              have W5 : IntKind.i64.wrap ((N : Int) / p) = x := by rw [X2]; exact W1
              have W6 : IntKind.i64.wrap ((d : Int) / p) = y := by rw [X4]; exact W2
              have hz : ((p : Int) == 0) = false := beq_eq_false_iff_ne.2 (by omega)
              have hz' : (p : Int) ≠ 0 := by omega
              have HX := Lib.hid hx
              have HY := Lib.hid hy
              clear hx hy
              go_wp2_with fail
              go_quiet (fail)
              go_wp2_with fail
              go_meet
              case rel => exact ⟨by rw [HX.out], by rw [HY.out], Lib.hid ⟨Blk.drawn hbs.out.1 ⟨_, rfl⟩, below_step hbs.out.2 (Drawn0.below ⟨_, rfl⟩)⟩⟩
          case rest =>
            obtain ⟨rfl, rfl, hbs⟩ := hcut
            have hx0 : (N / p = 0 ↔ N = 0) := by
              constructor
              · intro h
                obtain ⟨k, hk⟩ := HKN.out
                rw [hk, Nat.mul_div_cancel_left _ hkp] at h
                rw [hk, h]; rfl
              · intro h; rw [h]; exact Nat.zero_div _
            have hy0 : d / p ≠ 0 := by
              obtain ⟨k, hk⟩ := HKD.out
              rw [hk, Nat.mul_div_cancel_left _ hkp]
              intro h; rw [h] at hk; omega
            have hx9 : N / p < 9000000000000000000 := Nat.lt_of_le_of_lt (Nat.div_le_self _ _) hN
            have hy9 : d / p < 9000000000000000000 := Nat.lt_of_le_of_lt (Nat.div_le_self _ _) hd
            have hng : neg = true → N / p ≠ 0 := fun h h2 => hneg h (hx0.1 h2)
            have HNG := Lib.hid hng
            clear hx0 HKN HKD hng hneg
            generalize N / p = x at *
            generalize d / p = y at *
            have hBc := hbs.out.1
            have W1 : IntKind.u64.wrap (x : Int) = x := IntWalk.u64_in _ (by omega)
            have W2 : IntKind.u64.wrap (y : Int) = y := IntWalk.u64_in _ (by omega)
            go_wp2_with fail
            refine (natOf_calls x (by omega) _).mono ?_
            rintro e w2 ⟨v2, rfl, h2, hb2⟩
            have hB2 := hBc.same (hb2.block g hBc.lt)
            obtain ⟨A2, c2, rfl, hc2'⟩ := h2.form
            have H2 := Lib.hid h2
            have HBL := Lib.hid (below_step hbs.out.2 hb2)
            have hc0 : w2.cell? ⟨g, 0, none⟩ = some (.bool b0) := hB2.cell 0
            have hc1 : w2.cell? ⟨g, 1, none⟩ = some (.slice A0 n0 c0) := hB2.cell 1
            have hc2 : w2.cell? ⟨g, 2, none⟩ = some (.slice B0 m0 d0) := hB2.cell 2
            have hf0 := hB2.frozen 0
            have hf1 := hB2.frozen 1
            have hf2 := hB2.frozen 2
            have HB2 := Lib.hid hB2
            clear h2 hb2 hBc hB2 hbs
            go_upto_region 10 with fail
            obtain ⟨h1, h2, h3⟩ := set3 (b' := neg) (A' := A2) (n' := (limbs x).length) (c' := c2) (B' := none) (m' := 0) (d' := 0) HB2.out
            obtain ⟨W, hW⟩ : ∃ W, W = (((w2.setCell ⟨g, 0, none⟩ (.bool neg)).setCell ⟨g, 1, none⟩ (.slice A2 (limbs x).length c2)).setCell ⟨g, 2, none⟩ (.slice none 0 0)) := ⟨_, rfl⟩
            rw [← hW] at h1 h2 h3 ⊢
            clear hW hc0 hc1 hc2 hf0 hf1 hf2
            have HN3 := Lib.hid (IsU.keeps H2.out h2)
            have HK3 := Lib.hid ((Keeps.below HBL.out).trans h2)
            have HG3 := Lib.hid ((grown_below (row := some g) HBL.out).trans h3)
            have H1 := Lib.hid h1
            clear h1 h2 h3
            by_cases hx0 : x = 0
            · subst hx0
              have hnf : neg = false := by cases neg; rfl; exact absurd rfl (HNG.out rfl)
              subst hnf
              have HQ0 : Hid ((frac false N d).num = 0) := by rw [HQ.out.1]; rfl
              rw [len_zero] at H1
              rw [len_zero]
              go_wp2_with fail
              go_ret
              exact ⟨rfl, ratAt_zero HQ0.out H1.out, HK3.out, HG3.out⟩
            · have hxp : 0 < (x : Int) := by omega
              have HX0 := Lib.hid hx0
              clear hx0
              by_cases hy1 : y = 1
              · have HY1 := Lib.hid hy1
                have hy2 : ¬ 1 < (y : Int) := by omega
                clear hy1
                go_wp2_with fail
                go_ret
                exact ⟨rfl, ratAt_one H1.out HN3.out HX0.out HQ.out.1 (HQ.out.2.trans HY1.out), HK3.out, HG3.out⟩
              · have HY1 := Lib.hid hy1
                have hy2 : 1 < (y : Int) := by omega
                clear hy1
                go_wp2_with fail
                refine (natOf_calls y (by omega) _).mono ?_
                rintro e w4 ⟨v4, rfl, h4, hb4⟩
                obtain ⟨A4, c4, rfl, hc4'⟩ := h4.form
                have h1 := H1.out.same (hb4.block g H1.out.lt)
                have hc2 : w4.cell? ⟨g, 2, none⟩ = some (.slice none 0 0) := h1.cell 2
                have hf2 := h1.frozen 2
                have h2 := h1.set 2 (.slice A4 (limbs y).length c4)
                have h3 := Keeps.set h1 flat3 2 (.slice A4 (limbs y).length c4)
                have H := Lib.hid (And.intro h2 (And.intro h3 (And.intro (IsU.keeps (HN3.out.below hb4) h3) (And.intro (IsU.keeps h4 h3) (And.intro (HK3.out.trans ((Keeps.below hb4).trans h3)) (HG3.out.trans ((grown_below hb4).trans (grown_set w4 g 2 (.slice A4 (limbs y).length c4)))))))))
                clear h1 h2 h3 h4 hb4
                go_wp2_with fail
                go_ret
                exact ⟨rfl, ratAt_big H.out.1 H.out.2.2.1 H.out.2.2.2.1 HX0.out HY1.out HQ.out.1 HQ.out.2, H.out.2.2.2.2.1, H.out.2.2.2.2.2⟩
        · have hqp : 0 < q := by omega
          obtain ⟨r, hr⟩ : ∃ r, r = p % q := ⟨_, rfl⟩
          have hrq : r < q := by rw [hr]; exact Nat.mod_lt _ hqp
          have Y2 : Int.tmod (p : Int) q = r := by
            rw [Int.tmod_eq_emod_of_nonneg (by omega), ← Int.natCast_emod, ← hr]
          have Y1 : (p : Int) % q = r := by rw [← Int.natCast_emod, ← hr]
          have Y4 : IntKind.i64.wrap (r : Int) = r := IntWalk.i64_in _ (by omega)
          have Y3 : IntKind.i64.wrap (Int.tmod (p : Int) q) = r := by rw [Y2]; exact Y4
          have Y5 : IntKind.i64.wrap ((p : Int) % q) = r := by rw [Y1]; exact Y4
          have hz : ((q : Int) == 0) = false := beq_eq_false_iff_ne.2 (by omega)
          have hz' : (q : Int) ≠ 0 := by omega
          have HRR := Lib.hid hr
          clear hr
          go_wp2_with fail
          go_quiet (fail)
          go_wp2_with fail
          go_roundw
          case rel => exact ⟨q, r, rfl, rfl, hq, by omega, by show Nat.gcd q r = _; rw [HRR.out, Nat.gcd_comm, ← Nat.gcd_rec, Nat.gcd_comm]; exact hpq.out, Lib.hid ⟨Blk.drawn hbs.out.1 ⟨_, rfl⟩, below_step hbs.out.2 (Drawn0.below ⟨_, rfl⟩)⟩⟩
          case measure => simp [intOf]; omega

end Go.Proofs.YtjeamchaibialaaGreatDoor.TakeWalk

/- big's fractions: what the reckoning calls stand on. -/
namespace Go.Proofs.YtjeamchaibialaaGreatDoor.Ops
open Go.RowKit Go.Proofs.YtjeamchaibialaaGreatDoorW.PrintWords Go.Proofs.YtjeamchaibialaaGreatDoorW.PrintLast Go.Proofs.YtjeamchaibialaaGreatDoorW.PrintMore Fns Limbs Pure1 Nats Go.Proofs.YtjeamchaibialaaGreatDoor.Told ReadWalk Texts Rats Parses Heaps Go.Proofs.YtjeamchaibialaaGreatDoor.Ints Go.Proofs.YtjeamchaibialaaGreatDoor.PutWalk

theorem isU_below {w w' : World} {v : Value} {n : Nat} (h : IsU w v n) (hb : Below w.heap.size w w') : IsU w' v n := NatV.below h hb
def Fit (w : World) (g : Nat) : Prop := ∃ b A n c B m d, Blk w g #[.bool b, .slice A n c, .slice B m d]
theorem _root_.Go.Proofs.YtjeamchaibialaaGreatDoor.Heaps.RatAt.fit {w : World} {g : Nat} {q : Rat} (h : RatAt w g q) : Fit w g := by
  obtain ⟨A, B, c, d, h, _⟩ := h
  exact ⟨_, _, _, _, _, _, _, h⟩
theorem Fit.below {w w' : World} {g : Nat} (h : Fit w g) (hb : Below w.heap.size w w') : Fit w' g := by
  obtain ⟨b, A, n, c, B, m, d, h⟩ := h
  exact ⟨b, A, n, c, B, m, d, h.same (hb.block g h.lt)⟩
def Out (r : Rat) (g : Nat) (w : World) (e : Ending) (w' : World) : Prop := e = .returned (.pointer (some ⟨g, 0, none⟩)) ∧ RatAt w' g r ∧ Keeps w w' ∧ w.grownBy w' (some g)
structure Args (w : World) (gx gy g : Nat) (p q : Rat) (vx vy : Value) (W : World) : Prop where
  x : RatAt W gx p
  y : RatAt W gy q
  nx : IsU W vx p.num.natAbs
  ny : IsU W vy q.num.natAbs
  z : Fit W g
  keeps : Keeps w W
  grown : w.grownBy W (some g)
theorem Args.below {w : World} {gx gy g : Nat} {p q : Rat} {vx vy : Value} {W W' : World} (h : Args w gx gy g p q vx vy W) (hb : Below W.heap.size W W') : Args w gx gy g p q vx vy W' :=
  ⟨h.x.below hb, h.y.below hb, isU_below h.nx hb, isU_below h.ny hb, h.z.below hb, h.keeps.trans (Keeps.below hb), h.grown.trans (grown_below hb)⟩
theorem Args.put {w : World} {gx gy g : Nat} {p q r : Rat} {vx vy : Value} {W W' : World} (h : Args w gx gy g p q vx vy W) (h1 : g ≠ gx) (h2 : g ≠ gy) (hr : RatAt W' g r) (hk : Keeps W W') (hg : W.grownBy W' (some g)) : Args w gx gy g p q vx vy W' :=
  ⟨h.x.grown hk hg (fun e => h1 e.symm), h.y.grown hk hg (fun e => h2 e.symm), IsU.keeps h.nx hk, IsU.keeps h.ny hk, hr.fit, h.keeps.trans hk, h.grown.trans hg⟩
theorem cell_below {W W' : World} {a : Addr} {v : Value} (h : W.cell? a = some v) (hb : Below W.heap.size W W') : W'.cell? a = some v := (World.cell?_of_block (hb.block _ (World.block_lt_of_cell? W _ h))).trans h
theorem cell_grown {W W' : World} {x i g : Nat} {v : Value} (h : W.cell? ⟨x, i, none⟩ = some v) (hg : W.grownBy W' (some g)) (hx : g ≠ x) : W'.cell? ⟨x, i, none⟩ = some v :=
  (World.cell?_of_block (hg.block _ (World.block_lt_of_cell? W _ h) (fun e => by injection e with e; exact hx e.symm))).trans h
def Cells (gx gy : Nat) (bx by_ vx vy : Value) (W : World) : Prop := W.cell? ⟨gx, 0, none⟩ = some bx ∧ W.cell? ⟨gy, 0, none⟩ = some by_ ∧ W.cell? ⟨gx, 1, none⟩ = some vx ∧ W.cell? ⟨gy, 1, none⟩ = some vy
theorem held_below {w : World} {gx gy g : Nat} {p q : Rat} {vx vy bx by_ : Value} {W W' : World} (h : W.cell? ⟨gx, 0, none⟩ = some bx ∧ W.cell? ⟨gy, 0, none⟩ = some by_ ∧ W.cell? ⟨gx, 1, none⟩ = some vx ∧ W.cell? ⟨gy, 1, none⟩ = some vy ∧ Args w gx gy g p q vx vy W) (hb : Below W.heap.size W W') :
    W'.cell? ⟨gx, 0, none⟩ = some bx ∧ W'.cell? ⟨gy, 0, none⟩ = some by_ ∧ W'.cell? ⟨gx, 1, none⟩ = some vx ∧ W'.cell? ⟨gy, 1, none⟩ = some vy ∧ Args w gx gy g p q vx vy W' :=
  ⟨cell_below h.1 hb, cell_below h.2.1 hb, cell_below h.2.2.1 hb, cell_below h.2.2.2.1 hb, h.2.2.2.2.below hb⟩
theorem held_put {w : World} {gx gy g : Nat} {p q r : Rat} {vx vy bx by_ : Value} {W W' : World} (h : W.cell? ⟨gx, 0, none⟩ = some bx ∧ W.cell? ⟨gy, 0, none⟩ = some by_ ∧ W.cell? ⟨gx, 1, none⟩ = some vx ∧ W.cell? ⟨gy, 1, none⟩ = some vy ∧ Args w gx gy g p q vx vy W) (h1 : g ≠ gx) (h2 : g ≠ gy) (hr : RatAt W' g r) (hk : Keeps W W') (hg : W.grownBy W' (some g)) :
    W'.cell? ⟨gx, 0, none⟩ = some bx ∧ W'.cell? ⟨gy, 0, none⟩ = some by_ ∧ W'.cell? ⟨gx, 1, none⟩ = some vx ∧ W'.cell? ⟨gy, 1, none⟩ = some vy ∧ Args w gx gy g p q vx vy W' :=
  ⟨cell_grown h.1 hg h1, cell_grown h.2.1 hg h2, cell_grown h.2.2.1 hg h1, cell_grown h.2.2.2.1 hg h2, h.2.2.2.2.put h1 h2 hr hk hg⟩
theorem put_fit (neg : Bool) (n d : Nat) (hd0 : d ≠ 0) (hln : (limbs n).length ≤ 100000000) (hld : (limbs d).length ≤ 100000000) (g : Nat) (vn vd : Value) (w : World) (hB : Fit w g) (hN : IsU w vn n) (hD : IsU w vd d) :
    Calls Tryz.prog 108 #[.pointer (some ⟨g, 0, none⟩), .bool neg, vn, vd] w (Out (frac neg n d) g w) := by
  obtain ⟨b, A, n0, c, B, m, d0, hB⟩ := hB
  exact PutWalk.calls neg n d hd0 hln hld g b A B n0 c m d0 vn vd w hB (Lib.hid hN) (Lib.hid hD)
theorem take_fit (neg : Bool) (N d : Nat) (hneg : neg = true → N ≠ 0) (hN : N < 9000000000000000000) (hd0 : d ≠ 0) (hd : d < 9000000000000000000) (g : Nat) (w : World) (hB : Fit w g) :
    Calls Tryz.prog 145 #[.pointer (some ⟨g, 0, none⟩), .int .i64 (sg neg N), .int .i64 d] w (Out (frac neg N d) g w) := by
  obtain ⟨b, A, n0, c, B, m, d0, hB⟩ := hB
  exact TakeWalk.calls neg N d hneg hN hd0 hd g b A B n0 c m d0 w hB

theorem take_z (z : Int) (d : Nat) (hz : z.natAbs < 9000000000000000000) (hd0 : d ≠ 0) (hd : d < 9000000000000000000) (g : Nat) (w : World) (hB : Fit w g) :
    Calls Tryz.prog 145 #[.pointer (some ⟨g, 0, none⟩), .int .i64 z, .int .i64 d] w (Out (mkRat z d) g w) := by
  have h := take_fit (decide (z < 0)) z.natAbs d (fun h e => by have := of_decide_eq_true h; omega) hz hd0 hd g w hB
  unfold frac at h
  rw [sg_self] at h
  exact h
theorem nx_of {w : World} {gx gy g : Nat} {p q : Rat} {vx vy bx by_ : Value} {W : World} (h : W.cell? ⟨gx, 0, none⟩ = some bx ∧ W.cell? ⟨gy, 0, none⟩ = some by_ ∧ W.cell? ⟨gx, 1, none⟩ = some vx ∧ W.cell? ⟨gy, 1, none⟩ = some vy ∧ Args w gx gy g p q vx vy W) : Args w gx gy g p q vx vy W := h.2.2.2.2
theorem mul_lt {a b : Nat} (ha : a < 1000000000) (hb : b < 1000000000) : a * b < 1000000000000000000 := by
  have h1 := Nat.mul_le_mul (show a ≤ 999999999 by omega) (show b ≤ 999999999 by omega)
  omega

end Go.Proofs.YtjeamchaibialaaGreatDoor.Ops
