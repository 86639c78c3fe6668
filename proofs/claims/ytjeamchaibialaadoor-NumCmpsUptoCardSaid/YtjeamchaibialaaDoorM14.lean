/- Joined: Floor TopCmps -/
import Derived.Test.YtjeamchaibialaaDoorM16
import Derived.Test.YtjeamchaibialaaDoorM4
import Derived.Test.YtjeamchaibialaaDoorM2
import Derived.Deep.RegionHeld3
import Derived.Test.YtjeamchaibialaaDoorM11
set_option linter.unusedVariables false
set_option linter.unusedSimpArgs false
/- num's floor: the walks. -/
namespace Go.Proofs.YtjeamchaibialaaDoor.FloorWalk
open Go.RowKit Go.Proofs.YtjeamchaibialaaDoorW.PrintWords Go.Proofs.YtjeamchaibialaaDoorW.PrintLast Go.Proofs.YtjeamchaibialaaDoorW.PrintMore Fns Limbs Pure1 Nats Go.Proofs.YtjeamchaibialaaDoor.Told ReadWalk Texts Rats Parses Heaps Go.Proofs.YtjeamchaibialaaDoor.Ints Go.Proofs.YtjeamchaibialaaDoor.Splits Go.Proofs.YtjeamchaibialaaDoor.RatTell

set_option maxRecDepth 100000 in
set_option maxHeartbeats 1000000 in
theorem denom_calls (q : Rat) (g : Nat) (w : World) (h : RatAt w g q) :
    Calls Tryd.prog 79 #[.pointer (some ⟨g, 0, none⟩)] w fun e w' => ∃ k, e = .returned (.pointer (some ⟨k, 0, none⟩)) ∧ IntAt w' k (q.den : Int) ∧ w.heap.size ≤ k ∧ Below w.heap.size w w' := by
  have HBN := Lib.hid (And.intro (Blk.alloc w #[.bool false, .slice none 0 0] 61) ((Below.refl w.heap.size w).alloc (Nat.le_refl _) (.cells #[.bool false, .slice none 0 0] 61)))
  have H := Lib.hid (h.below HBN.out.2)
  clear h
  go_enter Tryd.func79, Tryd.ntmps79
  go_wp2_with fail
  refine (low_calls q g _ H.out).mono ?_
  rintro e w2 ⟨v, rfl, hv, hb⟩
  have H2 := Lib.hid (And.intro hv (And.intro (HBN.out.1.same (hb.block _ HBN.out.1.lt)) (below_step HBN.out.2 hb)))
  clear hv hb H
  go_wp2_with fail
  refine (set_calls false q.den w.heap.size false none 0 0 _ _ H2.out.2.1 (Lib.hid H2.out.1)).mono ?_
  rintro e w3 ⟨rfl, h1, h2, h3⟩
  have H3 := Lib.hid (And.intro h1 (below_grown H2.out.2.2 h3 (Nat.le_refl _)))
  clear h1 h2 h3
  go_wp2_with fail
  go_ret
  exact ⟨_, rfl, H3.out.1, Nat.le_refl _, H3.out.2⟩

theorem floor_pos' {q : Rat} (h : ¬ q.num < 0) : ((q.num.natAbs / q.den : Nat) : Int) = Rat.floor q := RefL.floor_pos h
theorem rtxt_int (z : Int) : rtxt (z : Rat) = ztxt z := by
  unfold rtxt ztxt
  rw [Rat.num_intCast, Rat.den_intCast, if_pos rfl, List.append_nil]
def OutI (z : Int) (g : Nat) (w : World) (e : Ending) (w' : World) : Prop := e = .returned (.pointer (some ⟨g, 0, none⟩)) ∧ IntAt w' g z ∧ w.grownBy w' (some g)

set_option maxRecDepth 100000 in
set_option maxHeartbeats 1000000 in
theorem div_calls (q : Rat) (hz : Sizes.Sz q 1000000000) (g gx gy : Nat) (w : World) (hg : Blk w g #[.bool false, .slice none 0 0]) (hx : IntAt w gx q.num) (hy : IntAt w gy (q.den : Int)) :
    Calls Tryd.prog 117 #[.pointer (some ⟨g, 0, none⟩), .pointer (some ⟨gx, 0, none⟩), .pointer (some ⟨gy, 0, none⟩)] w (OutI (Rat.floor q) g w) := by
  obtain ⟨A, c, hX, hn⟩ := hx
  obtain ⟨B, d, hY, hd⟩ := hy
  have e0 : ((q.den : Int)).natAbs = q.den := Int.natAbs_natCast _
  rw [e0] at hY hd
  obtain ⟨b, hb⟩ : ∃ b, b = decide (q.num < 0) := ⟨_, rfl⟩
  rw [← hb] at hX
  obtain ⟨k1, hk1⟩ : ∃ k, k = (limbs q.num.natAbs).length := ⟨_, rfl⟩
  obtain ⟨k2, hk2⟩ : ∃ k, k = (limbs q.den).length := ⟨_, rfl⟩
  rw [← hk1] at hX hn
  rw [← hk2] at hY hd
  have x0 : w.cell? ⟨gx, 0, none⟩ = some (.bool b) := hX.cell 0
  have x1 : w.cell? ⟨gx, 1, none⟩ = some (.slice A k1 c) := hX.cell 1
  have y1 : w.cell? ⟨gy, 1, none⟩ = some (.slice B k2 d) := hY.cell 1
  have H := Lib.hid (And.intro hg (And.intro hX (And.intro hn (And.intro hd (And.intro hb hz)))))
  clear hg hX hY hn hd hb hk1 hk2 e0
  have hd1 : Below w.heap.size w w.drew := Drawn0.below ⟨1, rfl⟩
  have hnn := H.out.2.2.1.below hd1
  have hdd := H.out.2.2.2.1.below hd1
  go_enter Tryd.func117, Tryd.ntmps117
  go_upto_region 1 with fail
  have HZ := Lib.hid hz
  clear hz
  go_region_with (go_at_call 131; refine (OverWalk.calls q.num.natAbs q.den q.den_nz (Nat.le_trans HZ.out.1 (by omega)) (Nat.le_trans HZ.out.2 (by omega)) _ _ _ (Lib.hid hnn) (Lib.hid hdd)).mono ?_; rintro e w2 ⟨v1, v2, rfl, h1, h2, hb2⟩)
  all_goals
    obtain ⟨C, c2, rfl, _⟩ := h1.form
    obtain ⟨D, d2, rfl, _⟩ := h2.form
    have hq1 : (limbs (q.num.natAbs / q.den)).length ≤ 1000000000 := Nat.le_trans (limbs_len_mono (Nat.div_le_self _ _)) HZ.out.1
    have hq2 : (limbs (q.num.natAbs % q.den)).length ≤ 1000000000 := Nat.le_trans (limbs_len_mono (Nat.mod_le _ _)) HZ.out.1
    have hbb := below_step hd1 hb2
    have H2 := Lib.hid (And.intro h1 (And.intro (H.out.1.same (hbb.block _ H.out.1.lt)) (And.intro hbb (And.intro (H.out.2.1.same (hbb.block _ H.out.2.1.lt)) H.out.2.2.2.2.1))))
    have x0' : w2.cell? ⟨gx, 0, none⟩ = some (.bool b) := H2.out.2.2.2.1.cell 0
    obtain ⟨k3, hk3⟩ : ∃ k, k = (limbs (q.num.natAbs % q.den)).length := ⟨_, rfl⟩
    rw [← hk3] at hq2
    simp only [← hk3]
    clear h1 h2 hb2 hbb hnn hdd x0 x1 y1 H
    cases b
    · have HQ := Lib.hid (And.intro (floor_pos' (of_decide_eq_false H2.out.2.2.2.2.symm)) hk3)
      clear hk3
      go_wp2_with fail
      refine (set_calls false (q.num.natAbs / q.den) g false none 0 0 _ _ H2.out.2.1 (Lib.hid H2.out.1)).mono ?_
      rintro e w3 ⟨rfl, h1, h2, h3⟩
      have H3 := Lib.hid (And.intro h1 (grown_below H2.out.2.2.1 |>.trans h3))
      clear h1 h2 h3
      go_wp2_with fail
      go_ret
      exact ⟨rfl, by rw [← HQ.out.1]; exact H3.out.1, H3.out.2⟩
    · have hn := of_decide_eq_true H2.out.2.2.2.2.symm
      by_cases hr : q.num.natAbs % q.den = 0
      · have hk0 : k3 = 0 := by rw [hk3, hr, limbs_zero]; rfl
        have HQ := Lib.hid (RefL.floor_even hn hr)
        subst hk0
        clear hn hr hk3
        go_wp2_with fail
        refine (set_calls true (q.num.natAbs / q.den) g false none 0 0 _ _ H2.out.2.1 (Lib.hid H2.out.1)).mono ?_
        rintro e w3 ⟨rfl, h1, h2, h3⟩
        have H3 := Lib.hid (And.intro h1 (grown_below H2.out.2.2.1 |>.trans h3))
        clear h1 h2 h3
        go_wp2_with fail
        go_ret
        exact ⟨rfl, by rw [← HQ.out]; exact H3.out.1, H3.out.2⟩
      · have hk3p : 0 < k3 := by rw [hk3]; exact limbs_len_pos hr
        have HQ := Lib.hid (RefL.floor_odd hn hr)
        have hq9 : (limbs (q.num.natAbs / q.den)).length ≤ 30000000000 := by omega
        clear hn hr hk3
        go_wp2_with fail
        refine (Told.one_calls _).mono ?_
        rintro e w3 ⟨v3, rfl, h1, hb3⟩
        have H3 := Lib.hid (And.intro (H2.out.1.below hb3) (And.intro h1 (And.intro (H2.out.2.1.same (hb3.block _ H2.out.2.1.lt)) (And.intro (below_step H2.out.2.2.1 hb3) (H2.out.2.2.2.1.same (hb3.block _ H2.out.2.2.2.1.lt))))))
        clear h1 hb3 H2 x0'
        go_wp2_with fail
        refine (PlusWalk.calls (q.num.natAbs / q.den) 1 hq9 (by rw [Sizes.limbs_one]; omega) _ _ _ H3.out.1 H3.out.2.1).mono ?_
        rintro e w4 ⟨v4, rfl, h1, hb4⟩
        have H4 := Lib.hid (And.intro h1 (And.intro (H3.out.2.2.1.same (hb4.block _ H3.out.2.2.1.lt)) (And.intro (below_step H3.out.2.2.2.1 hb4) (H3.out.2.2.2.2.same (hb4.block _ H3.out.2.2.2.2.lt)))))
        have x0' : w4.cell? ⟨gx, 0, none⟩ = some (.bool true) := H4.out.2.2.2.cell 0
        clear h1 hb4 H3
        go_wp2_with fail
        refine (set_calls true (q.num.natAbs / q.den + 1) g false none 0 0 _ _ H4.out.2.1 (Lib.hid H4.out.1)).mono ?_
        rintro e w5 ⟨rfl, h1, h2, h3⟩
        have H5 := Lib.hid (And.intro h1 (grown_below H4.out.2.2.1 |>.trans h3))
        clear h1 h2 h3
        go_wp2_with fail
        go_ret
        exact ⟨rfl, by rw [← HQ.out]; exact H5.out.1, H5.out.2⟩

set_option maxRecDepth 100000 in
set_option maxHeartbeats 400000 in
theorem floor_calls (q : Rat) (hz : Sizes.Sz q 1000000000) (g : Nat) (w : World) (h : RatAt w g q) :
    Calls Tryd.prog 66 #[.pointer (some ⟨g, 0, none⟩)] w fun e w' => ∃ k, e = .returned (.pointer (some ⟨k, 0, none⟩)) ∧ IntAt w' k (Rat.floor q) ∧ Below w.heap.size w w' := by
  have HBN := Lib.hid (And.intro (Blk.alloc w #[.bool false, .slice none 0 0] 61) ((Below.refl w.heap.size w).alloc (Nat.le_refl _) (.cells #[.bool false, .slice none 0 0] 61)))
  have H := Lib.hid (h.below HBN.out.2)
  clear h
  go_enter Tryd.func66, Tryd.ntmps66
  go_wp2_with fail
  refine (num_calls q g _ H.out).mono ?_
  rintro e w2 ⟨k1, rfl, h1, h2, hb⟩
  have H2 := Lib.hid (And.intro (H.out.below hb) (And.intro (HBN.out.1.same (hb.block _ HBN.out.1.lt)) (And.intro (below_step HBN.out.2 hb) h1)))
  clear h1 h2 hb H
  go_wp2_with fail
  refine (denom_calls q g _ H2.out.1).mono ?_
  rintro e w3 ⟨k2, rfl, h1, h2, hb⟩
  have H3 := Lib.hid (And.intro (H2.out.2.2.2.below hb) (And.intro (H2.out.2.1.same (hb.block _ H2.out.2.1.lt)) (And.intro (below_step H2.out.2.2.1 hb) h1)))
  clear h1 h2 hb H2
  go_wp2_with fail
  refine (div_calls q hz w.heap.size k1 k2 _ H3.out.2.1 H3.out.1 H3.out.2.2.2).mono ?_
  rintro e w4 ⟨rfl, h1, h3⟩
  have H4 := Lib.hid (And.intro h1 (below_grown H3.out.2.2.1 h3 (Nat.le_refl _)))
  clear h1 h3
  go_wp2_with fail
  go_ret
  exact ⟨_, rfl, H4.out⟩

set_option maxRecDepth 100000 in
set_option maxHeartbeats 400000 in
theorem num_calls (s : ByteArray) (hs : s.size ≤ 100000000) (w : World) (hok : Ok w) :
    Calls Tryd.prog 22 #[.string s] w (RefQ.OutFl s.data.toList w) := by
  go_enter Tryd.func22, Tryd.ntmps22
  go_wp2_with fail
  refine (ParseWalk.calls s hs _ hok).mono ?_
  rintro e w2 ⟨⟨q, g, h1, rfl, h2, h3⟩ | ⟨h1, rfl⟩, hb⟩
  · have hz := Bins.sz_a h1 hs
    have hf := RefQ.sz_floor hz (by omega)
    have H := Lib.hid (And.intro h1 (And.intro h2 (And.intro hz (And.intro hf hb))))
    clear h1 h2 h3 hz hf hb
    go_wp2_with fail
    refine (floor_calls q (H.out.2.2.1.mono (by omega)) g _ H.out.2.1).mono ?_
    rintro e w3 ⟨k, rfl, h1, hb⟩
    have H3 := Lib.hid (And.intro h1 (below_step H.out.2.2.2.2 hb))
    clear h1 hb
    go_wp2_with fail
    refine (string_calls (Rat.floor q) (by have := H.out.2.2.2.1.1; rw [Rat.num_intCast] at this; omega) k _ H3.out.1).mono ?_
    rintro e w4 ⟨rfl, hb⟩
    have HB := Lib.hid (below_step H3.out.2 hb)
    have HT := Lib.hid (rtxt_int (Rat.floor q))
    clear hb
    go_wp2_with fail
    go_ret2
    exact ⟨HB.out, .inl ⟨q, H.out.1, by rw [HT.out]; rfl⟩⟩
  · have H := Lib.hid (And.intro h1 hb)
    clear h1 hb
    go_wp2_with fail
    go_ret2
    exact ⟨H.out.2, .inr ⟨H.out.1, rfl⟩⟩
end Go.Proofs.YtjeamchaibialaaDoor.FloorWalk

/- NumCmps: the walk. -/
namespace Go.Proofs.YtjeamchaibialaaDoor.TopCmps
open Go.RowKit Go.Proofs.YtjeamchaibialaaDoorW.PrintWords Go.Proofs.YtjeamchaibialaaDoorW.PrintLast Go.Proofs.YtjeamchaibialaaDoorW.PrintMore Fns Limbs Nats Go.Proofs.YtjeamchaibialaaDoor.Told ReadWalk Texts Rats Parses Heaps Go.Proofs.YtjeamchaibialaaDoor.Splits Go.Proofs.YtjeamchaibialaaDoor.Laws Go.Proofs.YtjeamchaibialaaDoor.Bins Go.Proofs.YtjeamchaibialaaDoor.Nums

theorem cmp_same {a b : List UInt8} {w w' W W' : World} {e e' : Ending} (h : OutC a b w e W) (h' : OutC a b w' e' W') : ∃ (x : Int) (z : Int), 0 ≤ z ∧ z ≤ 3 ∧ e = .returned (.tuple #[.int .i64 x, .int .i64 z]) ∧ e' = .returned (.tuple #[.int .i64 x, .int .i64 z]) := by
  rcases h.2 with ⟨p, q, h1, h2, rfl⟩ | ⟨h1, rfl⟩ <;> rcases h'.2 with ⟨p', q', k1, k2, rfl⟩ | ⟨k1, rfl⟩
  · have e1 : p' = p := rtxt_inj (by rw [← k1, h1])
    have e2 : q' = q := rtxt_inj (by rw [← k2, h2])
    subst e1 e2
    exact ⟨_, 0, by omega, by omega, rfl, rfl⟩
  · exact absurd k1 (fun h => by rcases h with h | h; exact h p h1; exact h q h2)
  · exact absurd h1 (fun h => by rcases h with h | h; exact h p' k1; exact h q' k2)
  · exact ⟨_, 1, by omega, by omega, rfl, rfl⟩
theorem floor_same {a : List UInt8} {w w' W W' : World} {e e' : Ending} (h : RefQ.OutFl a w e W) (h' : RefQ.OutFl a w' e' W') : ∃ (x : ByteArray) (z : Int), 0 ≤ z ∧ z ≤ 3 ∧ e = .returned (.tuple #[.string x, .int .i64 z]) ∧ e' = .returned (.tuple #[.string x, .int .i64 z]) := by
  rcases h.2 with ⟨p, h1, rfl⟩ | ⟨h1, rfl⟩ <;> rcases h'.2 with ⟨p', k1, rfl⟩ | ⟨k1, rfl⟩
  · have e1 : p' = p := rtxt_inj (by rw [← k1, h1])
    subst e1
    exact ⟨_, 0, by omega, by omega, rfl, rfl⟩
  · exact absurd h1 (k1 p)
  · exact absurd k1 (h1 p')
  · exact ⟨_, 1, by omega, by omega, rfl, rfl⟩

set_option maxRecDepth 100000 in
set_option maxHeartbeats 1000000 in
theorem law (a b : ByteArray) (ha : a.size ≤ 1048576) (hb : b.size ≤ 1048576) (w : World) (hok : Ok w) :
    Calls Tryd.prog 6 #[.string a, .string b] w (Says true w) := by
  have HOK := Lib.hid hok
  have HB := Lib.hid (Below.refl w.heap.size w)
  clear hok
  go_enter Tryd.func6, Tryd.ntmps6
  go_wp2_with fail
  refine (Nums.cmp_calls a b (by omega) (by omega) _ HOK.out).mono ?_
  rintro e w1 h1
  obtain ⟨x1, z1, hz1, hy1, e1, _⟩ := cmp_same h1 h1
  subst e1
  have H1 := Lib.hid (And.intro h1 (And.intro (HOK.out.below h1.1) (below_step HB.out h1.1)))
  clear h1 HOK HB
  go_wp2_with fail
  refine (RefQ.refCmp_calls a b (by omega) (by omega) _).mono ?_
  rintro e w2 h2
  obtain ⟨x', z', _, _, e1, e2⟩ := cmp_same H1.out.1 h2
  injection e1 with e1
  injection e1 with e1
  obtain ⟨rfl, rfl⟩ : x1 = x' ∧ z1 = z' := by simp at e1; exact e1
  subst e2
  have HOK := Lib.hid (H1.out.2.1.below h2.1)
  have HB := Lib.hid (below_step H1.out.2.2 h2.1)
  have HE : (x1 == x1) = true := beq_self_eq_true _
  have HEn : (x1 != x1) = false := bne_self_eq_false _
  have HZ : (z1 == z1) = true := beq_self_eq_true _
  have HZn : (z1 != z1) = false := bne_self_eq_false _
  clear h2 e1 H1
  go_wp2_with fail
  refine (no_calls z1 hz1 hy1 _).mono ?_
  rintro e w3 ⟨rfl, hw3⟩
  rw [hw3]
  clear hw3
  go_wp2_with fail
  refine (FloorWalk.num_calls a (by omega) _ HOK.out).mono ?_
  rintro e w1 h1
  obtain ⟨x2, z2, hz2, hy2, e1, _⟩ := floor_same h1 h1
  subst e1
  have H1 := Lib.hid (And.intro h1 (And.intro (HOK.out.below h1.1) (below_step HB.out h1.1)))
  clear h1 HOK HB
  go_wp2_with fail
  refine (RefQ.refFloor_calls a (by omega) _).mono ?_
  rintro e w2 h2
  obtain ⟨x', z', _, _, e1, e2⟩ := floor_same H1.out.1 h2
  injection e1 with e1
  injection e1 with e1
  obtain ⟨rfl, rfl⟩ : x2 = x' ∧ z2 = z' := by simp at e1; exact e1
  subst e2
  have HOK := Lib.hid (H1.out.2.1.below h2.1)
  have HB := Lib.hid (below_step H1.out.2.2 h2.1)
  have HE : (x2.toList == x2.toList) = true := beq_self_eq_true _
  have HEn : (x2.toList != x2.toList) = false := bne_self_eq_false _
  have HZ : (z2 == z2) = true := beq_self_eq_true _
  have HZn : (z2 != z2) = false := bne_self_eq_false _
  clear h2 e1 H1
  go_wp2_with fail
  refine (no_calls z2 hz2 hy2 _).mono ?_
  rintro e w3 ⟨rfl, hw3⟩
  rw [hw3]
  clear hw3
  go_wp2_with fail
  go_ret
  exact ⟨rfl, HB.out⟩

end Go.Proofs.YtjeamchaibialaaDoor.TopCmps
