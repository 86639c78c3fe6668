/- Joined: Denom Floor Spell -/
import Derived.Test.YtjeamchaibialaaGreatDoorM4
import Derived.Deep.RegionHeld3
import Derived.Test.YtjeamchaibialaaGreatDoorM3
import Derived.Test.YtjeamchaibialaaGreatDoorM2
import Derived.Test.YtjeamchaibialaaGreatDoorM6
set_option linter.unusedVariables false
set_option linter.unusedSimpArgs false
/- big's denominator: the walk. -/
namespace Go.Proofs.YtjeamchaibialaaGreatDoor.FloorWalk
open Go.RowKit Go.Proofs.YtjeamchaibialaaGreatDoorW.PrintWords Go.Proofs.YtjeamchaibialaaGreatDoorW.PrintLast Go.Proofs.YtjeamchaibialaaGreatDoorW.PrintMore Fns Limbs Pure1 Nats Go.Proofs.YtjeamchaibialaaGreatDoor.Told ReadWalk Texts Rats Parses Heaps Go.Proofs.YtjeamchaibialaaGreatDoor.Ints Go.Proofs.YtjeamchaibialaaGreatDoor.Splits Go.Proofs.YtjeamchaibialaaGreatDoor.RatTell

set_option maxRecDepth 100000 in
set_option maxHeartbeats 1000000 in
theorem denom_calls (q : Rat) (g : Nat) (w : World) (h : RatAt w g q) :
    Calls Tryz.prog 41 #[.pointer (some ⟨g, 0, none⟩)] w fun e w' => ∃ k, e = .returned (.pointer (some ⟨k, 0, none⟩)) ∧ IntAt w' k (q.den : Int) ∧ w.heap.size ≤ k ∧ Below w.heap.size w w' := by
  have HBN := Lib.hid (And.intro (Blk.alloc w #[.bool false, .slice none 0 0] 62) ((Below.refl w.heap.size w).alloc (Nat.le_refl _) (.cells #[.bool false, .slice none 0 0] 62)))
  have H := Lib.hid (h.below HBN.out.2)
  clear h
  go_enter Tryz.func41, Tryz.ntmps41
  go_wp2_with fail
  refine (low_calls q g _ H.out).mono ?_
  rintro e w2 ⟨v, rfl, hv, hb⟩
  have H2 := Lib.hid (And.intro hv (And.intro (HBN.out.1.same (hb.block _ HBN.out.1.lt)) (below_step HBN.out.2 hb)))
  clear hv hb H
  go_wp2_with fail
  refine (set_calls false q.den w.heap.size false none 0 0 _ _ H2.out.2.1 (Lib.hid H2.out.1)).mono ?_
  rintro e w3 ⟨rfl, h1, h2, h3⟩
  have H3 := Lib.hid (And.intro h1 (below_grown H2.out.2.2 h3 (Nat.le_refl _)))
  clear h1 h2 h3
  go_wp2_with fail
  go_ret
  exact ⟨_, rfl, H3.out.1, Nat.le_refl _, H3.out.2⟩

end Go.Proofs.YtjeamchaibialaaGreatDoor.FloorWalk

/- num's floor: the walks. -/
namespace Go.Proofs.YtjeamchaibialaaGreatDoor.FloorWalk
open Go.RowKit Go.Proofs.YtjeamchaibialaaGreatDoorW.PrintWords Go.Proofs.YtjeamchaibialaaGreatDoorW.PrintLast Go.Proofs.YtjeamchaibialaaGreatDoorW.PrintMore Fns Limbs Pure1 Nats Go.Proofs.YtjeamchaibialaaGreatDoor.Told ReadWalk Texts Rats Parses Heaps Go.Proofs.YtjeamchaibialaaGreatDoor.Ints Go.Proofs.YtjeamchaibialaaGreatDoor.Splits Go.Proofs.YtjeamchaibialaaGreatDoor.RatTell

theorem floor_pos' {q : Rat} (h : ¬ q.num < 0) : ((q.num.natAbs / q.den : Nat) : Int) = Rat.floor q := RefL.floor_pos h
theorem rtxt_int (z : Int) : rtxt (z : Rat) = ztxt z := by
  unfold rtxt ztxt
  rw [Rat.num_intCast, Rat.den_intCast, if_pos rfl, List.append_nil]
def OutI (z : Int) (g : Nat) (w : World) (e : Ending) (w' : World) : Prop := e = .returned (.pointer (some ⟨g, 0, none⟩)) ∧ IntAt w' g z ∧ w.grownBy w' (some g)

set_option maxRecDepth 100000 in
set_option maxHeartbeats 1000000 in
theorem div_calls (q : Rat) (hz : Sizes.Sz q 1000000000) (g gx gy : Nat) (w : World) (hg : Blk w g #[.bool false, .slice none 0 0]) (hx : IntAt w gx q.num) (hy : IntAt w gy (q.den : Int)) :
    Calls Tryz.prog 114 #[.pointer (some ⟨g, 0, none⟩), .pointer (some ⟨gx, 0, none⟩), .pointer (some ⟨gy, 0, none⟩)] w (OutI (Rat.floor q) g w) := by
  obtain ⟨A, c, hX, hn⟩ := hx
  obtain ⟨B, d, hY, hd⟩ := hy
  have e0 : ((q.den : Int)).natAbs = q.den := Int.natAbs_natCast _
  rw [e0] at hY hd
  obtain ⟨b, hb⟩ : ∃ b, b = decide (q.num < 0) := ⟨_, rfl⟩
  rw [← hb] at hX
  obtain ⟨k1, hk1⟩ : ∃ k, k = (limbs q.num.natAbs).length := ⟨_, rfl⟩
  obtain ⟨k2, hk2⟩ : ∃ k, k = (limbs q.den).length := ⟨_, rfl⟩
  rw [← hk1] at hX hn
  rw [← hk2] at hY hd
  have x0 : w.cell? ⟨gx, 0, none⟩ = some (.bool b) := hX.cell 0
  have x1 : w.cell? ⟨gx, 1, none⟩ = some (.slice A k1 c) := hX.cell 1
  have y1 : w.cell? ⟨gy, 1, none⟩ = some (.slice B k2 d) := hY.cell 1
  have H := Lib.hid (And.intro hg (And.intro hX (And.intro hn (And.intro hd (And.intro hb hz)))))
  clear hg hX hY hn hd hb hk1 hk2 e0
  have hd1 : Below w.heap.size w w.drew := Drawn0.below ⟨1, rfl⟩
  have hnn := H.out.2.2.1.below hd1
  have hdd := H.out.2.2.2.1.below hd1
  go_enter Tryz.func114, Tryz.ntmps114
  go_upto_region 1 with fail
  have HZ := Lib.hid hz
  clear hz
  go_region_with (go_at_call 92; refine (OverWalk.calls q.num.natAbs q.den q.den_nz (Nat.le_trans HZ.out.1 (by omega)) (Nat.le_trans HZ.out.2 (by omega)) _ _ _ (Lib.hid hnn) (Lib.hid hdd)).mono ?_; rintro e w2 ⟨v1, v2, rfl, h1, h2, hb2⟩)
  all_goals
    obtain ⟨C, c2, rfl, _⟩ := h1.form
    obtain ⟨D, d2, rfl, _⟩ := h2.form
    have hq1 : (limbs (q.num.natAbs / q.den)).length ≤ 1000000000 := Nat.le_trans (limbs_len_mono (Nat.div_le_self _ _)) HZ.out.1
    have hq2 : (limbs (q.num.natAbs % q.den)).length ≤ 1000000000 := Nat.le_trans (limbs_len_mono (Nat.mod_le _ _)) HZ.out.1
    have hbb := below_step hd1 hb2
    have H2 := Lib.hid (And.intro h1 (And.intro (H.out.1.same (hbb.block _ H.out.1.lt)) (And.intro hbb (And.intro (H.out.2.1.same (hbb.block _ H.out.2.1.lt)) H.out.2.2.2.2.1))))
    have x0' : w2.cell? ⟨gx, 0, none⟩ = some (.bool b) := H2.out.2.2.2.1.cell 0
    obtain ⟨k3, hk3⟩ : ∃ k, k = (limbs (q.num.natAbs % q.den)).length := ⟨_, rfl⟩
    rw [← hk3] at hq2
    simp only [← hk3]
    clear h1 h2 hb2 hbb hnn hdd x0 x1 y1 H
    cases b
    · have HQ := Lib.hid (And.intro (floor_pos' (of_decide_eq_false H2.out.2.2.2.2.symm)) hk3)
      clear hk3
      go_wp2_with fail
      refine (set_calls false (q.num.natAbs / q.den) g false none 0 0 _ _ H2.out.2.1 (Lib.hid H2.out.1)).mono ?_
      rintro e w3 ⟨rfl, h1, h2, h3⟩
      have H3 := Lib.hid (And.intro h1 (grown_below H2.out.2.2.1 |>.trans h3))
      clear h1 h2 h3
      go_wp2_with fail
      go_ret
      exact ⟨rfl, by rw [← HQ.out.1]; exact H3.out.1, H3.out.2⟩
    · have hn := of_decide_eq_true H2.out.2.2.2.2.symm
      by_cases hr : q.num.natAbs % q.den = 0
      · have hk0 : k3 = 0 := by rw [hk3, hr, limbs_zero]; rfl
        have HQ := Lib.hid (RefL.floor_even hn hr)
        subst hk0
        clear hn hr hk3
        go_wp2_with fail
        refine (set_calls true (q.num.natAbs / q.den) g false none 0 0 _ _ H2.out.2.1 (Lib.hid H2.out.1)).mono ?_
        rintro e w3 ⟨rfl, h1, h2, h3⟩
        have H3 := Lib.hid (And.intro h1 (grown_below H2.out.2.2.1 |>.trans h3))
        clear h1 h2 h3
        go_wp2_with fail
        go_ret
        exact ⟨rfl, by rw [← HQ.out]; exact H3.out.1, H3.out.2⟩
      · have hk3p : 0 < k3 := by rw [hk3]; exact limbs_len_pos hr
        have HQ := Lib.hid (RefL.floor_odd hn hr)
        have hq9 : (limbs (q.num.natAbs / q.den)).length ≤ 30000000000 := by omega
        clear hn hr hk3
        go_wp2_with fail
        refine (Told.one_calls _).mono ?_
        rintro e w3 ⟨v3, rfl, h1, hb3⟩
        have H3 := Lib.hid (And.intro (H2.out.1.below hb3) (And.intro h1 (And.intro (H2.out.2.1.same (hb3.block _ H2.out.2.1.lt)) (And.intro (below_step H2.out.2.2.1 hb3) (H2.out.2.2.2.1.same (hb3.block _ H2.out.2.2.2.1.lt))))))
        clear h1 hb3 H2 x0'
        go_wp2_with fail
        refine (PlusWalk.calls (q.num.natAbs / q.den) 1 hq9 (by rw [Sizes.limbs_one]; omega) _ _ _ H3.out.1 H3.out.2.1).mono ?_
        rintro e w4 ⟨v4, rfl, h1, hb4⟩
        have H4 := Lib.hid (And.intro h1 (And.intro (H3.out.2.2.1.same (hb4.block _ H3.out.2.2.1.lt)) (And.intro (below_step H3.out.2.2.2.1 hb4) (H3.out.2.2.2.2.same (hb4.block _ H3.out.2.2.2.2.lt)))))
        have x0' : w4.cell? ⟨gx, 0, none⟩ = some (.bool true) := H4.out.2.2.2.cell 0
        clear h1 hb4 H3
        go_wp2_with fail
        refine (set_calls true (q.num.natAbs / q.den + 1) g false none 0 0 _ _ H4.out.2.1 (Lib.hid H4.out.1)).mono ?_
        rintro e w5 ⟨rfl, h1, h2, h3⟩
        have H5 := Lib.hid (And.intro h1 (grown_below H4.out.2.2.1 |>.trans h3))
        clear h1 h2 h3
        go_wp2_with fail
        go_ret
        exact ⟨rfl, by rw [← HQ.out]; exact H5.out.1, H5.out.2⟩

set_option maxRecDepth 100000 in
set_option maxHeartbeats 400000 in
theorem floor_calls (q : Rat) (hz : Sizes.Sz q 1000000000) (g : Nat) (w : World) (h : RatAt w g q) :
    Calls Tryz.prog 73 #[.pointer (some ⟨g, 0, none⟩)] w fun e w' => ∃ k, e = .returned (.pointer (some ⟨k, 0, none⟩)) ∧ IntAt w' k (Rat.floor q) ∧ Below w.heap.size w w' := by
  have HBN := Lib.hid (And.intro (Blk.alloc w #[.bool false, .slice none 0 0] 62) ((Below.refl w.heap.size w).alloc (Nat.le_refl _) (.cells #[.bool false, .slice none 0 0] 62)))
  have H := Lib.hid (h.below HBN.out.2)
  clear h
  go_enter Tryz.func73, Tryz.ntmps73
  go_wp2_with fail
  refine (num_calls q g _ H.out).mono ?_
  rintro e w2 ⟨k1, rfl, h1, h2, hb⟩
  have H2 := Lib.hid (And.intro (H.out.below hb) (And.intro (HBN.out.1.same (hb.block _ HBN.out.1.lt)) (And.intro (below_step HBN.out.2 hb) h1)))
  clear h1 h2 hb H
  go_wp2_with fail
  refine (denom_calls q g _ H2.out.1).mono ?_
  rintro e w3 ⟨k2, rfl, h1, h2, hb⟩
  have H3 := Lib.hid (And.intro (H2.out.2.2.2.below hb) (And.intro (H2.out.2.1.same (hb.block _ H2.out.2.1.lt)) (And.intro (below_step H2.out.2.2.1 hb) h1)))
  clear h1 h2 hb H2
  go_wp2_with fail
  refine (div_calls q hz w.heap.size k1 k2 _ H3.out.2.1 H3.out.1 H3.out.2.2.2).mono ?_
  rintro e w4 ⟨rfl, h1, h3⟩
  have H4 := Lib.hid (And.intro h1 (below_grown H3.out.2.2.1 h3 (Nat.le_refl _)))
  clear h1 h3
  go_wp2_with fail
  go_ret
  exact ⟨_, rfl, H4.out⟩
end Go.Proofs.YtjeamchaibialaaGreatDoor.FloorWalk

/- num's Spell: the walk. -/
namespace Go.Proofs.YtjeamchaibialaaGreatDoor.SpellWalk
open Go.RowKit Go.Proofs.YtjeamchaibialaaGreatDoorW.PrintWords Go.Proofs.YtjeamchaibialaaGreatDoorW.PrintLast Go.Proofs.YtjeamchaibialaaGreatDoorW.PrintMore Fns Limbs Pure1 Nats Go.Proofs.YtjeamchaibialaaGreatDoor.Told ReadWalk Texts Rats Parses Heaps Go.Proofs.YtjeamchaibialaaGreatDoor.Ints Go.Proofs.YtjeamchaibialaaGreatDoor.Splits Go.Proofs.YtjeamchaibialaaGreatDoor.RatTell Go.Proofs.YtjeamchaibialaaGreatDoor.FloorWalk

def OutA (z : Int) (g : Nat) (w : World) (e : Ending) (w' : World) : Prop := e = .returned (.pointer (some ⟨g, 0, none⟩)) ∧ IntAt w' g z ∧ Keeps w w' ∧ w.grownBy w' (some g)
set_option maxRecDepth 100000 in
set_option maxHeartbeats 400000 in
theorem abs_calls (z : Int) (g gx : Nat) (w : World) (hg : Blk w g #[.bool false, .slice none 0 0]) (hx : IntAt w gx z) :
    Calls Tryz.prog 37 #[.pointer (some ⟨g, 0, none⟩), .pointer (some ⟨gx, 0, none⟩)] w (OutA (z.natAbs : Int) g w) := by
  obtain ⟨A, c, hX, hn⟩ := hx
  have x1 : w.cell? ⟨gx, 1, none⟩ = some (.slice A (limbs z.natAbs).length c) := hX.cell 1
  have H := Lib.hid (And.intro hg hn)
  clear hg hX hn
  go_enter Tryz.func37, Tryz.ntmps37
  go_wp2_with fail
  refine (set_calls false z.natAbs g false none 0 0 _ _ H.out.1 (Lib.hid H.out.2)).mono ?_
  rintro e w3 ⟨rfl, h1, h2, h3⟩
  have H3 := Lib.hid (And.intro h1 (And.intro h2 h3))
  clear h1 h2 h3
  go_wp2_with fail
  go_ret
  exact ⟨rfl, H3.out⟩

def stem (q : Rat) : List UInt8 := if q.den = 1 then txt q.num.natAbs ++ [46, 48] else [40, 47, 32] ++ (txt q.num.natAbs ++ [46, 48]) ++ [32] ++ txt q.den ++ [46, 48, 41]
def sptxt (q : Rat) : List UInt8 := if q.num < 0 then [40, 45, 32] ++ stem q ++ [41] else stem q
theorem sptxt_neg {q : Rat} (h : q.num < 0) : sptxt q = [40, 45, 32] ++ stem q ++ [41] := if_pos h
theorem sptxt_pos {q : Rat} (h : ¬ q.num < 0) : sptxt q = stem q := if_neg h
theorem stem_one {q : Rat} (h : q.den = 1) : stem q = txt q.num.natAbs ++ [46, 48] := if_pos h
theorem stem_more {q : Rat} (h : q.den ≠ 1) : stem q = [40, 47, 32] ++ (txt q.num.natAbs ++ [46, 48]) ++ [32] ++ txt q.den ++ [46, 48, 41] := if_neg h
theorem ztxt_nat (n : Nat) : ztxt (n : Int) = txt n := by
  unfold ztxt
  rw [if_neg (by omega), Int.natAbs_natCast]; rfl
theorem stem_len {q : Rat} {N : Nat} (h : Sizes.Sz q N) : (stem q).length ≤ 18 * N + 20 := by
  have h1 := Sizes.txt_len q.num.natAbs
  have h2 := Sizes.txt_len q.den
  have h3 := h.1; have h4 := h.2
  unfold stem
  split
  · simp; omega
  · simp; omega
theorem str_size (l : List UInt8) : (⟨l.toArray⟩ : ByteArray).size = l.length := by
  show l.toArray.size = _
  rw [List.size_toArray]
def OutSp (l : List UInt8) (w : World) (e : Ending) (W : World) : Prop :=
  Below w.heap.size w W ∧ ((∃ q, l = rtxt q ∧ e = .returned (.tuple #[.string ⟨(sptxt q).toArray⟩, .int .i64 0])) ∨ ((∀ q, l ≠ rtxt q) ∧ e = .returned (.tuple #[.string ⟨#[]⟩, .int .i64 1])))

set_option maxRecDepth 100000 in
set_option maxHeartbeats 1000000 in
theorem calls (s : ByteArray) (hs : s.size ≤ 100000000) (w : World) (hok : Ok w) :
    Calls Tryz.prog 10 #[.string s] w (OutSp s.data.toList w) := by
  go_enter Tryz.func10, Tryz.ntmps10
  go_wp2_with fail
  refine (ParseWalk.calls s hs _ hok).mono ?_
  rintro e w2 ⟨⟨q, g, h1, rfl, h2, h3⟩ | ⟨h1, rfl⟩, hb⟩
  · have hz := Bins.sz_a h1 hs
    have hba := (Below.refl w2.heap.size w2).alloc (Nat.le_refl _) (.cells #[.bool false, .slice none 0 0] 62)
    have hbk := Blk.alloc w2 #[.bool false, .slice none 0 0] 62
    have H := Lib.hid (And.intro h1 (And.intro (h2.below hba) (And.intro hz (And.intro (below_step hb hba) hbk))))
    have HW := Lib.hid (And.intro hb.size h2.lt)
    clear h1 h2 h3 hz hb hba hbk
    go_wp2_with fail
    refine (RatTell.num_calls q g _ H.out.2.1).mono ?_
    rintro e w3 ⟨k1, rfl, h1, h2, hb⟩
    have H3 := Lib.hid (And.intro h1 (And.intro (H.out.2.1.below hb) (And.intro (H.out.2.2.2.2.same (hb.block _ H.out.2.2.2.2.lt)) (below_step H.out.2.2.2.1 hb))))
    clear h1 h2 hb
    go_wp2_with fail
    refine (abs_calls q.num w2.heap.size k1 _ H3.out.2.2.1 H3.out.1).mono ?_
    rintro e w4 ⟨rfl, h1, hk, h3⟩
    have H4 := Lib.hid (And.intro h1 (And.intro (H3.out.2.1.grown hk h3 (by have := HW.out.2; omega)) (below_grown H3.out.2.2.2 h3 HW.out.1)))
    clear h1 hk h3 H3
    go_wp2_with fail
    refine (string_calls (q.num.natAbs : Int) (by rw [Int.natAbs_natCast]; have := H.out.2.2.1.1; omega) w2.heap.size _ H4.out.1).mono ?_
    rintro e w5 ⟨rfl, hb⟩
    rw [ztxt_nat]
    have H5 := Lib.hid (And.intro (H4.out.2.1.below hb) (below_step H4.out.2.2 hb))
    have HZ := Lib.hid H.out.2.2.1
    have HQ := Lib.hid H.out.1
    clear hb H4 H HW
    generalize hx : (⟨(txt q.num.natAbs).toArray⟩ : ByteArray) = x at *
    have hxs : x.size ≤ 1000000000 := by rw [← hx, str_size]; have := Sizes.txt_len q.num.natAbs; have := HZ.out.1; omega
    have HX := Lib.hid hx
    clear hx
    go_wp2_with fail
    refine (isInt_calls q g _ H5.out.1).mono ?_
    rintro e w6 ⟨rfl, rfl⟩
    go_upto_if 18 with fail
    go_cut [5] (fun v wx => ∃ t : ByteArray, v = .string t ∧ t.size ≤ 9000000000 ∧ Hid (t.data.toList = stem q ∧ RatAt wx g q ∧ Below w.heap.size w wx))
    case first =>
      by_cases hd : q.den = 1
      · have HD := Lib.hid hd
        rw [decide_eq_true hd]
        clear hd
        go_wp2_with fail
        go_meet
        case rel =>
          refine ⟨_, rfl, ?_, Lib.hid ⟨?_, H5.out⟩⟩
          · rw [ByteArray.size_append]; show x.size + 2 ≤ _; omega
          · rw [stem_one HD.out, ByteArray.data_append, Array.toList_append, ← HX.out]
      · have HD := Lib.hid hd
        rw [decide_eq_false hd]
        clear hd
        go_wp2_with fail
        refine (denom_calls q g _ H5.out.1).mono ?_
        rintro e w7 ⟨k2, rfl, h1, h2, hb⟩
        have H7 := Lib.hid (And.intro h1 (And.intro (H5.out.1.below hb) (below_step H5.out.2 hb)))
        clear h1 h2 hb
        go_wp2_with fail
        refine (string_calls (q.den : Int) (by rw [Int.natAbs_natCast]; have := HZ.out.2; omega) k2 _ H7.out.1).mono ?_
        rintro e w8 ⟨rfl, hb⟩
        rw [ztxt_nat]
        have H8 := Lib.hid (And.intro (H7.out.2.1.below hb) (below_step H7.out.2.2 hb))
        clear hb H7
        generalize hy : (⟨(txt q.den).toArray⟩ : ByteArray) = y at *
        have hys : y.size ≤ 1000000000 := by rw [← hy, str_size]; have := Sizes.txt_len q.den; have := HZ.out.2; omega
        have HY := Lib.hid hy
        clear hy
        have hxy : ((⟨#[40, 47, 32]⟩ : ByteArray) ++ (x ++ ⟨#[46, 48]⟩)).size ≤ 1000000100 := by
          rw [ByteArray.size_append, ByteArray.size_append]; show 3 + (x.size + 2) ≤ _; omega
        have hxy2 : ((⟨#[40, 47, 32]⟩ : ByteArray) ++ (x ++ ⟨#[46, 48]⟩) ++ ⟨#[32]⟩).size ≤ 1000000200 := by
          rw [ByteArray.size_append]; show _ + 1 ≤ _; omega
        have hxy3 : ((⟨#[40, 47, 32]⟩ : ByteArray) ++ (x ++ ⟨#[46, 48]⟩) ++ ⟨#[32]⟩ ++ y).size ≤ 2000000200 := by
          rw [ByteArray.size_append]; omega
        have hxy4 : ((⟨#[40, 47, 32]⟩ : ByteArray) ++ (x ++ ⟨#[46, 48]⟩) ++ ⟨#[32]⟩ ++ y ++ ⟨#[46, 48, 41]⟩).size ≤ 2000000300 := by
          rw [ByteArray.size_append]; show _ + 3 ≤ _; omega
        go_wp2_with fail
        go_meet
        case rel =>
          refine ⟨_, rfl, by omega, Lib.hid ⟨?_, H8.out⟩⟩
          rw [stem_more HD.out, ← HX.out, ← HY.out]
          simp only [ByteArray.data_append, Array.toList_append]
    case rest =>
      obtain ⟨t, rfl, hts, HC⟩ := hcut
      go_wp2_with fail
      refine (RatTell.sign_calls q g _ HC.out.2.1).mono ?_
      rintro e w7 ⟨rfl, hb⟩
      have HB := Lib.hid (below_step HC.out.2.2 hb)
      clear hb
      by_cases hn : q.num < 0
      · have HN := Lib.hid hn
        rw [Int.sign_eq_neg_one_of_neg hn]
        clear hn
        have h1 : ((⟨#[40, 45, 32]⟩ : ByteArray) ++ t).size ≤ 9000000100 := by
          rw [ByteArray.size_append]; show 3 + t.size ≤ _; omega
        go_wp2_with fail
        go_ret2
        refine ⟨HB.out, .inl ⟨q, HQ.out, ?_⟩⟩
        rw [sptxt_neg HN.out, ← HC.out.1, ← str_app, ← str_app]
        rfl
      · have HN := Lib.hid hn
        have hs0 : 0 ≤ q.num.sign := Int.sign_nonneg_iff.2 (by omega)
        clear hn
        generalize q.num.sign = sgn at *
        go_wp2_with fail
        go_ret2
        refine ⟨HB.out, .inl ⟨q, HQ.out, ?_⟩⟩
        rw [sptxt_pos (by have := HN.out; omega), ← HC.out.1]
        rfl
  · have H := Lib.hid (And.intro h1 hb)
    clear h1 hb
    go_wp2_with fail
    go_ret2
    exact ⟨H.out.2, .inr ⟨H.out.1, rfl⟩⟩
end Go.Proofs.YtjeamchaibialaaGreatDoor.SpellWalk
