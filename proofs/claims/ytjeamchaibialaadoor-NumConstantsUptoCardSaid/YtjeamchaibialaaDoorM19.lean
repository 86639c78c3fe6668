/- Joined: Denom Spell -/
import Derived.Test.YtjeamchaibialaaDoorM4
import Derived.Deep.RegionHeld3
import Derived.Test.YtjeamchaibialaaDoorM6
set_option linter.unusedVariables false
set_option linter.unusedSimpArgs false
/- big's denominator: the walk. -/
namespace Go.Proofs.YtjeamchaibialaaDoor.FloorWalk
open Go.RowKit Go.Proofs.YtjeamchaibialaaDoorW.PrintWords Go.Proofs.YtjeamchaibialaaDoorW.PrintLast Go.Proofs.YtjeamchaibialaaDoorW.PrintMore Fns Limbs Pure1 Nats Go.Proofs.YtjeamchaibialaaDoor.Told ReadWalk Texts Rats Parses Heaps Go.Proofs.YtjeamchaibialaaDoor.Ints Go.Proofs.YtjeamchaibialaaDoor.Splits Go.Proofs.YtjeamchaibialaaDoor.RatTell

set_option maxRecDepth 100000 in
set_option maxHeartbeats 1000000 in
theorem denom_calls (q : Rat) (g : Nat) (w : World) (h : RatAt w g q) :
    Calls Tryd.prog 79 #[.pointer (some ⟨g, 0, none⟩)] w fun e w' => ∃ k, e = .returned (.pointer (some ⟨k, 0, none⟩)) ∧ IntAt w' k (q.den : Int) ∧ w.heap.size ≤ k ∧ Below w.heap.size w w' := by
  have HBN := Lib.hid (And.intro (Blk.alloc w #[.bool false, .slice none 0 0] 61) ((Below.refl w.heap.size w).alloc (Nat.le_refl _) (.cells #[.bool false, .slice none 0 0] 61)))
  have H := Lib.hid (h.below HBN.out.2)
  clear h
  go_enter Tryd.func79, Tryd.ntmps79
  go_wp2_with fail
  refine (low_calls q g _ H.out).mono ?_
  rintro e w2 ⟨v, rfl, hv, hb⟩
  have H2 := Lib.hid (And.intro hv (And.intro (HBN.out.1.same (hb.block _ HBN.out.1.lt)) (below_step HBN.out.2 hb)))
  clear hv hb H
  go_wp2_with fail
  refine (set_calls false q.den w.heap.size false none 0 0 _ _ H2.out.2.1 (Lib.hid H2.out.1)).mono ?_
  rintro e w3 ⟨rfl, h1, h2, h3⟩
  have H3 := Lib.hid (And.intro h1 (below_grown H2.out.2.2 h3 (Nat.le_refl _)))
  clear h1 h2 h3
  go_wp2_with fail
  go_ret
  exact ⟨_, rfl, H3.out.1, Nat.le_refl _, H3.out.2⟩

end Go.Proofs.YtjeamchaibialaaDoor.FloorWalk

/- num's Spell: the walk. -/
namespace Go.Proofs.YtjeamchaibialaaDoor.SpellWalk
open Go.RowKit Go.Proofs.YtjeamchaibialaaDoorW.PrintWords Go.Proofs.YtjeamchaibialaaDoorW.PrintLast Go.Proofs.YtjeamchaibialaaDoorW.PrintMore Fns Limbs Pure1 Nats Go.Proofs.YtjeamchaibialaaDoor.Told ReadWalk Texts Rats Parses Heaps Go.Proofs.YtjeamchaibialaaDoor.Ints Go.Proofs.YtjeamchaibialaaDoor.Splits Go.Proofs.YtjeamchaibialaaDoor.RatTell Go.Proofs.YtjeamchaibialaaDoor.FloorWalk

def OutA (z : Int) (g : Nat) (w : World) (e : Ending) (w' : World) : Prop := e = .returned (.pointer (some ⟨g, 0, none⟩)) ∧ IntAt w' g z ∧ Keeps w w' ∧ w.grownBy w' (some g)
set_option maxRecDepth 100000 in
set_option maxHeartbeats 400000 in
theorem abs_calls (z : Int) (g gx : Nat) (w : World) (hg : Blk w g #[.bool false, .slice none 0 0]) (hx : IntAt w gx z) :
    Calls Tryd.prog 76 #[.pointer (some ⟨g, 0, none⟩), .pointer (some ⟨gx, 0, none⟩)] w (OutA (z.natAbs : Int) g w) := by
  obtain ⟨A, c, hX, hn⟩ := hx
  have x1 : w.cell? ⟨gx, 1, none⟩ = some (.slice A (limbs z.natAbs).length c) := hX.cell 1
  have H := Lib.hid (And.intro hg hn)
  clear hg hX hn
  go_enter Tryd.func76, Tryd.ntmps76
  go_wp2_with fail
  refine (set_calls false z.natAbs g false none 0 0 _ _ H.out.1 (Lib.hid H.out.2)).mono ?_
  rintro e w3 ⟨rfl, h1, h2, h3⟩
  have H3 := Lib.hid (And.intro h1 (And.intro h2 h3))
  clear h1 h2 h3
  go_wp2_with fail
  go_ret
  exact ⟨rfl, H3.out⟩

def stem (q : Rat) : List UInt8 := if q.den = 1 then txt q.num.natAbs ++ [46, 48] else [40, 47, 32] ++ (txt q.num.natAbs ++ [46, 48]) ++ [32] ++ txt q.den ++ [46, 48, 41]
def sptxt (q : Rat) : List UInt8 := if q.num < 0 then [40, 45, 32] ++ stem q ++ [41] else stem q
theorem sptxt_neg {q : Rat} (h : q.num < 0) : sptxt q = [40, 45, 32] ++ stem q ++ [41] := if_pos h
theorem sptxt_pos {q : Rat} (h : ¬ q.num < 0) : sptxt q = stem q := if_neg h
theorem stem_one {q : Rat} (h : q.den = 1) : stem q = txt q.num.natAbs ++ [46, 48] := if_pos h
theorem stem_more {q : Rat} (h : q.den ≠ 1) : stem q = [40, 47, 32] ++ (txt q.num.natAbs ++ [46, 48]) ++ [32] ++ txt q.den ++ [46, 48, 41] := if_neg h
theorem ztxt_nat (n : Nat) : ztxt (n : Int) = txt n := by
  unfold ztxt
  rw [if_neg (by omega), Int.natAbs_natCast]; rfl
theorem stem_len {q : Rat} {N : Nat} (h : Sizes.Sz q N) : (stem q).length ≤ 18 * N + 20 := by
  have h1 := Sizes.txt_len q.num.natAbs
  have h2 := Sizes.txt_len q.den
  have h3 := h.1; have h4 := h.2
  unfold stem
  split
  · simp; omega
  · simp; omega
theorem str_size (l : List UInt8) : (⟨l.toArray⟩ : ByteArray).size = l.length := by
  show l.toArray.size = _
  rw [List.size_toArray]
def OutSp (l : List UInt8) (w : World) (e : Ending) (W : World) : Prop :=
  Below w.heap.size w W ∧ ((∃ q, l = rtxt q ∧ e = .returned (.tuple #[.string ⟨(sptxt q).toArray⟩, .int .i64 0])) ∨ ((∀ q, l ≠ rtxt q) ∧ e = .returned (.tuple #[.string ⟨#[]⟩, .int .i64 1])))

set_option maxRecDepth 100000 in
set_option maxHeartbeats 1000000 in
theorem calls (s : ByteArray) (hs : s.size ≤ 100000000) (w : World) (hok : Ok w) :
    Calls Tryd.prog 36 #[.string s] w (OutSp s.data.toList w) := by
  go_enter Tryd.func36, Tryd.ntmps36
  go_wp2_with fail
  refine (ParseWalk.calls s hs _ hok).mono ?_
  rintro e w2 ⟨⟨q, g, h1, rfl, h2, h3⟩ | ⟨h1, rfl⟩, hb⟩
  · have hz := Bins.sz_a h1 hs
    have hba := (Below.refl w2.heap.size w2).alloc (Nat.le_refl _) (.cells #[.bool false, .slice none 0 0] 61)
    have hbk := Blk.alloc w2 #[.bool false, .slice none 0 0] 61
    have H := Lib.hid (And.intro h1 (And.intro (h2.below hba) (And.intro hz (And.intro (below_step hb hba) hbk))))
    have HW := Lib.hid (And.intro hb.size h2.lt)
    clear h1 h2 h3 hz hb hba hbk
    go_wp2_with fail
    refine (RatTell.num_calls q g _ H.out.2.1).mono ?_
    rintro e w3 ⟨k1, rfl, h1, h2, hb⟩
    have H3 := Lib.hid (And.intro h1 (And.intro (H.out.2.1.below hb) (And.intro (H.out.2.2.2.2.same (hb.block _ H.out.2.2.2.2.lt)) (below_step H.out.2.2.2.1 hb))))
    clear h1 h2 hb
    go_wp2_with fail
    refine (abs_calls q.num w2.heap.size k1 _ H3.out.2.2.1 H3.out.1).mono ?_
    rintro e w4 ⟨rfl, h1, hk, h3⟩
    have H4 := Lib.hid (And.intro h1 (And.intro (H3.out.2.1.grown hk h3 (by have := HW.out.2; omega)) (below_grown H3.out.2.2.2 h3 HW.out.1)))
    clear h1 hk h3 H3
    go_wp2_with fail
    refine (string_calls (q.num.natAbs : Int) (by rw [Int.natAbs_natCast]; have := H.out.2.2.1.1; omega) w2.heap.size _ H4.out.1).mono ?_
    rintro e w5 ⟨rfl, hb⟩
    rw [ztxt_nat]
    have H5 := Lib.hid (And.intro (H4.out.2.1.below hb) (below_step H4.out.2.2 hb))
    have HZ := Lib.hid H.out.2.2.1
    have HQ := Lib.hid H.out.1
    clear hb H4 H HW
    generalize hx : (⟨(txt q.num.natAbs).toArray⟩ : ByteArray) = x at *
    have hxs : x.size ≤ 1000000000 := by rw [← hx, str_size]; have := Sizes.txt_len q.num.natAbs; have := HZ.out.1; omega
    have HX := Lib.hid hx
    clear hx
    go_wp2_with fail
    refine (isInt_calls q g _ H5.out.1).mono ?_
    rintro e w6 ⟨rfl, rfl⟩
    go_upto_if 18 with fail
    go_cut [5] (fun v wx => ∃ t : ByteArray, v = .string t ∧ t.size ≤ 9000000000 ∧ Hid (t.data.toList = stem q ∧ RatAt wx g q ∧ Below w.heap.size w wx))
    case first =>
      by_cases hd : q.den = 1
      · have HD := Lib.hid hd
        rw [decide_eq_true hd]
        clear hd
        go_wp2_with fail
        go_meet
        case rel =>
          refine ⟨_, rfl, ?_, Lib.hid ⟨?_, H5.out⟩⟩
          · rw [ByteArray.size_append]; show x.size + 2 ≤ _; omega
          · rw [stem_one HD.out, ByteArray.data_append, Array.toList_append, ← HX.out]
      · have HD := Lib.hid hd
        rw [decide_eq_false hd]
        clear hd
        go_wp2_with fail
        refine (denom_calls q g _ H5.out.1).mono ?_
        rintro e w7 ⟨k2, rfl, h1, h2, hb⟩
        have H7 := Lib.hid (And.intro h1 (And.intro (H5.out.1.below hb) (below_step H5.out.2 hb)))
        clear h1 h2 hb
        go_wp2_with fail
        refine (string_calls (q.den : Int) (by rw [Int.natAbs_natCast]; have := HZ.out.2; omega) k2 _ H7.out.1).mono ?_
        rintro e w8 ⟨rfl, hb⟩
        rw [ztxt_nat]
        have H8 := Lib.hid (And.intro (H7.out.2.1.below hb) (below_step H7.out.2.2 hb))
        clear hb H7
        generalize hy : (⟨(txt q.den).toArray⟩ : ByteArray) = y at *
        have hys : y.size ≤ 1000000000 := by rw [← hy, str_size]; have := Sizes.txt_len q.den; have := HZ.out.2; omega
        have HY := Lib.hid hy
        clear hy
        have hxy : ((⟨#[40, 47, 32]⟩ : ByteArray) ++ (x ++ ⟨#[46, 48]⟩)).size ≤ 1000000100 := by
          rw [ByteArray.size_append, ByteArray.size_append]; show 3 + (x.size + 2) ≤ _; omega
        have hxy2 : ((⟨#[40, 47, 32]⟩ : ByteArray) ++ (x ++ ⟨#[46, 48]⟩) ++ ⟨#[32]⟩).size ≤ 1000000200 := by
          rw [ByteArray.size_append]; show _ + 1 ≤ _; omega
        have hxy3 : ((⟨#[40, 47, 32]⟩ : ByteArray) ++ (x ++ ⟨#[46, 48]⟩) ++ ⟨#[32]⟩ ++ y).size ≤ 2000000200 := by
          rw [ByteArray.size_append]; omega
        have hxy4 : ((⟨#[40, 47, 32]⟩ : ByteArray) ++ (x ++ ⟨#[46, 48]⟩) ++ ⟨#[32]⟩ ++ y ++ ⟨#[46, 48, 41]⟩).size ≤ 2000000300 := by
          rw [ByteArray.size_append]; show _ + 3 ≤ _; omega
        go_wp2_with fail
        go_meet
        case rel =>
          refine ⟨_, rfl, by omega, Lib.hid ⟨?_, H8.out⟩⟩
          rw [stem_more HD.out, ← HX.out, ← HY.out]
          simp only [ByteArray.data_append, Array.toList_append]
    case rest =>
      obtain ⟨t, rfl, hts, HC⟩ := hcut
      go_wp2_with fail
      refine (RatTell.sign_calls q g _ HC.out.2.1).mono ?_
      rintro e w7 ⟨rfl, hb⟩
      have HB := Lib.hid (below_step HC.out.2.2 hb)
      clear hb
      by_cases hn : q.num < 0
      · have HN := Lib.hid hn
        rw [Int.sign_eq_neg_one_of_neg hn]
        clear hn
        have h1 : ((⟨#[40, 45, 32]⟩ : ByteArray) ++ t).size ≤ 9000000100 := by
          rw [ByteArray.size_append]; show 3 + t.size ≤ _; omega
        go_wp2_with fail
        go_ret2
        refine ⟨HB.out, .inl ⟨q, HQ.out, ?_⟩⟩
        rw [sptxt_neg HN.out, ← HC.out.1, ← str_app, ← str_app]
        rfl
      · have HN := Lib.hid hn
        have hs0 : 0 ≤ q.num.sign := Int.sign_nonneg_iff.2 (by omega)
        clear hn
        generalize q.num.sign = sgn at *
        go_wp2_with fail
        go_ret2
        refine ⟨HB.out, .inl ⟨q, HQ.out, ?_⟩⟩
        rw [sptxt_pos (by have := HN.out; omega), ← HC.out.1]
        rfl
  · have H := Lib.hid (And.intro h1 hb)
    clear h1 hb
    go_wp2_with fail
    go_ret2
    exact ⟨H.out.2, .inr ⟨H.out.1, rfl⟩⟩
end Go.Proofs.YtjeamchaibialaaDoor.SpellWalk
