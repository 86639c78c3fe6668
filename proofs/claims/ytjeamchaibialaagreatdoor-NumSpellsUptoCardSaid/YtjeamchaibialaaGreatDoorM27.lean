/- Joined: RefS RefU TopSpells -/
import Derived.Test.YtjeamchaibialaaGreatDoorM9
import Derived.Test.YtjeamchaibialaaGreatDoorM19
import Derived.Test.YtjeamchaibialaaGreatDoorM26
import Derived.RegionTactic
import Derived.Test.YtjeamchaibialaaGreatDoorM10
set_option linter.unusedVariables false
set_option linter.unusedSimpArgs false
/- The reference's strip and Constant: the walks. -/
namespace Go.Proofs.YtjeamchaibialaaGreatDoor.RefS
open Go.RowKit Heaps Go.Proofs.YtjeamchaibialaaGreatDoorW.PrintWords Go.Proofs.YtjeamchaibialaaGreatDoorW.PrintLast Go.Proofs.YtjeamchaibialaaGreatDoorW.PrintMore Fns Limbs Pure1 Pure3 Nats Arrs Texts Rats RefA RefB RefC RefD RefE RefF RefG RefH RefI RefJ RefK RefL RefM ReadWalk Parses Go.Proofs.YtjeamchaibialaaGreatDoor.SpellWalk

def OutS (a p : Nat) (w : World) (x : Ending) (w' : World) : Prop := ∃ (e q : Nat) (v' : Value), x = .returned (.tuple #[.int .i64 e, v']) ∧ a = p ^ e * q ∧ ¬ p ∣ q ∧ IsI w' v' q ∧ Below w.heap.size w w'
set_option maxRecDepth 100000 in
set_option maxHeartbeats 400000 in
theorem strip_calls (a p : Nat) (ha : a ≠ 0) (hp : 2 ≤ p) (hp9 : p < 1000000000) (hla : (limbs a).length ≤ 100000000) (va : Value) (w : World) (hA : Hid (IsI w va a)) :
    Calls Tryz.prog 46 #[va, .int .i64 p] w (OutS a p w) := by
  have hpl : (limbs p).length ≤ 800000000 := Nat.le_trans (limbs_len_le (n := p) (k := 1) (by simp [pw]; omega)) (by omega)
  go_enter Tryz.func46, Tryz.ntmps46
  go_wp2_with fail
  go_loopw [0, 6] (fun v0 v6 wr => ∃ x e : Nat, v6 = .int .i64 e ∧ e ≤ 3000000000 ∧ x ≠ 0 ∧ Hid (a = p ^ e * x) ∧ (limbs x).length ≤ 100000000 ∧ Hid (IsI wr v0 x ∧ Below w.heap.size w wr)) (fun v0 _ wr => numI wr v0)
  case atStart => exact ⟨a, 0, rfl, by omega, ha, by show a = p ^ 0 * a; rw [Nat.pow_zero, Nat.one_mul], hla, hA.out, Below.refl _ _⟩
  case round =>
    clear hA
    obtain ⟨x, e, rfl, he, hx0, hxe, hlx, HB⟩ := hrel
    have HN := Lib.hid (numI_eq HB.out.1)
    go_wp2_with fail
    refine (int_calls p (by omega) _).mono ?_
    rintro _ w2 ⟨v2, rfl, h1, hb⟩
    have H2 := Lib.hid (And.intro h1 (And.intro (isI_below HB.out.1 hb) (below_step HB.out.2 hb)))
    clear h1 hb HB
    go_wp2_with fail
    refine (div_calls x p (by omega) (by omega) hpl _ _ _ (Lib.hid H2.out.2.1) (Lib.hid H2.out.1)).mono ?_
    rintro _ w3 ⟨v3, v4, rfl, h1, h2, hb⟩
    obtain ⟨B, c, rfl, _⟩ := h2.form
    obtain ⟨r, hr⟩ : ∃ r, r = x % p := ⟨_, rfl⟩
    obtain ⟨k, hk⟩ : ∃ k, k = (limbs r).length := ⟨_, rfl⟩
    rw [← hr] at h2
    simp only [← hr, ← hk]
    have H3 := Lib.hid (And.intro h1 (And.intro (below_step H2.out.2.2 hb) (And.intro (isI_below H2.out.2.1 hb) (And.intro hr hk))))
    clear h1 h2 hb H2 hr hk
    by_cases hr0 : r = 0
    · have hk0 : k = 0 := by rw [H3.out.2.2.2.2, hr0, limbs_zero]; rfl
      have hdiv : x = p * (x / p) := by have := Nat.div_add_mod x p; have := H3.out.2.2.2.1; omega
      obtain ⟨y, hy⟩ : ∃ y, y = x / p := ⟨_, rfl⟩
      rw [← hy] at hdiv H3
      have hy0 : y ≠ 0 := fun e0 => hx0 (by rw [hdiv, e0, Nat.mul_zero])
      have hae : a = p ^ (e + 1) * y := by rw [hxe.out, Nat.pow_succ, Nat.mul_assoc, ← hdiv]
      have he1 : e + 1 ≤ 3000000000 := by
        have := Decis.pow_less p hp hae ha
        omega
      have hyx : y < x := by rw [hdiv]; exact Nat.lt_of_lt_of_le (show y < 2 * y by omega) (Nat.mul_le_mul_right y hp)
      have hyl : (limbs y).length ≤ 100000000 := Nat.le_trans (limbs_len_mono (Nat.le_of_lt hyx)) hlx
      have HY := Lib.hid (And.intro hae hyx)
      subst hk0
      clear hr0 hdiv hy hae hyx hlx hxe hx0
      go_wp2_with fail
      go_roundw
      case rel => exact ⟨y, e + 1, by go_num, he1, hy0, HY.out.1, hyl, H3.out.1, H3.out.2.1⟩
      case measure =>
        show numI _ _ < numI _ _
        rw [HN.out, numI_eq H3.out.1]
        exact HY.out.2
    · have hk0 : 0 < k := by rw [H3.out.2.2.2.2]; exact limbs_len_pos hr0
      have HD : Hid (¬ p ∣ x) := Lib.hid (fun hd => hr0 (by rw [H3.out.2.2.2.1]; exact Nat.mod_eq_zero_of_dvd hd))
      clear hr0
      go_wp2_with fail
      go_ret2
      exact ⟨e, x, _, rfl, hxe.out, HD.out, H3.out.2.2.1, H3.out.2.1⟩
theorem byte_size (l : List UInt8) : (⟨l.toArray⟩ : ByteArray).size = l.length := by
  show l.toArray.size = _
  rw [List.size_toArray]
theorem join (a b : List UInt8) : (⟨(a ++ b).toArray⟩ : ByteArray) = ⟨a.toArray⟩ ++ ⟨b.toArray⟩ := by
  apply ByteArray.ext
  rw [ByteArray.data_append]
  simp
set_option maxRecDepth 100000 in
set_option maxHeartbeats 400000 in
theorem constant_pos (q : Rat) (hq : ¬ q.num < 0) (v : Value) (w : World) (hV : Hid (RatV w v q)) (hl : (limbs q.num.natAbs).length ≤ 900000000) (hl2 : (limbs q.den).length ≤ 900000000) :
    Calls Tryz.prog 43 #[v] w fun e w' => e = .returned (.string ⟨(stem q).toArray⟩) ∧ Below w.heap.size w w' := by
  obtain ⟨n, d, rfl, hn, hd⟩ := hV.out
  obtain ⟨A, c, rfl, hc⟩ := hn.form
  obtain ⟨B, c', rfl, hc'⟩ := hd.form
  rw [decide_eq_false hq]
  obtain ⟨k1, hk1⟩ : ∃ k, k = (limbs q.num.natAbs).length := ⟨_, rfl⟩
  obtain ⟨k2, hk2⟩ : ∃ k, k = (limbs q.den).length := ⟨_, rfl⟩
  rw [← hk1, ← hk2]
  rw [← hk1] at hn
  rw [← hk2] at hd
  have hB := Blk.alloc w #[.bool false, .slice A k1 c, .slice B k2 c'] 51
  obtain ⟨l0, l1, l2⟩ := load3 hB
  have ha0 := (Below.refl w.heap.size w).alloc (Nat.le_refl _) (.cells #[.bool false, .slice A k1 c, .slice B k2 c'] 51)
  have hn1 := isI_below hn ha0
  have hd1 := isI_below hd ha0
  have HB := Lib.hid (And.intro hB (And.intro ha0 (And.intro hn1 hd1)))
  clear hB ha0 hn hd hn1 hd1 hV hc hc' hk1 hk2 hq
  go_enter Tryz.func43, Tryz.ntmps43
  go_wp2_with fail
  refine (RefD.text_calls q.num.natAbs (by omega) _ _ (Lib.hid HB.out.2.2.1)).mono ?_
  rintro e w2 ⟨rfl, hb2⟩
  obtain ⟨bl2, be2, hd2⟩ : Blk w2 w.heap.size #[.bool false, .slice A k1 c, .slice B k2 c'] ∧ Below w.heap.size w w2 ∧ IsI w2 (.slice B k2 c') q.den :=
    ⟨HB.out.1.same (hb2.block _ HB.out.1.lt), below_step HB.out.2.1 hb2, isI_below HB.out.2.2.2 hb2⟩
  clear l0 l1 l2
  obtain ⟨l0, l1, l2⟩ := load3 bl2
  have H2 := Lib.hid (And.intro bl2 (And.intro be2 hd2))
  clear bl2 be2 hd2 hb2 HB
  obtain ⟨t, ht⟩ : ∃ t : ByteArray, t = ⟨(txt q.num.natAbs).toArray⟩ := ⟨_, rfl⟩
  have hts : t.size ≤ 10000000000 := by
    rw [ht, byte_size]
    have := Sizes.txt_len q.num.natAbs
    omega
  have hsz : (t ++ (⟨#[46, 48]⟩ : ByteArray)).size ≤ 10000000002 := by rw [ByteArray.size_append]; show _ + 2 ≤ _; omega
  rw [← ht]
  have HT := Lib.hid ht
  clear ht
  go_upto_region 4 with fail
  have hl1 : (limbs 1).length ≤ 1000000000000000 := Nat.le_trans one_len (by omega)
  have hl3 : (limbs q.den).length ≤ 1000000000000000 := by omega
  have hS := And.intro l2 (And.intro H2.out.1 (And.intro H2.out.2.1 H2.out.2.2))
  clear l0 l1 l2 H2
  go_region_held3 (fun (W : World) => W.cell? ⟨w.heap.size, 2, none⟩ = some (.slice B k2 c') ∧ (Blk W w.heap.size #[.bool false, .slice A k1 c, .slice B k2 c'] ∧ Below w.heap.size w W ∧ IsI W (.slice B k2 c') q.den))
    (first | exact held_text hS (Drawn0.below ⟨1, rfl⟩) | exact held_text (by assumption) (by assumption))
    (first
      | (go_at_call 48; with_reducible refine (one_calls _).mono ?_; rintro e w' ⟨v, rfl, hv, hb⟩)
      | (go_at_call 47; with_reducible refine (cmp_calls q.den 1 hl3 hl1 (.slice B k2 c') _ _ (Lib.hid (text_of (by assumption))) ?_).mono ?_; (first | exact Lib.hid (by assumption) | exact Lib.hid (isI_below (by assumption) (by assumption))); rintro e w' ⟨rfl, hb⟩))
  have hS' : w'.cell? ⟨w.heap.size, 2, none⟩ = some (.slice B k2 c') ∧ (Blk w' w.heap.size #[.bool false, .slice A k1 c, .slice B k2 c'] ∧ Below w.heap.size w w' ∧ IsI w' (.slice B k2 c') q.den) := by assumption
  obtain ⟨l2, bl2, be2, hd2⟩ := hS'
  have H3 := Lib.hid (And.intro be2 hd2)
  clear bl2 be2 hd2 hS
  by_cases h1 : q.den = 1
  · have hs : sgn q.den 1 = 0 := by rw [h1]; rfl
    have hj := Lib.hid (stem_one h1)
    rw [hs]
    go_wp2_with fail
    go_ret
    exact ⟨by rw [hj.out, join, ← HT.out]; rfl, H3.out.1⟩
  · have hs : sgn q.den 1 ≠ 0 := by unfold sgn; split <;> first | omega | (split <;> omega)
    have hsn : (sgn q.den 1 == 0) = false := beq_eq_false_iff_ne.2 hs
    have hj := Lib.hid (stem_more h1)
    rw [hsn]
    obtain ⟨u, hu⟩ : ∃ u : ByteArray, u = ⟨(txt q.den).toArray⟩ := ⟨_, rfl⟩
    have hus : u.size ≤ 10000000000 := by
      rw [hu, byte_size]
      have := Sizes.txt_len q.den
      omega
    have hz1 : ((⟨#[40, 47, 32]⟩ : ByteArray) ++ (t ++ ⟨#[46, 48]⟩)).size ≤ 10000000100 := by
      rw [ByteArray.size_append, ByteArray.size_append]; show 3 + (t.size + 2) ≤ _; omega
    have hz2 : ((⟨#[40, 47, 32]⟩ : ByteArray) ++ (t ++ ⟨#[46, 48]⟩) ++ ⟨#[32]⟩).size ≤ 10000000200 := by
      rw [ByteArray.size_append]; show _ + 1 ≤ _; omega
    have hz3 : ((⟨#[40, 47, 32]⟩ : ByteArray) ++ (t ++ ⟨#[46, 48]⟩) ++ ⟨#[32]⟩ ++ u).size ≤ 30000000200 := by
      rw [ByteArray.size_append]; omega
    have hz4 : ((⟨#[40, 47, 32]⟩ : ByteArray) ++ (t ++ ⟨#[46, 48]⟩) ++ ⟨#[32]⟩ ++ u ++ ⟨#[46, 48, 41]⟩).size ≤ 30000000300 := by
      rw [ByteArray.size_append]; show _ + 3 ≤ _; omega
    have HU := Lib.hid hu
    clear hs hsn h1 hu
    go_wp2_with fail
    refine (RefD.text_calls q.den (by omega) _ _ (Lib.hid H3.out.2)).mono ?_
    rintro e w5 ⟨rfl, hb5⟩
    rw [← HU.out]
    have HB5 := Lib.hid (below_step H3.out.1 hb5)
    clear hb5
    go_wp2_with fail
    go_ret
    exact ⟨by rw [hj.out, join, join, join, join, join, ← HT.out, ← HU.out]; rfl, HB5.out⟩

set_option maxRecDepth 100000 in
set_option maxHeartbeats 400000 in
theorem constant_calls (q : Rat) (v : Value) (w : World) (hV : Hid (RatV w v q)) (hz : Sizes.Sz q 100000000) :
    Calls Tryz.prog 43 #[v] w fun e w' => e = .returned (.string ⟨(sptxt q).toArray⟩) ∧ Below w.heap.size w w' := by
  by_cases hq : q.num < 0
  · rw [sptxt_neg hq]
    have hV0 := hV
    obtain ⟨n, d, rfl, hn, hd⟩ := hV.out
    obtain ⟨A, c, rfl, hc⟩ := hn.form
    obtain ⟨B, c', rfl, hc'⟩ := hd.form
    rw [decide_eq_true hq] at hV0 ⊢
    obtain ⟨k1, hk1⟩ : ∃ k, k = (limbs q.num.natAbs).length := ⟨_, rfl⟩
    obtain ⟨k2, hk2⟩ : ∃ k, k = (limbs q.den).length := ⟨_, rfl⟩
    rw [← hk1, ← hk2] at hV0 ⊢
    have hB := Blk.alloc w #[.bool true, .slice A k1 c, .slice B k2 c'] 51
    obtain ⟨l0, l1, l2⟩ := load3 hB
    have ha0 := (Below.refl w.heap.size w).alloc (Nat.le_refl _) (.cells #[.bool true, .slice A k1 c, .slice B k2 c'] 51)
    have HO := Lib.hid (opp_calls q _ _ (Lib.hid (ratV_below hV0.out ha0)) (by have := hz.1; omega))
    have HB := Lib.hid ha0
    have hqn : ¬ (-q).num < 0 := by rw [Rat.neg_num]; omega
    have hzn := Sizes.sz_opp hz
    have hst : stem (-q) = stem q := by unfold stem; rw [Rat.neg_num, Int.natAbs_neg, Rat.neg_den]
    have hsl := stem_len hz
    have HC := Lib.hid (And.intro hqn (And.intro hzn (And.intro hst hsl)))
    clear hB hn hd hc hc' hk1 hk2 hq hV hV0 ha0 hz hqn hzn hst hsl
    go_enter Tryz.func43, Tryz.ntmps43
    go_wp2_with fail
    refine HO.out.mono ?_
    rintro e w2 ⟨v, rfl, hv, hb⟩
    have H2 := Lib.hid (And.intro hv (below_step HB.out hb))
    clear hv hb HO
    go_wp2_with fail
    refine (constant_pos (-q) (by have := HC.out.1; omega) _ _ (Lib.hid H2.out.1) (by have := HC.out.2.1.1; omega) (by have := HC.out.2.1.2; omega)).mono ?_
    rintro e w3 ⟨rfl, hb⟩
    rw [HC.out.2.2.1]
    have H3 := Lib.hid (below_step H2.out.2 hb)
    obtain ⟨t, ht⟩ : ∃ t : ByteArray, t = ⟨(stem q).toArray⟩ := ⟨_, rfl⟩
    rw [← ht]
    have hts : t.size ≤ 2000000000 := by rw [ht, byte_size]; have := HC.out.2.2.2; omega
    have h1 : ((⟨#[40, 45, 32]⟩ : ByteArray) ++ t).size ≤ 9000000100 := by
      rw [ByteArray.size_append]; show 3 + t.size ≤ _; omega
    have HT := Lib.hid ht
    clear hb ht
    go_wp2_with fail
    go_ret
    exact ⟨by rw [show (40 :: 45 :: 32 :: (stem q ++ [41]) : List UInt8) = [40, 45, 32] ++ stem q ++ [41] from rfl, join, join, ← HT.out]; rfl, H3.out⟩
  · rw [sptxt_pos hq]
    exact constant_pos q hq v w hV (by have := hz.1; omega) (by have := hz.2; omega)
end Go.Proofs.YtjeamchaibialaaGreatDoor.RefS

/- The reference's Spell and Decimal: the walks. -/
namespace Go.Proofs.YtjeamchaibialaaGreatDoor.RefU
open Go.RowKit Heaps Go.Proofs.YtjeamchaibialaaGreatDoorW.PrintWords Go.Proofs.YtjeamchaibialaaGreatDoorW.PrintLast Go.Proofs.YtjeamchaibialaaGreatDoorW.PrintMore Fns Limbs Pure1 Pure3 Nats Arrs Texts Rats RefA RefB RefC RefD RefE RefF RefG RefH RefI RefJ RefK RefL RefM ReadWalk Parses Go.Proofs.YtjeamchaibialaaGreatDoor.SpellWalk RefS RefP Go.Proofs.YtjeamchaibialaaGreatDoor.Decis Go.Proofs.YtjeamchaibialaaGreatDoor.DecimalWalk

theorem sz_c {q : Rat} {s : ByteArray} (h : s.data.toList = rtxt q) (hs : s.size ≤ 100000000) : Sizes.Sz q 40000000 := Bins.sz_a h hs
set_option maxRecDepth 100000 in
set_option maxHeartbeats 400000 in
theorem spell_calls (s : ByteArray) (hs : s.size ≤ 100000000) (w : World) :
    Calls Tryz.prog 11 #[.string s] w (OutSp s.data.toList w) := by
  go_enter Tryz.func11, Tryz.ntmps11
  go_wp2_with fail
  refine (of_flat s hs _).mono ?_
  rintro e w2 ⟨v, ok, rfl, ⟨b, A, n, c, B, m, d, rfl⟩, hb, h1, h2⟩
  obtain ⟨w3, hw3, hX, hb3, hb23⟩ := new_flat hb b A n c B m d
  have h1' : ok = true → ∃ p, s.data.toList = rtxt p ∧ RatV w3 (.agg #[.bool b, .slice A n c, .slice B m d]) p := fun h => by
    obtain ⟨p, e1, e3⟩ := h1 h
    exact ⟨p, e1, ratV_below e3 hb23⟩
  have H := Lib.hid (And.intro h1' (And.intro h2 (And.intro hX hb3)))
  clear h1 h1' h2 hX hb hb3 hb23
  go_upto_region 2 with fail
  rw [← hw3]
  clear hw3
  generalize w2.heap.size = g at *
  obtain ⟨l0, l1, l2⟩ := load3 H.out.2.2.1
  cases ok
  · have HN := Lib.hid (H.out.2.1 rfl)
    go_wp2_with fail
    go_ret2
    exact ⟨H.out.2.2.2, .inr ⟨HN.out, rfl⟩⟩
  · obtain ⟨p, e1, e3⟩ := H.out.1 rfl
    have hp := sz_c e1 hs
    have HV := Lib.hid (And.intro e1 (And.intro e3 hp))
    clear e1 e3 hp
    go_wp2_with fail
    refine (constant_calls p _ _ (Lib.hid HV.out.2.1) (HV.out.2.2.mono (by omega))).mono ?_
    rintro e w4 ⟨rfl, hb4⟩
    have HB := Lib.hid (below_step H.out.2.2.2 hb4)
    clear hb4 l0 l1 l2
    go_wp2_with fail
    go_ret2
    exact ⟨HB.out, .inl ⟨p, HV.out.1, rfl⟩⟩

def Now (w : World) (g : Nat) (q : Rat) (b : Bool) (A : Option Addr) (n c : Nat) (B : Option Addr) (m d : Nat) (W : World) : Prop :=
  Blk W g #[.bool b, .slice A n c, .slice B m d] ∧ IsI W (.slice A n c) q.num.natAbs ∧ IsI W (.slice B m d) q.den ∧ Below w.heap.size w W
theorem Now.below {w : World} {g : Nat} {q : Rat} {b : Bool} {A : Option Addr} {n c : Nat} {B : Option Addr} {m d : Nat} {W W' : World} (h : Now w g q b A n c B m d W) (hb : Below W.heap.size W W') : Now w g q b A n c B m d W' :=
  ⟨h.1.same (hb.block _ h.1.lt), isI_below h.2.1 hb, isI_below h.2.2.1 hb, below_step h.2.2.2 hb⟩
def dbody (q : Rat) (p : Nat) : List UInt8 := if p = 0 then txt q.num.natAbs ++ [46, 48] else point p (pad p (txt (q.num.natAbs * 10 ^ p / q.den)))
theorem dtxt_body {q : Rat} {p : Nat} (h : Least q.den p) : dtxt q (max p 1) = (if q.num < 0 then [45] else []) ++ dbody q p := by
  by_cases h0 : p = 0
  · subst h0
    have hd : q.den = 1 := Nat.eq_one_of_dvd_one (by have := h.1; rwa [Nat.pow_zero] at this)
    rw [show max 0 1 = 1 from rfl, dtxt_whole hd]
    rfl
  · rw [show max p 1 = p from by omega]
    unfold dtxt dbody
    rw [if_neg h0]
theorem pad_enough {k : Nat} {l : List UInt8} {j : Nat} (h : j = k + 1 - l.length) : List.replicate j 48 ++ l = pad k l := by subst h; rfl
theorem limbs_ten {n k : Nat} (N : Nat) (h : (limbs n).length ≤ N) : (limbs (n * 10 ^ k)).length ≤ N + (k / 9 + 2) := by
  have h1 := limbs_len_mul n (10 ^ k)
  have h2 := lt_ten_limbs (n := 10 ^ k) (k := k + 1) (Nat.pow_lt_pow_right (by omega) (by omega))
  omega
set_option maxRecDepth 100000 in
set_option maxHeartbeats 1000000 in
theorem decimal_calls (s : ByteArray) (hs : s.size ≤ 100000000) (hz : ∀ q, s.data.toList = rtxt q → Sizes.Sz q 1000000) (w : World) :
    Calls Tryz.prog 13 #[.string s] w (OutDc s.data.toList w) := by
  go_enter Tryz.func13, Tryz.ntmps13
  go_wp2_with fail
  refine (of_flat s hs _).mono ?_
  rintro e w2 ⟨v, ok, rfl, ⟨b, A, n, c, B, m, d, rfl⟩, hb, h1, h2⟩
  obtain ⟨w3, hw3, hX, hb3, hb23⟩ := new_flat hb b A n c B m d
  have h1' : ok = true → ∃ p, s.data.toList = rtxt p ∧ RatV w3 (.agg #[.bool b, .slice A n c, .slice B m d]) p := fun h => by
    obtain ⟨p, e1, e3⟩ := h1 h
    exact ⟨p, e1, ratV_below e3 hb23⟩
  have H := Lib.hid (And.intro h1' (And.intro h2 (And.intro hX (And.intro hb3 hz))))
  clear h1 h1' h2 hX hb hb3 hb23 hz
  go_upto_region 2 with fail
  rw [← hw3]
  clear hw3
  generalize w2.heap.size = g at *
  obtain ⟨l0, l1, l2⟩ := load3 H.out.2.2.1
  cases ok
  · have HN := Lib.hid (H.out.2.1 rfl)
    go_wp2_with fail
    go_ret2
    exact ⟨H.out.2.2.2.1, .inr (.inr ⟨HN.out, rfl⟩)⟩
  · obtain ⟨q, e1, e3⟩ := H.out.1 rfl
    have hq := H.out.2.2.2.2 q e1
    obtain ⟨nn, dd, eb, en, ed⟩ := e3
    injection eb with eb
    injection eb with eb
    injection eb with eb1 eb
    injection eb with eb2 eb
    injection eb with eb3 _
    injection eb1 with eb1
    subst eb2 eb3
    have HV := Lib.hid (And.intro e1 (And.intro en (And.intro ed (And.intro hq (And.intro eb1 (And.intro H.out.2.2.1 H.out.2.2.2.1))))))
    clear e1 en ed hq eb1 H
    go_wp2_with fail
    refine (strip_calls q.den 2 q.den_nz (by omega) (by omega) (by have := HV.out.2.2.2.1.2; omega) _ _ (Lib.hid HV.out.2.2.1)).mono ?_
    rintro _ w4 ⟨e, r, v4, rfl, h41, h42, h43, hb4⟩
    have hr0 : r ≠ 0 := fun e0 => q.den_nz (by rw [h41, e0, Nat.mul_zero])
    have hrl : (limbs r).length ≤ 1000000 := Nat.le_trans (limbs_len_mono (by rw [h41]; exact Nat.le_mul_of_pos_left _ (Nat.pow_pos (by omega)))) HV.out.2.2.2.1.2
    have he : e ≤ 30000000 := by
      have := pow_less 2 (by omega) h41 q.den_nz
      have := HV.out.2.2.2.1.2
      omega
    have HS := Lib.hid (And.intro HV.out.1 (And.intro HV.out.2.2.2.1 HV.out.2.2.2.2.1))
    have HNow : Hid (Now w g q b A n c B m d w3) := Lib.hid ⟨HV.out.2.2.2.2.2.1, HV.out.2.1, HV.out.2.2.1, HV.out.2.2.2.2.2.2⟩
    have H4 := Lib.hid (And.intro h43 (And.intro (HNow.out.below hb4) (And.intro h41 h42)))
    clear h41 h42 h43 hb4 HNow HV l0 l1 l2
    go_wp2_with fail
    refine (strip_calls r 5 hr0 (by omega) (by omega) (by omega) _ _ (Lib.hid H4.out.1)).mono ?_
    rintro _ w5 ⟨f, t, v5, rfl, h51, h52, h53, hb5⟩
    have htl : (limbs t).length ≤ 1000000 := Nat.le_trans (limbs_len_mono (by rw [h51]; exact Nat.le_mul_of_pos_left _ (Nat.pow_pos (by omega)))) hrl
    have hf : f ≤ 30000000 := by
      have := pow_less 5 (by omega) h51 hr0
      omega
    have H5 := Lib.hid (And.intro h53 (And.intro (H4.out.2.1.below hb5) (And.intro H4.out.2.2.1 (And.intro H4.out.2.2.2 (And.intro h51 h52)))))
    clear h51 h52 h53 hb5 H4 hr0 hrl
    go_wp2_with fail
    refine (one_calls _).mono ?_
    rintro _ w6 ⟨v6, rfl, h6, hb6⟩
    have H6 := Lib.hid (And.intro h6 (And.intro (isI_below H5.out.1 hb6) (And.intro (H5.out.2.1.below hb6) H5.out.2.2)))
    clear h6 hb6 H5
    go_wp2_with fail
    refine (cmp_calls t 1 (by omega) (Nat.le_trans one_len (by omega)) _ _ _ (Lib.hid H6.out.2.1) (Lib.hid H6.out.1)).mono ?_
    rintro _ w7 ⟨rfl, hb7⟩
    obtain ⟨p, hp⟩ : ∃ p, p = max e f := ⟨_, rfl⟩
    have H7 := Lib.hid (H6.out.2.2.1.below hb7)
    have HL := Lib.hid (And.intro H6.out.2.2.2.1 (And.intro H6.out.2.2.2.2.1 (And.intro H6.out.2.2.2.2.2.1 (And.intro H6.out.2.2.2.2.2.2 hp))))
    have hp9 : p ≤ 30000000 := by omega
    clear hb7 H6 htl
    by_cases h1 : t = 1
    · have hs : sgn t 1 = 0 := by rw [h1]; rfl
      have HLE : Hid (Least q.den p) := Lib.hid (by
        rw [HL.out.2.2.2.2]
        refine least_of ?_
        rw [HL.out.1, HL.out.2.2.1, h1, Nat.mul_one])
      have HP := Lib.hid hp
      rw [hs]
      clear hs h1 HL hp
      go_upto_if 39 with fail
      go_cut [10] (fun v wx => v = .int .i64 p ∧ wx = w7)
      case first =>
        by_cases hfe : e < f
        · have hpf : Hid (f = p) := Lib.hid (by rw [HP.out]; omega)
          go_wp2_with fail
          go_meet
          case rel => exact ⟨by rw [hpf.out], rfl⟩
        · have hpf : Hid (e = p) := Lib.hid (by rw [HP.out]; omega)
          have hfe' : f ≤ e := by omega
          go_wp2_with fail
          go_meet
          case rel => exact ⟨by rw [hpf.out], rfl⟩
      case rest =>
        obtain ⟨rfl, hw⟩ := hcut
        rw [hw]
        clear hw HP
        obtain ⟨l0, l1, l2⟩ := load3 H7.out.1
        go_wp2_with fail
        have HS0 : Hid (IsI w7 (.slice A n c) (q.num.natAbs * 10 ^ 0)) := Lib.hid (by rw [Nat.pow_zero, Nat.mul_one]; exact H7.out.2.1)
        have hnl : (limbs q.num.natAbs).length ≤ 1000000 := HS.out.2.1.1
        have hdl : (limbs q.den).length ≤ 1000000 := HS.out.2.1.2
        clear l0 l1 l2
        go_loopw [11, 12] (fun v11 v12 wr => ∃ i : Nat, i ≤ p ∧ v12 = .int .i64 i ∧ Hid (IsI wr v11 (q.num.natAbs * 10 ^ i) ∧ Now w g q b A n c B m d wr)) (fun _ v12 _ => p - (intOf v12).toNat)
        case atStart => exact ⟨0, Nat.zero_le _, rfl, HS0.out, H7.out⟩
        case round =>
          clear H7 HS0
          obtain ⟨i, hi, rfl, HR⟩ := hrel
          have hil := limbs_ten (k := i) 1000000 hnl
          by_cases hip : i < p
          · go_wp2_with fail
            refine (int_calls 10 (by omega) _).mono ?_
            rintro _ w8 ⟨v8, rfl, h8, hb8⟩
            have H8 := Lib.hid (And.intro h8 (And.intro (isI_below HR.out.1 hb8) (HR.out.2.below hb8)))
            clear h8 hb8 HR
            go_wp2_with fail
            refine (RefB.mul_calls (q.num.natAbs * 10 ^ i) 10 (by omega) (Nat.le_trans (limbs_len_le (n := 10) (k := 1) (by simp [pw])) (by omega)) _ _ _ H8.out.2.1 H8.out.1).mono ?_
            rintro _ w9 ⟨v9, rfl, h9, hb9⟩
            have H9 := Lib.hid (And.intro (show IsI w9 v9 (q.num.natAbs * 10 ^ (i + 1)) by rw [Nat.pow_succ, ← Nat.mul_assoc]; exact h9) (H8.out.2.2.below hb9))
            clear h9 hb9 H8
            go_wp2_with fail
            go_roundw
            case rel => exact ⟨i + 1, by omega, by go_num, H9⟩
            case measure => simp [intOf]; omega
          · have hie : i = p := by omega
            subst hie
            obtain ⟨l0, l1, l2⟩ := load3 HR.out.2.1
            go_wp2_with fail
            refine (div_calls (q.num.natAbs * 10 ^ i) q.den q.den_nz (by omega) (by omega) _ _ _ (Lib.hid HR.out.1) (Lib.hid HR.out.2.2.2.1)).mono ?_
            rintro _ w8 ⟨v8, v9, rfl, h8, _, hb8⟩
            obtain ⟨N, hN⟩ : ∃ N, N = q.num.natAbs * 10 ^ i / q.den := ⟨_, rfl⟩
            rw [← hN] at h8
            have hNl : (limbs N).length ≤ 30000000 := by rw [hN]; exact Nat.le_trans (limbs_len_mono (Nat.div_le_self _ _)) (by omega)
            have H8 := Lib.hid (And.intro h8 (HR.out.2.below hb8))
            have HN := Lib.hid hN
            clear h8 hb8 HR hN l0 l1 l2
            go_wp2_with fail
            refine (RefD.text_calls N (by omega) _ _ (Lib.hid H8.out.1)).mono ?_
            rintro _ w9 ⟨rfl, hb9⟩
            have H9 := Lib.hid (H8.out.2.below hb9)
            clear hb9 H8
            obtain ⟨t0, ht0⟩ : ∃ t : ByteArray, t = ⟨(txt N).toArray⟩ := ⟨_, rfl⟩
            rw [← ht0]
            have hts : t0.size ≤ 300000000 := by rw [ht0, byte_size]; have := Sizes.txt_len N; omega
            have HT : Hid (t0.data.toList = List.replicate 0 48 ++ txt N ∧ t0.size = 0 + (txt N).length) := Lib.hid (by rw [ht0]; exact ⟨rfl, by rw [byte_size, Nat.zero_add]⟩)
            clear ht0 hNl hnl hdl hil
            go_wp2_with fail
            go_loop [13] (fun v13 => ∃ (u : ByteArray) (j : Nat), v13 = .string u ∧ u.size ≤ 400000000 ∧ (j = 0 ∨ u.size ≤ i + 1) ∧ Hid (u.data.toList = List.replicate j 48 ++ txt N ∧ u.size = j + (txt N).length)) (fun v13 => match v13 with | .string u => i + 1 - u.size | _ => 0)
            case atStart => exact ⟨t0, 0, rfl, by omega, .inl rfl, HT⟩
            case round =>
              clear HT hts
              obtain ⟨u, j, rfl, hu, hj, HU⟩ := hrel
              by_cases hle : u.size ≤ i
              · have hz : ((⟨#[48]⟩ : ByteArray) ++ u).size ≤ 400000000 := by rw [ByteArray.size_append]; show 1 + u.size ≤ _; omega
                have hzz : ((⟨#[48]⟩ : ByteArray) ++ u).size = u.size + 1 := by rw [ByteArray.size_append]; show 1 + u.size = _; omega
                have HZ := Lib.hid (And.intro hzz (show ((⟨#[48]⟩ : ByteArray) ++ u).data.toList = List.replicate (j + 1) 48 ++ txt N by
                  rw [ByteArray.data_append, Array.toList_append, HU.out.1, List.replicate_succ]; rfl))
                clear hzz
                go_wp2_with fail
                refine ⟨⟨_, j + 1, rfl, hz, .inr (by rw [HZ.out.1]; omega), Lib.hid ⟨HZ.out.2, by rw [HZ.out.1]; have := HU.out.2; omega⟩⟩, ?_⟩
                show i + 1 - ((⟨#[48]⟩ : ByteArray) ++ u).size < i + 1 - u.size
                rw [HZ.out.1]; omega
              · have HP : Hid (u.data.toList = pad i (txt N)) := Lib.hid (by
                  rw [HU.out.1]
                  refine pad_enough ?_
                  have := HU.out.2
                  omega)
                have hgt : i < u.size := by omega
                clear hj HU hle
                obtain ⟨l0, l1, l2⟩ := load3 H9.out.1
                go_upto_if 67 with fail
                go_cut [13] (fun v wx => ∃ Z : ByteArray, v = .string Z ∧ Z.size ≤ 500000000 ∧ Hid (Z.data.toList = dbody q i) ∧ Hid (Below w9.heap.size w9 wx))
                case first =>
                  by_cases hi0 : i = 0
                  · have hz : (u ++ (⟨#[46, 48]⟩ : ByteArray)).size ≤ 500000000 := by rw [ByteArray.size_append]; show u.size + 2 ≤ _; omega
                    have HB : Hid ((u ++ (⟨#[46, 48]⟩ : ByteArray)).data.toList = dbody q i) := Lib.hid (by
                      rw [ByteArray.data_append, Array.toList_append, HP.out]
                      have hd : q.den = 1 := Nat.eq_one_of_dvd_one (by have := HLE.out.1; rwa [hi0, Nat.pow_zero] at this)
                      unfold dbody
                      rw [if_pos hi0]
                      have hNn : N = q.num.natAbs := by rw [HN.out, hi0, hd, Nat.pow_zero, Nat.mul_one, Nat.div_one]
                      rw [hNn, hi0]
                      unfold pad
                      have : 1 ≤ (txt q.num.natAbs).length := List.length_pos_iff.2 (txt_ne _)
                      rw [show 0 + 1 - (txt q.num.natAbs).length = 0 from by omega]
                      rfl)
                    have hi1 : ((i : Int) == 0) = true := beq_iff_eq.2 (by omega)
                    clear hi0
                    go_wp2_with fail
                    go_meet
                    case rel => exact ⟨_, rfl, hz, HB, Lib.hid (Below.refl _ _)⟩
                  · have hi1 : ((i : Int) == 0) = false := beq_eq_false_iff_ne.2 (by omega)
                    have b1 : (i : Int) ≤ (u.size : Int) := by omega
                    have b2 : (0 : Int) ≤ (u.size : Int) - (i : Int) := by omega
                    have b3 : (u.size : Int) - (i : Int) ≤ (u.size : Int) := by omega
                    have t2 : ((u.size : Int) - (i : Int)).toNat = u.size - i := by omega
                    have ww : IntKind.i64.wrap ((u.size : Int) - (i : Int)) = (u.size : Int) - (i : Int) := IntWalk.i64_in _ (by omega)
                    have HI := Lib.hid hi0
                    clear hi0
                    go_wp2_with fail
                    go_region
                    all_goals
                      obtain ⟨Z, hZ⟩ : ∃ Z : ByteArray, Z = u.extract 0 (u.size - i) ++ ⟨#[46]⟩ ++ u.extract (u.size - i) u.size := ⟨_, rfl⟩
                      simp only [← hZ]
                      have hZl : Z.data.toList = point i (pad i (txt N)) := by
                        rw [hZ, ByteArray.data_append, ByteArray.data_append, Array.toList_append, Array.toList_append, ByteArray.data_extract, ByteArray.data_extract, Array.toList_extract, Array.toList_extract, List.extract_eq_take_drop, List.extract_eq_take_drop, Lib.size_eq, HP.out]
                        unfold point
                        rw [Nat.sub_zero, List.drop_zero, List.append_assoc, List.take_of_length_le (l := List.drop _ _) (by rw [List.length_drop]; exact Nat.le_refl _)]
                        rfl
                      have hZs : Z.size ≤ 500000000 := by
                        rw [Lib.size_eq, hZl, point_len, ← HP.out, ← Lib.size_eq]; omega
                      have HZ : Hid (Z.data.toList = dbody q i) := Lib.hid (by
                        unfold dbody
                        rw [if_neg HI.out, hZl, HN.out])
                      clear hZ hZl
                      go_wp2_with fail
                      go_meet
                      case rel => exact ⟨Z, rfl, hZs, HZ, Lib.hid (Drawn0.below ⟨1, rfl⟩)⟩
                case rest =>
                  obtain ⟨Z, rfl, hZs, HZ, HBB⟩ := hcut
                  have H10 := Lib.hid (H9.out.below HBB.out)
                  clear HBB l0 l1 l2 H9
                  obtain ⟨l0, l1, l2⟩ := load3 H10.out.1
                  have HD := Lib.hid (dtxt_body HLE.out)
                  cases b
                  · have hq := Lib.hid (of_decide_eq_false HS.out.2.2.symm)
                    go_wp2_with fail
                    go_ret2
                    refine ⟨H10.out.2.2.2, .inl ⟨q, i, HS.out.1, HLE.out, hp9, ?_⟩⟩
                    rw [HD.out, if_neg (by have := hq.out; omega), ← HZ.out]; rfl
                  · have hq := Lib.hid (of_decide_eq_true HS.out.2.2.symm)
                    go_wp2_with fail
                    go_ret2
                    refine ⟨H10.out.2.2.2, .inl ⟨q, i, HS.out.1, HLE.out, hp9, ?_⟩⟩
                    rw [HD.out, if_pos hq.out, ← HZ.out, join]; rfl
    · have hs : sgn t 1 ≠ 0 := by unfold sgn; split <;> first | omega | (split <;> omega)
      have hsn : (sgn t 1 != 0) = true := bne_iff_ne.2 hs
      have HN : Hid (∀ j, ¬ q.den ∣ 10 ^ j) := Lib.hid (none_of (by rw [HL.out.1, HL.out.2.2.1]) (by rw [← HL.out.2.2.1]; exact HL.out.2.1) HL.out.2.2.2.1 h1)
      generalize sgn t 1 = z at *
      clear hs h1 HL hp
      go_wp2_with fail
      go_ret2
      exact ⟨H7.out.2.2.2, .inr (.inl ⟨⟨q, HS.out.1, HN.out⟩, rfl⟩)⟩
end Go.Proofs.YtjeamchaibialaaGreatDoor.RefU

/- NumSpells: the walk. -/
namespace Go.Proofs.YtjeamchaibialaaGreatDoor.TopSpells
open Go.RowKit Go.Proofs.YtjeamchaibialaaGreatDoorW.PrintWords Go.Proofs.YtjeamchaibialaaGreatDoorW.PrintLast Go.Proofs.YtjeamchaibialaaGreatDoorW.PrintMore Fns Limbs Nats Go.Proofs.YtjeamchaibialaaGreatDoor.Told ReadWalk Texts Rats Parses Heaps Go.Proofs.YtjeamchaibialaaGreatDoor.Splits Go.Proofs.YtjeamchaibialaaGreatDoor.SaysLaw Go.Proofs.YtjeamchaibialaaGreatDoor.SpellWalk Go.Proofs.YtjeamchaibialaaGreatDoor.Decis Go.Proofs.YtjeamchaibialaaGreatDoor.DecimalWalk

theorem spell_same {l : List UInt8} {w w' W W' : World} {e e' : Ending} (h : OutSp l w e W) (h' : OutSp l w' e' W') : ∃ (x : ByteArray) (z : Int), (z = 0 ∨ z = 1) ∧ e = .returned (.tuple #[.string x, .int .i64 z]) ∧ e' = .returned (.tuple #[.string x, .int .i64 z]) := by
  rcases h.2 with ⟨q, h1, rfl⟩ | ⟨h1, rfl⟩ <;> rcases h'.2 with ⟨p, k1, rfl⟩ | ⟨k1, rfl⟩
  · have : p = q := rtxt_inj (by rw [← k1, h1])
    subst this
    exact ⟨_, 0, .inl rfl, rfl, rfl⟩
  · exact absurd h1 (k1 q)
  · exact absurd k1 (h1 p)
  · exact ⟨_, 1, .inr rfl, rfl, rfl⟩
theorem spell_form {l : List UInt8} {w W : World} {e : Ending} (h : OutSp l w e W) : ∃ (x : ByteArray) (z : Int), e = .returned (.tuple #[.string x, .int .i64 z]) := by
  rcases h.2 with ⟨q, h1, rfl⟩ | ⟨h1, rfl⟩
  · exact ⟨_, _, rfl⟩
  · exact ⟨_, _, rfl⟩
theorem decimal_same {l : List UInt8} {w w' W W' : World} {e e' : Ending} (h : OutDc l w e W) (h' : OutDc l w' e' W') : ∃ (x : ByteArray) (z : Int), (z = 0 ∨ z = 1) ∧ e = .returned (.tuple #[.string x, .int .i64 z]) ∧ e' = .returned (.tuple #[.string x, .int .i64 z]) := by
  rcases h.2 with ⟨q, p, h1, h2, _, rfl⟩ | ⟨⟨q, h1, h2⟩, rfl⟩ | ⟨h1, rfl⟩ <;> rcases h'.2 with ⟨q', p', k1, k2, _, rfl⟩ | ⟨⟨q', k1, k2⟩, rfl⟩ | ⟨k1, rfl⟩
  · have : q' = q := rtxt_inj (by rw [← k1, h1])
    subst this
    have := k2.uniq h2
    subst this
    exact ⟨_, 0, .inl rfl, rfl, rfl⟩
  · have : q' = q := rtxt_inj (by rw [← k1, h1])
    subst this
    exact absurd h2.1 (k2 p)
  · exact absurd h1 (k1 q)
  · have : q' = q := rtxt_inj (by rw [← k1, h1])
    subst this
    exact absurd k2.1 (h2 p')
  · exact ⟨_, 1, .inr rfl, rfl, rfl⟩
  · exact absurd h1 (k1 q)
  · exact absurd k1 (h1 q')
  · exact absurd k1 (h1 q')
  · exact ⟨_, 1, .inr rfl, rfl, rfl⟩
theorem decimal_form {l : List UInt8} {w W : World} {e : Ending} (h : OutDc l w e W) : ∃ (x : ByteArray) (z : Int), e = .returned (.tuple #[.string x, .int .i64 z]) := by
  rcases h.2 with ⟨q, p, h1, h2, _, rfl⟩ | ⟨_, rfl⟩ | ⟨h1, rfl⟩
  · exact ⟨_, _, rfl⟩
  · exact ⟨_, _, rfl⟩
  · exact ⟨_, _, rfl⟩

set_option maxRecDepth 100000 in
set_option maxHeartbeats 400000 in
theorem law (s : ByteArray) (hs : s.size ≤ 1048576) (w : World) (hok : Ok w) :
    Calls Tryz.prog 4 #[.string s] w (Says true w) := by
  have HZ : Hid (∀ q, s.data.toList = rtxt q → Sizes.Sz q 1000000) := Lib.hid (fun q h => (Sizes.sz_rtxt q).mono (by rw [← h, ← Lib.size_eq]; omega))
  go_enter Tryz.func4, Tryz.ntmps4
  go_wp2_with fail
  refine (SpellWalk.calls s (by omega) _ hok).mono ?_
  rintro e w1 h1
  obtain ⟨x, z, rfl⟩ := spell_form h1
  have H1 := Lib.hid (And.intro h1 (hok.below h1.1))
  clear h1
  go_wp2_with fail
  refine (RefU.spell_calls s (by omega) _).mono ?_
  rintro e w2 h2
  obtain ⟨x2, z2, hz, e1, e2⟩ := spell_same H1.out.1 h2
  injection e1 with e1
  injection e1 with e1
  obtain ⟨rfl, rfl⟩ : x = x2 ∧ z = z2 := by simp at e1; exact e1
  subst e2
  have HB := Lib.hid (And.intro (below_step H1.out.1.1 h2.1) (H1.out.2.below h2.1))
  have HE : (x.toList == x.toList) = true := beq_self_eq_true _
  have HZ2 : (z == z) = true := beq_self_eq_true _
  clear h2 e1 H1
  go_wp2_with fail
  refine (no_calls z (by omega) (by omega) _).mono ?_
  rintro e w3 ⟨rfl, hw3⟩
  rw [hw3]
  clear hw3
  go_wp2_with fail
  refine (DecimalWalk.calls s (by omega) HZ.out _ HB.out.2).mono ?_
  rintro e w4 h4
  obtain ⟨y, v, rfl⟩ := decimal_form h4
  have H4 := Lib.hid (And.intro h4 (below_step HB.out.1 h4.1))
  clear h4
  go_wp2_with fail
  refine (RefU.decimal_calls s (by omega) HZ.out _).mono ?_
  rintro e w5 h5
  obtain ⟨y2, v2, hv, e1, e2⟩ := decimal_same H4.out.1 h5
  injection e1 with e1
  injection e1 with e1
  obtain ⟨rfl, rfl⟩ : y = y2 ∧ v = v2 := by simp at e1; exact e1
  subst e2
  have HB5 := Lib.hid (below_step H4.out.2 h5.1)
  have HE2 : (y.toList == y.toList) = true := beq_self_eq_true _
  have HZ3 : (v == v) = true := beq_self_eq_true _
  clear h5 e1 H4
  go_wp2_with fail
  refine (no_calls v (by omega) (by omega) _).mono ?_
  rintro e w6 ⟨rfl, hw6⟩
  rw [hw6]
  clear hw6
  go_wp2_with fail
  go_ret
  exact ⟨rfl, HB5.out⟩
end Go.Proofs.YtjeamchaibialaaGreatDoor.TopSpells
