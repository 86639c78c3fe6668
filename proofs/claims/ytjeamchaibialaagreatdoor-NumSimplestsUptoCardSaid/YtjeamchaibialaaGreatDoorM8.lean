/- Joined: RefG RefH RefI RefJ RefK RefL -/
import Derived.Test.YtjeamchaibialaaGreatDoorM7
import Derived.Test.YtjeamchaibialaaGreatDoorM3
import Derived.Deep.RegionHeld3
set_option linter.unusedVariables false
set_option linter.unusedSimpArgs false
/- The reference's common divisors and fractions: the walks. -/
namespace Go.Proofs.YtjeamchaibialaaGreatDoor.RefG
open Go.RowKit Heaps Go.Proofs.YtjeamchaibialaaGreatDoorW.PrintWords Go.Proofs.YtjeamchaibialaaGreatDoorW.PrintLast Go.Proofs.YtjeamchaibialaaGreatDoorW.PrintMore Fns Limbs Pure1 Pure3 Nats Arrs Rats RefA RefB RefC RefD RefE RefF

theorem div_calls (a b : Nat) (hb0 : b ≠ 0) (hla : (limbs a).length ≤ 800000000) (hlb : (limbs b).length ≤ 800000000) (va vb : Value) (w : World) (hA : Hid (IsI w va a)) (hB : Hid (IsI w vb b)) :
    Calls Tryz.prog 50 #[va, vb] w (OutD a b w) := by
  by_cases h : (limbs a).length ≤ 2 ∧ (limbs b).length ≤ 2
  · exact div_small a b hb0 h.1 h.2 va vb w hA hB
  · exact div_long a b hb0 h hla hlb va vb w hA hB

open Classical in
noncomputable def numI (w : World) (v : Value) : Nat := if h : ∃ b, IsI w v b then Classical.choose h else 0
theorem numI_eq {w : World} {v : Value} {b : Nat} (h : IsI w v b) : numI w v = b := by
  have hx : ∃ b, IsI w v b := ⟨b, h⟩
  unfold numI
  rw [dif_pos hx]
  have e := CommonWalk.NatV.uniq (Classical.choose_spec hx) h
  have := congrArg val e
  rw [val_limbs, val_limbs] at this
  omega

set_option maxRecDepth 100000 in
set_option maxHeartbeats 400000 in
theorem gcd_calls (a b : Nat) (hla : (limbs a).length ≤ 800000000) (hlb : (limbs b).length ≤ 800000000) (va vb : Value) (w : World) (hA : Hid (IsI w va a)) (hB : Hid (IsI w vb b)) :
    Calls Tryz.prog 121 #[va, vb] w fun e w' => ∃ v, e = .returned v ∧ IsI w' v (Nat.gcd a b) ∧ Below w.heap.size w w' := by
  go_enter Tryz.func121, Tryz.ntmps121
  go_wp2_with fail
  go_loopw [0, 1, 5, 6] (fun v0 v1 _ _ wr => ∃ x y : Nat, IsI wr v0 x ∧ IsI wr v1 y ∧ Nat.gcd x y = Nat.gcd a b ∧ (limbs x).length ≤ 800000000 ∧ (limbs y).length ≤ 800000000 ∧ Below w.heap.size w wr) (fun _ v1 _ _ wr => numI wr v1)
  case atStart => exact ⟨a, b, hA.out, hB.out, rfl, hla, hlb, Below.refl _ _⟩
  case round =>
    clear hA hB
    obtain ⟨x, y, hX, hY, hg, hlx, hly, hbr⟩ := hrel
    obtain ⟨X, cx, rfl, _⟩ := hX.form
    obtain ⟨Y, cy, rfl, _⟩ := hY.form
    have HX := Lib.hid hX
    have HY := Lib.hid hY
    have HG := Lib.hid hg
    have HBR := Lib.hid hbr
    have HN := Lib.hid (numI_eq hY)
    clear hX hY hg hbr
    by_cases hy0 : y = 0
    · subst hy0
      have e0 : (limbs 0).length = 0 := by rw [limbs_zero]; rfl
      rw [e0]
      have HE : Hid (Nat.gcd x 0 = x) := Nat.gcd_zero_right x
      go_wp2_with fail
      go_ret
      exact ⟨_, rfl, by rw [← HG.out, HE.out]; exact HX.out, HBR.out⟩
    · have hyp := limbs_len_pos hy0
      go_wp2_with fail
      refine (div_calls x y hy0 hlx hly _ _ _ HX HY).mono ?_
      rintro e w2 ⟨v1, v2, rfl, h1, h2, hb2⟩
      have H2 := Lib.hid h2
      have HY2 := Lib.hid (isI_below HY.out hb2)
      have HB2 := Lib.hid (below_step HBR.out hb2)
      clear h1 h2 hb2 HX HY HBR
      go_wp2_with fail
      go_roundw
      case rel => exact ⟨y, x % y, HY2.out, H2.out, by rw [← HG.out, Nat.gcd_comm y, ← Nat.gcd_rec, Nat.gcd_comm], hly, Nat.le_trans (limbs_len_mono (Nat.le_of_lt (Nat.mod_lt _ (by omega)))) hly, HB2.out⟩
      case measure =>
        show numI _ _ < numI _ _
        rw [HN.out, numI_eq H2.out]
        exact Nat.mod_lt _ (by omega)

def RatV (w : World) (v : Value) (q : Rat) : Prop := ∃ n d, v = .agg #[.bool (decide (q.num < 0)), n, d] ∧ IsI w n q.num.natAbs ∧ IsI w d q.den
theorem ratV_below {w w' : World} {v : Value} {q : Rat} (h : RatV w v q) (hb : Below w.heap.size w w') : RatV w' v q := by
  obtain ⟨n, d, rfl, h1, h2⟩ := h
  exact ⟨n, d, rfl, isI_below h1 hb, isI_below h2 hb⟩
theorem ratV_frac {w : World} {neg : Bool} {n d : Nat} {vn vd : Value} (hd : d ≠ 0) (hn : n ≠ 0) (h1 : IsI w vn (n / Nat.gcd n d)) (h2 : IsI w vd (d / Nat.gcd n d)) : RatV w (.agg #[.bool neg, vn, vd]) (frac neg n d) := by
  have h0 : n / Nat.gcd n d ≠ 0 := by
    have := Nat.div_pos (Nat.gcd_le_left d (Nat.pos_of_ne_zero hn)) (Nat.gcd_pos_of_pos_left d (Nat.pos_of_ne_zero hn))
    omega
  refine ⟨vn, vd, ?_, ?_, ?_⟩
  · rw [frac_num hd, sg_neg h0]
  · rw [frac_num hd, sg_abs]; exact h1
  · rw [frac_den hd]; exact h2

theorem ratV_zero {w : World} {vn vd : Value} (h1 : IsI w vn 0) (h2 : IsI w vd 1) : RatV w (.agg #[.bool false, vn, vd]) 0 := ⟨vn, vd, by simp, h1, h2⟩

def OutR (q : Rat) (w : World) (e : Ending) (w' : World) : Prop := ∃ v, e = .returned v ∧ RatV w' v q ∧ Below w.heap.size w w'

theorem store3 {w : World} {g : Nat} {a b c : Value} (h : Blk w g #[a, b, c]) (x y z : Value) :
    (w.cell? ⟨g, 0, none⟩ = some a ∧ w.frozen? ⟨g, 0, none⟩ = false) ∧
    ((w.setCell ⟨g, 0, none⟩ x).cell? ⟨g, 1, none⟩ = some b ∧ (w.setCell ⟨g, 0, none⟩ x).frozen? ⟨g, 1, none⟩ = false) ∧
    (((w.setCell ⟨g, 0, none⟩ x).setCell ⟨g, 1, none⟩ y).cell? ⟨g, 2, none⟩ = some c ∧ ((w.setCell ⟨g, 0, none⟩ x).setCell ⟨g, 1, none⟩ y).frozen? ⟨g, 2, none⟩ = false) ∧
    Blk (((w.setCell ⟨g, 0, none⟩ x).setCell ⟨g, 1, none⟩ y).setCell ⟨g, 2, none⟩ z) g #[x, y, z] := by
  have h1 := h.set 0 x
  have h2 := h1.set 1 y
  have h3 := h2.set 2 z
  exact ⟨⟨by rw [h.cell]; rfl, h.frozen 0⟩, ⟨by rw [h1.cell]; rfl, h1.frozen 1⟩, ⟨by rw [h2.cell]; rfl, h2.frozen 2⟩, h3⟩
theorem load3 {w : World} {g : Nat} {a b c : Value} (h : Blk w g #[a, b, c]) : w.cell? ⟨g, 0, none⟩ = some a ∧ w.cell? ⟨g, 1, none⟩ = some b ∧ w.cell? ⟨g, 2, none⟩ = some c :=
  ⟨by rw [h.cell]; rfl, by rw [h.cell]; rfl, by rw [h.cell]; rfl⟩
theorem below_set3 {w0 w : World} {g : Nat} (hb : Below w0.heap.size w0 w) (h : w0.heap.size ≤ g) (x y z : Value) : Below w0.heap.size w0 (((w.setCell ⟨g, 0, none⟩ x).setCell ⟨g, 1, none⟩ y).setCell ⟨g, 2, none⟩ z) :=
  ((hb.setCell (p := ⟨g, 0, none⟩) h x).setCell (p := ⟨g, 1, none⟩) h y).setCell (p := ⟨g, 2, none⟩) h z
theorem keeps_set3 {w : World} {g : Nat} {b b' : Bool} {A B A' B' : Option Addr} {n c m d n' c' m' d' : Nat} (h : Blk w g #[.bool b, .slice A n c, .slice B m d]) {v : Value} {k : Nat} (hI : IsI w v k) :
    IsI (((w.setCell ⟨g, 0, none⟩ (.bool b')).setCell ⟨g, 1, none⟩ (.slice A' n' c')).setCell ⟨g, 2, none⟩ (.slice B' m' d')) v k := NatV.keeps hI (set3 h).2.1

set_option maxRecDepth 100000 in
set_option maxHeartbeats 400000 in
theorem ratio_calls (neg : Bool) (n d : Nat) (hd0 : d ≠ 0) (hln : (limbs n).length ≤ 800000000) (hld : (limbs d).length ≤ 800000000) (vn vd : Value) (w : World) (hN : Hid (IsI w vn n)) (hD : Hid (IsI w vd d)) :
    Calls Tryz.prog 88 #[.bool neg, vn, vd] w (OutR (frac neg n d) w) := by
  obtain ⟨A, c, rfl, hc⟩ := hN.out.form
  obtain ⟨B, c', rfl, hc'⟩ := hD.out.form
  have HA0 := Lib.hid (below_step (Below.refl w.heap.size w) ((Below.refl w.heap.size w).alloc (Nat.le_refl _) (.cells #[.bool false, .slice none 0 0, .slice none 0 0] 51)))
  go_enter Tryz.func88, Tryz.ntmps88
  by_cases hn0 : n = 0
  · have e0 : (limbs n).length = 0 := by rw [hn0, limbs_zero]; rfl
    rw [e0]
    go_wp2_with fail
    refine (int_calls 1 (by omega) _).mono ?_
    rintro e w2 ⟨v2, rfl, h2, hb2⟩
    obtain ⟨C, c'', rfl, _⟩ := h2.form
    have hB := (Blk.alloc w #[.bool false, .slice none 0 0, .slice none 0 0] 51).same (hb2.block w.heap.size (by simp))
    obtain ⟨s0, s1, s2, hB3⟩ := store3 hB (.bool false) (.slice A 0 c) (.slice C (limbs 1).length c'')
    obtain ⟨l0, l1, l2⟩ := load3 hB3
    have H2 := Lib.hid h2
    have HB2 := Lib.hid (below_step HA0.out hb2)
    have HB := Lib.hid hB
    have HB3 := Lib.hid hB3
    clear h2 hb2 hB hB3
    go_wp2_with fail
    refine bodyPost_ret (v := .agg #[.bool false, .slice A 0 c, .slice C (limbs 1).length c'']) (by simp [results, Tryz.results88, go_sem, l0, l1, l2]) rfl ?_
    refine ⟨_, rfl, ?_, below_set3 HB2.out (Nat.le_refl _) _ _ _⟩
    have hq : frac neg n d = 0 := by rw [hn0, frac_zero]
    have hN0 := hN.out
    rw [e0] at hN0
    rw [hn0] at hN0
    rw [hq]
    exact ratV_zero (keeps_set3 HB.out (isI_below hN0 HB2.out)) (keeps_set3 HB.out H2.out)
  · have hnp := limbs_len_pos hn0
    go_wp2_with fail
    refine (gcd_calls n d hln hld _ _ _ (Lib.hid (isI_below hN.out HA0.out)) (Lib.hid (isI_below hD.out HA0.out))).mono ?_
    rintro e w2 ⟨v2, rfl, h2, hb2⟩
    have hB := (Blk.alloc w #[.bool false, .slice none 0 0, .slice none 0 0] 51).same (hb2.block w.heap.size (by simp))
    have HB2 := Lib.hid (below_step HA0.out hb2)
    have H2 := Lib.hid h2
    have HB := Lib.hid hB
    clear h2 hb2 hB HA0
    have hg0 : Nat.gcd n d ≠ 0 := fun e => hd0 (Nat.gcd_eq_zero_iff.1 e).2
    have hgl : (limbs (Nat.gcd n d)).length ≤ 800000000 := Nat.le_trans (limbs_len_mono (Nat.gcd_le_right n (Nat.pos_of_ne_zero hd0))) hld
    obtain ⟨g, hg⟩ : ∃ g, g = Nat.gcd n d := ⟨_, rfl⟩
    rw [← hg] at H2 hg0 hgl
    have HG := Lib.hid hg
    clear hg
    go_wp2_with fail
    refine (int_calls 1 (by omega) _).mono ?_
    rintro e w3 ⟨v3, rfl, h3, hb3⟩
    have H3 := Lib.hid h3
    have HB3 := Lib.hid hb3
    clear h3 hb3
    go_wp2_with fail
    have hl1 : (limbs 1).length ≤ 1 := limbs_len_le (by simp [pw])
    refine (cmp_calls g 1 (by omega) (by omega) _ _ _ (Lib.hid (isI_below H2.out HB3.out)) H3).mono ?_
    rintro e w4 ⟨rfl, hb4⟩
    have HB4 := Lib.hid (below_step HB3.out hb4)
    clear hb4 H3 HB3 hl1
    by_cases hg1 : g = 1
    · have hs : sgn g 1 = 0 := by rw [hg1]; rfl
      rw [hs]
      have hB := HB.out.same (HB4.out.block _ HB.out.lt)
      have HBB := Lib.hid hB
      obtain ⟨s0, s1, s2, hB3⟩ := store3 hB (.bool neg) (.slice A (limbs n).length c) (.slice B (limbs d).length c')
      obtain ⟨l0, l1, l2⟩ := load3 hB3
      have HG1 := Lib.hid hg1
      clear hB hB3 hg1 hs
      go_wp2_with fail
      refine bodyPost_ret (v := .agg #[.bool neg, .slice A (limbs n).length c, .slice B (limbs d).length c']) (by simp [results, Tryz.results88, go_sem, l0, l1, l2]) rfl ?_
      have HW := below_step HB2.out HB4.out
      have e1 : n / Nat.gcd n d = n := by rw [← HG.out, HG1.out, Nat.div_one]
      have e2 : d / Nat.gcd n d = d := by rw [← HG.out, HG1.out, Nat.div_one]
      exact ⟨_, rfl, ratV_frac hd0 hn0 (by rw [e1]; exact keeps_set3 HBB.out (isI_below hN.out HW)) (by rw [e2]; exact keeps_set3 HBB.out (isI_below hD.out HW)), below_set3 HW (Nat.le_refl _) _ _ _⟩
    · have hs : sgn g 1 ≠ 0 := by unfold sgn; split <;> first | omega | (split <;> omega)
      have hsb : (sgn g 1 == 0) = false := beq_eq_false_iff_ne.2 hs
      have hsn : (sgn g 1 != 0) = true := bne_iff_ne.2 hs
      generalize sgn g 1 = z at *
      have HW := Lib.hid (below_step HB2.out HB4.out)
      have HZ := Lib.hid hs
      have HG1 := Lib.hid hg1
      clear hg1 hs
      go_wp2_with fail
      refine (div_calls n g hg0 hln hgl _ _ _ (Lib.hid (isI_below hN.out HW.out)) (Lib.hid (isI_below H2.out HB4.out))).mono ?_
      rintro e w5 ⟨v5, v6, rfl, h5, h6, hb5⟩
      have H5 := Lib.hid h5
      have HB5 := Lib.hid (below_step HB4.out hb5)
      clear h5 h6 hb5 HW HB4
      go_wp2_with fail
      refine (div_calls d g hg0 hld hgl _ _ _ (Lib.hid (isI_below hD.out (below_step HB2.out HB5.out))) (Lib.hid (isI_below H2.out HB5.out))).mono ?_
      rintro e w7 ⟨v7, v8, rfl, h7, h8, hb7⟩
      have H7 := Lib.hid h7
      have HB7 := Lib.hid (below_step HB5.out hb7)
      have H5' := Lib.hid (isI_below H5.out hb7)
      clear h7 h8 hb7 HB5 H5
      have hB := HB.out.same (HB7.out.block _ HB.out.lt)
      have HBB := Lib.hid hB
      obtain ⟨C, k, rfl, _⟩ := H5'.out.form
      obtain ⟨D, k', rfl, _⟩ := H7.out.form
      obtain ⟨s0, s1, s2, hB3⟩ := store3 hB (.bool neg) (.slice C (limbs (n / g)).length k) (.slice D (limbs (d / g)).length k')
      obtain ⟨l0, l1, l2⟩ := load3 hB3
      clear hB hB3
      go_wp2_with fail
      refine bodyPost_ret (v := .agg #[.bool neg, .slice C (limbs (n / g)).length k, .slice D (limbs (d / g)).length k']) (by simp [results, Tryz.results88, go_sem, l0, l1, l2]) rfl ?_
      exact ⟨_, rfl, ratV_frac hd0 hn0 (by rw [← HG.out]; exact keeps_set3 HBB.out H5'.out) (by rw [← HG.out]; exact keeps_set3 HBB.out H7.out), below_set3 (below_step HB2.out HB7.out) (Nat.le_refl _) _ _ _⟩
end Go.Proofs.YtjeamchaibialaaGreatDoor.RefG

/- The reference's reckoning with fractions, first part: the walks. -/
namespace Go.Proofs.YtjeamchaibialaaGreatDoor.RefH
open Go.RowKit Heaps Go.Proofs.YtjeamchaibialaaGreatDoorW.PrintWords Go.Proofs.YtjeamchaibialaaGreatDoorW.PrintLast Go.Proofs.YtjeamchaibialaaGreatDoorW.PrintMore Fns Limbs Pure1 Pure3 Nats Arrs Texts Rats RefA RefB RefC RefD RefE RefF RefG

def sgq (q : Rat) : Int := if q.num = 0 then 0 else if q.num < 0 then -1 else 1
set_option maxRecDepth 100000 in
set_option maxHeartbeats 400000 in
theorem sign_calls (q : Rat) (v : Value) (w : World) (hV : Hid (RatV w v q)) (hl : (limbs q.num.natAbs).length ≤ 900000000) :
    Calls Tryz.prog 79 #[v] w fun e w' => e = .returned (.int .i64 (sgq q)) ∧ Below w.heap.size w w' := by
  obtain ⟨n, d, rfl, hn, hd⟩ := hV.out
  obtain ⟨A, c, rfl, hc⟩ := hn.form
  obtain ⟨B, c', rfl, hc'⟩ := hd.form
  have hx : (q.num = 0 ∧ (limbs q.num.natAbs).length = 0 ∧ decide (q.num < 0) = false ∧ sgq q = 0) ∨ (0 < (limbs q.num.natAbs).length ∧ decide (q.num < 0) = true ∧ sgq q = -1) ∨ (0 < (limbs q.num.natAbs).length ∧ decide (q.num < 0) = false ∧ sgq q = 1) := by
    unfold sgq
    by_cases h0 : q.num = 0
    · exact .inl ⟨h0, by rw [h0, Int.natAbs_zero, limbs_zero]; rfl, decide_eq_false (by omega), by rw [if_pos h0]⟩
    · have hp := limbs_len_pos (n := q.num.natAbs) (by omega)
      by_cases h1 : q.num < 0
      · exact .inr (.inl ⟨hp, decide_eq_true h1, by rw [if_neg h0, if_pos h1]⟩)
      · exact .inr (.inr ⟨hp, decide_eq_false h1, by rw [if_neg h0, if_neg h1]⟩)
  generalize decide (q.num < 0) = b at *
  generalize sgq q = s at *
  generalize limbs q.num.natAbs = l at *
  generalize limbs q.den = m at *
  have hB := Blk.alloc w #[.bool b, .slice A l.length c, .slice B m.length c'] 51
  obtain ⟨l0, l1, l2⟩ := load3 hB
  have HA0 := Lib.hid ((Below.refl w.heap.size w).alloc (Nat.le_refl _) (.cells #[.bool b, .slice A l.length c, .slice B m.length c'] 51))
  clear hn hd hc hc' hB hV
  go_enter Tryz.func79, Tryz.ntmps79
  obtain ⟨_, e0, rfl, rfl⟩ | ⟨e0, rfl, rfl⟩ | ⟨e0, rfl, rfl⟩ := hx
  · rw [e0] at l0 l1 l2 HA0 ⊢
    go_wp2_with fail
    go_ret
    exact ⟨rfl, HA0.out⟩
  · go_wp2_with fail
    go_ret
    exact ⟨rfl, HA0.out⟩
  · go_wp2_with fail
    go_ret
    exact ⟨rfl, HA0.out⟩

theorem text_join (q : Rat) : (⟨(rtxt q).toArray⟩ : ByteArray) = (if q.num < 0 then (⟨#[45]⟩ : ByteArray) ++ ⟨(txt q.num.natAbs).toArray⟩ else ⟨(txt q.num.natAbs).toArray⟩) ++ (if q.den = 1 then (⟨#[]⟩ : ByteArray) else (⟨#[47]⟩ : ByteArray) ++ ⟨(txt q.den).toArray⟩) := by
  apply ByteArray.ext
  unfold rtxt
  by_cases h1 : q.num < 0 <;> by_cases h2 : q.den = 1 <;> simp [h1, h2, ByteArray.data_append]

def front (q : Rat) : ByteArray := if q.num < 0 then (⟨#[45]⟩ : ByteArray) ++ ⟨(txt q.num.natAbs).toArray⟩ else ⟨(txt q.num.natAbs).toArray⟩
theorem text_one {q : Rat} (h : q.den = 1) : (⟨(rtxt q).toArray⟩ : ByteArray) = front q := by
  rw [text_join, if_pos h]
  unfold front
  apply ByteArray.ext
  simp [ByteArray.data_append]
theorem text_more {q : Rat} (h : ¬ q.den = 1) : (⟨(rtxt q).toArray⟩ : ByteArray) = (front q ++ (⟨#[47]⟩ : ByteArray)) ++ ⟨(txt q.den).toArray⟩ := by
  rw [text_join, if_neg h]
  unfold front
  apply ByteArray.ext
  simp [ByteArray.data_append]

theorem one_calls (w : World) : Calls Tryz.prog 48 #[.int .i64 1] w fun e w' => ∃ v, e = .returned v ∧ IsI w' v 1 ∧ Below w.heap.size w w' := int_calls 1 (by omega) w
theorem one_len : (limbs 1).length ≤ 1 := limbs_len_le (by simp [pw])
theorem held_text {w0 W W' : World} {g : Nat} {a b c : Value} {n : Nat} (h : W.cell? ⟨g, 2, none⟩ = some c ∧ (Blk W g #[a, b, c] ∧ Below w0.heap.size w0 W ∧ IsI W c n)) (hb : Below W.heap.size W W') :
    W'.cell? ⟨g, 2, none⟩ = some c ∧ (Blk W' g #[a, b, c] ∧ Below w0.heap.size w0 W' ∧ IsI W' c n) :=
  ⟨by rw [(h.2.1.same (hb.block _ h.2.1.lt)).cell]; rfl, h.2.1.same (hb.block _ h.2.1.lt), below_step h.2.2.1 hb, isI_below h.2.2.2 hb⟩

theorem text_of {w0 W : World} {g : Nat} {a b c : Value} {n : Nat} (h : W.cell? ⟨g, 2, none⟩ = some c ∧ (Blk W g #[a, b, c] ∧ Below w0.heap.size w0 W ∧ IsI W c n)) : IsI W c n := h.2.2.2
theorem text_below {w0 W : World} {g : Nat} {a b c : Value} {n : Nat} (h : W.cell? ⟨g, 2, none⟩ = some c ∧ (Blk W g #[a, b, c] ∧ Below w0.heap.size w0 W ∧ IsI W c n)) : Below w0.heap.size w0 W := h.2.2.1

set_option maxRecDepth 100000 in
set_option maxHeartbeats 400000 in
theorem text_calls (q : Rat) (v : Value) (w : World) (hV : Hid (RatV w v q)) (hl : (limbs q.num.natAbs).length ≤ 900000000) (hl2 : (limbs q.den).length ≤ 900000000) :
    Calls Tryz.prog 34 #[v] w fun e w' => e = .returned (.string ⟨(rtxt q).toArray⟩) ∧ Below w.heap.size w w' := by
  obtain ⟨n, d, rfl, hn, hd⟩ := hV.out
  obtain ⟨A, c, rfl, hc⟩ := hn.form
  obtain ⟨B, c', rfl, hc'⟩ := hd.form
  obtain ⟨b, hb⟩ : ∃ b, b = decide (q.num < 0) := ⟨_, rfl⟩
  obtain ⟨k1, hk1⟩ : ∃ k, k = (limbs q.num.natAbs).length := ⟨_, rfl⟩
  obtain ⟨k2, hk2⟩ : ∃ k, k = (limbs q.den).length := ⟨_, rfl⟩
  rw [← hb, ← hk1, ← hk2]
  rw [← hk1] at hn
  rw [← hk2] at hd
  have hB := Blk.alloc w #[.bool b, .slice A k1 c, .slice B k2 c'] 51
  obtain ⟨l0, l1, l2⟩ := load3 hB
  have ha0 := (Below.refl w.heap.size w).alloc (Nat.le_refl _) (.cells #[.bool b, .slice A k1 c, .slice B k2 c'] 51)
  have hn1 := isI_below hn ha0
  have hd1 := isI_below hd ha0
  have HB := Lib.hid (And.intro hB (And.intro ha0 (And.intro hn1 (And.intro hd1 hb))))
  clear hB ha0 hn hd hn1 hd1 hV hc hc' hb hk1 hk2
  go_enter Tryz.func34, Tryz.ntmps34
  go_wp2_with fail
  refine (RefD.text_calls q.num.natAbs (by omega) _ _ (Lib.hid HB.out.2.2.1)).mono ?_
  rintro e w2 ⟨rfl, hb2⟩
  obtain ⟨bl2, be2, hd2, hbb⟩ : Blk w2 w.heap.size #[.bool b, .slice A k1 c, .slice B k2 c'] ∧ Below w.heap.size w w2 ∧ IsI w2 (.slice B k2 c') q.den ∧ b = decide (q.num < 0) :=
    ⟨HB.out.1.same (hb2.block _ HB.out.1.lt), below_step HB.out.2.1 hb2, isI_below HB.out.2.2.2.1 hb2, HB.out.2.2.2.2⟩
  clear l0 l1 l2
  obtain ⟨l0, l1, l2⟩ := load3 bl2
  have H2 := Lib.hid (And.intro bl2 (And.intro be2 (And.intro hd2 hbb)))
  clear bl2 be2 hd2 hbb hb2 HB
  obtain ⟨t, ht⟩ : ∃ t : ByteArray, t = ⟨(txt q.num.natAbs).toArray⟩ := ⟨_, rfl⟩
  have hts : t.size ≤ 10000000000 := by
    rw [ht]
    show (txt q.num.natAbs).toArray.size ≤ _
    rw [List.size_toArray]
    have := Sizes.txt_len q.num.natAbs
    omega
  have hsz : ((⟨#[45]⟩ : ByteArray) ++ t).size ≤ 10000000001 := by rw [ByteArray.size_append]; show 1 + _ ≤ _; omega
  rw [← ht]
  have HT := Lib.hid ht
  clear ht
  go_upto_if 8 with fail
  go_cut [3] (fun v wx => v = .string (front q) ∧ wx = w2)
  case first =>
    cases b
    · have hf : Hid (front q = t) := Lib.hid (by rw [HT.out]; unfold front; rw [if_neg (of_decide_eq_false H2.out.2.2.2.symm)])
      go_wp2_with fail
      go_meet
      case rel => exact ⟨by rw [hf.out], rfl⟩
    · have hf : Hid (front q = (⟨#[45]⟩ : ByteArray) ++ t) := Lib.hid (by rw [HT.out]; unfold front; rw [if_pos (of_decide_eq_true H2.out.2.2.2.symm)])
      go_wp2_with fail
      go_meet
      case rel => exact ⟨by rw [hf.out], rfl⟩
  case rest =>
    obtain ⟨rfl, hw⟩ := hcut
    rw [hw]
    clear hw
    go_upto_region 4 with fail
    have hl1 : (limbs 1).length ≤ 1000000000000000 := Nat.le_trans one_len (by omega)
    have hl3 : (limbs q.den).length ≤ 1000000000000000 := by omega
    have hS := And.intro l2 (And.intro H2.out.1 (And.intro H2.out.2.1 H2.out.2.2.1))
    clear l0 l1 l2 H2
    go_region_held3 (fun (W : World) => W.cell? ⟨w.heap.size, 2, none⟩ = some (.slice B k2 c') ∧ (Blk W w.heap.size #[.bool b, .slice A k1 c, .slice B k2 c'] ∧ Below w.heap.size w W ∧ IsI W (.slice B k2 c') q.den))
      (first | exact held_text hS (Drawn0.below ⟨1, rfl⟩) | exact held_text (by assumption) (by assumption))
      (first
        | (go_at_call 48; with_reducible refine (one_calls _).mono ?_; rintro e w' ⟨v, rfl, hv, hb⟩)
        | (go_at_call 47; with_reducible refine (cmp_calls q.den 1 hl3 hl1 (.slice B k2 c') _ _ (Lib.hid (text_of (by assumption))) ?_).mono ?_; (first | exact Lib.hid (by assumption) | exact Lib.hid (isI_below (by assumption) (by assumption))); rintro e w' ⟨rfl, hb⟩))
    have hS' : w'.cell? ⟨w.heap.size, 2, none⟩ = some (.slice B k2 c') ∧ (Blk w' w.heap.size #[.bool b, .slice A k1 c, .slice B k2 c'] ∧ Below w.heap.size w w' ∧ IsI w' (.slice B k2 c') q.den) := by assumption
    obtain ⟨l2, bl2, be2, hd2⟩ := hS'
    have H3 := Lib.hid (And.intro be2 hd2)
    clear bl2 be2 hd2 hS
    have hfs : (front q).size ≤ 10000000001 := by
      unfold front
      split
      · rw [← HT.out]; exact hsz
      · rw [← HT.out]; omega
    by_cases h1 : q.den = 1
    · have hs : sgn q.den 1 = 0 := by rw [h1]; rfl
      have hj := Lib.hid (text_one h1)
      rw [hs]
      go_wp2_with fail
      go_ret
      exact ⟨by rw [hj.out]; rfl, H3.out.1⟩
    · have hs : sgn q.den 1 ≠ 0 := by unfold sgn; split <;> first | omega | (split <;> omega)
      have hsn : (sgn q.den 1 != 0) = true := bne_iff_ne.2 hs
      have hj := Lib.hid (text_more h1)
      rw [hsn]
      obtain ⟨u, hu⟩ : ∃ u : ByteArray, u = ⟨(txt q.den).toArray⟩ := ⟨_, rfl⟩
      have hus : u.size ≤ 10000000000 := by
        rw [hu]
        show (txt q.den).toArray.size ≤ _
        rw [List.size_toArray]
        have := Sizes.txt_len q.den
        omega
      have hsz1 : (front q ++ (⟨#[47]⟩ : ByteArray)).size ≤ 20000000000 := by rw [ByteArray.size_append]; show _ + 1 ≤ _; omega
      have hsz2 : (front q ++ (⟨#[47]⟩ : ByteArray) ++ u).size ≤ 40000000000 := by rw [ByteArray.size_append]; omega
      have HU := Lib.hid hu
      clear hs hsn h1 hu
      go_wp2_with fail
      refine (RefD.text_calls q.den (by omega) _ _ (Lib.hid H3.out.2)).mono ?_
      rintro e w5 ⟨rfl, hb5⟩
      rw [← HU.out]
      have HB5 := Lib.hid (below_step H3.out.1 hb5)
      clear hb5
      go_wp2_with fail
      go_ret
      exact ⟨by rw [hj.out, ← HU.out]; rfl, HB5.out⟩
end Go.Proofs.YtjeamchaibialaaGreatDoor.RefH

/- The reference's reckoning with fractions, second part: the walks. -/
namespace Go.Proofs.YtjeamchaibialaaGreatDoor.RefI
open Go.RowKit Heaps Go.Proofs.YtjeamchaibialaaGreatDoorW.PrintWords Go.Proofs.YtjeamchaibialaaGreatDoorW.PrintLast Go.Proofs.YtjeamchaibialaaGreatDoorW.PrintMore Fns Limbs Pure1 Pure3 Nats Arrs Texts Rats RefA RefB RefC RefD RefE RefF RefG RefH

theorem ratV_shape {w : World} {v : Value} {q : Rat} (h : RatV w v q) : ∃ A c B c', v = .agg #[.bool (decide (q.num < 0)), .slice A (limbs q.num.natAbs).length c, .slice B (limbs q.den).length c'] ∧
    IsI w (.slice A (limbs q.num.natAbs).length c) q.num.natAbs ∧ IsI w (.slice B (limbs q.den).length c') q.den := by
  obtain ⟨n, d, rfl, hn, hd⟩ := h
  obtain ⟨A, c, rfl, _⟩ := hn.form
  obtain ⟨B, c', rfl, _⟩ := hd.form
  exact ⟨A, c, B, c', rfl, hn, hd⟩

def cells3 (b : Bool) (A : Option Addr) (k1 c : Nat) (B : Option Addr) (k2 c' : Nat) : Array Value := #[.bool b, .slice A k1 c, .slice B k2 c']
theorem one_box (w : World) (x : Array Value) : ∃ w1, w1 = (w.alloc (.cells x 51)).alloc (.cells #[.bool false, .slice none 0 0, .slice none 0 0] 51) ∧
    Blk w1 w.heap.size x ∧ Blk w1 (w.heap.size + 1) #[.bool false, .slice none 0 0, .slice none 0 0] ∧ Below w.heap.size w w1 := by
  have ha0 := (Below.refl w.heap.size w).alloc (Nat.le_refl _) (.cells x 51)
  have h2 := Blk.alloc (w.alloc (.cells x 51)) #[.bool false, .slice none 0 0, .slice none 0 0] 51
  have e : (w.alloc (.cells x 51)).heap.size = w.heap.size + 1 := by simp
  rw [e] at h2
  exact ⟨_, rfl, (Blk.alloc w x 51).same (Below.heap_alloc _ _ _ (by simp)), h2, ha0.alloc ha0.size _⟩
theorem two_box (w : World) (x y : Array Value) : ∃ w1, w1 = ((w.alloc (.cells x 51)).alloc (.cells y 51)).alloc (.cells #[.bool false, .slice none 0 0, .slice none 0 0] 51) ∧
    Blk w1 w.heap.size x ∧ Blk w1 (w.heap.size + 1) y ∧ Blk w1 (w.heap.size + 2) #[.bool false, .slice none 0 0, .slice none 0 0] ∧ Below w.heap.size w w1 := by
  have ha0 := (Below.refl w.heap.size w).alloc (Nat.le_refl _) (.cells x 51)
  have ha1 := ha0.alloc ha0.size (.cells y 51)
  have e : (w.alloc (.cells x 51)).heap.size = w.heap.size + 1 := by simp
  have e2 : ((w.alloc (.cells x 51)).alloc (.cells y 51)).heap.size = w.heap.size + 2 := by simp
  have h1 := Blk.alloc (w.alloc (.cells x 51)) y 51
  have h2 := Blk.alloc ((w.alloc (.cells x 51)).alloc (.cells y 51)) #[.bool false, .slice none 0 0, .slice none 0 0] 51
  rw [e] at h1
  rw [e2] at h2
  exact ⟨_, rfl, ((Blk.alloc w x 51).same (Below.heap_alloc _ _ _ (by simp))).same (Below.heap_alloc _ _ _ (by simp; omega)), h1.same (Below.heap_alloc _ _ _ (by rw [e2]; omega)), h2, ha1.alloc ha1.size _⟩
theorem pair_box (w : World) (x y : Array Value) : ∃ w1, w1 = ((w.alloc (.cells x 51)).alloc (.cells y 51)) ∧
    Blk w1 w.heap.size x ∧ Blk w1 (w.heap.size + 1) y ∧ Below w.heap.size w w1 := by
  have ha0 := (Below.refl w.heap.size w).alloc (Nat.le_refl _) (.cells x 51)
  have ha1 := ha0.alloc ha0.size (.cells y 51)
  have e : (w.alloc (.cells x 51)).heap.size = w.heap.size + 1 := by simp
  have h1 := Blk.alloc (w.alloc (.cells x 51)) y 51
  rw [e] at h1
  exact ⟨_, rfl, (Blk.alloc w x 51).same (Below.heap_alloc _ _ _ (by simp)), h1, ha1⟩

set_option maxRecDepth 100000 in
set_option maxHeartbeats 400000 in
theorem opp_calls (q : Rat) (v : Value) (w : World) (hV : Hid (RatV w v q)) (hl : (limbs q.num.natAbs).length ≤ 900000000) :
    Calls Tryz.prog 83 #[v] w (OutR (-q) w) := by
  obtain ⟨A, c, B, c', rfl, hn, hd⟩ := ratV_shape hV.out
  have hx : (decide (q.num < 0) = true ∧ decide ((-q).num < 0) = false) ∨ (decide (q.num < 0) = false ∧ (limbs q.num.natAbs).length = 0 ∧ decide ((-q).num < 0) = false) ∨ (decide (q.num < 0) = false ∧ 0 < (limbs q.num.natAbs).length ∧ decide ((-q).num < 0) = true) := by
    rw [Rat.neg_num]
    by_cases h1 : q.num < 0
    · exact .inl ⟨decide_eq_true h1, decide_eq_false (by omega)⟩
    · by_cases h0 : q.num = 0
      · exact .inr (.inl ⟨decide_eq_false h1, by rw [h0, Int.natAbs_zero, limbs_zero]; rfl, decide_eq_false (by omega)⟩)
      · exact .inr (.inr ⟨decide_eq_false h1, limbs_len_pos (by omega), decide_eq_true (by omega)⟩)
  have hq : ∀ W x y, IsI W x q.num.natAbs → IsI W y q.den → RatV W (.agg #[.bool (decide ((-q).num < 0)), x, y]) (-q) := fun W x y h1 h2 => ⟨x, y, rfl, by rw [Rat.neg_num, Int.natAbs_neg]; exact h1, by rw [Rat.neg_den]; exact h2⟩
  obtain ⟨k1, hk1⟩ : ∃ k, k = (limbs q.num.natAbs).length := ⟨_, rfl⟩
  obtain ⟨k2, hk2⟩ : ∃ k, k = (limbs q.den).length := ⟨_, rfl⟩
  rw [← hk1] at hn hx hl
  rw [← hk1, ← hk2]
  rw [← hk2] at hd
  generalize decide (q.num < 0) = b at *
  generalize decide ((-q).num < 0) = b' at *
  obtain ⟨w1, hw1, hB, hC, hb1⟩ := one_box w #[.bool b, .slice A k1 c, .slice B k2 c']
  have hn1 := isI_below hn hb1
  have hd1 := isI_below hd hb1
  have HS := Lib.hid (And.intro hn1 (And.intro hd1 (And.intro hb1 (And.intro hC hq))))
  obtain ⟨l0, l1, l2⟩ := load3 hB
  obtain ⟨⟨s0, t0⟩, ⟨s1, t1⟩, ⟨s2, t2⟩, hB3⟩ := store3 hC (.bool b') (.slice A k1 c) (.slice B k2 c')
  obtain ⟨m0, m1, m2⟩ := load3 hB3
  clear hn hd hV hq hk1 hk2 hB hC hn1 hd1 hB3 hb1
  go_enter Tryz.func83, Tryz.ntmps83
  go_upto_region 1 with fail
  rw [← hw1]
  clear hw1
  have hfin : OutR (-q) w (.returned (.agg #[.bool b', .slice A k1 c, .slice B k2 c'])) (((w1.setCell ⟨w.heap.size + 1, 0, none⟩ (.bool b')).setCell ⟨w.heap.size + 1, 1, none⟩ (.slice A k1 c)).setCell ⟨w.heap.size + 1, 2, none⟩ (.slice B k2 c')) :=
    ⟨_, rfl, HS.out.2.2.2.2 _ _ _ (keeps_set3 HS.out.2.2.2.1 HS.out.1) (keeps_set3 HS.out.2.2.2.1 HS.out.2.1), below_set3 HS.out.2.2.1 (by omega) _ _ _⟩
  have HF := Lib.hid hfin
  clear hfin HS
  obtain ⟨rfl, rfl⟩ | ⟨rfl, e0, rfl⟩ | ⟨rfl, e0, rfl⟩ := hx
  · go_wp2_with fail
    exact bodyPost_ret (v := .agg #[.bool false, .slice A k1 c, .slice B k2 c']) (by simp [results, Tryz.results83, go_sem, m0, m1, m2]) rfl HF.out
  · subst e0
    go_wp2_with fail
    exact bodyPost_ret (v := .agg #[.bool false, .slice A 0 c, .slice B k2 c']) (by simp [results, Tryz.results83, go_sem, m0, m1, m2]) rfl HF.out
  · go_wp2_with fail
    exact bodyPost_ret (v := .agg #[.bool true, .slice A k1 c, .slice B k2 c']) (by simp [results, Tryz.results83, go_sem, m0, m1, m2]) rfl HF.out

structure Two (w0 : World) (r : Nat) (n1 d1 n2 d2 : Value) (p q : Rat) (W : World) : Prop where
  n1 : IsI W n1 p.num.natAbs
  d1 : IsI W d1 p.den
  n2 : IsI W n2 q.num.natAbs
  d2 : IsI W d2 q.den
  below : Below w0.heap.size w0 W
  new : w0.heap.size ≤ r
  blk : ∃ b A n c B m d, Blk W r #[.bool b, .slice A n c, .slice B m d]
theorem cellB {w w' : World} {g i : Nat} {v : Value} (h : w.cell? ⟨g, i, none⟩ = some v) (hb : Below w.heap.size w w') : w'.cell? ⟨g, i, none⟩ = some v :=
  (World.cell?_of_block (hb.block g (World.block_lt_of_cell? w ⟨g, i, none⟩ h))).trans h
theorem Two.keep {w0 : World} {r : Nat} {n1 d1 n2 d2 : Value} {p q : Rat} {W W' : World} (h : Two w0 r n1 d1 n2 d2 p q W) (hb : Below W.heap.size W W') : Two w0 r n1 d1 n2 d2 p q W' := by
  obtain ⟨b, A, n, c, B, m, d, hB⟩ := h.blk
  exact ⟨isI_below h.n1 hb, isI_below h.d1 hb, isI_below h.n2 hb, isI_below h.d2 hb, below_step h.below hb, h.new, b, A, n, c, B, m, d, hB.same (hb.block _ hB.lt)⟩
theorem two_below {w0 : World} {r g k : Nat} {b1 b2 n1 d1 n2 d2 : Value} {p q : Rat} {W W' : World}
    (h : W.cell? ⟨g, 0, none⟩ = some b1 ∧ W.cell? ⟨k, 0, none⟩ = some b2 ∧ W.cell? ⟨g, 1, none⟩ = some n1 ∧ W.cell? ⟨k, 1, none⟩ = some n2 ∧ W.cell? ⟨g, 2, none⟩ = some d1 ∧ W.cell? ⟨k, 2, none⟩ = some d2 ∧ Two w0 r n1 d1 n2 d2 p q W) (hb : Below W.heap.size W W') :
    W'.cell? ⟨g, 0, none⟩ = some b1 ∧ W'.cell? ⟨k, 0, none⟩ = some b2 ∧ W'.cell? ⟨g, 1, none⟩ = some n1 ∧ W'.cell? ⟨k, 1, none⟩ = some n2 ∧ W'.cell? ⟨g, 2, none⟩ = some d1 ∧ W'.cell? ⟨k, 2, none⟩ = some d2 ∧ Two w0 r n1 d1 n2 d2 p q W' :=
  ⟨cellB h.1 hb, cellB h.2.1 hb, cellB h.2.2.1 hb, cellB h.2.2.2.1 hb, cellB h.2.2.2.2.1 hb, cellB h.2.2.2.2.2.1 hb, h.2.2.2.2.2.2.keep hb⟩
theorem two_of {w0 : World} {r g k : Nat} {b1 b2 n1 d1 n2 d2 : Value} {p q : Rat} {W : World}
    (h : W.cell? ⟨g, 0, none⟩ = some b1 ∧ W.cell? ⟨k, 0, none⟩ = some b2 ∧ W.cell? ⟨g, 1, none⟩ = some n1 ∧ W.cell? ⟨k, 1, none⟩ = some n2 ∧ W.cell? ⟨g, 2, none⟩ = some d1 ∧ W.cell? ⟨k, 2, none⟩ = some d2 ∧ Two w0 r n1 d1 n2 d2 p q W) : Two w0 r n1 d1 n2 d2 p q W := h.2.2.2.2.2.2
theorem ratV_flat {w : World} {v : Value} {q : Rat} (h : RatV w v q) : ∃ b A n c B m d, v = .agg #[.bool b, .slice A n c, .slice B m d] := by
  obtain ⟨A, c, B, d, e, _, _⟩ := ratV_shape h
  exact ⟨_, A, _, c, B, _, d, e⟩
def Laid (w0 : World) (r : Nat) (x : Rat) (b : Bool) (A : Option Addr) (n c : Nat) (B : Option Addr) (m d : Nat) (W : World) : Prop :=
  Blk W r #[.bool b, .slice A n c, .slice B m d] ∧ OutR x w0 (.returned (.agg #[.bool b, .slice A n c, .slice B m d])) W
theorem cell_far {w : World} {g r i j : Nat} {v u : Value} (h : w.cell? ⟨g, i, none⟩ = some v) (hr : g ≠ r) : (w.setCell ⟨r, j, none⟩ u).cell? ⟨g, i, none⟩ = some v := by
  rw [World.cell?_setCell_other w _ _ _ (fun e => hr (by injection e with e _ _; exact e.symm))]; exact h
theorem cell_far3 {w : World} {g r i : Nat} {v x y z : Value} (h : w.cell? ⟨g, i, none⟩ = some v) (hr : g ≠ r) : (((w.setCell ⟨r, 0, none⟩ x).setCell ⟨r, 1, none⟩ y).setCell ⟨r, 2, none⟩ z).cell? ⟨g, i, none⟩ = some v :=
  cell_far (cell_far (cell_far h hr) hr) hr
theorem two_set {w0 : World} {r g k : Nat} {b1 b2 n1 d1 n2 d2 : Value} {p q : Rat} {W : World} {b : Bool} {A B : Option Addr} {n c m d : Nat}
    (h : W.cell? ⟨g, 0, none⟩ = some b1 ∧ W.cell? ⟨k, 0, none⟩ = some b2 ∧ W.cell? ⟨g, 1, none⟩ = some n1 ∧ W.cell? ⟨k, 1, none⟩ = some n2 ∧ W.cell? ⟨g, 2, none⟩ = some d1 ∧ W.cell? ⟨k, 2, none⟩ = some d2 ∧ Two w0 r n1 d1 n2 d2 p q W) (hg : g ≠ r) (hk : k ≠ r) :
    (fun W' : World => W'.cell? ⟨g, 0, none⟩ = some b1 ∧ W'.cell? ⟨k, 0, none⟩ = some b2 ∧ W'.cell? ⟨g, 1, none⟩ = some n1 ∧ W'.cell? ⟨k, 1, none⟩ = some n2 ∧ W'.cell? ⟨g, 2, none⟩ = some d1 ∧ W'.cell? ⟨k, 2, none⟩ = some d2 ∧ Two w0 r n1 d1 n2 d2 p q W') (((W.setCell ⟨r, 0, none⟩ (.bool b)).setCell ⟨r, 1, none⟩ (.slice A n c)).setCell ⟨r, 2, none⟩ (.slice B m d)) := by
  obtain ⟨b', A', n', c', B', m', d', hB⟩ := h.2.2.2.2.2.2.blk
  have t := h.2.2.2.2.2.2
  exact ⟨cell_far3 h.1 hg, cell_far3 h.2.1 hk, cell_far3 h.2.2.1 hg, cell_far3 h.2.2.2.1 hk, cell_far3 h.2.2.2.2.1 hg, cell_far3 h.2.2.2.2.2.1 hk,
    keeps_set3 hB t.n1, keeps_set3 hB t.d1, keeps_set3 hB t.n2, keeps_set3 hB t.d2, below_set3 t.below t.new _ _ _, t.new, _, _, _, _, _, _, _, (set3 hB).1⟩
theorem two_store {w0 : World} {r : Nat} {n1 d1 n2 d2 : Value} {p q x : Rat} {W W' : World} {b : Bool} {A B : Option Addr} {n c m d : Nat} (h : Two w0 r n1 d1 n2 d2 p q W) (hb : Below W.heap.size W W') (hV : RatV W' (.agg #[.bool b, .slice A n c, .slice B m d]) x) :
    ∃ a0 a1 a2, (W'.cell? ⟨r, 0, none⟩ = some a0 ∧ W'.frozen? ⟨r, 0, none⟩ = false) ∧
    ((W'.setCell ⟨r, 0, none⟩ (.bool b)).cell? ⟨r, 1, none⟩ = some a1 ∧ (W'.setCell ⟨r, 0, none⟩ (.bool b)).frozen? ⟨r, 1, none⟩ = false) ∧
    (((W'.setCell ⟨r, 0, none⟩ (.bool b)).setCell ⟨r, 1, none⟩ (.slice A n c)).cell? ⟨r, 2, none⟩ = some a2 ∧ ((W'.setCell ⟨r, 0, none⟩ (.bool b)).setCell ⟨r, 1, none⟩ (.slice A n c)).frozen? ⟨r, 2, none⟩ = false) ∧
    Laid w0 r x b A n c B m d (((W'.setCell ⟨r, 0, none⟩ (.bool b)).setCell ⟨r, 1, none⟩ (.slice A n c)).setCell ⟨r, 2, none⟩ (.slice B m d)) := by
  obtain ⟨b', A', n', c', B', m', d', hB⟩ := (h.keep hb).blk
  obtain ⟨s0, s1, s2, hB3⟩ := store3 hB (.bool b) (.slice A n c) (.slice B m d)
  obtain ⟨vn, vd, e, hn, hd⟩ := hV
  injection e with e
  injection e with e
  have e1 : vn = .slice A n c := by injection e with _ e; injection e with e _; exact e.symm
  have e2 : vd = .slice B m d := by injection e with _ e; injection e with _ e; injection e with e _; exact e.symm
  have e0 : (Value.bool b) = .bool (decide (x.num < 0)) := by injection e
  subst e1 e2
  exact ⟨_, _, _, s0, s1, s2, hB3, _, rfl, ⟨_, _, by rw [e0], keeps_set3 hB hn, keeps_set3 hB hd⟩, below_set3 (below_step h.below hb) h.new _ _ _⟩

end Go.Proofs.YtjeamchaibialaaGreatDoor.RefI

/- The reference's reckoning with fractions, third part: the walks. -/
namespace Go.Proofs.YtjeamchaibialaaGreatDoor.RefJ
open Go.RowKit Heaps Go.Proofs.YtjeamchaibialaaGreatDoorW.PrintWords Go.Proofs.YtjeamchaibialaaGreatDoorW.PrintLast Go.Proofs.YtjeamchaibialaaGreatDoorW.PrintMore Fns Limbs Pure1 Pure3 Nats Arrs Texts Rats RefA RefB RefC RefD RefE RefF RefG RefH RefI

set_option maxRecDepth 100000 in
set_option maxHeartbeats 1000000 in
theorem over_calls (p q : Rat) (vp vq : Value) (w : World) (hP : Hid (RatV w vp p)) (hQ : Hid (RatV w vq q)) (hp1 : (limbs p.num.natAbs).length ≤ 300000000) (hp2 : (limbs p.den).length ≤ 300000000) (hq1 : (limbs q.num.natAbs).length ≤ 300000000) (hq2 : (limbs q.den).length ≤ 300000000) (hq0 : q.num ≠ 0) :
    Calls Tryz.prog 119 #[vp, vq] w (OutR (p / q) w) := by
  obtain ⟨A, c, B, c', rfl, hpn, hpd⟩ := ratV_shape hP.out
  obtain ⟨C, d, D, d', rfl, hqn, hqd⟩ := ratV_shape hQ.out
  have e1 := frac_div (decide (p.num < 0)) (decide (q.num < 0)) p.num.natAbs p.den (m := q.num.natAbs) (e := q.den) (by omega) q.den_nz
  rw [frac_self, frac_self] at e1
  rw [e1]
  have m1 := limbs_len_mul p.num.natAbs q.den
  have m2 := limbs_len_mul p.den q.num.natAbs
  have m3 : p.den * q.num.natAbs ≠ 0 := Nat.mul_ne_zero p.den_nz (by omega)
  have m4 : (limbs (p.num.natAbs * q.den)).length ≤ 800000000 := by omega
  have m5 : (limbs (p.den * q.num.natAbs)).length ≤ 800000000 := by omega
  have p1 : (limbs p.num.natAbs).length ≤ 1000000000 := by omega
  have p2 : (limbs p.den).length ≤ 1000000000 := by omega
  have q1 : (limbs q.num.natAbs).length ≤ 1000000000 := by omega
  have q2 : (limbs q.den).length ≤ 1000000000 := by omega
  obtain ⟨k1, hk1⟩ : ∃ k, k = (limbs p.num.natAbs).length := ⟨_, rfl⟩
  obtain ⟨k2, hk2⟩ : ∃ k, k = (limbs p.den).length := ⟨_, rfl⟩
  obtain ⟨k3, hk3⟩ : ∃ k, k = (limbs q.num.natAbs).length := ⟨_, rfl⟩
  obtain ⟨k4, hk4⟩ : ∃ k, k = (limbs q.den).length := ⟨_, rfl⟩
  rw [← hk1] at hpn ⊢
  rw [← hk2] at hpd ⊢
  rw [← hk3] at hqn ⊢
  rw [← hk4] at hqd ⊢
  generalize decide (p.num < 0) = b1 at *
  generalize decide (q.num < 0) = b2 at *
  obtain ⟨w1, hw1, hB1, hB2, hR, hb1⟩ := two_box w #[.bool b1, .slice A k1 c, .slice B k2 c'] #[.bool b2, .slice C k3 d, .slice D k4 d']
  obtain ⟨l0, l1, l2⟩ := load3 hB1
  obtain ⟨n0, n1, n2⟩ := load3 hB2
  have hS := And.intro l0 (And.intro n0 (And.intro l1 (And.intro n1 (And.intro l2 (And.intro n2 (Two.mk (p := p) (q := q) (isI_below hpn hb1) (isI_below hpd hb1) (isI_below hqn hb1) (isI_below hqd hb1) hb1 (show w.heap.size ≤ w.heap.size + 2 by omega) ⟨_, _, _, _, _, _, _, hR⟩))))))
  clear hq0 hk1 hk2 hk3 hk4 e1 m1 m2 hp1 hp2 hq1 hq2 hpn hpd hqn hqd hB1 hB2 hR hb1 l0 l1 l2 n0 n1 n2 hP hQ
  go_enter Tryz.func119, Tryz.ntmps119
  go_upto_region 1 with fail
  rw [← hw1]
  clear hw1
  go_region_held3 (fun (W : World) => W.cell? ⟨w.heap.size, 0, none⟩ = some (.bool b1) ∧ W.cell? ⟨w.heap.size + 1, 0, none⟩ = some (.bool b2) ∧ W.cell? ⟨w.heap.size, 1, none⟩ = some (.slice A k1 c) ∧ W.cell? ⟨w.heap.size + 1, 1, none⟩ = some (.slice C k3 d) ∧ W.cell? ⟨w.heap.size, 2, none⟩ = some (.slice B k2 c') ∧ W.cell? ⟨w.heap.size + 1, 2, none⟩ = some (.slice D k4 d') ∧
      Two w (w.heap.size + 2) (.slice A k1 c) (.slice B k2 c') (.slice C k3 d) (.slice D k4 d') p q W)
    (first | exact two_below hS (Drawn0.below ⟨1, rfl⟩) | exact two_below (by assumption) (by assumption) | exact two_set (by assumption) (by omega) (by omega))
    (first
      | (go_at_call 49; first
          | (with_reducible refine (mul_calls p.num.natAbs q.den p1 q2 (.slice A k1 c) (.slice D k4 d') _ (two_of (by assumption)).n1 (two_of (by assumption)).d2).mono ?_; rintro e w' ⟨v, rfl, hv, hb⟩)
          | (with_reducible refine (mul_calls p.den q.num.natAbs p2 q1 (.slice B k2 c') (.slice C k3 d) _ (two_of (by assumption)).d1 (two_of (by assumption)).n2).mono ?_; rintro e w' ⟨v, rfl, hv, hb⟩))
      | (go_at_call 88; refine (ratio_calls (b1 != b2) (p.num.natAbs * q.den) (p.den * q.num.natAbs) m3 m4 m5 _ _ _ (Lib.hid ?_) (Lib.hid ?_)).mono ?_; (first | assumption | exact isI_below (by assumption) (by assumption)); (first | assumption | exact isI_below (by assumption) (by assumption)); rintro e w' ⟨v, rfl, hv, hb⟩; obtain ⟨b3, A3, k5, c3, B3, k6, d3, rfl⟩ := ratV_flat hv; obtain ⟨a0, a1, a2, ⟨s0, t0⟩, ⟨s1, t1⟩, ⟨s2, t2⟩, hL⟩ := two_store (two_of (by assumption)) hb hv; obtain ⟨m0, m1, m2⟩ := load3 hL.1))
  all_goals
    have HL := Lib.hid hL.2
    clear hL
    go_wp2_with fail
    exact bodyPost_ret (v := .agg #[.bool b3, .slice A3 k5 c3, .slice B3 k6 d3]) (by simp [results, Tryz.results119, go_sem, m0, m1, m2]) rfl HL.out
end Go.Proofs.YtjeamchaibialaaGreatDoor.RefJ

/- The reference's reckoning with fractions, fourth part: the walks. -/
namespace Go.Proofs.YtjeamchaibialaaGreatDoor.RefK
open Go.RowKit Heaps Go.Proofs.YtjeamchaibialaaGreatDoorW.PrintWords Go.Proofs.YtjeamchaibialaaGreatDoorW.PrintLast Go.Proofs.YtjeamchaibialaaGreatDoorW.PrintMore Fns Limbs Pure1 Pure3 Nats Arrs Texts Rats RefA RefB RefC RefD RefE RefF RefG RefH RefI RefJ

set_option maxRecDepth 100000 in
set_option maxHeartbeats 1000000 in
theorem plus_calls (p q : Rat) (vp vq : Value) (w : World) (hP : Hid (RatV w vp p)) (hQ : Hid (RatV w vq q)) (hp1 : (limbs p.num.natAbs).length ≤ 300000000) (hp2 : (limbs p.den).length ≤ 300000000) (hq1 : (limbs q.num.natAbs).length ≤ 300000000) (hq2 : (limbs q.den).length ≤ 300000000) :
    Calls Tryz.prog 117 #[vp, vq] w (OutR (p + q) w) := by
  obtain ⟨A, c, B, c', rfl, hpn, hpd⟩ := ratV_shape hP.out
  obtain ⟨C, d, D, d', rfl, hqn, hqd⟩ := ratV_shape hQ.out
  have e1 := frac_add (decide (p.num < 0)) (decide (q.num < 0)) p.num.natAbs q.num.natAbs p.den_nz q.den_nz
  rw [frac_self, frac_self] at e1
  have mx := limbs_len_mul p.num.natAbs q.den
  have my := limbs_len_mul q.num.natAbs p.den
  have m2 := limbs_len_mul p.den q.den
  have m3 : p.den * q.den ≠ 0 := Nat.mul_ne_zero p.den_nz q.den_nz
  have m5 : (limbs (p.den * q.den)).length ≤ 800000000 := by omega
  have p1 : (limbs p.num.natAbs).length ≤ 1000000000 := by omega
  have p2 : (limbs p.den).length ≤ 1000000000 := by omega
  have q1 : (limbs q.num.natAbs).length ≤ 1000000000 := by omega
  have q2 : (limbs q.den).length ≤ 1000000000 := by omega
  obtain ⟨k1, hk1⟩ : ∃ k, k = (limbs p.num.natAbs).length := ⟨_, rfl⟩
  obtain ⟨k2, hk2⟩ : ∃ k, k = (limbs p.den).length := ⟨_, rfl⟩
  obtain ⟨k3, hk3⟩ : ∃ k, k = (limbs q.num.natAbs).length := ⟨_, rfl⟩
  obtain ⟨k4, hk4⟩ : ∃ k, k = (limbs q.den).length := ⟨_, rfl⟩
  rw [← hk1] at hpn ⊢
  rw [← hk2] at hpd ⊢
  rw [← hk3] at hqn ⊢
  rw [← hk4] at hqd ⊢
  generalize decide (p.num < 0) = b1 at *
  generalize decide (q.num < 0) = b2 at *
  obtain ⟨w1, hw1, hB1, hB2, hR, hb1⟩ := two_box w #[.bool b1, .slice A k1 c, .slice B k2 c'] #[.bool b2, .slice C k3 d, .slice D k4 d']
  obtain ⟨l0, l1, l2⟩ := load3 hB1
  obtain ⟨n0, n1, n2⟩ := load3 hB2
  have hS := And.intro l0 (And.intro n0 (And.intro l1 (And.intro n1 (And.intro l2 (And.intro n2 (Two.mk (p := p) (q := q) (isI_below hpn hb1) (isI_below hpd hb1) (isI_below hqn hb1) (isI_below hqd hb1) hb1 (show w.heap.size ≤ w.heap.size + 2 by omega) ⟨_, _, _, _, _, _, _, hR⟩))))))
  obtain ⟨x, hx⟩ : ∃ x, x = p.num.natAbs * q.den := ⟨_, rfl⟩
  obtain ⟨y, hy⟩ : ∃ y, y = q.num.natAbs * p.den := ⟨_, rfl⟩
  have lx : (limbs x).length ≤ 700000000 := by rw [hx]; omega
  have ly : (limbs y).length ≤ 700000000 := by rw [hy]; omega
  rw [← hx, ← hy] at e1
  have HXY := Lib.hid (And.intro hx (And.intro hy e1))
  clear hk1 hk2 hk3 hk4 mx my m2 hp1 hp2 hq1 hq2 hpn hpd hqn hqd hB1 hB2 hR hb1 hP hQ hx hy e1
  go_enter Tryz.func117, Tryz.ntmps117
  go_upto_region 1 with fail
  rw [← hw1]
  clear hw1
  have HS := Lib.hid hS
  clear hS
  go_wp2_with fail
  refine (mul_calls p.num.natAbs q.den p1 q2 _ _ _ (two_of HS.out).n1 (two_of HS.out).d2).mono ?_
  rintro e w2 ⟨v2, rfl, h2, hb2⟩
  have hS := two_below HS.out hb2
  have H2 := Lib.hid h2
  clear HS l0 l1 l2 n0 n1 n2 h2 hb2
  obtain ⟨l0, n0, l1, n1, l2, n2, _⟩ := id hS
  have HS := Lib.hid hS
  clear hS
  rw [← HXY.out.1] at H2
  go_wp2_with fail
  refine (mul_calls q.num.natAbs p.den q1 p2 _ _ _ (two_of HS.out).n2 (two_of HS.out).d1).mono ?_
  rintro e w3 ⟨v3, rfl, h3, hb3⟩
  have hS := two_below HS.out hb3
  have H3 := Lib.hid (And.intro (isI_below H2.out hb3) h3)
  clear HS l0 l1 l2 n0 n1 n2 h3 hb3 H2
  obtain ⟨l0, n0, l1, n1, l2, n2, _⟩ := id hS
  have HS := Lib.hid hS
  clear hS
  rw [← HXY.out.2.1] at H3
  go_wp2_with fail
  refine (mul_calls p.den q.den p2 q2 _ _ _ (two_of HS.out).d1 (two_of HS.out).d2).mono ?_
  rintro e w4 ⟨v4, rfl, h4, hb4⟩
  have hS := two_below HS.out hb4
  have H4 := Lib.hid (And.intro (isI_below H3.out.1 hb4) (And.intro (isI_below H3.out.2 hb4) h4))
  clear HS l0 l1 l2 n0 n1 n2 h4 hb4 H3
  obtain ⟨l0, n0, l1, n1, l2, n2, _⟩ := id hS
  have lxy := limbs_len_add x y
  by_cases hbb : b1 = b2
  · have HQ : Hid (p + q = frac b1 (x + y) (p.den * q.den)) := Lib.hid (by
      rw [HXY.out.2.2, ← hbb]
      unfold frac
      congr 1
      cases b1 <;> simp [sg] <;> omega)
    have hbe : (b1 == b2) = true := beq_iff_eq.2 hbb
    have m4 : (limbs (x + y)).length ≤ 800000000 := by omega
    have lx9 : (limbs x).length ≤ 1000000000 := by omega
    have ly9 : (limbs y).length ≤ 1000000000 := by omega
    clear hbb
    go_upto_region 5 with fail
    go_region_held3 (fun (W : World) => W.cell? ⟨w.heap.size, 0, none⟩ = some (.bool b1) ∧ W.cell? ⟨w.heap.size + 1, 0, none⟩ = some (.bool b2) ∧ W.cell? ⟨w.heap.size, 1, none⟩ = some (.slice A k1 c) ∧ W.cell? ⟨w.heap.size + 1, 1, none⟩ = some (.slice C k3 d) ∧ W.cell? ⟨w.heap.size, 2, none⟩ = some (.slice B k2 c') ∧ W.cell? ⟨w.heap.size + 1, 2, none⟩ = some (.slice D k4 d') ∧
      Two w (w.heap.size + 2) (.slice A k1 c) (.slice B k2 c') (.slice C k3 d) (.slice D k4 d') p q W)
      (first | exact two_below hS (Drawn0.below ⟨1, rfl⟩) | exact two_below (by assumption) (by assumption) | exact two_set (by assumption) (by omega) (by omega))
      (first
        | (go_at_call 146; refine (add_calls x y lx9 ly9 _ _ _ (isI_below H4.out.1 (Drawn0.below ⟨1, rfl⟩)) (isI_below H4.out.2.1 (Drawn0.below ⟨1, rfl⟩))).mono ?_; rintro e w' ⟨v, rfl, hv, hb⟩)
        | (go_at_call 88; refine (ratio_calls b1 (x + y) (p.den * q.den) m3 m4 m5 _ _ _ (Lib.hid ?_) (Lib.hid ?_)).mono ?_; (first | assumption | exact isI_below (by assumption) (by assumption)); (first | assumption | exact isI_below (isI_below H4.out.2.2 (Drawn0.below ⟨1, rfl⟩)) (by assumption)); rintro e w' ⟨v, rfl, hv, hb⟩; obtain ⟨b3, A3, k5, c3, B3, k6, d3, rfl⟩ := ratV_flat hv; obtain ⟨a0, a1, a2, ⟨s0, t0⟩, ⟨s1, t1⟩, ⟨s2, t2⟩, hL⟩ := two_store (two_of (by assumption)) hb hv; obtain ⟨m0, m1, m2⟩ := load3 hL.1))
    all_goals
      have HL := Lib.hid hL.2
      clear hL
      go_wp2_with fail
      exact bodyPost_ret (v := .agg #[.bool b3, .slice A3 k5 c3, .slice B3 k6 d3]) (by simp [results, Tryz.results117, go_sem, m0, m1, m2]) rfl (by rw [HQ.out]; exact HL.out)
  · have hbe : (b1 == b2) = false := beq_eq_false_iff_ne.2 hbb
    have hb12 : b2 = !b1 := by cases b1 <;> cases b2 <;> simp_all
    have lx9 : (limbs x).length ≤ 1000000000 := by omega
    have ly9 : (limbs y).length ≤ 1000000000 := by omega
    have HS := Lib.hid hS
    clear hbb hS
    go_wp2_with fail
    refine (cmp_calls x y (by omega) (by omega) _ _ _ (Lib.hid H4.out.1) (Lib.hid H4.out.2.1)).mono ?_
    rintro e w5 ⟨rfl, hb5⟩
    have hS := two_below HS.out hb5
    have H5 := Lib.hid (And.intro (isI_below H4.out.1 hb5) (And.intro (isI_below H4.out.2.1 hb5) (isI_below H4.out.2.2 hb5)))
    clear HS l0 l1 l2 n0 n1 n2 hb5 H4
    have H4 := H5
    clear H5
    obtain ⟨l0, n0, l1, n1, l2, n2, _⟩ := id hS
    by_cases hxy : y ≤ x
    · have HQ : Hid (p + q = frac b1 (x - y) (p.den * q.den)) := Lib.hid (by
        rw [HXY.out.2.2, hb12]
        unfold frac
        congr 1
        cases b1 <;> simp [sg] <;> omega)
      have hs : 0 ≤ sgn x y := by unfold sgn; split <;> first | omega | (split <;> omega)
      have m4 : (limbs (x - y)).length ≤ 800000000 := Nat.le_trans (limbs_len_mono (Nat.sub_le x y)) (by omega)
      generalize sgn x y = z at *
      clear hb12
      go_upto_region 7 with fail
      go_region_held3 (fun (W : World) => W.cell? ⟨w.heap.size, 0, none⟩ = some (.bool b1) ∧ W.cell? ⟨w.heap.size + 1, 0, none⟩ = some (.bool b2) ∧ W.cell? ⟨w.heap.size, 1, none⟩ = some (.slice A k1 c) ∧ W.cell? ⟨w.heap.size + 1, 1, none⟩ = some (.slice C k3 d) ∧ W.cell? ⟨w.heap.size, 2, none⟩ = some (.slice B k2 c') ∧ W.cell? ⟨w.heap.size + 1, 2, none⟩ = some (.slice D k4 d') ∧
        Two w (w.heap.size + 2) (.slice A k1 c) (.slice B k2 c') (.slice C k3 d) (.slice D k4 d') p q W)
        (first | exact two_below hS (Drawn0.below ⟨1, rfl⟩) | exact two_below (by assumption) (by assumption) | exact two_set (by assumption) (by omega) (by omega))
        (first
          | (go_at_call 97; refine (sub_calls x y hxy lx9 _ _ _ (isI_below H4.out.1 (Drawn0.below ⟨1, rfl⟩)) (isI_below H4.out.2.1 (Drawn0.below ⟨1, rfl⟩))).mono ?_; rintro e w' ⟨v, rfl, hv, hb⟩)
          | (go_at_call 88; refine (ratio_calls b1 (x - y) (p.den * q.den) m3 m4 m5 _ _ _ (Lib.hid ?_) (Lib.hid ?_)).mono ?_; (first | assumption | exact isI_below (by assumption) (by assumption)); (first | assumption | exact isI_below (isI_below H4.out.2.2 (Drawn0.below ⟨1, rfl⟩)) (by assumption)); rintro e w' ⟨v, rfl, hv, hb⟩; obtain ⟨b3, A3, k5, c3, B3, k6, d3, rfl⟩ := ratV_flat hv; obtain ⟨a0, a1, a2, ⟨s0, t0⟩, ⟨s1, t1⟩, ⟨s2, t2⟩, hL⟩ := two_store (two_of (by assumption)) hb hv; obtain ⟨m0, m1, m2⟩ := load3 hL.1))
      all_goals
        have HL := Lib.hid hL.2
        clear hL
        go_wp2_with fail
        exact bodyPost_ret (v := .agg #[.bool b3, .slice A3 k5 c3, .slice B3 k6 d3]) (by simp [results, Tryz.results117, go_sem, m0, m1, m2]) rfl (by rw [HQ.out]; exact HL.out)
    · have HQ : Hid (p + q = frac b2 (y - x) (p.den * q.den)) := Lib.hid (by
        rw [HXY.out.2.2, hb12]
        unfold frac
        congr 1
        cases b1 <;> simp [sg] <;> omega)
      have hs : ¬ 0 ≤ sgn x y := by unfold sgn; rw [if_pos (by omega)]; omega
      have hyx : x ≤ y := by omega
      have m4 : (limbs (y - x)).length ≤ 800000000 := Nat.le_trans (limbs_len_mono (Nat.sub_le y x)) (by omega)
      generalize sgn x y = z at *
      clear hb12 hxy
      go_upto_region 8 with fail
      go_region_held3 (fun (W : World) => W.cell? ⟨w.heap.size, 0, none⟩ = some (.bool b1) ∧ W.cell? ⟨w.heap.size + 1, 0, none⟩ = some (.bool b2) ∧ W.cell? ⟨w.heap.size, 1, none⟩ = some (.slice A k1 c) ∧ W.cell? ⟨w.heap.size + 1, 1, none⟩ = some (.slice C k3 d) ∧ W.cell? ⟨w.heap.size, 2, none⟩ = some (.slice B k2 c') ∧ W.cell? ⟨w.heap.size + 1, 2, none⟩ = some (.slice D k4 d') ∧
        Two w (w.heap.size + 2) (.slice A k1 c) (.slice B k2 c') (.slice C k3 d) (.slice D k4 d') p q W)
        (first | exact two_below hS (Drawn0.below ⟨1, rfl⟩) | exact two_below (by assumption) (by assumption) | exact two_set (by assumption) (by omega) (by omega))
        (first
          | (go_at_call 97; refine (sub_calls y x hyx ly9 _ _ _ (isI_below H4.out.2.1 (Drawn0.below ⟨1, rfl⟩)) (isI_below H4.out.1 (Drawn0.below ⟨1, rfl⟩))).mono ?_; rintro e w' ⟨v, rfl, hv, hb⟩)
          | (go_at_call 88; refine (ratio_calls b2 (y - x) (p.den * q.den) m3 m4 m5 _ _ _ (Lib.hid ?_) (Lib.hid ?_)).mono ?_; (first | assumption | exact isI_below (by assumption) (by assumption)); (first | assumption | exact isI_below (isI_below H4.out.2.2 (Drawn0.below ⟨1, rfl⟩)) (by assumption)); rintro e w' ⟨v, rfl, hv, hb⟩; obtain ⟨b3, A3, k5, c3, B3, k6, d3, rfl⟩ := ratV_flat hv; obtain ⟨a0, a1, a2, ⟨s0, t0⟩, ⟨s1, t1⟩, ⟨s2, t2⟩, hL⟩ := two_store (two_of (by assumption)) hb hv; obtain ⟨m0, m1, m2⟩ := load3 hL.1))
      all_goals
        have HL := Lib.hid hL.2
        clear hL
        go_wp2_with fail
        exact bodyPost_ret (v := .agg #[.bool b3, .slice A3 k5 c3, .slice B3 k6 d3]) (by simp [results, Tryz.results117, go_sem, m0, m1, m2]) rfl (by rw [HQ.out]; exact HL.out)

end Go.Proofs.YtjeamchaibialaaGreatDoor.RefK

/- The reference's reckoning with fractions, fifth part: the walks. -/
namespace Go.Proofs.YtjeamchaibialaaGreatDoor.RefL
open Go.RowKit Heaps Go.Proofs.YtjeamchaibialaaGreatDoorW.PrintWords Go.Proofs.YtjeamchaibialaaGreatDoorW.PrintLast Go.Proofs.YtjeamchaibialaaGreatDoorW.PrintMore Fns Limbs Pure1 Pure3 Nats Arrs Texts Rats RefA RefB RefC RefD RefE RefF RefG RefH RefI RefJ RefK

theorem ratV_mk {W : World} {q : Rat} {n d : Value} (h1 : IsI W n q.num.natAbs) (h2 : IsI W d q.den) : RatV W (.agg #[.bool (decide (q.num < 0)), n, d]) q := ⟨n, d, rfl, h1, h2⟩
set_option maxRecDepth 100000 in
set_option maxHeartbeats 1000000 in
theorem less_calls (p q : Rat) (vp vq : Value) (w : World) (hP : Hid (RatV w vp p)) (hQ : Hid (RatV w vq q)) (hp1 : (limbs p.num.natAbs).length ≤ 300000000) (hp2 : (limbs p.den).length ≤ 300000000) (hq1 : (limbs q.num.natAbs).length ≤ 300000000) (hq2 : (limbs q.den).length ≤ 300000000) :
    Calls Tryz.prog 80 #[vp, vq] w (OutR (p - q) w) := by
  obtain ⟨A, c, B, c', rfl, hpn, hpd⟩ := ratV_shape hP.out
  obtain ⟨C, d, D, d', rfl, hqn, hqd⟩ := ratV_shape hQ.out
  obtain ⟨k1, hk1⟩ : ∃ k, k = (limbs p.num.natAbs).length := ⟨_, rfl⟩
  obtain ⟨k2, hk2⟩ : ∃ k, k = (limbs p.den).length := ⟨_, rfl⟩
  obtain ⟨k3, hk3⟩ : ∃ k, k = (limbs q.num.natAbs).length := ⟨_, rfl⟩
  obtain ⟨k4, hk4⟩ : ∃ k, k = (limbs q.den).length := ⟨_, rfl⟩
  rw [← hk1] at hpn ⊢
  rw [← hk2] at hpd ⊢
  rw [← hk3] at hqn ⊢
  rw [← hk4] at hqd ⊢
  obtain ⟨w1, hw1, hB1, hB2, hR, hb1⟩ := two_box w #[.bool (decide (p.num < 0)), .slice A k1 c, .slice B k2 c'] #[.bool (decide (q.num < 0)), .slice C k3 d, .slice D k4 d']
  obtain ⟨l0, l1, l2⟩ := load3 hB1
  obtain ⟨n0, n1, n2⟩ := load3 hB2
  have hS := And.intro l0 (And.intro n0 (And.intro l1 (And.intro n1 (And.intro l2 (And.intro n2 (Two.mk (p := p) (q := q) (isI_below hpn hb1) (isI_below hpd hb1) (isI_below hqn hb1) (isI_below hqd hb1) hb1 (show w.heap.size ≤ w.heap.size + 2 by omega) ⟨_, _, _, _, _, _, _, hR⟩))))))
  have hq9 : (limbs q.num.natAbs).length ≤ 900000000 := by omega
  have hn1 : (limbs (-q).num.natAbs).length ≤ 300000000 := by rw [Rat.neg_num, Int.natAbs_neg]; exact hq1
  have hn2 : (limbs (-q).den).length ≤ 300000000 := by rw [Rat.neg_den]; exact hq2
  have HE := Lib.hid (Rat.sub_eq_add_neg p q)
  clear hk1 hk2 hk3 hk4 hq1 hq2 hpn hpd hqn hqd hB1 hB2 hR hb1 l0 l1 l2 n0 n1 n2 hP hQ
  go_enter Tryz.func80, Tryz.ntmps80
  go_upto_region 1 with fail
  rw [← hw1]
  clear hw1
  go_region_held3 (fun (W : World) => W.cell? ⟨w.heap.size, 0, none⟩ = some (.bool (decide (p.num < 0))) ∧ W.cell? ⟨w.heap.size + 1, 0, none⟩ = some (.bool (decide (q.num < 0))) ∧ W.cell? ⟨w.heap.size, 1, none⟩ = some (.slice A k1 c) ∧ W.cell? ⟨w.heap.size + 1, 1, none⟩ = some (.slice C k3 d) ∧ W.cell? ⟨w.heap.size, 2, none⟩ = some (.slice B k2 c') ∧ W.cell? ⟨w.heap.size + 1, 2, none⟩ = some (.slice D k4 d') ∧
      Two w (w.heap.size + 2) (.slice A k1 c) (.slice B k2 c') (.slice C k3 d) (.slice D k4 d') p q W)
    (first | exact two_below hS (Drawn0.below ⟨1, rfl⟩) | exact two_below (by assumption) (by assumption) | exact two_set (by assumption) (by omega) (by omega))
    (first
      | (go_at_call 83; refine (opp_calls q (.agg #[.bool (decide (q.num < 0)), .slice C k3 d, .slice D k4 d']) _ (Lib.hid (ratV_mk (two_of (by assumption)).n2 (two_of (by assumption)).d2)) hq9).mono ?_; rintro e w' ⟨v, rfl, hv, hb⟩)
      | (go_at_call 117; refine (plus_calls p (-q) (.agg #[.bool (decide (p.num < 0)), .slice A k1 c, .slice B k2 c']) _ _ (Lib.hid (ratV_mk (two_of (by assumption)).n1 (two_of (by assumption)).d1)) (Lib.hid ?_) hp1 hp2 hn1 hn2).mono ?_; (first | assumption | exact ratV_below (by assumption) (by assumption)); rintro e w' ⟨v, rfl, hv, hb⟩; obtain ⟨b3, A3, k5, c3, B3, k6, d3, rfl⟩ := ratV_flat hv; obtain ⟨a0, a1, a2, ⟨s0, t0⟩, ⟨s1, t1⟩, ⟨s2, t2⟩, hL⟩ := two_store (two_of (by assumption)) hb hv; obtain ⟨m0, m1, m2⟩ := load3 hL.1))
  all_goals
    have HL := Lib.hid hL.2
    clear hL
    go_wp2_with fail
    exact bodyPost_ret (v := .agg #[.bool b3, .slice A3 k5 c3, .slice B3 k6 d3]) (by simp [results, Tryz.results80, go_sem, m0, m1, m2]) rfl (by rw [HE.out]; exact HL.out)

set_option maxRecDepth 100000 in
set_option maxHeartbeats 1000000 in
theorem compare_calls (p q : Rat) (vp vq : Value) (w : World) (hP : Hid (RatV w vp p)) (hQ : Hid (RatV w vq q)) (hp1 : Sizes.Sz p 300000000) (hq1 : Sizes.Sz q 300000000) :
    Calls Tryz.prog 33 #[vp, vq] w fun e w' => e = .returned (.int .i64 (sgq (p - q))) ∧ Below w.heap.size w w' := by
  obtain ⟨A, c, B, c', rfl, hpn, hpd⟩ := ratV_shape hP.out
  obtain ⟨C, d, D, d', rfl, hqn, hqd⟩ := ratV_shape hQ.out
  obtain ⟨k1, hk1⟩ : ∃ k, k = (limbs p.num.natAbs).length := ⟨_, rfl⟩
  obtain ⟨k2, hk2⟩ : ∃ k, k = (limbs p.den).length := ⟨_, rfl⟩
  obtain ⟨k3, hk3⟩ : ∃ k, k = (limbs q.num.natAbs).length := ⟨_, rfl⟩
  obtain ⟨k4, hk4⟩ : ∃ k, k = (limbs q.den).length := ⟨_, rfl⟩
  rw [← hk1] at hpn ⊢
  rw [← hk2] at hpd ⊢
  rw [← hk3] at hqn ⊢
  rw [← hk4] at hqd ⊢
  obtain ⟨w1, hw1, hB1, hB2, hb1⟩ := pair_box w #[.bool (decide (p.num < 0)), .slice A k1 c, .slice B k2 c'] #[.bool (decide (q.num < 0)), .slice C k3 d, .slice D k4 d']
  obtain ⟨l0, l1, l2⟩ := load3 hB1
  obtain ⟨n0, n1, n2⟩ := load3 hB2
  have HS := Lib.hid (And.intro (isI_below hpn hb1) (And.intro (isI_below hpd hb1) (And.intro (isI_below hqn hb1) (And.intro (isI_below hqd hb1) hb1))))
  have hsz := (Sizes.sz_sub hp1 hq1).1
  clear hk1 hk2 hk3 hk4 hpn hpd hqn hqd hB1 hB2 hb1 hP hQ
  have HZ := Lib.hid (And.intro hp1 (And.intro hq1 hsz))
  clear hp1 hq1 hsz
  go_enter Tryz.func33, Tryz.ntmps33
  go_upto_region 1 with fail
  rw [← hw1]
  clear hw1
  go_wp2_with fail
  refine (less_calls p q _ _ _ (Lib.hid ⟨_, _, rfl, HS.out.1, HS.out.2.1⟩) (Lib.hid ⟨_, _, rfl, HS.out.2.2.1, HS.out.2.2.2.1⟩) HZ.out.1.1 HZ.out.1.2 HZ.out.2.1.1 HZ.out.2.1.2).mono ?_
  rintro e w2 ⟨v, rfl, hv, hb2⟩
  have HV := Lib.hid hv
  have HB := Lib.hid (below_step HS.out.2.2.2.2 hb2)
  clear hv hb2 HS
  go_wp2_with fail
  refine (sign_calls (p - q) _ _ HV (by have := HZ.out.2.2; omega)).mono ?_
  rintro e w3 ⟨rfl, hb3⟩
  have HB3 := Lib.hid (below_step HB.out hb3)
  clear hb3
  go_wp2_with fail
  go_ret
  exact ⟨rfl, HB3.out⟩

theorem neg_dec {k : Nat} (h : k ≠ 0) : decide (-(k : Int) < 0) = true := decide_eq_true (by omega)
theorem ratV_int {W : World} {z : Int} {n d : Value} (h1 : IsI W n z.natAbs) (h2 : IsI W d 1) : RatV W (.agg #[.bool (decide (z < 0)), n, d]) (z : Rat) := ⟨n, d, by rw [Rat.num_intCast], by rw [Rat.num_intCast]; exact h1, by rw [Rat.den_intCast]; exact h2⟩

set_option maxRecDepth 100000 in
set_option maxHeartbeats 1000000 in
theorem below_calls (q : Rat) (v : Value) (w : World) (hV : Hid (RatV w v q)) (hl : Sizes.Sz q 800000000) :
    Calls Tryz.prog 118 #[v] w (OutR ((Rat.floor q : Int) : Rat) w) := by
  obtain ⟨A, c, B, c', rfl, hn, hd⟩ := ratV_shape hV.out
  obtain ⟨k1, hk1⟩ : ∃ k, k = (limbs q.num.natAbs).length := ⟨_, rfl⟩
  obtain ⟨k2, hk2⟩ : ∃ k, k = (limbs q.den).length := ⟨_, rfl⟩
  rw [← hk1] at hn ⊢
  rw [← hk2] at hd ⊢
  obtain ⟨b, hb⟩ : ∃ b, b = decide (q.num < 0) := ⟨_, rfl⟩
  rw [← hb]
  obtain ⟨w1, hw1, hB, hC, hb1⟩ := one_box w #[.bool b, .slice A k1 c, .slice B k2 c']
  obtain ⟨l0, l1, l2⟩ := load3 hB
  have HS := Lib.hid (And.intro (isI_below hn hb1) (And.intro (isI_below hd hb1) (And.intro hb1 (And.intro hB (And.intro hC (And.intro hb hl))))))
  clear hn hd hV hk1 hk2 hB hC hb1 hb
  go_enter Tryz.func118, Tryz.ntmps118
  go_upto_region 1 with fail
  rw [← hw1]
  clear hw1
  go_wp2_with fail
  refine (div_calls q.num.natAbs q.den q.den_nz hl.1 hl.2 _ _ _ (Lib.hid HS.out.1) (Lib.hid HS.out.2.1)).mono ?_
  rintro e w2 ⟨v1, v2, rfl, h1, h2, hb2⟩
  obtain ⟨C, d, rfl, _⟩ := h1.form
  obtain ⟨D, d', rfl, _⟩ := h2.form
  have hB := HS.out.2.2.2.1.same (hb2.block _ HS.out.2.2.2.1.lt)
  have hC := HS.out.2.2.2.2.1.same (hb2.block _ HS.out.2.2.2.2.1.lt)
  clear l0 l1 l2
  obtain ⟨l0, l1, l2⟩ := load3 hB
  have HT := Lib.hid (And.intro h1 (And.intro h2 (And.intro (below_step HS.out.2.2.1 hb2) (And.intro hC HS.out.2.2.2.2.2))))
  clear h1 h2 hB hC hb2 HS hl
  obtain ⟨k3, hk3⟩ : ∃ k, k = (limbs (q.num.natAbs / q.den)).length := ⟨_, rfl⟩
  obtain ⟨k4, hk4⟩ : ∃ k, k = (limbs (q.num.natAbs % q.den)).length := ⟨_, rfl⟩
  rw [← hk3] at HT ⊢
  rw [← hk4] at HT ⊢
  have k3l : k3 ≤ 900000000 := by rw [hk3]; exact Nat.le_trans (limbs_len_mono (Nat.div_le_self _ _)) (by have := HT.out.2.2.2.2.2.1; omega)
  have k4l : k4 ≤ 900000000 := by rw [hk4]; exact Nat.le_trans (limbs_len_mono (Nat.mod_le _ _)) (by have := HT.out.2.2.2.2.2.1; omega)
  cases b
  · have HQ := Lib.hid (floor_pos (of_decide_eq_false HT.out.2.2.2.2.1.symm))
    clear hk3 hk4
    go_wp2_with fail
    refine (one_calls _).mono ?_
    rintro e w3 ⟨v3, rfl, h3, hb3⟩
    obtain ⟨E, e, rfl, _⟩ := h3.form
    have hC := HT.out.2.2.2.1.same (hb3.block _ HT.out.2.2.2.1.lt)
    have HF := Lib.hid (And.intro (isI_below HT.out.1 hb3) (And.intro h3 (And.intro (below_step HT.out.2.2.1 hb3) hC)))
    obtain ⟨⟨s0, t0⟩, ⟨s1, t1⟩, ⟨s2, t2⟩, hB3⟩ := store3 hC (.bool false) (.slice C k3 d) (.slice E (limbs 1).length e)
    obtain ⟨m0, m1, m2⟩ := load3 hB3
    clear hB3 h3 hb3 hC HT
    go_wp2_with fail
    refine bodyPost_ret (v := .agg #[.bool false, .slice C k3 d, .slice E (limbs 1).length e]) (by simp [results, Tryz.results118, go_sem, m0, m1, m2]) rfl ?_
    rw [← HQ.out]
    exact ⟨_, rfl, ratV_int (z := ((q.num.natAbs / q.den : Nat) : Int)) (keeps_set3 HF.out.2.2.2 HF.out.1) (keeps_set3 HF.out.2.2.2 HF.out.2.1), below_set3 HF.out.2.2.1 (by omega) _ _ _⟩
  · have hqn := of_decide_eq_true HT.out.2.2.2.2.1.symm
    by_cases hr0 : q.num.natAbs % q.den = 0
    · have hk0 : k4 = 0 := by rw [hk4, hr0, limbs_zero]; rfl
      have hne : q.num.natAbs / q.den ≠ 0 := by
        intro e
        have := Nat.div_add_mod q.num.natAbs q.den
        rw [e, hr0] at this
        omega
      have hk3p : 0 < k3 := by rw [hk3]; exact limbs_len_pos hne
      have HQ := Lib.hid (And.intro (floor_even hqn hr0) hne)
      clear hk3 hk4 hqn hr0 hne
      subst hk0
      go_wp2_with fail
      refine (one_calls _).mono ?_
      rintro e w3 ⟨v3, rfl, h3, hb3⟩
      obtain ⟨E, e, rfl, _⟩ := h3.form
      have hC := HT.out.2.2.2.1.same (hb3.block _ HT.out.2.2.2.1.lt)
      have HF := Lib.hid (And.intro (isI_below HT.out.1 hb3) (And.intro h3 (And.intro (below_step HT.out.2.2.1 hb3) hC)))
      obtain ⟨⟨s0, t0⟩, ⟨s1, t1⟩, ⟨s2, t2⟩, hB3⟩ := store3 hC (.bool true) (.slice C k3 d) (.slice E (limbs 1).length e)
      obtain ⟨m0, m1, m2⟩ := load3 hB3
      clear hB3 h3 hb3 hC HT
      have hp : decide ((0 : Int) < k3) = true := decide_eq_true (by omega)
      go_wp2_with fail
      refine bodyPost_ret (v := .agg #[.bool true, .slice C k3 d, .slice E (limbs 1).length e]) (by simp [results, Tryz.results118, go_sem, m0, m1, m2]) rfl ?_
      rw [← HQ.out.1]
      have hz : decide (-((q.num.natAbs / q.den : Nat) : Int) < 0) = true := neg_dec HQ.out.2
      have ha : (-((q.num.natAbs / q.den : Nat) : Int)).natAbs = q.num.natAbs / q.den := by rw [Int.natAbs_neg, Int.natAbs_natCast]
      have hv := ratV_int (W := ((w3.setCell ⟨w.heap.size + 1, 0, none⟩ (.bool true)).setCell ⟨w.heap.size + 1, 1, none⟩ (.slice C k3 d)).setCell ⟨w.heap.size + 1, 2, none⟩ (.slice E (limbs 1).length e)) (z := -((q.num.natAbs / q.den : Nat) : Int)) (n := .slice C k3 d) (d := .slice E (limbs 1).length e) (by rw [ha]; exact keeps_set3 HF.out.2.2.2 HF.out.1) (keeps_set3 HF.out.2.2.2 HF.out.2.1)
      rw [hz] at hv
      exact ⟨_, rfl, hv, below_set3 HF.out.2.2.1 (by omega) _ _ _⟩
    · have hk4p : 0 < k4 := by rw [hk4]; exact limbs_len_pos hr0
      have HQ := Lib.hid (floor_odd hqn hr0)
      have hkl : (limbs (q.num.natAbs / q.den)).length ≤ 1000000000 := by omega
      clear hk3 hk4 hqn hr0
      go_wp2_with fail
      refine (one_calls _).mono ?_
      rintro e w3 ⟨v3, rfl, h3, hb3⟩
      have hC := HT.out.2.2.2.1.same (hb3.block _ HT.out.2.2.2.1.lt)
      have HF := Lib.hid (And.intro (isI_below HT.out.1 hb3) (And.intro h3 (And.intro (below_step HT.out.2.2.1 hb3) hC)))
      clear h3 hb3 hC HT
      go_wp2_with fail
      refine (add_calls (q.num.natAbs / q.den) 1 hkl (Nat.le_trans one_len (by omega)) _ _ _ HF.out.1 HF.out.2.1).mono ?_
      rintro e w4 ⟨v4, rfl, h4, hb4⟩
      have hC := HF.out.2.2.2.same (hb4.block _ HF.out.2.2.2.lt)
      have HG := Lib.hid (And.intro h4 (And.intro (below_step HF.out.2.2.1 hb4) hC))
      obtain ⟨F, f, rfl, _⟩ := h4.form
      have hp := limbs_len_pos (n := q.num.natAbs / q.den + 1) (Nat.succ_ne_zero _)
      have hlu := limbs_len_add (q.num.natAbs / q.den) 1
      have ho := one_len
      obtain ⟨k5, hk5⟩ : ∃ k, k = (limbs (q.num.natAbs / q.den + 1)).length := ⟨_, rfl⟩
      rw [← hk5] at HG hp hlu ⊢
      have k5l : k5 ≤ 1000000001 := by omega
      clear h4 hb4 hC HF hlu ho hk5
      have hp : decide ((0 : Int) < k5) = true := decide_eq_true (by omega)
      go_wp2_with fail
      refine (one_calls _).mono ?_
      rintro e w5 ⟨v5, rfl, h5, hb5⟩
      obtain ⟨E, e, rfl, _⟩ := h5.form
      have hC := HG.out.2.2.same (hb5.block _ HG.out.2.2.lt)
      have HF := Lib.hid (And.intro (isI_below HG.out.1 hb5) (And.intro h5 (And.intro (below_step HG.out.2.1 hb5) hC)))
      obtain ⟨⟨s0, t0⟩, ⟨s1, t1⟩, ⟨s2, t2⟩, hB3⟩ := store3 hC (.bool true) (.slice F k5 f) (.slice E (limbs 1).length e)
      obtain ⟨m0, m1, m2⟩ := load3 hB3
      clear hB3 h5 hb5 hC HG
      go_wp2_with fail
      refine bodyPost_ret (v := .agg #[.bool true, .slice F k5 f, .slice E (limbs 1).length e]) (by simp [results, Tryz.results118, go_sem, m0, m1, m2]) rfl ?_
      rw [← HQ.out]
      have hz : decide (-((q.num.natAbs / q.den + 1 : Nat) : Int) < 0) = true := neg_dec (Nat.succ_ne_zero _)
      have ha : (-((q.num.natAbs / q.den + 1 : Nat) : Int)).natAbs = q.num.natAbs / q.den + 1 := by rw [Int.natAbs_neg, Int.natAbs_natCast]
      have hv := ratV_int (W := ((w5.setCell ⟨w.heap.size + 1, 0, none⟩ (.bool true)).setCell ⟨w.heap.size + 1, 1, none⟩ (.slice F k5 f)).setCell ⟨w.heap.size + 1, 2, none⟩ (.slice E (limbs 1).length e)) (z := -((q.num.natAbs / q.den + 1 : Nat) : Int)) (n := .slice F k5 f) (d := .slice E (limbs 1).length e) (by rw [ha]; exact keeps_set3 HF.out.2.2.2 HF.out.1) (keeps_set3 HF.out.2.2.2 HF.out.2.1)
      rw [hz] at hv
      exact ⟨_, rfl, hv, below_set3 HF.out.2.2.1 (by omega) _ _ _⟩

end Go.Proofs.YtjeamchaibialaaGreatDoor.RefL
