/- Joined: RefY RefZ SimR -/
import Derived.Test.YtjeamchaibialaaGreatDoorM32
import Derived.Test.YtjeamchaibialaaGreatDoorM31
set_option linter.unusedVariables false
set_option linter.unusedSimpArgs false
/- The reference's plain, at last, and its Opp of what is none. -/
namespace Go.Proofs.YtjeamchaibialaaGreatDoor.RefY
open Go.RowKit Heaps Go.Proofs.YtjeamchaibialaaGreatDoorW.PrintWords Go.Proofs.YtjeamchaibialaaGreatDoorW.PrintLast Go.Proofs.YtjeamchaibialaaGreatDoorW.PrintMore Fns Limbs Pure1 Pure3 Nats Arrs Texts Rats RefA RefB RefC RefD RefE RefF RefG RefH RefI RefJ RefK RefL RefM RefN RefP RefV Parses Go.Proofs.YtjeamchaibialaaGreatDoor.BoundWalk Go.Proofs.YtjeamchaibialaaGreatDoor.Splits Go.Proofs.YtjeamchaibialaaGreatDoor.Chains RefW RefX Go.Proofs.YtjeamchaibialaaGreatDoor.SimpWalk Go.Proofs.YtjeamchaibialaaGreatDoor.SimF

theorem plain_calls {M : Nat} (hM : (limbs M).length ≤ 1000000) {lo : Rat} {hi : Option Rat} {x : Rat} (hp : Pl lo hi x) : (∃ lo0 hi0 n m d e, Chain lo0 hi0 M lo hi n m d e) → ∀ vl vh w, RatV w vl lo → EdgeV w vh hi →
    Calls Tryz.prog 82 #[vl, vh] w (OutR x w) := by
  have pre : ∀ {lo : Rat} {hi : Option Rat}, (∃ lo0 hi0 n m d e, Chain lo0 hi0 M lo hi n m d e) → 0 ≤ lo ∧ Under lo hi ∧ Sizes.Sz lo 1000000 ∧ (∀ h, hi = some h → Sizes.Sz h 1000000) ∧ ∃ k : Nat, (k : Int) = lo.floor ∧ Sizes.Sz (lo.floor : Rat) 1000000 := by
    rintro lo hi ⟨lo0, hi0, n, m, d, e, hc⟩
    obtain ⟨k, k1, k2⟩ := PosWalk.floor_nat hc.low
    have h3 : 0 ≤ lo.num := Rat.num_nonneg.2 hc.low
    have b1 := hc.b1
    refine ⟨hc.low, hc.under, ⟨Nat.le_trans (limbs_len_mono (show lo.num.natAbs ≤ M by omega)) hM, Nat.le_trans (limbs_len_mono hc.b2) hM⟩, fun h e => ?_, k, k1, ?_⟩
    · subst e
      have h3 := hc.b3
      have h4 := hc.b4
      have h5 := hn_pos hc.low hc.under
      exact ⟨Nat.le_trans (limbs_len_mono (show h.num.natAbs ≤ M by simp only [hn] at h3 h5; omega)) hM, Nat.le_trans (limbs_len_mono h4) hM⟩
    · rw [← k1]
      exact sz_small k (Nat.le_trans (limbs_len_mono (show k ≤ M by omega)) hM) (by omega)
  induction hp with
  | @last lo hi hu =>
    intro hc vl vh w hl hh
    obtain ⟨h0, hun, z1, z2, k, k1, z3⟩ := pre hc
    have z4 : Sizes.Sz 1 1000000 := sz_small 1 (by rw [Sizes.limbs_one]; omega) (by omega)
    rw [cast_one] at hu ⊢
    exact plain_walk lo hi _ (z1.mono (by omega)) (z3.mono (by omega)) ((Sizes.sz_add z3 z4).mono (by omega)) (fun h e => (z2 h e).mono (by omega)) (fun _ => rfl)
      (fun h e hle => absurd (hu h e) (Rat.not_lt.2 hle)) vl vh w hl hh
  | @more lo h y h1 h2 hp ih =>
    intro hc vl vh w hl hh
    obtain ⟨h0, hun, z1, z2, k, k1, z3⟩ := pre hc
    have z4 : Sizes.Sz 1 1000000 := sz_small 1 (by rw [Sizes.limbs_one]; omega) (by omega)
    have hc' : ∃ lo0 hi0 n m d e, Chain lo0 hi0 M (1 / (h - (lo.floor : Rat))) (turn lo) n m d e := by
      obtain ⟨lo0, hi0, n, m, d, e, hc⟩ := hc
      exact ⟨_, _, _, _, _, _, Chain.step hc k1 h2⟩
    obtain ⟨g0, gun, y1, y2, _, _, _⟩ := pre hc'
    have hzy := pl_sz hp g0 gun (by omega) y1 y2
    have hy0 : 0 < y := Std.lt_of_le_of_lt g0 (hp.best g0).1
    rw [cast_one] at h2
    refine plain_walk lo (some h) _ (z1.mono (by omega)) (z3.mono (by omega)) ((Sizes.sz_add z3 z4).mono (by omega)) (fun h e => (z2 h e).mono (by omega)) (fun hu => absurd (hu h rfl) (Rat.not_lt.2 h2))
      (fun h' e _ => ?_) vl vh w hl hh
    injection e with e
    subst e
    exact ⟨h1, y, rfl, hzy.mono (by omega), by have := num_pos hy0; omega, fun vl vh W a b => ih hc' vl vh W a b⟩
set_option maxRecDepth 100000 in
set_option maxHeartbeats 400000 in
theorem oppz_calls (w : World) :
    Calls Tryz.prog 83 #[.agg #[.bool false, .slice none 0 0, .slice none 0 0]] w fun e W => e = .returned (.agg #[.bool false, .slice none 0 0, .slice none 0 0]) ∧ Below w.heap.size w W := by
  obtain ⟨w1, hw1, hB, hC, hb1⟩ := one_box w #[.bool false, .slice none 0 0, .slice none 0 0]
  obtain ⟨l0, l1, l2⟩ := load3 hB
  obtain ⟨⟨s0, t0⟩, ⟨s1, t1⟩, ⟨s2, t2⟩, hB3⟩ := store3 hC (.bool false) (.slice none 0 0) (.slice none 0 0)
  obtain ⟨m0, m1, m2⟩ := load3 hB3
  have HF := Lib.hid (below_set3 (g := w.heap.size + 1) hb1 (by omega) (.bool false) (.slice none 0 0) (.slice none 0 0))
  clear hB hC hB3 hb1
  go_enter Tryz.func83, Tryz.ntmps83
  go_upto_region 1 with fail
  rw [← hw1]
  clear hw1
  go_wp2_with fail
  exact bodyPost_ret (v := .agg #[.bool false, .slice none 0 0, .slice none 0 0]) (by simp [results, Tryz.results83, go_sem, m0, m1, m2]) rfl ⟨rfl, HF.out⟩
theorem oppe_calls (x : Option Rat) (hz : ∀ q, x = some q → Sizes.Sz q 1000000) {i b : Bool} {A B : Option Addr} {n c m d : Nat} (w : World) (h : EdgeV w (.agg #[.bool i, .bool b, .slice A n c, .slice B m d]) x) :
    Calls Tryz.prog 83 #[.agg #[.bool b, .slice A n c, .slice B m d]] w fun e W => ∃ b A n c B m d, e = .returned (.agg #[.bool b, .slice A n c, .slice B m d]) ∧ EdgeV W (.agg #[.bool i, .bool b, .slice A n c, .slice B m d]) (x.map fun l => -l) ∧ Below w.heap.size w W := by
  cases x with
  | none =>
    cases h
    refine (oppz_calls w).mono ?_
    rintro _ W ⟨rfl, hb⟩
    exact ⟨_, _, _, _, _, _, _, rfl, rfl, hb⟩
  | some q =>
    have hr := edge_rat h
    obtain ⟨b', A', n', c', B', m', d', e, _⟩ := h
    cases e
    refine (opp_calls q _ w (Lib.hid hr) (by have := (hz q rfl).1; omega)).mono ?_
    rintro _ W ⟨v, rfl, hv, hb⟩
    obtain ⟨b, A, n, c, B, m, d, rfl⟩ := ratV_flat hv
    exact ⟨b, A, n, c, B, m, d, rfl, ⟨_, _, _, _, _, _, _, rfl, hv⟩, hb⟩
end Go.Proofs.YtjeamchaibialaaGreatDoor.RefY

/- The reference's Between: the walk. Written by gen_between.py. -/
namespace Go.Proofs.YtjeamchaibialaaGreatDoor.RefZ
open Go.RowKit Heaps Go.Proofs.YtjeamchaibialaaGreatDoorW.PrintWords Go.Proofs.YtjeamchaibialaaGreatDoorW.PrintLast Go.Proofs.YtjeamchaibialaaGreatDoorW.PrintMore Fns Limbs Pure1 Pure3 Nats Arrs Texts Rats RefA RefB RefC RefD RefE RefF RefG RefH RefI RefJ RefK RefL RefM RefN RefP RefV Parses Go.Proofs.YtjeamchaibialaaGreatDoor.BoundWalk Go.Proofs.YtjeamchaibialaaGreatDoor.Splits Go.Proofs.YtjeamchaibialaaGreatDoor.Chains RefW RefX RefY Go.Proofs.YtjeamchaibialaaGreatDoor.SimF Go.Proofs.YtjeamchaibialaaGreatDoor.SimpWalk

theorem plain2 (lo : Rat) (hi : Option Rat) (x : Rat) (hp : Pl lo hi x) (hz : Sizes.Sz lo 1000000) (hzh : ∀ h, hi = some h → Sizes.Sz h 1000000) (h0 : 0 ≤ lo) (hu : Under lo hi) : ∀ vl vh w, RatV w vl lo → EdgeV w vh hi →
    Calls Tryz.prog 82 #[vl, vh] w (OutR x w) := by
  obtain ⟨M1, m1, m2, m3⟩ := max2 hz.1 hz.2
  obtain ⟨M2, n1, n2, n3⟩ : ∃ M, (limbs M).length ≤ 1000000 ∧ hn hi ≤ M ∧ hd hi ≤ M := by
    cases hi with
    | none => exact ⟨1, by rw [Sizes.limbs_one]; omega, by simp [hn], by simp [hd]⟩
    | some h =>
      obtain ⟨M, n1, n2, n3⟩ := max2 (hzh h rfl).1 (hzh h rfl).2
      exact ⟨M, n1, by simp only [hn]; omega, by simp only [hd]; omega⟩
  obtain ⟨M, e1, e2, e3⟩ := max2 m1 n1
  exact plain_calls e1 hp ⟨_, _, _, _, _, _, Chain.start (M := M) h0 hu (by omega) (by omega) (by omega) (by omega)⟩
structure Bt (w : World) (lo hi : Option Rat) (vl vh : Array Value) (W : World) : Prop where
  bl : Blk W w.heap.size vl
  bh : Blk W (w.heap.size + 1) vh
  br : Blk W (w.heap.size + 1 + 1) #[.bool false, .slice none 0 0, .slice none 0 0]
  el : EdgeV W (.agg vl) lo
  eh : EdgeV W (.agg vh) hi
  below : Below w.heap.size w W
theorem Bt.keep {w : World} {lo hi : Option Rat} {vl vh : Array Value} {W W' : World} (h : Bt w lo hi vl vh W) (hb : Below W.heap.size W W') : Bt w lo hi vl vh W' :=
  ⟨h.bl.same (hb.block _ h.bl.lt), h.bh.same (hb.block _ h.bh.lt), h.br.same (hb.block _ h.br.lt), h.el.below hb, h.eh.below hb, below_step h.below hb⟩
theorem bt_new (w : World) {lo hi : Option Rat} {vl vh : Array Value} (h1 : EdgeV w (.agg vl) lo) (h2 : EdgeV w (.agg vh) hi) :
    ∃ w1, w1 = ((w.alloc (.cells vl 53)).alloc (.cells vh 53)).alloc (.cells #[.bool false, .slice none 0 0, .slice none 0 0] 51) ∧ Bt w lo hi vl vh w1 := by
  have a1 := new_below w (.cells vl 53)
  have a2 := new_below (w.alloc (.cells vl 53)) (.cells vh 53)
  have a3 := new_below ((w.alloc (.cells vl 53)).alloc (.cells vh 53)) (.cells #[.bool false, .slice none 0 0, .slice none 0 0] 51)
  have x1 := Blk.alloc w vl 53
  have x2 := Blk.alloc (w.alloc (.cells vl 53)) vh 53
  have x3 := Blk.alloc ((w.alloc (.cells vl 53)).alloc (.cells vh 53)) #[.bool false, .slice none 0 0, .slice none 0 0] 51
  have e1 : (w.alloc (.cells vl 53)).heap.size = w.heap.size + 1 := by simp
  have e2 : ((w.alloc (.cells vl 53)).alloc (.cells vh 53)).heap.size = w.heap.size + 1 + 1 := by simp
  rw [e1] at x2
  rw [e2] at x3
  have a23 := below_step a2 a3
  have ha := below_step a1 a23
  exact ⟨_, rfl, x1.same (a23.block _ x1.lt), x2.same (a3.block _ x2.lt), x3, h1.below ha, h2.below ha, ha⟩
def abv : Option Rat → Bool
  | none => true
  | some l => decide (l < 0)
def blw : Option Rat → Bool
  | none => true
  | some h => decide (0 < h)
theorem sgn0 (q : Rat) : (q < 0 ∧ sgq (q - 0) = -1) ∨ (q = 0 ∧ sgq (q - 0) = 0) ∨ (0 < q ∧ sgq (q - 0) = 1) := cmp4 q 0
theorem sim_ways {lo hi : Option Rat} {r : Rat} (hr : Sim lo hi r) (ho : Ord lo hi) :
    (abv lo = true ∧ blw hi = true ∧ r = 0) ∨ (∃ l, lo = some l ∧ 0 ≤ l ∧ abv lo = false ∧ blw hi = true ∧ Pl l hi r) ∨
      (∃ h, hi = some h ∧ h ≤ 0 ∧ blw hi = false ∧ abv lo = true ∧ (∀ l, lo = some l → l < 0) ∧ Pl (-h) (lo.map fun l => -l) (-r)) := by
  rcases hr with ⟨h1, h2, h3⟩ | ⟨l, rfl, h2, h3⟩ | ⟨h, rfl, h2, h3, h4⟩
  · refine .inl ⟨?_, ?_, h3⟩
    · cases lo with
      | none => rfl
      | some l => exact decide_eq_true (h1 l rfl)
    · cases hi with
      | none => rfl
      | some h => exact decide_eq_true (h2 h rfl)
  · refine .inr (.inl ⟨l, rfl, h2, decide_eq_false (Rat.not_lt.2 h2), ?_, h3⟩)
    cases hi with
    | none => rfl
    | some h => exact decide_eq_true (Std.lt_of_le_of_lt h2 (ho l h rfl rfl))
  · refine .inr (.inr ⟨h, rfl, h2, decide_eq_false (Rat.not_lt.2 h2), ?_, h3, h4⟩)
    cases lo with
    | none => rfl
    | some l => exact decide_eq_true (h3 l rfl)
set_option maxRecDepth 100000 in
set_option maxHeartbeats 4000000 in
theorem between_calls (lo hi : Option Rat) (r : Rat) (hr : Sim lo hi r) (ho : Ord lo hi) (hzl : ∀ l, lo = some l → Sizes.Sz l 1000000) (hzh : ∀ h, hi = some h → Sizes.Sz h 1000000) (hzr : Sizes.Sz r 10000000)
    (vl vh : Value) (w : World) (hl : EdgeV w vl lo) (hh : EdgeV w vh hi) :
    Calls Tryz.prog 35 #[vl, vh] w (OutR r w) := by
  have HW := Lib.hid (sim_ways hr ho)
  have HZL := Lib.hid hzl
  have HZH' := Lib.hid hzh
  have HZR := Lib.hid hzr
  have HO := Lib.hid ho
  obtain ⟨b1, A1, n1, c1, B1, m1, d1, rfl⟩ := hl.form
  obtain ⟨b2, A2, n2, c2, B2, m2, d2, rfl⟩ := hh.form
  obtain ⟨w1, hw1, hB⟩ := bt_new w hl hh
  obtain ⟨i, hi0⟩ : ∃ i, i = lo.isSome := ⟨_, rfl⟩
  obtain ⟨j, hj0⟩ : ∃ i, i = hi.isSome := ⟨_, rfl⟩
  rw [← hi0, ← hj0] at hB hw1 ⊢
  have H := Lib.hid hB
  have HI := Lib.hid (And.intro hi0 hj0)
  have z0 : Sizes.Sz 0 300000000 := (sz_zero).mono (by omega)
  have HZ0 := Lib.hid z0
  clear hB hi0 hj0 hl hh hzl hzh hzr hr ho z0
  go_enter Tryz.func35, Tryz.ntmps35
  go_upto_region 1 with fail
  rw [← hw1]
  clear hw1
  go_wp2_with fail
  refine (whole_calls 0 (by omega) _).mono ?_
  rintro _ w2 ⟨v, rfl, hv, hb⟩
  obtain ⟨b3, A3, n3, c3, B3, m3, d3, rfl⟩ := ratV_flat hv
  obtain ⟨w3, hw3, hF, hb3⟩ := new_box w2 #[.bool b3, .slice A3 n3 c3, .slice B3 m3 d3]
  obtain ⟨F, hF'⟩ : ∃ F, F = w2.heap.size := ⟨_, rfl⟩
  have H3 := Lib.hid ((H.out.keep hb).keep hb3)
  have HR3 := Lib.hid (show RatV w3 (.agg #[.bool b3, .slice A3 n3 c3, .slice B3 m3 d3]) 0 from ratV_below hv hb3)
  rw [← hF'] at hF
  have HF3 := Lib.hid hF
  clear hv hb hF hb3 H
  go_upto_region 2 with fail
  rw [← hw3]
  rw [← hF']
  clear hw3 hF'
  go_cut [6] (fun v wx => v = .bool (abv lo) ∧ Hid (Below w3.heap.size w3 wx))
  case first =>
    obtain ⟨y0, y1, y2, y3⟩ := load4 H3.out.bl
    obtain ⟨f0, f1, f2⟩ := load3 HF3.out
    cases lo with
    | none =>
      obtain rfl : i = false := HI.out.1
      go_wp2_with fail
      go_meet
      case rel => exact ⟨rfl, Lib.hid (Below.refl _ _)⟩
    | some l =>
      obtain rfl : i = true := HI.out.1
      go_wp2_with fail
      refine (compare_calls l 0 _ _ _ (Lib.hid (edge_rat H3.out.el)) (Lib.hid HR3.out) ((HZL.out l rfl).mono (by omega)) HZ0.out).mono ?_
      rintro _ w4 ⟨rfl, hb4⟩
      have HB4 := Lib.hid hb4
      clear hb4 y0 y1 y2 y3 f0 f1 f2
      rcases sgn0 l with k | k | k
      · have HD := Lib.hid (show abv (some l) = true from decide_eq_true k.1)
        rw [k.2]
        clear k
        go_wp2_with fail
        go_meet
        case rel => exact ⟨by rw [HD.out], HB4⟩
      · have HD := Lib.hid (show abv (some l) = false from decide_eq_false (by rw [k.1]; exact Rat.lt_irrefl))
        rw [k.2]
        clear k
        go_wp2_with fail
        go_meet
        case rel => exact ⟨by rw [HD.out], HB4⟩
      · have HD := Lib.hid (show abv (some l) = false from decide_eq_false (Rat.not_lt.2 (Rat.le_of_lt k.1)))
        rw [k.2]
        clear k
        go_wp2_with fail
        go_meet
        case rel => exact ⟨by rw [HD.out], HB4⟩
  case rest =>
    obtain ⟨rfl, HC⟩ := hcut
    obtain ⟨w5, hw5⟩ : ∃ u, u = wc := ⟨_, rfl⟩
    rw [← hw5] at HC ⊢
    clear hw5
    have H5 := Lib.hid (H3.out.keep HC.out)
    have HR5 := Lib.hid (ratV_below HR3.out HC.out)
    have HF5 := Lib.hid (HF3.out.same (HC.out.block _ HF3.out.lt))
    clear H3 HR3 HF3 HC
    go_upto_region 3 with fail
    go_cut [7] (fun v wx => v = .bool (blw hi) ∧ Hid (Below w5.heap.size w5 wx))
    case first =>
      obtain ⟨y0, y1, y2, y3⟩ := load4 H5.out.bh
      obtain ⟨f0, f1, f2⟩ := load3 HF5.out
      cases hi with
      | none =>
        obtain rfl : j = false := HI.out.2
        go_wp2_with fail
        go_meet
        case rel => exact ⟨rfl, Lib.hid (Below.refl _ _)⟩
      | some h =>
        obtain rfl : j = true := HI.out.2
        go_wp2_with fail
        refine (compare_calls h 0 _ _ _ (Lib.hid (edge_rat H5.out.eh)) (Lib.hid HR5.out) ((HZH'.out h rfl).mono (by omega)) HZ0.out).mono ?_
        rintro _ w6 ⟨rfl, hb6⟩
        have HB6 := Lib.hid hb6
        clear hb6 y0 y1 y2 y3 f0 f1 f2
        rcases sgn0 h with k | k | k
        · have HD := Lib.hid (show blw (some h) = false from decide_eq_false (Rat.not_lt.2 (Rat.le_of_lt k.1)))
          rw [k.2]
          clear k
          go_wp2_with fail
          go_meet
          case rel => exact ⟨by rw [HD.out], HB6⟩
        · have HD := Lib.hid (show blw (some h) = false from decide_eq_false (by rw [k.1]; exact Rat.lt_irrefl))
          rw [k.2]
          clear k
          go_wp2_with fail
          go_meet
          case rel => exact ⟨by rw [HD.out], HB6⟩
        · have HD := Lib.hid (show blw (some h) = true from decide_eq_true k.1)
          rw [k.2]
          clear k
          go_wp2_with fail
          go_meet
          case rel => exact ⟨by rw [HD.out], HB6⟩
    case rest =>
      obtain ⟨rfl, HC⟩ := hcut
      obtain ⟨w7, hw7⟩ : ∃ u, u = wc := ⟨_, rfl⟩
      rw [← hw7] at HC ⊢
      clear hw7
      have H7 := Lib.hid (H5.out.keep HC.out)
      have HR7 := Lib.hid (ratV_below HR5.out HC.out)
      have HF7 := Lib.hid (HF5.out.same (HC.out.block _ HF5.out.lt))
      clear H5 HR5 HF5 HC
      rcases HW.out with ⟨e1, e2, e3⟩ | ⟨l, rfl, e0, e1, e2, e3⟩ | ⟨h, rfl, e0, e1, e2, e3, e4⟩
      · rw [e1, e2]
        obtain ⟨f0, f1, f2⟩ := load3 HF7.out
        obtain ⟨⟨s0, t0⟩, ⟨s1, t1⟩, ⟨s2, t2⟩, Z, hZ, hBZ, hkZ, hgZ⟩ := store3z H7.out.br (b' := b3) (A' := A3) (n' := n3) (c' := c3) (B' := B3) (m' := m3) (d' := d3)
        obtain ⟨r0, r1, r2⟩ := load3 hBZ
        have HZV := Lib.hid (ratV_keeps HR7.out hkZ)
        have HZB := Lib.hid (below_grown H7.out.below hgZ (show w.heap.size ≤ w.heap.size + 1 + 1 by omega))
        have HE := Lib.hid e3
        clear hBZ hkZ hgZ e1 e2 e3 HW
        go_wp2_with fail
        rw [← hZ]
        exact bodyPost_ret (v := .agg #[.bool b3, .slice A3 n3 c3, .slice B3 m3 d3]) (by simp [results, Tryz.results35, go_sem, r0, r1, r2]) rfl ⟨_, rfl, by rw [HE.out]; exact HZV.out, HZB.out⟩
      · obtain rfl : i = true := HI.out.1
        rw [e1, e2]
        obtain ⟨y0, y1, y2, y3⟩ := load4 H7.out.bl
        obtain ⟨x0, x1, x2, x3⟩ := load4 H7.out.bh
        have HPL := Lib.hid (plain2 l hi r e3 (HZL.out l rfl) HZH'.out e0 (fun h e => HO.out l h rfl e))
        clear e0 e1 e2 e3 HW
        go_wp2_with fail
        refine (HPL.out _ _ _ (edge_rat H7.out.el) H7.out.eh).mono ?_
        rintro _ w8 ⟨v, rfl, hv, hb⟩
        obtain ⟨b4, A4, n4, c4, B4, m4, d4, rfl⟩ := ratV_flat hv
        have H8 := Lib.hid (H7.out.keep hb)
        obtain ⟨⟨s0, t0⟩, ⟨s1, t1⟩, ⟨s2, t2⟩, Z, hZ, hBZ, hkZ, hgZ⟩ := store3z H8.out.br (b' := b4) (A' := A4) (n' := n4) (c' := c4) (B' := B4) (m' := m4) (d' := d4)
        obtain ⟨r0, r1, r2⟩ := load3 hBZ
        have HZV := Lib.hid (ratV_keeps hv hkZ)
        have HZB := Lib.hid (below_grown H8.out.below hgZ (show w.heap.size ≤ w.heap.size + 1 + 1 by omega))
        clear hBZ hkZ hgZ hv hb y0 y1 y2 y3 x0 x1 x2 x3
        go_wp2_with fail
        rw [← hZ]
        exact bodyPost_ret (v := .agg #[.bool b4, .slice A4 n4 c4, .slice B4 m4 d4]) (by simp [results, Tryz.results35, go_sem, r0, r1, r2]) rfl ⟨_, rfl, HZV.out, HZB.out⟩
      · obtain rfl : j = true := HI.out.2
        rw [e1, e2]
        have hun : Under (-h) (lo.map fun l => -l) := fun q e => by
          cases lo with
          | none => cases e
          | some l =>
            injection e with e
            subst e
            have := HO.out l h rfl rfl
            grind
        have hzn : ∀ q, (lo.map fun l => -l) = some q → Sizes.Sz q 1000000 := fun q e => by
          cases lo with
          | none => cases e
          | some l =>
            injection e with e
            subst e
            exact Sizes.sz_opp (HZL.out l rfl)
        have HPL := Lib.hid (plain2 (-h) (lo.map fun l => -l) (-r) e4 (Sizes.sz_opp (HZH'.out h rfl)) hzn (neg_le e0) hun)
        have HZY := Lib.hid (Sizes.sz_opp HZR.out)
        have HZH := Lib.hid (HZH'.out h rfl)
        have HCH := Lib.hid (fun W (k : Below w7.heap.size w7 W) => (load4 (H7.out.bh.same (k.block _ H7.out.bh.lt))).2)
        have HCB := Lib.hid (fun W (k : Below w7.heap.size w7 W) => (load4 (H7.out.bl.same (k.block _ H7.out.bl.lt))).1)
        have HCL := Lib.hid (fun W (k : Below w7.heap.size w7 W) => (load4 (H7.out.bl.same (k.block _ H7.out.bl.lt))).2)
        have HRH := Lib.hid (fun W (k : Below w7.heap.size w7 W) => ratV_below (edge_rat H7.out.eh) k)
        have HEL := Lib.hid (fun W (k : Below w7.heap.size w7 W) => H7.out.el.below k)
        have HBR := Lib.hid (fun W (k : Below w7.heap.size w7 W) => H7.out.br.same (k.block _ H7.out.br.lt))
        have HBW := Lib.hid H7.out.below
        clear e0 e1 e2 e3 e4 hun hzn HW
        go_upto_region 8 with fail
        have HD0 := Lib.hid (show Below w7.heap.size w7 w7.drew from Drawn0.below ⟨1, rfl⟩)
        refine RegG.start (fun W => Below w7.heap.size w7 W) [0, 1, 3, 4, 5, 6] (by kernel_rfl) ?_
        obtain ⟨U, hU⟩ : ∃ U, U = w7.drew := ⟨_, rfl⟩
        rw [← hU] at HD0 ⊢
        clear hU
        refine RegG.take (i := 0) (v := ?_) rfl (by kernel_rfl) (by kernel_rfl) (by kernel_rfl) (by kernel_rfl) (fun _ _ _ h => h) (Or.inl ⟨by rfl, ?_⟩) HD0.out ?_
        rotate_left
        · intro W hW
          go_simp
          with_reducible rfl
        refine RegG.take (i := 1) (v := ?_) rfl (by kernel_rfl) (by kernel_rfl) (by kernel_rfl) (by kernel_rfl) (fun _ _ _ h => h) (Or.inl ⟨by rfl, ?_⟩) HD0.out ?_
        rotate_left
        · intro W hW
          obtain ⟨h0, h1, h2⟩ := HCH.out W hW
          go_simp
          with_reducible rfl
        refine RegG.take (i := 3) (v := ?_) rfl (by kernel_rfl) (by kernel_rfl) (by kernel_rfl) (by kernel_rfl) (fun _ _ _ h => h) (Or.inl ⟨by rfl, ?_⟩) HD0.out ?_
        rotate_left
        · intro W hW
          go_simp
          with_reducible rfl
        refine RegG.take (i := 4) (v := ?_) rfl (by kernel_rfl) (by kernel_rfl) (by kernel_rfl) (by kernel_rfl) (fun _ _ _ h => h) (Or.inl ⟨by rfl, ?_⟩) HD0.out ?_
        rotate_left
        · intro W hW
          have h0 := HCB.out W hW
          go_simp
          with_reducible rfl
        refine RegG.take (i := 5) (v := ?_) rfl (by kernel_rfl) (by kernel_rfl) (by kernel_rfl) (by kernel_rfl) (fun _ _ _ h => h) (Or.inl ⟨by rfl, ?_⟩) HD0.out ?_
        rotate_left
        · intro W hW
          go_simp
          with_reducible rfl
        refine RegG.take (i := 6) (v := ?_) rfl (by kernel_rfl) (by kernel_rfl) (by kernel_rfl) (by kernel_rfl) (fun _ _ _ h => h) (Or.inl ⟨by rfl, ?_⟩) HD0.out ?_
        rotate_left
        · intro W hW
          obtain ⟨h0, h1, h2⟩ := HCL.out W hW
          go_simp
          with_reducible rfl
        refine RegG.one (i := 2) (by kernel_rfl) rfl (fun K hK => ?_)
        go_simp
        refine (opp_calls h _ _ (Lib.hid (HRH.out _ HD0.out)) (by have := HZH.out.1; omega)).mono ?_
        rintro _ V1 ⟨v4, rfl, hv2, hb3⟩
        have HB5 := Lib.hid (below_step HD0.out hb3)
        have HR6 := Lib.hid hv2
        refine hK _ _ ⟨fun _ => HB5.out, ?_⟩
        clear hK K hv2 hb3
        refine RegG.one (i := 7) (by kernel_rfl) rfl (fun K hK => ?_)
        go_simp
        refine (oppe_calls lo HZL.out _ (HEL.out _ HB5.out)).mono ?_
        rintro _ V7 ⟨b5, A5, n5, c5, B5, m5, d5, rfl, hv8, hb9⟩
        have HL10 := Lib.hid (ratV_below HR6.out hb9)
        have HB11 := Lib.hid (below_step HB5.out hb9)
        have HR12 := Lib.hid hv8
        refine hK _ _ ⟨fun _ => HB11.out, ?_⟩
        clear hK K hv8 hb9
        refine RegG.one (i := 8) (by kernel_rfl) rfl (fun K hK => ?_)
        go_simp
        refine hK _ _ ⟨fun _ => HB11.out, ?_⟩
        clear hK K
        refine RegG.one (i := 9) (by kernel_rfl) rfl (fun K hK => ?_)
        go_simp
        refine (HPL.out _ _ _ HL10.out HR12.out).mono ?_
        rintro _ V13 ⟨v16, rfl, hv14, hb15⟩
        have HL17 := Lib.hid (ratV_below HL10.out hb15)
        have HL18 := Lib.hid (EdgeV.below HR12.out hb15)
        have HB19 := Lib.hid (below_step HB11.out hb15)
        have HR20 := Lib.hid hv14
        refine hK _ _ ⟨fun _ => HB19.out, ?_⟩
        clear hK K hv14 hb15
        refine RegG.one (i := 10) (by kernel_rfl) rfl (fun K hK => ?_)
        go_simp
        refine (opp_calls (-r) _ _ (Lib.hid HR20.out) (by have := HZY.out.1; omega)).mono ?_
        rintro _ V21 ⟨v24, rfl, hv22, hb23⟩
        have HL25 := Lib.hid (ratV_below HL17.out hb23)
        have HL26 := Lib.hid (EdgeV.below HL18.out hb23)
        have HL27 := Lib.hid (ratV_below HR20.out hb23)
        obtain ⟨b7, A7, n7, c7, B7, m7, d7, rfl⟩ := ratV_flat hv22
        have HB28 := Lib.hid (below_step HB19.out hb23)
        have HR29 := Lib.hid hv22
        refine hK _ _ ⟨fun _ => HB28.out, ?_⟩
        clear hK K hv22 hb23
        refine RegG.one (i := 11) (by kernel_rfl) rfl (fun K hK => ?_)
        obtain ⟨⟨s0, t0⟩, ⟨s1, t1⟩, ⟨s2, t2⟩, Z, hZ, hBZ, hkZ, hgZ⟩ := store3z (HBR.out _ HB28.out) (b' := b7) (A' := A7) (n' := n7) (c' := c7) (B' := B7) (m' := m7) (d' := d7)
        have HZB := Lib.hid (below_grown (below_step HBW.out HB28.out) hgZ (show w.heap.size ≤ w.heap.size + 1 + 1 by omega))
        obtain ⟨r0, r1, r2⟩ := load3 hBZ
        have HZV := Lib.hid (ratV_keeps HR29.out hkZ)
        clear hBZ hkZ hgZ
        go_simp
        simp only [← hZ]
        refine hK _ _ ⟨(by intro h; exact absurd (h.symm.trans (show _ = false by kernel_rfl)) (by decide)), ?_⟩
        clear hK K hZ
        clear s0 t0 s1 t1 s2 t2
        refine RegG.done (by kernel_rfl) ?_ _
        go_wp2_with fail
        exact bodyPost_ret (v := .agg #[.bool b7, .slice A7 n7 c7, .slice B7 m7 d7]) (by simp [results, Tryz.results35, go_sem, r0, r1, r2]) rfl ⟨_, rfl, by have hv := HZV.out; rwa [Rat.neg_neg] at hv, HZB.out⟩
end Go.Proofs.YtjeamchaibialaaGreatDoor.RefZ

/- The reference's Simplest: the walk. -/
namespace Go.Proofs.YtjeamchaibialaaGreatDoor.SimR
open Go.RowKit Heaps Go.Proofs.YtjeamchaibialaaGreatDoorW.PrintWords Go.Proofs.YtjeamchaibialaaGreatDoorW.PrintLast Go.Proofs.YtjeamchaibialaaGreatDoorW.PrintMore Fns Limbs Pure1 Pure3 Nats Arrs Texts Rats RefA RefB RefC RefD RefE RefF RefG RefH RefI RefJ RefK RefL RefM RefN RefP RefV Parses Go.Proofs.YtjeamchaibialaaGreatDoor.BoundWalk Go.Proofs.YtjeamchaibialaaGreatDoor.Splits Go.Proofs.YtjeamchaibialaaGreatDoor.Chains RefW RefX RefY Go.Proofs.YtjeamchaibialaaGreatDoor.SimF RefZ Go.Proofs.YtjeamchaibialaaGreatDoor.SimpWalk

theorem new_edge' (w : World) (x : Array Value) : ∃ w1, w1 = w.alloc (.cells x 53) ∧ Blk w1 w.heap.size x ∧ Below w.heap.size w w1 := ⟨_, rfl, Blk.alloc _ _ _, new_below _ _⟩
theorem sim_ex {lo hi : Option Rat} (ho : Ord lo hi) : ∃ r, Sim lo hi r := by
  have lows : (∀ l, lo = some l → l < 0) ∨ ∃ l, lo = some l ∧ 0 ≤ l := by
    cases lo with
    | none => exact .inl (fun _ e => by cases e)
    | some l =>
      by_cases h : l < 0
      · exact .inl (fun _ e => by injection e with e; subst e; exact h)
      · exact .inr ⟨l, rfl, Rat.not_lt.1 h⟩
  rcases lows with hl | ⟨l, rfl, hl⟩
  · have highs : (∀ h, hi = some h → 0 < h) ∨ ∃ h, hi = some h ∧ h ≤ 0 := by
      cases hi with
      | none => exact .inl (fun _ e => by cases e)
      | some h =>
        by_cases k : 0 < h
        · exact .inl (fun _ e => by injection e with e; subst e; exact k)
        · exact .inr ⟨h, rfl, Rat.not_lt.1 k⟩
    rcases highs with hh | ⟨h, rfl, hh⟩
    · exact ⟨0, .inl ⟨hl, hh, rfl⟩⟩
    · obtain ⟨x, hx⟩ := Pl.ex (lo := -h) (hi := lo.map fun l => -l) (fun q e => by
        cases lo with
        | none => cases e
        | some l =>
          injection e with e
          subst e
          have := ho l h rfl rfl
          grind)
      exact ⟨-x, .inr (.inr ⟨h, rfl, hh, hl, by rw [Rat.neg_neg]; exact hx⟩)⟩
  · obtain ⟨x, hx⟩ := Pl.ex (lo := l) (hi := hi) (fun q e => ho l q rfl e)
    exact ⟨x, .inr (.inl ⟨l, rfl, hl, hx⟩)⟩
theorem sim_sz {lo hi : Option Rat} {r : Rat} (hr : Sim lo hi r) (ho : Ord lo hi) (hzl : ∀ l, lo = some l → Sizes.Sz l 1000000) (hzh : ∀ h, hi = some h → Sizes.Sz h 1000000) : Sizes.Sz r 10000000 := by
  rcases hr with ⟨h1, h2, rfl⟩ | ⟨l, rfl, h2, h3⟩ | ⟨h, rfl, h2, h3, h4⟩
  · exact sz_zero.mono (by omega)
  · exact (pl_sz h3 h2 (fun q e => ho l q rfl e) (by omega) (hzl l rfl) hzh).mono (by omega)
  · have := pl_sz h4 (neg_le h2) (fun q e => by
      cases lo with
      | none => cases e
      | some l =>
        injection e with e
        subst e
        have := ho l h rfl rfl
        grind) (by omega) (Sizes.sz_opp (hzh h rfl)) (fun q e => by
      cases lo with
      | none => cases e
      | some l =>
        injection e with e
        subst e
        exact Sizes.sz_opp (hzl l rfl))
    have h5 := Sizes.sz_opp this
    rw [Rat.neg_neg] at h5
    exact h5.mono (by omega)
set_option maxRecDepth 100000 in
set_option maxHeartbeats 4000000 in
theorem calls (a b : ByteArray) (ha : a.size ≤ 1048576) (hb : b.size ≤ 1048576) (w : World) :
    Calls Tryz.prog 8 #[.string a, .string b] w (OutS a.data.toList b.data.toList w) := by
  have HZ : Hid ((∀ q, Bd a.data.toList (some q) → Sizes.Sz q 1000000) ∧ (∀ q, Bd b.data.toList (some q) → Sizes.Sz q 1000000)) := Lib.hid
    ⟨fun q h => (Sizes.sz_rtxt q).mono (by rw [← show a.data.toList = rtxt q from h, ← Lib.size_eq]; omega), fun q h => (Sizes.sz_rtxt q).mono (by rw [← show b.data.toList = rtxt q from h, ← Lib.size_eq]; omega)⟩
  go_enter Tryz.func8, Tryz.ntmps8
  go_wp2_with fail
  refine (edge_calls a (by omega) _).mono ?_
  rintro _ w1 ⟨_, ok, rfl, hb1, ⟨i, b1, A1, n1, c1, B1, m1, d1, rfl⟩, h1, h2⟩
  obtain ⟨w2, hw2, hX, hb2⟩ := new_edge' w1 #[.bool i, .bool b1, .slice A1 n1 c1, .slice B1 m1 d1]
  obtain ⟨g, hg⟩ : ∃ g, g = w1.heap.size := ⟨_, rfl⟩
  rw [← hg] at hX
  have H2 := Lib.hid (And.intro (below_step hb1 hb2) (And.intro hX (And.intro (show ok = true → ∃ x, Bd a.data.toList x ∧ EdgeV w2 (.agg #[.bool i, .bool b1, .slice A1 n1 c1, .slice B1 m1 d1]) x from fun e => (by obtain ⟨x, k1, k2⟩ := h1 e; exact ⟨x, k1, k2.below hb2⟩)) h2)))
  clear hb1 h1 h2 hX hb2
  go_upto_region 2 with fail
  rw [← hw2]
  rw [← hg]
  clear hw2 hg
  go_wp2_with fail
  refine (edge_calls b (by omega) _).mono ?_
  rintro _ w3 ⟨_, ok2, rfl, hb1, ⟨i2, b2, A2, n2, c2, B2, m2, d2, rfl⟩, h1, h2⟩
  obtain ⟨w4, hw4, hX, hb2⟩ := new_edge' w3 #[.bool i2, .bool b2, .slice A2 n2 c2, .slice B2 m2 d2]
  obtain ⟨g2, hg⟩ : ∃ g, g = w3.heap.size := ⟨_, rfl⟩
  rw [← hg] at hX
  have hbb := below_step hb1 hb2
  have H4 := Lib.hid (And.intro (below_step H2.out.1 hbb) (And.intro (H2.out.2.1.same (hbb.block _ H2.out.2.1.lt)) (And.intro hX (And.intro (show ok = true → ∃ x, Bd a.data.toList x ∧ EdgeV w4 (.agg #[.bool i, .bool b1, .slice A1 n1 c1, .slice B1 m1 d1]) x from fun e => (by obtain ⟨x, k1, k2⟩ := H2.out.2.2.1 e; exact ⟨x, k1, k2.below hbb⟩)) (And.intro H2.out.2.2.2 (And.intro (show ok2 = true → ∃ x, Bd b.data.toList x ∧ EdgeV w4 (.agg #[.bool i2, .bool b2, .slice A2 n2 c2, .slice B2 m2 d2]) x from fun e => (by obtain ⟨x, k1, k2⟩ := h1 e; exact ⟨x, k1, k2.below hb2⟩)) h2))))))
  clear hb1 h1 h2 hX hb2 hbb H2
  go_upto_region 3 with fail
  rw [← hw4]
  rw [← hg]
  clear hw4 hg
  cases ok with
  | false =>
    have HN := Lib.hid (H4.out.2.2.2.2.1 rfl)
    have HB := Lib.hid H4.out.1
    go_wp2_with fail
    go_ret2
    exact ⟨HB.out, .inr (.inr ⟨.inl HN.out, rfl⟩)⟩
  | true =>
    cases ok2 with
    | false =>
      have HN := Lib.hid (H4.out.2.2.2.2.2.2 rfl)
      have HB := Lib.hid H4.out.1
      go_wp2_with fail
      go_ret2
      exact ⟨HB.out, .inr (.inr ⟨.inr HN.out, rfl⟩)⟩
    | true =>
      obtain ⟨x, hx, hex⟩ := H4.out.2.2.2.1 rfl
      obtain ⟨y, hy, hey⟩ := H4.out.2.2.2.2.2.1 rfl
      obtain ⟨p0, p1, p2, p3⟩ := load4 H4.out.2.1
      obtain ⟨q0, q1, q2, q3⟩ := load4 H4.out.2.2.1
      have HXY := Lib.hid (And.intro hx (And.intro hy (And.intro hex hey)))
      have HBX := Lib.hid (And.intro H4.out.1 (And.intro H4.out.2.1 H4.out.2.2.1))
      clear hx hy hex hey H4
      have fin : Ord x y → ∀ W, Below w4.heap.size w4 W → ∃ r, Sim x y r ∧ Sizes.Sz r 10000000 ∧ Calls Tryz.prog 35 #[.agg #[.bool i, .bool b1, .slice A1 n1 c1, .slice B1 m1 d1], .agg #[.bool i2, .bool b2, .slice A2 n2 c2, .slice B2 m2 d2]] W (OutR r W) := fun ho W hW => by
        obtain ⟨r, hr⟩ := sim_ex ho
        have z1 : ∀ l, x = some l → Sizes.Sz l 1000000 := fun l e => HZ.out.1 l (by rw [← e]; exact HXY.out.1)
        have z2 : ∀ h, y = some h → Sizes.Sz h 1000000 := fun l e => HZ.out.2 l (by rw [← e]; exact HXY.out.2.1)
        have z3 := sim_sz hr ho z1 z2
        exact ⟨r, hr, z3, between_calls x y r hr ho z1 z2 z3 _ _ W (HXY.out.2.2.1.below hW) (HXY.out.2.2.2.below hW)⟩
      have HF := Lib.hid fin
      clear fin
      have tail : True := trivial
      cases x with
      | none =>
        obtain rfl : i = false := by obtain ⟨_, _, _, _, _, _, _, e⟩ := HXY.out.2.2.1.form; cases e; rfl
        have HO := Lib.hid (show Ord none y from fun _ _ e => by cases e)
        obtain ⟨r, hr, hz, hc⟩ := HF.out HO.out w4 (Below.refl _ _)
        have HR := Lib.hid (And.intro hr hz)
        have HC := Lib.hid hc
        clear hr hz hc
        go_wp2_with fail
        refine HC.out.mono ?_
        rintro _ w8 ⟨v, rfl, hv, hb⟩
        have H8 := Lib.hid (And.intro hv (below_step HBX.out.1 hb))
        clear hv hb p0 p1 p2 p3 q0 q1 q2 q3
        go_wp2_with fail
        refine (text_calls r v _ (Lib.hid H8.out.1) (by have := HR.out.2.1; omega) (by have := HR.out.2.2; omega)).mono ?_
        rintro _ w9 ⟨rfl, hb⟩
        have H9 := Lib.hid (below_step H8.out.2 hb)
        clear hb
        go_wp2_with fail
        go_ret2
        exact ⟨H9.out, .inl ⟨_, _, r, HXY.out.1, HXY.out.2.1, HO.out, HR.out.1, HR.out.2, rfl⟩⟩
      | some l =>
        obtain rfl : i = true := by obtain ⟨_, _, _, _, _, _, _, e⟩ := HXY.out.2.2.1.form; cases e; rfl
        cases y with
        | none =>
          obtain rfl : i2 = false := by obtain ⟨_, _, _, _, _, _, _, e⟩ := HXY.out.2.2.2.form; cases e; rfl
          have HO := Lib.hid (show Ord (some l) none from fun _ _ _ e => by cases e)
          obtain ⟨r, hr, hz, hc⟩ := HF.out HO.out w4 (Below.refl _ _)
          have HR := Lib.hid (And.intro hr hz)
          have HC := Lib.hid hc
          clear hr hz hc
          go_wp2_with fail
          refine HC.out.mono ?_
          rintro _ w8 ⟨v, rfl, hv, hb⟩
          have H8 := Lib.hid (And.intro hv (below_step HBX.out.1 hb))
          clear hv hb p0 p1 p2 p3 q0 q1 q2 q3
          go_wp2_with fail
          refine (text_calls r v _ (Lib.hid H8.out.1) (by have := HR.out.2.1; omega) (by have := HR.out.2.2; omega)).mono ?_
          rintro _ w9 ⟨rfl, hb⟩
          have H9 := Lib.hid (below_step H8.out.2 hb)
          clear hb
          go_wp2_with fail
          go_ret2
          exact ⟨H9.out, .inl ⟨_, _, r, HXY.out.1, HXY.out.2.1, HO.out, HR.out.1, HR.out.2, rfl⟩⟩
        | some h =>
          obtain rfl : i2 = true := by obtain ⟨_, _, _, _, _, _, _, e⟩ := HXY.out.2.2.2.form; cases e; rfl
          go_wp2_with fail
          refine (compare_calls l h _ _ _ (Lib.hid (edge_rat HXY.out.2.2.1)) (Lib.hid (edge_rat HXY.out.2.2.2)) ((HZ.out.1 l HXY.out.1).mono (by omega)) ((HZ.out.2 h HXY.out.2.1).mono (by omega))).mono ?_
          rintro _ w5 ⟨rfl, hb5⟩
          have HB5 := Lib.hid hb5
          clear p0 p1 p2 p3 q0 q1 q2 q3
          rcases cmp4 l h with k | k | k
          · have HO := Lib.hid (show Ord (some l) (some h) from fun _ _ e f => by injection e with e; injection f with f; subst e f; exact k.1)
            rw [k.2]
            obtain ⟨p0, p1, p2, p3⟩ := load4 (HBX.out.2.1.same (hb5.block _ HBX.out.2.1.lt))
            obtain ⟨q0, q1, q2, q3⟩ := load4 (HBX.out.2.2.same (hb5.block _ HBX.out.2.2.lt))
            clear k hb5
            obtain ⟨r, hr, hz, hc⟩ := HF.out HO.out w5 HB5.out
            have HR := Lib.hid (And.intro hr hz)
            have HC := Lib.hid hc
            clear hr hz hc
            go_wp2_with fail
            refine HC.out.mono ?_
            rintro _ w8 ⟨v, rfl, hv, hb⟩
            have H8 := Lib.hid (And.intro hv (below_step (below_step HBX.out.1 HB5.out) hb))
            clear hv hb p0 p1 p2 p3 q0 q1 q2 q3
            go_wp2_with fail
            refine (text_calls r v _ (Lib.hid H8.out.1) (by have := HR.out.2.1; omega) (by have := HR.out.2.2; omega)).mono ?_
            rintro _ w9 ⟨rfl, hb⟩
            have H9 := Lib.hid (below_step H8.out.2 hb)
            clear hb
            go_wp2_with fail
            go_ret2
            exact ⟨H9.out, .inl ⟨_, _, r, HXY.out.1, HXY.out.2.1, HO.out, HR.out.1, HR.out.2, rfl⟩⟩
          · have HN := Lib.hid (show ¬ Ord (some l) (some h) from fun o => Rat.lt_irrefl (show h < h by have := o l h rfl rfl; rwa [k.1] at this))
            have HB := Lib.hid (below_step HBX.out.1 hb5)
            rw [k.2]
            clear k hb5
            go_wp2_with fail
            go_ret2
            exact ⟨HB.out, .inr (.inl ⟨_, _, HXY.out.1, HXY.out.2.1, HN.out, rfl⟩)⟩
          · have HN := Lib.hid (show ¬ Ord (some l) (some h) from fun o => Rat.lt_irrefl (Std.lt_trans (o l h rfl rfl) k.1))
            have HB := Lib.hid (below_step HBX.out.1 hb5)
            rw [k.2]
            clear k hb5
            go_wp2_with fail
            go_ret2
            exact ⟨HB.out, .inr (.inl ⟨_, _, HXY.out.1, HXY.out.2.1, HN.out, rfl⟩)⟩
end Go.Proofs.YtjeamchaibialaaGreatDoor.SimR
