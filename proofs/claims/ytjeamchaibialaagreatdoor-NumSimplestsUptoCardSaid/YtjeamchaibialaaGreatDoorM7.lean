/- Joined: RefA RefB RefC RefD RefE RefF -/
import Derived.Test.YtjeamchaibialaaGreatDoorM1
import Derived.Test.YtjeamchaibialaaGreatDoorM3
import Derived.Deep.DeepCutAuto
import Derived.Test.YtjeamchaibialaaGreatDoorM2
import Derived.Deep.RegionWith
set_option linter.unusedVariables false
set_option linter.unusedSimpArgs false
/- The reference's whole numbers: sums, differences, products: the walks. -/
namespace Go.Proofs.YtjeamchaibialaaGreatDoor.RefA
open Go.RowKit Go.Proofs.YtjeamchaibialaaGreatDoorW.PrintWords Go.Proofs.YtjeamchaibialaaGreatDoorW.PrintLast Go.Proofs.YtjeamchaibialaaGreatDoorW.PrintMore Fns Limbs Pure1 Nats Arrs

theorem rd_past {l : List Int} {i : Nat} (h : l.length ≤ i) : rd l i = 0 := by
  have : ¬ i < l.length := by omega
  simp [rd, List.getD, this]
theorem run_makeI (n : Nat) (hn : n ≤ 4000000000000) (W : World) : (Instr.makeSlice 49 (.int .i64 (n : Int)) (.int .i64 (n : Int))).run Tryz.prog W = .ok (.slice (some ⟨W.heap.size, 0, none⟩) n n) (W.alloc (.cells (madeCells #[.int .i64 0] n) 3)) := by
  obtain ⟨i, hi, hz0, hz1, hz2⟩ := info_parts info3
  have h := run_make (P := Tryz.prog) W 49 3 i (.int .i64 0) Tryz.underlying49 hi hz0 .i64 .i64 n n (by omega) (by omega) (by rw [hz2]; omega) (by omega)
  simp only [Int.toNat_natCast, hz1, Nat.mul_one] at h
  exact h

set_option maxRecDepth 100000 in
theorem limb_calls (l : List Int) (A : Option Addr) (c : Nat) (i : Nat) (hi : i ≤ 9000000000000) (hn : l.length ≤ 9000000000000) (w : World) (h : Hid (NatV .i64 w (.slice A l.length c) l)) :
    Calls Tryz.prog 130 #[.slice A l.length c, .int .i64 i] w fun e w' => e = .returned (.int .i64 (rd l i)) ∧ w' = w := by
  go_enter Tryz.func130, Tryz.ntmps130
  by_cases hl : i < l.length
  · obtain ⟨ad, rfl, hc⟩ := h.out.cell i hl
    generalize rd l i = x at *
    go_wp2_with fail
    go_ret
    exact ⟨rfl, rfl⟩
  · rw [rd_past (Nat.le_of_not_lt hl)]
    go_wp2_with fail
    go_ret
    exact ⟨rfl, rfl⟩

set_option maxRecDepth 100000 in
theorem trim_calls (l : List Int) (hl : Lim l) (hn : l.length ≤ 1000000000000000) (v : Value) (w : World) (hV : NatV .i64 w v l) :
    Calls Tryz.prog 94 #[v] w fun e w' => ∃ v', e = .returned v' ∧ IsI w' v' (val l).toNat ∧ Drawn0 w w' := by
  obtain ⟨A, c, rfl, hc⟩ := hV.form
  have HV := Lib.hid hV
  clear hV
  go_enter Tryz.func94, Tryz.ntmps94
  go_wp2_with fail
  go_loopw [3] (fun v3 wr => ∃ i : Nat, i ≤ l.length ∧ v3 = .int .i64 i ∧ Hid (val (l.take i) = val l) ∧ Drawn0 w wr) (fun v3 _ => (intOf v3).toNat)
  case atStart => exact ⟨l.length, Nat.le_refl _, rfl, by rw [List.take_length]; rfl, Drawn0.refl _⟩
  case round =>
    obtain ⟨i, hi, rfl, hv, ⟨m, rfl⟩⟩ := hrel
    cases i with
    | zero =>
      go_wp2_with fail
      go_ret
      refine ⟨_, rfl, ?_, ⟨m, rfl⟩⟩
      have : val l = 0 := hv.out.symm
      unfold IsI
      rw [this, show (0 : Int).toNat = 0 from rfl, limbs_zero]
      exact NatV.nil _ _ _ _
    | succ i =>
      obtain ⟨ad, rfl, hcx⟩ := HV.out.cell i (by omega)
      have hs := Lib.hid (val_take_succ l i (by omega))
      by_cases c0 : rd l i = 0
      · have b0 : (rd l i == 0) = true := beq_iff_eq.2 c0
        have HC := Lib.hid c0
        clear c0
        go_wp2_with fail
        go_roundw
        case rel => exact ⟨i, by omega, rfl, (by have := hs.out; have h2 := hv.out; rw [HC.out] at this; show val (l.take i) = val l; omega), ⟨m, rfl⟩⟩
        case measure => simp [intOf]
      · have b0 : (rd l i == 0) = false := beq_eq_false_iff_ne.2 c0
        have HC := Lib.hid c0
        clear c0
        go_wp2_with fail
        go_ret
        refine ⟨_, rfl, ?_, ⟨m, rfl⟩⟩
        have e : l.take (i + 1) = limbs (val l).toNat := by
          rw [← hv.out]
          refine limbs_of (lim_take hl _) (.inr ?_)
          rw [List.length_take, Nat.min_eq_left hi, Nat.add_sub_cancel, rd_take _ _ _ (by omega)]
          exact HC.out
        unfold IsI
        rw [← e]
        exact (HV.out.take_ (i + 1) hi).below (Drawn0.below ⟨m, rfl⟩)

def RelS (w : World) (x y : List Int) (v6 v7 : Value) (wr : World) : Prop :=
  ∃ (i : Nat) (L : List Int) (b : Int), i ≤ x.length ∧ v7 = .int .i64 i ∧ v6 = .int .i64 b ∧ 0 ≤ b ∧ b ≤ 1 ∧ L.length = x.length ∧ Lim L ∧ (∀ p : Nat, i ≤ p → rd L p = 0) ∧ val L + val (y.take i) = val (x.take i) + b * pw i ∧
    Arr .i64 3 wr w.heap.size L ∧ Below w.heap.size w wr
theorem relS_start (w : World) (x y : List Int) : RelS w x y (.int .i64 0) (.int .i64 0) (w.alloc (.cells (madeCells #[.int .i64 0] x.length) 3)) :=
  ⟨0, List.replicate x.length 0, 0, Nat.zero_le _, rfl, rfl, by omega, by omega, by simp, lim_replicate _, fun p _ => rd_replicate _ _, by rw [val_replicate]; simp [val], Arr.made _ _ _ _, (Below.refl _ _).alloc (Nat.le_refl _) _⟩
theorem relS_step {w wr : World} {x y : List Int} {i : Nat} {L : List Int} {b : Int} (hi : i < x.length) (ho : L.length = x.length) (hl : Lim L) (hz : ∀ p : Nat, i ≤ p → rd L p = 0) (hv : val L + val (y.take i) = val (x.take i) + b * pw i)
    (hA : Arr .i64 3 wr w.heap.size L) (hb : Below w.heap.size w wr) (d b' : Int) (hd0 : 0 ≤ d) (hd1 : d < 1000000000) (hb' : 0 ≤ b' ∧ b' ≤ 1) (he : d = rd x i - (b + rd y i) + 1000000000 * b') :
    RelS w x y (.int .i64 b') (.int .i64 ((i : Int) + 1)) (wr.setCell ⟨w.heap.size, i, none⟩ (.int .i64 d)) := by
  refine ⟨i + 1, L.set i d, b', by omega, by rfl, rfl, hb'.1, hb'.2, by rw [List.length_set]; exact ho, lim_set hl _ hd0 hd1, fun p hp => by rw [rd_set_ne _ _ _ _ (by omega)]; exact hz p (by omega), ?_, hA.set i d (by omega), hb.setCell (Nat.le_refl _) _⟩
  rw [val_set _ _ _ (by omega), hz i (Nat.le_refl _), val_take_next, val_take_next, pw_succ, he]
  clear he
  generalize val L = a at *
  generalize val (x.take i) = s at *
  generalize val (y.take i) = t at *
  generalize pw i = p at *
  generalize rd y i = z at *
  generalize rd x i = u at *
  grind

set_option maxRecDepth 100000 in
set_option maxHeartbeats 1000000 in
theorem sub_walk (x y : List Int) (hx : Lim x) (hy : Lim y) (hyx : y.length ≤ x.length) (hle : val y ≤ val x) (hn : x.length ≤ 1000000000) (A B : Option Addr) (c d : Nat) (w : World) (hX : Hid (NatV .i64 w (.slice A x.length c) x)) (hY : Hid (NatV .i64 w (.slice B y.length d) y)) :
    Calls Tryz.prog 97 #[.slice A x.length c, .slice B y.length d] w fun e w' => ∃ v, e = .returned v ∧ IsI w' v (val x - val y).toNat ∧ Below w.heap.size w w' := by
  have HLE := Lib.hid hle
  clear hle
  have hmk : ∀ W : World, (Instr.makeSlice 49 (.int .i64 (x.length : Int)) (.int .i64 (x.length : Int))).run Tryz.prog W = .ok (.slice (some ⟨W.heap.size, 0, none⟩) x.length x.length) (W.alloc (.cells (madeCells #[.int .i64 0] x.length) 3)) := fun W => run_makeI x.length (by omega) W
  go_enter Tryz.func97, Tryz.ntmps97
  go_wp2_with fail
  clear hmk
  go_loopw [6, 7] (fun v6 v7 wr => RelS w x y v6 v7 wr) (fun _ v7 _ => x.length - (intOf v7).toNat)
  case atStart => exact relS_start w x y
  case round =>
    obtain ⟨i, L, b, hi, rfl, rfl, hb0, hb1, ho, hl, hz, hv, hA, hbel⟩ := hrel
    have HA := Lib.hid hA
    have HB := Lib.hid hbel
    have HV := Lib.hid hv
    have HO := Lib.hid ho
    have HZ := Lib.hid hz
    clear hA hbel hv ho hz
    by_cases hlt : i < x.length
    · have hxi := lim_rd hx i
      have hyi := lim_rd hy i
      obtain ⟨ad, rfl, hcx⟩ := (hX.out.below HB.out).cell i hlt
      have HY' := Lib.hid (hY.out.below (HB.out))
      have hcl := HA.out.cell i (by rw [HO.out]; exact hlt)
      have hfr := HA.out.frozen i
      have W1 : IntKind.i64.wrap (rd x i - rd y i) = rd x i - rd y i := IntWalk.i64_in _ (by omega)
      have W2 : IntKind.i64.wrap (rd x i - rd y i - b) = rd x i - rd y i - b := IntWalk.i64_in _ (by omega)
      have HLC : Hid (∀ n, Calls Tryz.prog 130 #[.slice B y.length d, .int .i64 i] (wr.drewN n) fun e w' => e = .returned (.int .i64 (rd y i)) ∧ w' = wr.drewN n) := Lib.hid (fun n => limb_calls y B d i (by omega) (by omega) _ (Lib.hid (HY'.out.below (Drawn0.below ⟨n, rfl⟩))))
      have HY0 := HY'
      clear HY'
      generalize hu : rd x i = u at *
      generalize hz : rd y i = z at *
      have HU := Lib.hid hu
      have HZ' := Lib.hid hz
      clear hu hz HY0
      go_upto_region 6 with fail
      go_cut [8] (fun v8 wx => v8 = .int .i64 (u - z - b) ∧ Hid (Drawn0 wr wx))
      case first =>
        go_quiet (first | (go_at_call 130; refine Calls.quiet_of_same (HLC.out _)))
        go_wp2_with fail
        go_meet
        case rel => exact ⟨rfl, Lib.hid ⟨_, rfl⟩⟩
      case rest =>
        obtain ⟨rfl, hd⟩ := hcut
        have HB2 := Lib.hid (below_step HB.out (Drawn0.below hd.out))
        have hA2 := HA.out.below (Drawn0.below hd.out)
        have hcl := hA2.cell i (by rw [HO.out]; exact hlt)
        have hfr := hA2.frozen i
        have HA2 := Lib.hid hA2
        clear hA2 HA HB HLC W1 W2
        by_cases hs : u - z - b < 0
        · have W3 : IntKind.i64.wrap (u - z - b + 1000000000) = u - z - b + 1000000000 := IntWalk.i64_in _ (by omega)
          go_wp2_with fail
          go_roundw
          case rel => exact relS_step hlt HO.out hl HZ.out HV.out HA2.out HB2.out (u - z - b + 1000000000) (1) (by omega) (by omega) (by omega) (by rw [HU.out, HZ'.out]; omega)
          case measure => simp [intOf]; omega
        · go_wp2_with fail
          go_roundw
          case rel => exact relS_step hlt HO.out hl HZ.out HV.out HA2.out HB2.out (u - z - b) (0) (by omega) (by omega) (by omega) (by rw [HU.out, HZ'.out]; omega)
          case measure => simp [intOf]; omega
    · have HE := Lib.hid (show i = x.length by omega)
      have e : val L = val x - val y := by
        have h1 := HV.out
        have h2 := (val_range hl).2
        rw [HO.out] at h2
        rw [HE.out, List.take_length, List.take_of_length_le hyx] at h1
        have h3 := HLE.out
        have h4 := pw_pos x.length
        rcases (show b = 0 ∨ b = 1 by omega) with h | h
        · rw [h] at h1; omega
        · rw [h] at h1; omega
      have HEV := Lib.hid e
      clear e
      go_wp2_with fail
      refine (trim_calls L hl (by have := HO.out; omega) _ _ (by have := HA.out.whole x.length (by have := HO.out; omega) (by have := HO.out; omega); rw [HO.out] at this; exact this)).mono ?_
      rintro e w' ⟨v, rfl, hN, hD⟩
      have hN := Lib.hid hN
      have hD := Lib.hid hD
      go_wp2_with fail
      go_ret
      have hN := hN.out
      rw [HEV.out] at hN
      exact ⟨_, rfl, hN, below_then HB.out HB.out.size hD.out.below⟩
theorem sub_calls (a b : Nat) (hba : b ≤ a) (ha : (limbs a).length ≤ 1000000000) (va vb : Value) (w : World) (hA : IsI w va a) (hB : IsI w vb b) :
    Calls Tryz.prog 97 #[va, vb] w fun e w' => ∃ v, e = .returned v ∧ IsI w' v (a - b) ∧ Below w.heap.size w w' := by
  obtain ⟨A, c, rfl, _⟩ := hA.form
  obtain ⟨B, d, rfl, _⟩ := hB.form
  have h := sub_walk (limbs a) (limbs b) (limbs_lim a) (limbs_lim b) (limbs_len_mono hba) (by rw [val_limbs, val_limbs]; omega) ha A B c d w hA hB
  rw [val_limbs, val_limbs, show ((a : Int) - b).toNat = a - b from by omega] at h
  exact h

end Go.Proofs.YtjeamchaibialaaGreatDoor.RefA

/- The reference's sums and products: the walks. -/
namespace Go.Proofs.YtjeamchaibialaaGreatDoor.RefB
open Go.RowKit Go.Proofs.YtjeamchaibialaaGreatDoorW.PrintWords Go.Proofs.YtjeamchaibialaaGreatDoorW.PrintLast Go.Proofs.YtjeamchaibialaaGreatDoorW.PrintMore Fns Limbs Pure1 Nats Arrs RefA

def RelA (w : World) (x y : List Int) (N : Nat) (v7 v8 : Value) (wr : World) : Prop :=
  ∃ (i : Nat) (L : List Int) (c : Int), i ≤ N ∧ v8 = .int .i64 i ∧ v7 = .int .i64 c ∧ 0 ≤ c ∧ c ≤ 1 ∧ L.length = N ∧ Lim L ∧ (∀ p : Nat, i ≤ p → rd L p = 0) ∧ val L + c * pw i = val (x.take i) + val (y.take i) ∧
    Arr .i64 3 wr w.heap.size L ∧ Below w.heap.size w wr
theorem relA_start (w : World) (x y : List Int) (N : Nat) : RelA w x y N (.int .i64 0) (.int .i64 0) (w.alloc (.cells (madeCells #[.int .i64 0] N) 3)) :=
  ⟨0, List.replicate N 0, 0, Nat.zero_le _, rfl, rfl, by omega, by omega, by simp, lim_replicate _, fun p _ => rd_replicate _ _, by rw [val_replicate]; simp [val], Arr.made _ _ _ _, (Below.refl _ _).alloc (Nat.le_refl _) _⟩
theorem relA_step {w wr : World} {x y : List Int} {N i : Nat} {L : List Int} {c : Int} (hi : i < N) (ho : L.length = N) (hl : Lim L) (hz : ∀ p : Nat, i ≤ p → rd L p = 0) (hv : val L + c * pw i = val (x.take i) + val (y.take i))
    (hA : Arr .i64 3 wr w.heap.size L) (hb : Below w.heap.size w wr) (d c' : Int) (hd0 : 0 ≤ d) (hd1 : d < 1000000000) (hc' : 0 ≤ c' ∧ c' ≤ 1) (he : d + 1000000000 * c' = rd x i + rd y i + c) :
    RelA w x y N (.int .i64 c') (.int .i64 ((i : Int) + 1)) (wr.setCell ⟨w.heap.size, i, none⟩ (.int .i64 d)) := by
  refine ⟨i + 1, L.set i d, c', by omega, by rfl, rfl, hc'.1, hc'.2, by rw [List.length_set]; exact ho, lim_set hl _ hd0 hd1, fun p hp => by rw [rd_set_ne _ _ _ _ (by omega)]; exact hz p (by omega), ?_, hA.set i d (by omega), hb.setCell (Nat.le_refl _) _⟩
  rw [val_set _ _ _ (by omega), hz i (Nat.le_refl _), val_take_next, val_take_next, pw_succ]
  have e : rd x i = d + 1000000000 * c' - rd y i - c := by omega
  rw [e]
  clear he e
  generalize val L = a at *
  generalize val (x.take i) = s at *
  generalize val (y.take i) = t at *
  generalize pw i = p at *
  generalize rd y i = z at *
  grind

theorem split (t : Int) (h0 : 0 ≤ t) (h1 : t < 1000000000000000000) : ∃ r q : Int, t = r + 1000000000 * q ∧ 0 ≤ r ∧ r < 1000000000 ∧ 0 ≤ q ∧ q < 1000000000 ∧ Int.tmod t 1000000000 = r ∧ t % 1000000000 = r ∧ Int.tdiv t 1000000000 = q ∧ t / 1000000000 = q ∧ IntKind.i64.wrap r = r ∧ IntKind.i64.wrap q = q := by
  refine ⟨t % 1000000000, t / 1000000000, by omega, by omega, by omega, by omega, by omega, Int.tmod_eq_emod_of_nonneg h0, rfl, Int.tdiv_eq_ediv_of_nonneg h0, rfl, IntWalk.i64_in _ (by omega), IntWalk.i64_in _ (by omega)⟩

set_option maxRecDepth 100000 in
set_option maxHeartbeats 1000000 in
theorem add_walk (x y : List Int) (hx : Lim x) (hy : Lim y) (n : Nat) (hxn : x.length ≤ n) (hyn : y.length ≤ n) (hnm : n = max x.length y.length) (hn : n ≤ 1000000000) (A B : Option Addr) (c d : Nat) (w : World) (hX : Hid (NatV .i64 w (.slice A x.length c) x)) (hY : Hid (NatV .i64 w (.slice B y.length d) y)) :
    Calls Tryz.prog 146 #[.slice A x.length c, .slice B y.length d] w fun e w' => ∃ v, e = .returned v ∧ IsI w' v (val x + val y).toNat ∧ Below w.heap.size w w' := by
  have HNM := Lib.hid hnm
  clear hnm
  have W0 : IntKind.i64.wrap ((n : Int) + 1) = (n : Int) + 1 := IntWalk.i64_in _ (by omega)
  have hmk : ∀ W : World, (Instr.makeSlice 49 (.int .i64 ((n : Int) + 1)) (.int .i64 ((n : Int) + 1))).run Tryz.prog W = .ok (.slice (some ⟨W.heap.size, 0, none⟩) (n + 1) (n + 1)) (W.alloc (.cells (madeCells #[.int .i64 0] (n + 1)) 3)) := fun W => by
    have := run_makeI (n + 1) (by omega) W
    rw [Int.natCast_add] at this
    exact this
  go_enter Tryz.func146, Tryz.ntmps146
  go_upto_if 15 with fail
  go_cut [5] (fun v5 wx => v5 = .int .i64 n ∧ wx = w)
  case first =>
    by_cases hlt : x.length < y.length
    · have e : n = y.length := by have := HNM.out; omega
      clear HNM
      subst e
      have hgt : (x.length : Int) < y.length := by omega
      go_wp2_with fail
      go_meet
      case rel => exact ⟨rfl, rfl⟩
    · have e : n = x.length := by have := HNM.out; omega
      clear HNM
      subst e
      have hgt : ¬ (x.length : Int) < y.length := by omega
      go_wp2_with fail
      go_meet
      case rel => exact ⟨rfl, rfl⟩
  case rest =>
    obtain ⟨rfl, hw⟩ := hcut
    rw [hw]
    clear hw
    go_wp2_with fail
    clear hmk W0
    go_loopw [7, 8, 9] (fun v7 v8 _ wr => RelA w x y (n + 1) v7 v8 wr) (fun _ v8 _ _ => n + 1 - (intOf v8).toNat)
    case atStart => exact relA_start w x y (n + 1)
    case round =>
      obtain ⟨i, L, b, hi, rfl, rfl, hb0, hb1, ho, hl, hz, hv, hA, hbel⟩ := hrel
      have HA := Lib.hid hA
      have HB := Lib.hid hbel
      have HV := Lib.hid hv
      have HO := Lib.hid ho
      have HZ := Lib.hid hz
      clear hA hbel hv ho hz
      by_cases hlt : i < n + 1
      · have hlt' : (i : Int) ≤ n := by omega
        have hxi := lim_rd hx i
        have hyi := lim_rd hy i
        have HLX := Lib.hid (limb_calls x A c i (by omega) (by omega) wr (Lib.hid (hX.out.below HB.out)))
        have HLY := Lib.hid (limb_calls y B d i (by omega) (by omega) wr (Lib.hid (hY.out.below HB.out)))
        have hfr := HA.out.frozen i
        have hcl := HA.out.cell i (by rw [HO.out]; exact hlt)
        obtain ⟨r, q, ht, hr0, hr1, hq0, hq1, t1, t2, t3, t4, t5, t6⟩ := split (rd x i + rd y i + b) (by omega) (by omega)
        have HE := Lib.hid ht
        have hq9 : q ≤ 1 := by omega
        have W1 : IntKind.i64.wrap (rd x i + rd y i) = rd x i + rd y i := IntWalk.i64_in _ (by omega)
        have W2 : IntKind.i64.wrap (rd x i + rd y i + b) = rd x i + rd y i + b := IntWalk.i64_in _ (by omega)
        have W3 : IntKind.i64.wrap (Int.tmod (rd x i + rd y i + b) 1000000000) = r := by rw [t1]; exact t5
        have W4 : IntKind.i64.wrap (Int.tdiv (rd x i + rd y i + b) 1000000000) = q := by rw [t3]; exact t6
        clear ht
        generalize hu : rd x i = u at *
        generalize hz : rd y i = z at *
        have HU := Lib.hid hu
        have HZ' := Lib.hid hz
        clear hu hz
        go_wp2_with fail
        refine HLX.out.mono ?_
        rintro e w1 ⟨rfl, rfl⟩
        go_wp2_with fail
        refine HLY.out.mono ?_
        rintro e w2 ⟨rfl, rfl⟩
        clear HLX HLY
        go_wp2_with fail
        go_roundw
        case rel => exact relA_step hlt HO.out hl HZ.out HV.out HA.out HB.out r q hr0 hr1 ⟨hq0, hq9⟩ (by rw [HU.out, HZ'.out]; have := HE.out; omega)
        case measure => simp [intOf]; omega
      · have HE := Lib.hid (show i = n + 1 by omega)
        have e : val L = val x + val y := by
          have h1 := HV.out
          rw [HE.out, List.take_of_length_le (by omega), List.take_of_length_le (by omega)] at h1
          have h2 := (val_range hx).2
          have h3 := (val_range hy).2
          have h4 := pw_mono hxn
          have h5 := pw_mono hyn
          have h6 := pw_pos n
          have h7 := (val_range hl).1
          rw [pw_succ] at h1
          rcases (show b = 0 ∨ b = 1 by omega) with h | h
          · rw [h] at h1; omega
          · rw [h] at h1; omega
        have HEV := Lib.hid e
        clear e
        have hnlt : ¬ (i : Int) ≤ n := by omega
        go_wp2_with fail
        refine (trim_calls L hl (by have := HO.out; omega) _ _ (by have := HA.out.whole (n + 1) (by have := HO.out; omega) (by have := HO.out; omega); rw [HO.out] at this; exact this)).mono ?_
        rintro e w' ⟨v, rfl, hN, hD⟩
        have hN := Lib.hid hN
        have hD := Lib.hid hD
        go_wp2_with fail
        go_ret
        have hN := hN.out
        rw [HEV.out] at hN
        exact ⟨_, rfl, hN, below_then HB.out HB.out.size hD.out.below⟩

theorem add_calls (a b : Nat) (ha : (limbs a).length ≤ 1000000000) (hb : (limbs b).length ≤ 1000000000) (va vb : Value) (w : World) (hA : IsI w va a) (hB : IsI w vb b) :
    Calls Tryz.prog 146 #[va, vb] w fun e w' => ∃ v, e = .returned v ∧ IsI w' v (a + b) ∧ Below w.heap.size w w' := by
  obtain ⟨A, c, rfl, _⟩ := hA.form
  obtain ⟨B, d, rfl, _⟩ := hB.form
  have h := add_walk (limbs a) (limbs b) (limbs_lim a) (limbs_lim b) (max (limbs a).length (limbs b).length) (by omega) (by omega) rfl (by omega) A B c d w hA hB
  rw [val_limbs, val_limbs, show ((a : Int) + b).toNat = a + b from by omega] at h
  exact h

/-! ### products -/
def RelM (w : World) (x y : List Int) (v6 : Value) (wr : World) : Prop :=
  ∃ (i : Nat) (L : List Int), i ≤ x.length ∧ v6 = .int .i64 i ∧ L.length = x.length + y.length ∧ Lim L ∧ (∀ p : Nat, i + y.length ≤ p → rd L p = 0) ∧ val L = val (x.take i) * val y ∧
    Arr .i64 3 wr w.heap.size L ∧ Below w.heap.size w wr
def RelK (w : World) (x y : List Int) (i : Nat) (V : Int) (v7 v8 : Value) (wr : World) : Prop :=
  ∃ (k : Nat) (L : List Int) (c : Int), k ≤ y.length ∧ v8 = .int .i64 k ∧ v7 = .int .i64 c ∧ 0 ≤ c ∧ c < 1000000000 ∧ L.length = x.length + y.length ∧ Lim L ∧ (∀ p : Nat, i + y.length ≤ p → rd L p = 0) ∧ val L + c * pw (i + k) = V + rd x i * val (y.take k) * pw i ∧
    Arr .i64 3 wr w.heap.size L ∧ Below w.heap.size w wr
theorem relK_step {w wr : World} {x y : List Int} {i k : Nat} {V : Int} {L : List Int} {c : Int} (hi : i < x.length) (hk : k < y.length) (ho : L.length = x.length + y.length) (hl : Lim L) (hz : ∀ p : Nat, i + y.length ≤ p → rd L p = 0) (hv : val L + c * pw (i + k) = V + rd x i * val (y.take k) * pw i)
    (hA : Arr .i64 3 wr w.heap.size L) (hb : Below w.heap.size w wr) (d c' : Int) (hd0 : 0 ≤ d) (hd1 : d < 1000000000) (hc0 : 0 ≤ c') (hc1 : c' < 1000000000) (he : rd L ((i + k : Nat) : Int) + rd x i * rd y k + c = d + 1000000000 * c') :
    RelK w x y i V (.int .i64 c') (.int .i64 ((k : Int) + 1)) (wr.setCell ⟨w.heap.size, i + k, none⟩ (.int .i64 d)) := by
  refine ⟨k + 1, L.set (i + k) d, c', by omega, by rfl, rfl, hc0, hc1, by rw [List.length_set]; exact ho, lim_set hl _ hd0 hd1, fun p hp => by rw [rd_set_ne _ _ _ _ (by omega)]; exact hz p (by omega), ?_, hA.set (i + k) d (by omega), hb.setCell (Nat.le_refl _) _⟩
  rw [val_set _ _ _ (by omega), val_take_next, show i + (k + 1) = i + k + 1 from by omega, pw_succ]
  have e : d = rd L ((i + k : Nat) : Int) + rd x i * rd y k + c - 1000000000 * c' := by omega
  rw [e]
  clear he e
  have e2 : pw (i + k) = pw i * pw k := pw_add i k
  rw [e2] at hv ⊢
  generalize val L = a at *
  generalize val (y.take k) = t at *
  generalize pw i = p at *
  generalize pw k = q at *
  generalize rd y k = z at *
  generalize rd x i = u at *
  generalize rd L ((i + k : Nat) : Int) = l at *
  grind
theorem relM_step {w wr : World} {x y : List Int} {i : Nat} {L : List Int} {c : Int} (hi : i < x.length) (ho : L.length = x.length + y.length) (hl : Lim L) (hz : ∀ p : Nat, i + y.length ≤ p → rd L p = 0) (hv : val L + c * pw (i + y.length) = val (x.take i) * val y + rd x i * val (y.take y.length) * pw i)
    (hA : Arr .i64 3 wr w.heap.size L) (hb : Below w.heap.size w wr) (hc0 : 0 ≤ c) (hc1 : c < 1000000000) :
    RelM w x y (.int .i64 ((i : Int) + 1)) (wr.setCell ⟨w.heap.size, i + y.length, none⟩ (.int .i64 c)) := by
  refine ⟨i + 1, L.set (i + y.length) c, by omega, by rfl, by rw [List.length_set]; exact ho, lim_set hl _ hc0 hc1, fun p hp => by rw [rd_set_ne _ _ _ _ (by omega)]; exact hz p (by omega), ?_, hA.set _ c (by omega), hb.setCell (Nat.le_refl _) _⟩
  rw [val_set _ _ _ (by omega), hz _ (Nat.le_refl _), val_take_next]
  rw [List.take_length] at hv
  generalize val L = a at *
  generalize val (x.take i) = s at *
  generalize val y = t at *
  generalize pw (i + y.length) = q at *
  generalize pw i = p at *
  generalize rd x i = u at *
  grind

set_option maxRecDepth 100000 in
set_option maxHeartbeats 1000000 in
theorem mul_walk (x y : List Int) (hx : Lim x) (hy : Lim y) (hxn : x.length ≤ 1000000000) (hyn : y.length ≤ 1000000000) (A B : Option Addr) (c d : Nat) (w : World) (hX : Hid (NatV .i64 w (.slice A x.length c) x)) (hY : Hid (NatV .i64 w (.slice B y.length d) y)) :
    Calls Tryz.prog 49 #[.slice A x.length c, .slice B y.length d] w fun e w' => ∃ v, e = .returned v ∧ IsI w' v (val x * val y).toNat ∧ Below w.heap.size w w' := by
  obtain ⟨N, hN⟩ : ∃ N, N = x.length + y.length := ⟨_, rfl⟩
  have W0 : IntKind.i64.wrap ((x.length : Int) + y.length) = (N : Int) := by rw [hN, Int.natCast_add]; exact IntWalk.i64_in _ (by omega)
  have hmk : ∀ W : World, (Instr.makeSlice 49 (.int .i64 (N : Int)) (.int .i64 (N : Int))).run Tryz.prog W = .ok (.slice (some ⟨W.heap.size, 0, none⟩) N N) (W.alloc (.cells (madeCells #[.int .i64 0] N) 3)) := fun W => run_makeI N (by omega) W
  have HN := Lib.hid hN
  clear hN
  go_enter Tryz.func49, Tryz.ntmps49
  go_wp2_with fail
  clear hmk W0
  go_loopw [6, 7, 8, 9] (fun v6 _ _ _ wr => RelM w x y v6 wr) (fun v6 _ _ _ _ => x.length - (intOf v6).toNat)
  case atStart =>
    exact ⟨0, List.replicate N 0, Nat.zero_le _, rfl, by rw [List.length_replicate]; exact HN.out, lim_replicate _, fun p _ => rd_replicate _ _, by rw [val_replicate]; simp [val], Arr.made _ _ _ _, (Below.refl _ _).alloc (Nat.le_refl _) _⟩
  case round =>
    obtain ⟨i, L, hi, rfl, ho, hl, hz, hv, hA, hbel⟩ := hrel
    have HA := Lib.hid hA
    have HB := Lib.hid hbel
    have HV := Lib.hid hv
    have HO := Lib.hid ho
    have HZ := Lib.hid hz
    clear hA hbel hv ho hz
    by_cases hlt : i < x.length
    · go_wp2_with fail
      go_loopw [7, 8, 9] (fun v7 v8 _ ws => RelK w x y i (val (x.take i) * val y) v7 v8 ws) (fun _ v8 _ _ => y.length - (intOf v8).toNat)
      case atStart => exact ⟨0, L, 0, Nat.zero_le _, rfl, rfl, by omega, by omega, HO.out, hl, HZ.out, by rw [HV.out]; simp [val], HA.out, HB.out⟩
      case round =>
        clear HA HB HV HO HZ hl
        obtain ⟨k, L, b, hk, rfl, rfl, hb0, hb1, ho, hl, hz, hv, hA, hbel⟩ := hrel
        have HA := Lib.hid hA
        have HB := Lib.hid hbel
        have HV := Lib.hid hv
        have HO := Lib.hid ho
        have HZ := Lib.hid hz
        clear hA hbel hv ho hz
        by_cases hkt : k < y.length
        · have hxi := lim_rd hx i
          have hyk := lim_rd hy k
          have hli := lim_rd hl (i + k)
          obtain ⟨ad, rfl, hcx⟩ := (hX.out.below HB.out).cell i hlt
          obtain ⟨bd, rfl, hcy⟩ := (hY.out.below HB.out).cell k hkt
          obtain ⟨j, hj⟩ : ∃ j, j = i + k := ⟨_, rfl⟩
          have hli' := hli
          have hstep := fun n r q h0 h1 h2 h3 he => relK_step hlt hkt HO.out hl HZ.out HV.out (HA.out.drewN n) (below_step HB.out (Drawn0.below (w' := wr.drewN n) ⟨n, rfl⟩)) r q h0 h1 h2 h3 he
          have hcl := HA.out.cell j (by rw [HO.out]; omega)
          have hfr := HA.out.frozen j
          have hjN : j < N := by have := HN.out; omega
          have J1 : IntKind.i64.wrap ((i : Int) + k) = (j : Int) := by rw [hj, Int.natCast_add]; exact IntWalk.i64_in _ (by omega)
          rw [← hj] at hstep hli
          have HJ := Lib.hid hj
          have HST := Lib.hid hstep
          clear hstep hj hli'
          have hm0 : 0 ≤ rd x i * rd y k := Int.mul_nonneg hxi.1 hyk.1
          have hm1 : rd x i * rd y k ≤ 999999999 * 999999999 := Int.mul_le_mul (by omega) (by omega) hyk.1 (by omega)
          have hfrw : ∀ n, (wr.drewN n).frozen? ⟨w.heap.size, j, none⟩ = false := fun n => (HA.out.drewN n).frozen j
          obtain ⟨r, q, ht, hr0, hr1, hq0, hq1, t1, t2, t3, t4, t5, t6⟩ := split (rd L j + rd x i * rd y k + b) (by omega) (by omega)
          have HE := Lib.hid ht
          have W1 : IntKind.i64.wrap (rd x i * rd y k) = rd x i * rd y k := IntWalk.i64_in _ (by omega)
          have W2 : IntKind.i64.wrap (rd L j + rd x i * rd y k) = rd L j + rd x i * rd y k := IntWalk.i64_in _ (by omega)
          have W3 : IntKind.i64.wrap (rd L j + rd x i * rd y k + b) = rd L j + rd x i * rd y k + b := IntWalk.i64_in _ (by omega)
          have W4 : IntKind.i64.wrap (Int.tmod (rd L j + rd x i * rd y k + b) 1000000000) = r := by rw [t1]; exact t5
          have W5 : IntKind.i64.wrap (Int.tdiv (rd L j + rd x i * rd y k + b) 1000000000) = q := by rw [t3]; exact t6
          clear ht
          generalize hu : rd x i = u at *
          generalize hz : rd y k = z at *
          generalize hmm : u * z = m at *
          generalize hll : rd L j = l at *
          generalize htt : l + m + b = t at *
          have V1 : IntKind.i64.wrap (u * z) = m := by rw [hmm]; exact W1
          have V3 : IntKind.i64.wrap (l + m + b) = t := by rw [htt]; exact W3
          clear W1 W3 hm0 hm1
          have HU := Lib.hid (And.intro hu (And.intro hz (And.intro hmm (And.intro hll htt))))
          clear hu hz hmm hll htt
          go_wp2_with fail
          go_quiet (fail)
          go_wp2_with fail
          go_roundw
          case rel => exact HST.out _ r q hr0 hr1 hq0 hq1 HE.out
          case measure => simp [intOf]; omega
        · have hke : k = y.length := by omega
          subst hke
          have hst := relM_step hlt HO.out hl HZ.out HV.out HA.out HB.out hb0 hb1
          obtain ⟨j, hj⟩ : ∃ j, j = i + y.length := ⟨_, rfl⟩
          have hjN : j < N := by have := HN.out; omega
          have hcl := HA.out.cell j (by rw [HO.out]; omega)
          have hfr := HA.out.frozen j
          have J1 : IntKind.i64.wrap ((i : Int) + y.length) = (j : Int) := by rw [hj, Int.natCast_add]; exact IntWalk.i64_in _ (by omega)
          rw [← hj] at hst
          have HST := Lib.hid hst
          clear hst hj
          go_wp2_with fail
          go_roundw
          case rel => exact HST.out
          case measure => simp [intOf]; omega
    · have hie : i = x.length := by omega
      subst hie
      have HEV : Hid (val L = val x * val y) := by have := HV.out; rw [List.take_length] at this; exact this
      go_wp2_with fail
      have hw := HA.out.whole N (by rw [HO.out]; exact Nat.le_of_eq HN.out.symm) (by have := HO.out; omega)
      rw [HO.out, ← HN.out] at hw
      refine (trim_calls L hl (by have := HO.out; omega) _ _ hw).mono ?_
      rintro e w' ⟨v, rfl, hN, hD⟩
      have hN := Lib.hid hN
      have hD := Lib.hid hD
      clear hw
      go_wp2_with fail
      go_ret
      have hN := hN.out
      rw [HEV.out] at hN
      exact ⟨_, rfl, hN, below_then HB.out HB.out.size hD.out.below⟩
theorem mul_calls (a b : Nat) (ha : (limbs a).length ≤ 1000000000) (hb : (limbs b).length ≤ 1000000000) (va vb : Value) (w : World) (hA : IsI w va a) (hB : IsI w vb b) :
    Calls Tryz.prog 49 #[va, vb] w fun e w' => ∃ v, e = .returned v ∧ IsI w' v (a * b) ∧ Below w.heap.size w w' := by
  obtain ⟨A, c, rfl, _⟩ := hA.form
  obtain ⟨B, d, rfl, _⟩ := hB.form
  have h := mul_walk (limbs a) (limbs b) (limbs_lim a) (limbs_lim b) ha hb A B c d w hA hB
  rw [val_limbs, val_limbs, ← Int.natCast_mul, Int.toNat_natCast] at h
  exact h

end Go.Proofs.YtjeamchaibialaaGreatDoor.RefB

/- The reference's comparison, small numbers, texts: the walks. -/
namespace Go.Proofs.YtjeamchaibialaaGreatDoor.RefC
open Go.RowKit Go.Proofs.YtjeamchaibialaaGreatDoorW.PrintWords Go.Proofs.YtjeamchaibialaaGreatDoorW.PrintLast Go.Proofs.YtjeamchaibialaaGreatDoorW.PrintMore Fns Limbs Pure1 Nats Arrs RefA RefB ReadWalk Texts

theorem top_lt {x y : List Int} (hx : Lim x) (hy : Lim y) {i : Nat} (hi : i < x.length) (he : x.length = y.length) (hd : val (x.drop (i + 1)) = val (y.drop (i + 1))) (hlt : rd x i < rd y i) : val x < val y := by
  rw [val_split x i (by omega), val_split y i (by omega), val_drop x i hi, val_drop y i (by omega), hd]
  have h1 := val_range (lim_take hx i)
  have h2 := val_range (lim_take hy i)
  rw [List.length_take, Nat.min_eq_left (by omega)] at h1 h2
  have h3 := pw_pos i
  generalize val (x.take i) = a at *
  generalize val (y.take i) = b at *
  generalize val (y.drop (i + 1)) = t at *
  generalize pw i = p at *
  generalize rd x i = u at *
  generalize rd y i = v at *
  have h4 : p * (u + 1 + 1000000000 * t) ≤ p * (v + 1000000000 * t) := Int.mul_le_mul_of_nonneg_left (by omega) (by omega)
  have h5 : p * (u + 1 + 1000000000 * t) = p * (u + 1000000000 * t) + p := by rw [show u + 1 + 1000000000 * t = (u + 1000000000 * t) + 1 from by omega, Int.mul_add, Int.mul_one]
  omega

set_option maxRecDepth 100000 in
set_option maxHeartbeats 1000000 in
theorem cmp_calls (a b : Nat) (ha : (limbs a).length ≤ 1000000000000000) (hb : (limbs b).length ≤ 1000000000000000) (va vb : Value) (w : World) (hA : Hid (IsI w va a)) (hB : Hid (IsI w vb b)) :
    Calls Tryz.prog 47 #[va, vb] w fun e w' => e = .returned (.int .i64 (sgn a b)) ∧ Below w.heap.size w w' := by
  obtain ⟨A, c, rfl, _⟩ := hA.out.form
  obtain ⟨B, d, rfl, _⟩ := hB.out.form
  have hX : Hid (NatV .i64 w (.slice A (limbs a).length c) (limbs a)) := hA
  have hY : Hid (NatV .i64 w (.slice B (limbs b).length d) (limbs b)) := hB
  have hlx := limbs_lim a
  have hly := limbs_lim b
  have HVX := Lib.hid (val_limbs a)
  have HVY := Lib.hid (val_limbs b)
  have HLA := Lib.hid (fun h => len_lt_val (a := a) (b := b) h)
  have HLB := Lib.hid (fun h => len_lt_val (a := b) (b := a) h)
  clear hA hB
  generalize limbs a = x at *
  generalize limbs b = y at *
  go_enter Tryz.func47, Tryz.ntmps47
  by_cases he : x.length = y.length
  · have heb : ((x.length : Int) == y.length) = true := by rw [he]; exact beq_self_eq_true _
    have hei : (x.length : Int) = y.length := by omega
    have W1 : IntKind.i64.wrap ((y.length : Int) - 1) = (y.length : Int) - 1 := IntWalk.i64_in _ (by omega)
    have W2 : IntKind.i64.wrap ((x.length : Int) - 1) = (x.length : Int) - 1 := IntWalk.i64_in _ (by omega)
    have HE := Lib.hid he
    clear he
    go_wp2_with fail
    go_loopw [5] (fun v5 wr => ∃ (i : Nat) (z : Int), i ≤ x.length ∧ v5 = .int .i64 z ∧ z = (i : Int) - 1 ∧ Hid (val (x.drop i) = val (y.drop i)) ∧ Hid (Below w.heap.size w wr)) (fun v5 _ => (intOf v5 + 1).toNat)
    case atStart => exact ⟨x.length, (x.length : Int) - 1, Nat.le_refl _, by first | rfl | (rw [hei]), rfl, Lib.hid (by rw [List.drop_length, HE.out, List.drop_length]), Lib.hid (Below.refl _ _)⟩
    case round =>
      obtain ⟨i, z, hi, rfl, hz, hd, hb⟩ := hrel
      cases i with
      | zero =>
        have hz0 : z = -1 := by omega
        subst hz0
        clear hei W1 W2 hz
        have HS : Hid (sgn a b = 0) := by
          have := hd.out
          rw [List.drop_zero, List.drop_zero, HVX.out, HVY.out] at this
          show sgn a b = 0
          unfold sgn
          rw [if_neg (by omega), if_neg (by omega)]
        go_wp2_with fail
        go_ret
        exact ⟨by rw [HS.out]; rfl, hb.out⟩
      | succ i =>
        have hz0 : z = (i : Int) := by omega
        subst hz0
        clear hei W1 W2 hz
        have hxi := lim_rd hlx i
        have hyi := lim_rd hly i
        have hiy : i < y.length := by have := HE.out; omega
        obtain ⟨ad, rfl, hcx⟩ := (hX.out.below hb.out).cell i (by omega)
        obtain ⟨bd, rfl, hcy⟩ := (hY.out.below hb.out).cell i hiy
        have W3 : IntKind.i64.wrap ((i : Int) - 1) = (i : Int) - 1 := IntWalk.i64_in _ (by omega)
        have HL1 := Lib.hid (fun h => top_lt hlx hly (i := i) (by omega) HE.out hd.out h)
        have HL2 := Lib.hid (fun h => top_lt hly hlx (i := i) hiy HE.out.symm hd.out.symm h)
        have HD := Lib.hid (And.intro (val_drop x i (by omega)) (val_drop y i hiy))
        generalize hu : rd x i = u at *
        generalize hv : rd y i = v at *
        clear hu hv
        by_cases h1 : u < v
        · have HS : Hid (sgn a b = -1) := by
            have := HL1.out h1
            rw [HVX.out, HVY.out] at this
            show sgn a b = -1
            unfold sgn
            rw [if_pos (by omega)]
          go_wp2_with fail
          go_quiet (fail)
          go_wp2_with fail
          go_ret
          exact ⟨by rw [HS.out]; rfl, below_step hb.out (Drawn0.below ⟨_, rfl⟩)⟩
        · by_cases h2 : v < u
          · have HS : Hid (sgn a b = 1) := by
              have := HL2.out h2
              rw [HVX.out, HVY.out] at this
              show sgn a b = 1
              unfold sgn
              rw [if_neg (by omega), if_pos (by omega)]
            go_wp2_with fail
            go_quiet (fail)
            go_wp2_with fail
            go_quiet (fail)
            go_wp2_with fail
            go_ret
            exact ⟨by rw [HS.out]; rfl, below_step hb.out (below_step (Drawn0.below ⟨_, rfl⟩) (Drawn0.below ⟨_, rfl⟩))⟩
          · have HEQ := Lib.hid (show u = v by omega)
            go_wp2_with fail
            go_quiet (fail)
            go_wp2_with fail
            go_quiet (fail)
            go_wp2_with fail
            go_roundw
            case rel => exact ⟨i, (i : Int) - 1, by omega, rfl, rfl, Lib.hid (by rw [HD.out.1, HD.out.2, HEQ.out, hd.out]), Lib.hid (below_step hb.out (Drawn0.below ⟨_, rfl⟩))⟩
            case measure => simp [intOf]
  · have heb : ((x.length : Int) == y.length) = false := beq_eq_false_iff_ne.2 (by omega)
    by_cases hlt : x.length < y.length
    · have HS : Hid (sgn a b = -1) := by
        have := HLA.out hlt
        show sgn a b = -1
        unfold sgn
        rw [if_pos this]
      go_wp2_with fail
      go_ret
      exact ⟨by rw [HS.out]; rfl, Below.refl _ _⟩
    · have HS : Hid (sgn a b = 1) := by
        have := HLB.out (by omega)
        show sgn a b = 1
        unfold sgn
        rw [if_neg (by omega), if_pos this]
      go_wp2_with fail
      go_ret
      exact ⟨by rw [HS.out]; rfl, Below.refl _ _⟩

set_option maxRecDepth 100000 in
theorem small_calls (a : Nat) (ha : (limbs a).length ≤ 9000000000000) (va : Value) (w : World) (hA : Hid (IsI w va a)) :
    Calls Tryz.prog 95 #[va] w fun e w' => e = .returned (.tuple #[.int .i64 (if (limbs a).length ≤ 2 then (a : Int) else 0), .bool (decide ((limbs a).length ≤ 2))]) ∧ w' = w := by
  obtain ⟨A, c, rfl, _⟩ := hA.out.form
  by_cases h2 : (limbs a).length ≤ 2
  · rw [if_pos h2, decide_eq_true h2]
    have hl1 := limb_calls (limbs a) A c 1 (by omega) ha w hA
    have hl0 := limb_calls (limbs a) A c 0 (by omega) ha w hA
    have hv : (a : Int) = rd (limbs a) ((1 : Nat) : Int) * 1000000000 + rd (limbs a) ((0 : Nat) : Int) := by
      have h := val_limbs a
      have e : val ((limbs a).take 2) = a := by rw [List.take_of_length_le h2]; exact h
      rw [val_take_next, val_take_next] at e
      have e0 : val ((limbs a).take 0) = 0 := rfl
      have e1 : pw 1 = 1000000000 := by simp [pw]
      rw [e0, pw_zero, e1] at e
      omega
    have hr1 := lim_rd (limbs_lim a) 1
    have hr0 := lim_rd (limbs_lim a) 0
    have W1 : IntKind.i64.wrap (rd (limbs a) ((1 : Nat) : Int) * 1000000000) = rd (limbs a) ((1 : Nat) : Int) * 1000000000 := IntWalk.i64_in _ (by omega)
    have W2 : IntKind.i64.wrap (rd (limbs a) ((1 : Nat) : Int) * 1000000000 + rd (limbs a) ((0 : Nat) : Int)) = (a : Int) := by rw [← hv]; exact IntWalk.i64_in _ (by omega)
    have H1 := Lib.hid hl1
    have H0 := Lib.hid hl0
    clear hl1 hl0 hv
    generalize rd (limbs a) ((1 : Nat) : Int) = u at *
    generalize rd (limbs a) ((0 : Nat) : Int) = v at *
    go_enter Tryz.func95, Tryz.ntmps95
    go_wp2_with fail
    refine H1.out.mono ?_
    rintro e w1 ⟨rfl, rfl⟩
    go_wp2_with fail
    refine H0.out.mono ?_
    rintro e w1 ⟨rfl, rfl⟩
    go_wp2_with fail
    go_ret2
    exact ⟨rfl, rfl⟩
  · rw [if_neg h2, decide_eq_false h2]
    go_enter Tryz.func95, Tryz.ntmps95
    go_wp2_with fail
    go_ret2
    exact ⟨rfl, rfl⟩

theorem isI_below {w w' : World} {v : Value} {n : Nat} (h : IsI w v n) (hb : Below w.heap.size w w') : IsI w' v n := NatV.below h hb
theorem run_make0I (n : Nat) (hn : n ≤ 4000000000000) (W : World) : (Instr.makeSlice 49 (.int .i64 0) (.int .i64 (n : Int))).run Tryz.prog W = .ok (.slice (some ⟨W.heap.size, 0, none⟩) 0 n) (W.alloc (.cells (madeCells #[.int .i64 0] n) 3)) := by
  obtain ⟨i, hi, hz0, hz1, hz2⟩ := info_parts info3
  have h := run_make (P := Tryz.prog) W 49 3 i (.int .i64 0) Tryz.underlying49 hi hz0 .i64 .i64 0 n (Int.le_refl _) (by omega) (by rw [hz2]; omega) (by omega)
  simp only [Int.toNat_zero, Int.toNat_natCast, hz1, Nat.mul_one] at h
  exact h
theorem made0I_row (w0 W : World) (n : Nat) (hn : n ≤ 4000000000000) (hb : Below w0.heap.size w0 W) : (Kd.int .i64).R 3 (W.alloc (.cells (madeCells #[.int .i64 0] n) 3)) w0.heap.size (fun _ => True) (.slice (some ⟨W.heap.size, 0, none⟩) 0 n) [] :=
  Kd.R_of_own (enc := Value.int .i64) (h1 := fun _ => rfl) (World.ownsRow_made W _ n hb.size (by simp only [maxLen]; omega) (by simp [madeCells])) (fun _ _ => trivial)

set_option maxRecDepth 100000 in
set_option maxHeartbeats 400000 in
theorem int_calls (n : Nat) (hn : n < 9000000000000000000) (w : World) :
    Calls Tryz.prog 48 #[.int .i64 n] w fun e w' => ∃ v, e = .returned v ∧ IsI w' v n ∧ Below w.heap.size w w' := by
  have hmk : ∀ W : World, (Instr.makeSlice 49 (.int .i64 0) (.int .i64 0)).run Tryz.prog W = .ok (.slice (some ⟨W.heap.size, 0, none⟩) 0 0) (W.alloc (.cells (madeCells #[.int .i64 0] 0) 3)) := fun W => run_make0I 0 (by omega) W
  go_enter Tryz.func48, Tryz.ntmps48
  go_wp2_with fail
  clear hmk
  go_loopw [0, 3] (fun v0 v3 wr => ∃ (m : Nat) (out : List Int), v0 = .int .i64 m ∧ m < 9000000000000000000 ∧ Hid (out ++ limbs m = limbs n) ∧ out.length ≤ 1000 ∧ Hid ((Kd.int .i64).R 3 wr w.heap.size (fun _ => True) v3 out) ∧ Hid (Below w.heap.size w wr)) (fun v0 _ _ => (intOf v0).toNat)
  case atStart => exact ⟨n, [], rfl, hn, Lib.hid rfl, by simp, Lib.hid (made0I_row w w 0 (by omega) (Below.refl _ _)), Lib.hid ((Below.refl _ _).alloc (Nat.le_refl _) _)⟩
  case round =>
    obtain ⟨m, out, rfl, hm, HE, hol, HR, HB⟩ := hrel
    by_cases hm0 : m = 0
    · subst hm0
      have HV : Hid (out = limbs n) := by have := HE.out; rw [limbs_zero, List.append_nil] at this; exact this
      go_wp2_with fail
      go_ret
      exact ⟨_, rfl, by have := NatV.ofR HR.out; rw [HV.out] at this; exact this, HB.out⟩
    · have hmp : 0 < (m : Int) := by omega
      obtain ⟨A3, c3, rfl, hc3, _⟩ := Kd.R_reads HR.out
      obtain ⟨r, hr⟩ : ∃ r, r = m % 1000000000 := ⟨_, rfl⟩
      obtain ⟨q, hq⟩ : ∃ q, q = m / 1000000000 := ⟨_, rfl⟩
      have hq9 : q < m := by rw [hq]; exact Nat.div_lt_self (by omega) (by omega)
      have hrl : r < 1000000000 := by rw [hr]; exact Nat.mod_lt _ (by omega)
      have t1 : Int.tmod (m : Int) 1000000000 = r := by rw [Int.tmod_eq_emod_of_nonneg (by omega)]; omega
      have t2 : (m : Int) % 1000000000 = r := by omega
      have t3 : Int.tdiv (m : Int) 1000000000 = q := by rw [Int.tdiv_eq_ediv_of_nonneg (by omega)]; omega
      have t4 : (m : Int) / 1000000000 = q := by omega
      have t5 : IntKind.i64.wrap (r : Int) = r := IntWalk.i64_in _ (by omega)
      have t6 : IntKind.i64.wrap (q : Int) = q := IntWalk.i64_in _ (by omega)
      have HE2 : Hid ((out ++ [(r : Int)]) ++ limbs q = limbs n) := by
        show _ = _
        rw [← HE.out, limbs_pos hm0, hr, hq, List.append_assoc]; rfl
      have hol2 : out.length + 1 ≤ 1000 := by
        have h1 := congrArg List.length HE.out
        have hp3 : pw 3 = 1000000000000000000000000000 := by simp [pw]
        have h2 := limbs_len_le (n := n) (k := 3) (by omega)
        have h3 := limbs_len_pos hm0
        rw [List.length_append] at h1
        omega
      clear hr hq HE
      go_wp2_with ((at_builtin; refine Kd.R_append (Kd.int .i64) (w0 := w) w.heap.size rfl (.tmp 7) (.tmp 10) 49 3 (.int .i64 0) 8 rfl Tryz.underlying49 info3 rfl (by decide) (by omega) (.slice A3 out.length c3) out (r : Int) [.int .i64 (r : Int)] (fun _ => True) (fun _ => False) rfl rfl ?aP (fun _ hk => hk.elim) ?aF ?aO ?aB ?aS ?aL ?_; (case aP => exact rfl); (case aF => exact (fun _ _ => trivial)); (case aO => exact HR.out); (case aB => exact HB.out); (case aS => exact HB.out.size); (case aL => omega); intro v1 w2 h1 h2 _ _; have H1 := Lib.hid h1; have H2 := Lib.hid h2; clear h1 h2))
      go_roundw
      case rel => exact ⟨q, out ++ [(r : Int)], rfl, by omega, HE2, by rw [List.length_append]; simp; omega, H1, H2⟩
      case measure => simp [intOf]; omega

end Go.Proofs.YtjeamchaibialaaGreatDoor.RefC

/- The reference's texts of whole numbers: the walks. -/
namespace Go.Proofs.YtjeamchaibialaaGreatDoor.RefD
open Go.RowKit Go.Proofs.YtjeamchaibialaaGreatDoorW.PrintWords Go.Proofs.YtjeamchaibialaaGreatDoorW.PrintLast Go.Proofs.YtjeamchaibialaaGreatDoorW.PrintMore Fns Limbs Pure1 Nats Arrs RefA RefB RefC ReadWalk Texts Go.Proofs.YtjeamchaibialaaGreatDoor.DigitsWalk

set_option maxRecDepth 100000 in
set_option maxHeartbeats 1000000 in
theorem text_calls (n : Nat) (hlen : (limbs n).length ≤ 1000000000) (v : Value) (w : World) (hA : Hid (IsI w v n)) :
    Calls Tryz.prog 51 #[v] w fun e w' => e = .returned (.string ⟨(txt n).toArray⟩) ∧ Below w.heap.size w w' := by
  obtain ⟨A, c, rfl, hc⟩ := hA.out.form
  by_cases hn0 : n = 0
  · subst hn0
    have e0 : (limbs 0).length = 0 := by rw [limbs_zero]; rfl
    rw [e0]
    go_enter Tryz.func51, Tryz.ntmps51
    go_wp2_with fail
    go_ret
    exact ⟨by rw [txt_small (by omega)]; rfl, Below.refl _ _⟩
  · have hlp := limbs_len_pos hn0
    have HXL := Lib.hid (limbs_lim n)
    have HVX := Lib.hid (val_limbs n)
    have hA' : Hid (NatV .i64 w (.slice A (limbs n).length c) (limbs n)) := hA
    obtain ⟨m, hm⟩ : ∃ m, m = (limbs n).length := ⟨_, rfl⟩
    rw [← hm] at hlen hlp hA' hc ⊢
    have HM := Lib.hid hm
    clear hm hA
    obtain ⟨N, hN⟩ : ∃ N, N = m * 9 := ⟨_, rfl⟩
    have W1 : IntKind.i64.wrap (9 * (m : Int)) = (N : Int) := by rw [IntWalk.i64_in _ (by omega)]; omega
    have hmk : ∀ W : World, (Instr.makeSlice 113 (.int .i64 (N : Int)) (.int .i64 (N : Int))).run Tryz.prog W = .ok (.slice (some ⟨W.heap.size, 0, none⟩) N N) (W.alloc (.cells (madeCells #[.int .u8 0] N) 5)) := fun W => run_makeB N (by omega) W
    have hN9 : N ≤ 9000000000 := by omega
    have HN := Lib.hid hN
    clear hN
    have hm0 : ((m : Int) == 0) = false := beq_eq_false_iff_ne.2 (by omega)
    go_enter Tryz.func51, Tryz.ntmps51
    go_wp2_with fail
    clear hmk W1
    go_loopw [4, 5, 6] (fun v4 _ _ wr => ∃ (i a : Nat) (bs : List UInt8), i ≤ m ∧ v4 = .int .i64 i ∧ Hid (a + 9 * i = N) ∧ St w w.heap.size N a (val ((limbs n).take i)) wr bs) (fun v4 _ _ _ => m - (intOf v4).toNat)
    case atStart => exact ⟨0, N, List.replicate N 0, Nat.zero_le _, rfl, Lib.hid (by omega), ⟨List.length_replicate, Nat.le_refl _, by simp [Dig], by simp [ReadWalk.dec, val], made8 w N, LongWalk.belowA (Below.refl _ _) _⟩⟩
    case round =>
      obtain ⟨i, a, bs, hi, rfl, hai, hS⟩ := hrel
      have HS := Lib.hid hS
      clear hS
      by_cases him : i < m
      · obtain ⟨ad, rfl, hcell⟩ := (hA'.out.below HS.out.below).cell i (by omega)
        have hrl := lim_rd HXL.out i
        obtain ⟨L, hL⟩ := Int.eq_ofNat_of_zero_le hrl.1
        rw [hL] at hcell hrl
        have hL9 : L < 1000000000 := by omega
        have HL := Lib.hid hL
        clear hL hrl
        go_wp2_with fail
        go_loopw [5, 6] (fun v5 v6 ws => ∃ (j a : Nat) (bs : List UInt8), j ≤ 9 ∧ v6 = .int .i64 j ∧ v5 = .int .i64 (L / 10 ^ j : Nat) ∧ Hid (a + (9 * i + j) = N) ∧ St w w.heap.size N a (val ((limbs n).take i) + pw i * ((L % 10 ^ j : Nat) : Int)) ws bs) (fun _ v6 _ => 9 - (intOf v6).toNat)
        case atStart => exact ⟨0, a, bs, Nat.zero_le _, rfl, by simp, Lib.hid (by have := hai.out; omega), HS.out.cong (by simp [Nat.mod_one])⟩
        case round =>
          clear HS
          obtain ⟨j, a, bs, hj, rfl, rfl, haj, hS⟩ := hrel
          have HS := Lib.hid hS
          clear hS
          by_cases hj9 : j < 9
          · obtain ⟨b, rfl⟩ : ∃ b, a = b + 1 := ⟨a - 1, by have := haj.out; have := HN.out; omega⟩
            obtain ⟨q, hq⟩ : ∃ q, q = L / 10 ^ j := ⟨_, rfl⟩
            have hqn : L / 10 ^ (j + 1) = q / 10 := by rw [Nat.pow_succ, ← Nat.div_div_eq_div_mul, ← hq]
            have hq9 : q < 1000000000 := by rw [hq]; exact Nat.lt_of_le_of_lt (Nat.div_le_self _ _) hL9
            obtain ⟨d, hd⟩ : ∃ d, d = q % 10 := ⟨_, rfl⟩
            have hd9 : d < 10 := by omega
            have hbN : b < N := by have := HS.out.le; omega
            have hbl : b < (nums8 bs).length := by rw [nums8_len, HS.out.len]; exact hbN
            have hce := HS.out.arr.cell b hbl
            have hfr := HS.out.arr.frozen b
            have hst := HS.out.step (Nat.le_refl _) hd9
            have hvs := val_step (x := limbs n) (i := i) hj9 (show L / 10 ^ j % 10 = d by rw [← hq]; exact hd.symm)
            rw [show N - (b + 1) = 9 * i + j from by have := haj.out; omega, hvs] at hst
            rw [← hq]
            have HST := Lib.hid hst
            have HQN := Lib.hid hqn
            have hNb : (N : Int) = b + 1 + (9 * i + j) := by have := haj.out; omega
            have Z1 : IntKind.i64.wrap ((N : Int) - 1) = (N : Int) - 1 := IntWalk.i64_in _ (by omega)
            have Z2 : IntKind.i64.wrap (9 * (i : Int)) = 9 * (i : Int) := IntWalk.i64_in _ (by omega)
            have Z3 : IntKind.i64.wrap ((N : Int) - 1 - 9 * (i : Int)) = (N : Int) - 1 - 9 * (i : Int) := IntWalk.i64_in _ (by omega)
            have Z4 : IntKind.i64.wrap ((N : Int) - 1 - 9 * (i : Int) - j) = (b : Int) := by rw [IntWalk.i64_in _ (by omega)]; omega
            have X1 : (q : Int) % 10 = d := by omega
            have X2 : IntKind.i64.wrap (48 + (d : Int)) = 48 + (d : Int) := by rw [IntWalk.i64_in _ (by omega)]
            have X3 : IntKind.u8.wrap (48 + (d : Int)) = 48 + (d : Int) := by rw [IntWalk.u8_in _ (by omega)]
            have X4 : Int.tmod (q : Int) 10 = d := by rw [Int.tmod_eq_emod_of_nonneg (by omega)]; exact X1
            have X5 : Int.tdiv (q : Int) 10 = ((q / 10 : Nat) : Int) := by rw [Int.tdiv_eq_ediv_of_nonneg (by omega)]; omega
            have HD := Lib.hid hd
            clear hst hvs hqn hq hd hNb
            go_wp2_with fail
            go_roundw
            case rel => exact ⟨j + 1, b, bs.set b (chr d), by omega, by rfl, congrArg (Value.int .i64) (by rw [HQN.out]; omega), Lib.hid (by have := haj.out; omega), HST.out⟩
            case measure => simp [intOf]; omega
          · have hje : j = 9 := by omega
            subst hje
            have hst := HS.out.cong (V' := val ((limbs n).take (i + 1))) (by rw [val_take_next, HL.out, Nat.mod_eq_of_lt (show L < 10 ^ 9 from hL9)])
            have HST := Lib.hid hst
            clear hst
            go_wp2_with fail
            go_roundw
            case rel => exact ⟨i + 1, a, bs, by omega, by rfl, Lib.hid (by have := haj.out; omega), HST.out⟩
            case measure => simp [intOf]; omega
      · have hie : i = m := by omega
        subst hie
        have ha0 : a = 0 := by have := hai.out; have := HN.out; omega
        subst ha0
        have hdb := HS.out.dig
        have hdc := HS.out.dec
        rw [List.drop_zero] at hdb hdc
        rw [List.take_of_length_le (by have := HM.out; omega), HVX.out] at hdc
        have hdn : dec bs = n := by omega
        have HDB := Lib.hid hdb
        have HDN := Lib.hid hdn
        clear hdb hdc hdn
        go_wp2_with fail
        go_loopw [7] (fun v7 ws => ∃ k : Nat, v7 = .int .i64 k ∧ k ≤ N ∧ Hid (∀ j, j < k → bs[j]? = some 48) ∧ ws = wr) (fun v7 _ => N - (intOf v7).toNat)
        case atStart => exact ⟨0, rfl, by omega, Lib.hid (fun j hj => by omega), rfl⟩
        case round =>
          obtain ⟨k, rfl, hk, hz, rfl⟩ := hrel
          have hkN : k < N := by
            refine Nat.lt_of_le_of_ne hk (fun e => ?_)
            subst e
            refine hn0 ?_
            rw [← HDN.out]
            have hall : ∀ b ∈ bs, b = 48 := by
              intro b hb
              obtain ⟨j, hj, e⟩ := List.getElem_of_mem hb
              have := hz.out j (by have := HS.out.len; omega)
              rw [List.getElem?_eq_getElem hj, e] at this
              exact Option.some.inj this
            clear HDN HDB HS hz
            induction bs with
            | nil => rfl
            | cons b bs ih => rw [dec_cons, ih (fun b hb => hall b (List.mem_cons_of_mem _ hb)), hall b List.mem_cons_self]; simp [dig]
          have hkb : k < (nums8 bs).length := by rw [nums8_len, HS.out.len]; exact hkN
          have hce := HS.out.arr.cell k hkb
          have hkl : k < bs.length := by rw [HS.out.len]; exact hkN
          have hrd : rd (nums8 bs) k = ((bs[k]).toNat : Int) := by
            rw [rd_getElem _ _ hkb]
            simp [nums8]
          rw [hrd] at hce
          clear hrd
          by_cases h48 : bs[k] = 48
          · have hc48 : ((bs[k]).toNat : Int) = 48 := by rw [h48]; rfl
            rw [hc48] at hce
            have HZ2 : Hid (∀ j, j < k + 1 → bs[j]? = some 48) := by
              refine Lib.hid (fun j hj => ?_)
              by_cases hjk : j = k
              · subst hjk; rw [List.getElem?_eq_getElem hkl, h48]
              · exact hz.out j (by omega)
            clear h48 hc48
            go_wp2_with fail
            go_roundw
            case rel => exact ⟨k + 1, by rfl, by omega, HZ2, trivial⟩
            case measure => simp [intOf]; omega
          · have hb48 : ((bs[k]).toNat : Int) ≠ 48 := fun e => h48 (UInt8.toNat_inj.1 (by have : (48 : UInt8).toNat = 48 := rfl; omega))
            have hbb : (((bs[k]).toNat : Int) == 48) = false := beq_eq_false_iff_ne.2 hb48
            have htr : Lib.trimLeftS bs [48] = bs.drop k := by
              refine Lib.trimLeftS_drop bs [48] k (by omega) (fun j b hj hb => ?_) (fun b hb => ?_)
              · rw [hz.out j hj] at hb
                rw [← Option.some.inj hb]; rfl
              · rw [List.getElem?_eq_getElem hkl] at hb
                rw [← Option.some.inj hb]
                simpa using h48
            have ht := trim_txt HDB.out (by rw [HDN.out]; exact hn0)
            rw [HDN.out, htr] at ht
            have hconv : (convert 113 9 (.slice (some ⟨w.heap.size, k, none⟩) (N - k) (N - k))).run Tryz.prog wr = .ok (.string ⟨(bs.drop k).toArray⟩) wr := by
              have := run_convert_bytes_back (P := Tryz.prog) wr 113 9 5 ⟨w.heap.size, k, none⟩ (N - k) (bs.drop k) Tryz.underlying113 Tryz.underlying5 Tryz.underlying9 (fun j hj => by
                have hl : k + j < bs.length := by rw [List.length_drop] at hj; omega
                have h1 := HS.out.arr.cell (k + j) (by rw [nums8_len]; exact hl)
                have e : (⟨w.heap.size, k, none⟩ : Addr).add j = ⟨w.heap.size, k + j, none⟩ := by unfold Addr.add; split <;> simp_all
                rw [e, h1, rd_getElem _ (k + j) (by rw [nums8_len]; exact hl)]
                simp [nums8, List.getD, hl])
              rw [List.length_drop, HS.out.len] at this
              exact this
            have HT := Lib.hid ht
            clear ht htr h48
            go_wp2_with fail
            go_ret
            exact ⟨by rw [← HT.out]; rfl, HS.out.below⟩

end Go.Proofs.YtjeamchaibialaaGreatDoor.RefD

/- The reference's whole number of a text, and its search for a limb: the walks. -/
namespace Go.Proofs.YtjeamchaibialaaGreatDoor.RefE
open Go.RowKit Go.Proofs.YtjeamchaibialaaGreatDoorW.PrintWords Go.Proofs.YtjeamchaibialaaGreatDoorW.PrintLast Go.Proofs.YtjeamchaibialaaGreatDoorW.PrintMore Fns Limbs Pure1 Pure3 Nats Arrs RefA RefB RefC RefD ReadWalk Texts

def RelO (w : World) (l : List UInt8) (v3 v4 : Value) (wr : World) : Prop :=
  ∃ (i : Nat) (z : Int) (out : List Int), v4 = .int .i64 z ∧ z = (l.length : Int) - 9 * i ∧ -9 < z ∧ out.length = i ∧ Lim out ∧ val out = (dec (l.drop (l.length - 9 * i)) : Nat) ∧
    (Kd.int .i64).R 3 wr w.heap.size (fun _ => True) v3 out ∧ Below w.heap.size w wr
theorem relO_step {w w2 : World} {l : List UInt8} {i hi lo dd : Nat} {out : List Int} {v1 : Value} (hz : (hi : Int) = (l.length : Int) - 9 * i) (hlo : lo = hi - 9) (hh : hi ≤ l.length ∧ 0 < hi) (ho : out.length = i) (hl : Lim out) (hv : val out = (dec (l.drop (l.length - 9 * i)) : Nat)) (hd : dd < 1000000000)
    (hc : dec (l.drop lo) = dd * 10 ^ (l.length - hi) + dec (l.drop hi)) (hR : (Kd.int .i64).R 3 w2 w.heap.size (fun _ => True) v1 (out ++ [(dd : Int)])) (hb : Below w.heap.size w w2) : RelO w l v1 (.int .i64 ((hi : Int) - 9)) w2 := by
  have e1 : l.length - 9 * (i + 1) = lo := by omega
  have e2 : l.length - 9 * i = hi := by omega
  have e3 : l.length - hi = 9 * i := by omega
  have e4 : val (out ++ [(dd : Int)]) = (dec (l.drop (l.length - 9 * (i + 1))) : Nat) := by
    rw [val_snoc, e1, hc, hv, ho, e2, e3, pw_ten, Int.natCast_add, Int.natCast_mul]
    rw [Int.mul_comm, Int.add_comm]
  have e5 : (out ++ [(dd : Int)]).length = i + 1 := by rw [List.length_append, ho, List.length_singleton]
  have e6 : Lim (out ++ [(dd : Int)]) := lim_append.2 ⟨hl, lim_cons.2 ⟨⟨Int.natCast_nonneg _, by omega⟩, lim_nil⟩⟩
  exact ⟨i + 1, (hi : Int) - 9, out ++ [(dd : Int)], rfl, by omega, by omega, e5, e6, e4, hR, hb⟩

set_option maxRecDepth 100000 in
set_option maxHeartbeats 400000 in
theorem of_calls (s : ByteArray) (hs : s.size ≤ 100000000) (hd : Hid (Dig s.data.toList)) (w : World) :
    Calls Tryz.prog 89 #[.string s] w fun e w' => ∃ v, e = .returned v ∧ IsI w' v (dec s.data.toList) ∧ Below w.heap.size w w' := by
  have hmk : ∀ W : World, (Instr.makeSlice 49 (.int .i64 0) (.int .i64 0)).run Tryz.prog W = .ok (.slice (some ⟨W.heap.size, 0, none⟩) 0 0) (W.alloc (.cells (madeCells #[.int .i64 0] 0) 3)) := fun W => run_make0I 0 (by omega) W
  obtain ⟨l, hl⟩ : ∃ l, l = s.data.toList := ⟨_, rfl⟩
  have hsl : s.size = l.length := by rw [hl, Lib.size_eq]
  have HL := Lib.hid hl
  have HSL := Lib.hid hsl
  rw [← hl] at hd ⊢
  clear hl hsl
  go_enter Tryz.func89, Tryz.ntmps89
  go_wp2_with fail
  clear hmk
  go_loopw [3, 4, 5, 6, 7] (fun v3 v4 _ _ _ wr => RelO w l v3 v4 wr) (fun _ v4 _ _ _ _ => (intOf v4).toNat)
  case atStart => exact ⟨0, l.length, [], by rw [HSL.out], by omega, by omega, rfl, lim_nil, by simp [dec, val], made0I_row w w 0 (by omega) (Below.refl _ _), LongWalk.belowA (Below.refl _ _) _⟩
  case round =>
    obtain ⟨i, z, out, rfl, hz, hz9, ho, hlm, hv, hR, hb⟩ := hrel
    obtain ⟨A3, c3, rfl, hc3, _⟩ := Kd.R_reads hR
    have HR := Lib.hid hR
    have HB := Lib.hid hb
    have HV := Lib.hid hv
    have HO := Lib.hid ho
    have HZ := Lib.hid hz
    clear hR hb hv ho hz
    by_cases hz0 : 0 < z
    · obtain ⟨hi, hhi⟩ : ∃ hi : Nat, z = hi := ⟨z.toNat, by omega⟩
      obtain ⟨lo, hlo⟩ : ∃ lo : Nat, lo = hi - 9 := ⟨_, rfl⟩
      subst hhi
      have hhl : hi ≤ s.size := by have := HZ.out; have := HSL.out; omega
      have W3 : IntKind.i64.wrap ((hi : Int) - 9) = (hi : Int) - 9 := IntWalk.i64_in _ (by omega)
      go_upto_if 18 with fail
      go_cut [5] (fun v5 wx => v5 = .int .i64 lo ∧ wx = wr)
      case first =>
        by_cases h9 : hi < 9
        · have h1 : (hi : Int) - 9 < 0 := by omega
          have h2 : lo = 0 := by omega
          subst h2
          go_wp2_with fail
          go_meet
          case rel => exact ⟨rfl, rfl⟩
        · have h1 : ¬ (hi : Int) - 9 < 0 := by omega
          have HH := Lib.hid (show (lo : Int) = (hi : Int) - 9 by omega)
          clear hlo
          go_wp2_with fail
          go_meet
          case rel => exact ⟨congrArg (Value.int .i64) HH.out.symm, rfl⟩
      case rest =>
        obtain ⟨rfl, hw⟩ := hcut
        rw [hw]
        clear hw W3
        have hlh : lo ≤ hi := by omega
        have hq9 : hi - lo ≤ 9 := by omega
        have HLO := Lib.hid hlo
        have HCS := Lib.hid (dec_chunk (l := l) hlh (by have := HSL.out; omega))
        have hcd : Dig ((l.take hi).drop lo) := fun b hb => hd.out b (List.mem_of_mem_take (List.mem_of_mem_drop hb))
        have hcsl : ((l.take hi).drop lo).length = hi - lo := by rw [List.length_drop, List.length_take]; have := HSL.out; omega
        have hcj : ∀ j k (hk : k < s.size), k = lo + j → j < hi - lo → ((l.take hi).drop lo).getD j 0 = s[k] := by
          rintro j k hj rfl hjq
          have h1 : lo + j < l.length := by rw [← HSL.out]; exact hj
          have h2 : ((l.take hi).drop lo)[j]? = some l[lo + j] := by
            rw [List.getElem?_drop, List.getElem?_take_of_lt (by omega), List.getElem?_eq_getElem h1]
          have h3 : s[lo + j] = l[lo + j] := by
            have : l[lo + j] = s.data.toList[lo + j]'(by rw [← HL.out]; exact h1) := by simp only [HL.out]
            rw [this]; rfl
          rw [List.getD, h2, h3]; rfl
        have HCJ := Lib.hid hcj
        have HCD := Lib.hid hcd
        have HCL := Lib.hid hcsl
        clear hlo hcj hcd hcsl
        generalize (l.take hi).drop lo = cs at *
        go_wp2_with fail
        go_loopw [6, 7] (fun v6 v7 ws => ∃ (j k : Nat), j ≤ hi - lo ∧ v7 = .int .i64 k ∧ Hid (k = lo + j) ∧ v6 = .int .i64 (dec (cs.take j) : Nat) ∧ ws = wr) (fun _ v7 _ => hi - (intOf v7).toNat)
        case atStart => exact ⟨0, lo, Nat.zero_le _, rfl, Lib.hid rfl, by simp [dec], rfl⟩
        case round =>
          obtain ⟨j, k, hj, rfl, hk, rfl, rfl⟩ := hrel
          by_cases hjq : j < hi - lo
          · have hks : k < s.size := by have := hk.out; omega
            have hki : (k : Int) < hi := by have := hk.out; omega
            have hx := HCJ.out j k hks hk.out hjq
            have hxr : 48 ≤ (cs.getD j 0).toNat ∧ (cs.getD j 0).toNat ≤ 57 := by
              have hl' : j < cs.length := by have := HCL.out; omega
              have := HCD.out _ (List.getElem_mem hl')
              simpa [List.getD, hl'] using this
            have hnx : dec (cs.take (j + 1)) = dec (cs.take j) * 10 + ((cs.getD j 0).toNat - 48) := by
              have hl' : j < cs.length := by have := HCL.out; omega
              rw [List.take_succ_eq_append_getElem hl', dec_snoc]
              simp [dig, List.getD, hl']
            have hd8 : dec (cs.take j) < 100000000 := by
              have h1 := dec_lt (l := cs.take j) (fun b hb => HCD.out b (List.mem_of_mem_take hb))
              have h2 : (10 : Nat) ^ (cs.take j).length ≤ 10 ^ 8 := Nat.pow_le_pow_right (by omega) (by rw [List.length_take]; omega)
              omega
            rw [hx] at hxr hnx
            generalize hdd : dec (cs.take j) = dd at *
            have HNX := Lib.hid hnx
            have X1 : IntKind.u8.wrap (((s[k]).toNat : Int) - 48) = ((s[k]).toNat : Int) - 48 := by rw [IntWalk.u8_in _ (by omega)]
            have X2 : IntKind.i64.wrap (((s[k]).toNat : Int) - 48) = ((s[k]).toNat : Int) - 48 := by rw [IntWalk.i64_in _ (by omega)]
            have X3 : IntKind.i64.wrap ((dd : Int) * 10) = (dd : Int) * 10 := by rw [IntWalk.i64_in _ (by omega)]
            have X4 : IntKind.i64.wrap ((dd : Int) * 10 + (((s[k]).toNat : Int) - 48)) = (dd : Int) * 10 + (((s[k]).toNat : Int) - 48) := by rw [IntWalk.i64_in _ (by omega)]
            clear hnx hdd hx
            go_wp2_with fail
            go_roundw
            case rel => exact ⟨j + 1, k + 1, by omega, by rfl, Lib.hid (by have := hk.out; omega), congrArg (Value.int .i64) (by rw [HNX.out]; omega), trivial⟩
            case measure => simp [intOf]; omega
          · have hje : j = hi - lo := by omega
            subst hje
            have hnk : ¬ (k : Int) < hi := by have := hk.out; omega
            have hd9 : dec (cs.take (hi - lo)) < 1000000000 := by
              have h1 := dec_lt (l := cs.take (hi - lo)) (fun b hb => HCD.out b (List.mem_of_mem_take hb))
              have h2 : (10 : Nat) ^ (cs.take (hi - lo)).length ≤ 10 ^ 9 := Nat.pow_le_pow_right (by omega) (by rw [List.length_take]; omega)
              omega
            have hdc : Hid (dec (cs.take (hi - lo)) = dec cs) := by
              show dec (cs.take (hi - lo)) = dec cs
              rw [List.take_of_length_le (by have := HCL.out; omega)]
            generalize dec (cs.take (hi - lo)) = dd at *
            have hol : out.length ≤ 20000000000 := by have := HO.out; have := HZ.out; have := HSL.out; omega
            have W3 : IntKind.i64.wrap ((hi : Int) - 9) = (hi : Int) - 9 := IntWalk.i64_in _ (by omega)
            go_wp2_with ((at_builtin; refine Kd.R_append (Kd.int .i64) (w0 := w) w.heap.size rfl (.tmp 33) (.tmp 35) 49 3 (.int .i64 0) 8 rfl Tryz.underlying49 info3 rfl (by decide) (by omega) (.slice A3 out.length c3) out (dd : Int) [.int .i64 (dd : Int)] (fun _ => True) (fun _ => False) rfl rfl ?aP (fun _ hk => hk.elim) ?aF ?aO ?aB ?aS ?aL ?_; (case aP => exact rfl); (case aF => exact (fun _ _ => trivial)); (case aO => exact HR.out); (case aB => exact HB.out); (case aS => exact HB.out.size); (case aL => omega); intro v1 w2 h1 h2 _ _; have H1 := Lib.hid h1; have H2 := Lib.hid h2; clear h1 h2))
            go_roundw
            case rel => exact relO_step HZ.out HLO.out (by have := HSL.out; omega) HO.out hlm HV.out hd9 (by rw [hdc.out]; exact HCS.out) H1.out H2.out
            case measure => simp [intOf]; omega
    · go_wp2_with fail
      refine (trim_calls out hlm (by have := HO.out; have := HZ.out; have := HSL.out; omega) _ _ (NatV.ofR HR.out)).mono ?_
      rintro e w2 ⟨v, rfl, h, ⟨dn, rfl⟩⟩
      have H := Lib.hid h
      clear h
      go_wp2_with fail
      go_ret
      refine ⟨_, rfl, ?_, below_step HB.out (Drawn0.below ⟨dn, rfl⟩)⟩
      have := H.out
      rw [HV.out, show l.length - 9 * i = 0 from by have := HZ.out; omega, List.drop_zero, Int.toNat_natCast] at this
      exact this

end Go.Proofs.YtjeamchaibialaaGreatDoor.RefE

/- The reference's quotients and common divisors: the walks. -/
namespace Go.Proofs.YtjeamchaibialaaGreatDoor.RefF
open Go.RowKit Go.Proofs.YtjeamchaibialaaGreatDoorW.PrintWords Go.Proofs.YtjeamchaibialaaGreatDoorW.PrintLast Go.Proofs.YtjeamchaibialaaGreatDoorW.PrintMore Fns Limbs Pure1 Pure3 Nats Arrs RefA RefB RefC RefD RefE

set_option maxRecDepth 100000 in
set_option maxHeartbeats 1000000 in
theorem times_calls (r b : Nat) (hb0 : b ≠ 0) (hrb : r < 1000000000 * b) (hlb : (limbs b).length ≤ 900000000) (hlr : (limbs r).length ≤ 900000000) (vr vb : Value) (w : World) (hR : Hid (IsI w vr r)) (hB : Hid (IsI w vb b)) :
    Calls Tryz.prog 96 #[vr, vb] w fun e w' => e = .returned (.int .i64 (r / b : Nat)) ∧ Below w.heap.size w w' := by
  have HRB := Lib.hid hrb
  clear hrb
  go_enter Tryz.func96, Tryz.ntmps96
  go_wp2_with fail
  go_loopw [5, 6, 7, 8] (fun v5 v6 _ _ wr => ∃ lo hi : Nat, v5 = .int .i64 lo ∧ v6 = .int .i64 hi ∧ lo ≤ hi ∧ hi ≤ 999999999 ∧ Hid (lo * b ≤ r) ∧ Hid (r < (hi + 1) * b) ∧ Hid (Below w.heap.size w wr)) (fun v5 v6 _ _ _ => (intOf v6 - intOf v5).toNat)
  case atStart => exact ⟨0, 999999999, rfl, rfl, by omega, by omega, Lib.hid (by omega), Lib.hid HRB.out, Lib.hid (Below.refl _ _)⟩
  case round =>
    obtain ⟨lo, hi, rfl, rfl, hlh, hh9, hlo, hhi, HB⟩ := hrel
    by_cases hlt : lo < hi
    · obtain ⟨mid, hmid⟩ : ∃ mid, mid = (lo + hi + 1) / 2 := ⟨_, rfl⟩
      have hm1 : lo < mid := by omega
      have hm2 : mid ≤ hi := by omega
      have W1 : IntKind.i64.wrap ((lo : Int) + hi) = (lo : Int) + hi := IntWalk.i64_in _ (by omega)
      have W2 : IntKind.i64.wrap ((lo : Int) + hi + 1) = (lo : Int) + hi + 1 := IntWalk.i64_in _ (by omega)
      have W3 : Int.tdiv ((lo : Int) + hi + 1) 2 = mid := by rw [Int.tdiv_eq_ediv_of_nonneg (by omega)]; omega
      have W4 : ((lo : Int) + hi + 1) / 2 = mid := by omega
      have W5 : IntKind.i64.wrap (mid : Int) = mid := IntWalk.i64_in _ (by omega)
      have W6 : IntKind.i64.wrap (Int.tdiv ((lo : Int) + hi + 1) 2) = mid := by rw [W3]; exact W5
      have W7 : IntKind.i64.wrap ((mid : Int) - 1) = (mid : Int) - 1 := IntWalk.i64_in _ (by omega)
      have HM := Lib.hid hmid
      clear hmid
      go_wp2_with fail
      refine (int_calls mid (by omega) _).mono ?_
      rintro e w1 ⟨v1, rfl, h1, hb1⟩
      have H1 := Lib.hid h1
      have HB1 := Lib.hid (below_step HB.out hb1)
      clear h1 hb1
      go_wp2_with fail
      have hp1 : pw 1 = 1000000000 := by simp [pw]
      have hlm : (limbs mid).length ≤ 1 := limbs_len_le (by omega)
      clear hp1
      refine (mul_calls b mid (by omega) (by omega) _ _ _ (isI_below hB.out HB1.out) H1.out).mono ?_
      rintro e w2 ⟨v2, rfl, h2, hb2⟩
      have H2 := Lib.hid h2
      have HB2 := Lib.hid (below_step HB1.out hb2)
      clear h2 hb2
      go_wp2_with fail
      have hlbm := limbs_len_mul b mid
      refine (cmp_calls (b * mid) r (by omega) (by omega) _ _ _ H2 (Lib.hid (isI_below hR.out HB2.out))).mono ?_
      rintro e w3 ⟨rfl, hb3⟩
      have HB3 := Lib.hid (below_step HB2.out hb3)
      clear hb3 hlbm hlm
      by_cases hle : b * mid ≤ r
      · have HS : sgn (b * mid) r ≤ 0 := by
          unfold sgn
          by_cases h : b * mid < r
          · rw [if_pos h]; omega
          · rw [if_neg h, if_neg (by omega)]; omega
        have HLE := Lib.hid hle
        generalize sgn (b * mid) r = z at *
        clear hle
        go_wp2_with fail
        go_roundw
        case rel => exact ⟨mid, hi, rfl, rfl, hm2, hh9, Lib.hid (by rw [Nat.mul_comm]; exact HLE.out), hhi, HB3⟩
        case measure => simp [intOf]; omega
      · have HS : ¬ sgn (b * mid) r ≤ 0 := by
          unfold sgn
          rw [if_neg (by omega), if_pos (by omega)]; omega
        have HLE := Lib.hid hle
        generalize sgn (b * mid) r = z at *
        clear hle
        go_wp2_with fail
        go_roundw
        case rel => exact ⟨lo, mid - 1, rfl, congrArg (Value.int .i64) (by omega), by omega, by omega, hlo, Lib.hid (by rw [Nat.sub_add_cancel (by omega), Nat.mul_comm]; exact Nat.lt_of_not_le HLE.out), HB3⟩
        case measure => simp [intOf]; omega
    · have he : hi = lo := by omega
      subst he
      have HQ : Hid (hi = r / b) := by
        show hi = r / b
        have h1 : hi ≤ r / b := (Nat.le_div_iff_mul_le (by omega)).2 hlo.out
        have h2 : r / b < hi + 1 := (Nat.div_lt_iff_lt_mul (by omega)).2 hhi.out
        omega
      go_wp2_with fail
      go_ret
      exact ⟨by rw [← HQ.out]; rfl, HB.out⟩

set_option maxRecDepth 100000 in
set_option maxHeartbeats 1000000 in
theorem trim_base (l : List Int) (hl : Lim l) (hn : l.length ≤ 1000000000000000) (A : Option Addr) (c : Nat) (w : World) (hV : NatV .i64 w (.slice A l.length c) l) :
    Calls Tryz.prog 94 #[.slice A l.length c] w fun e w' => ∃ n, e = .returned (.slice A n c) ∧ IsI w' (.slice A n c) (val l).toNat ∧ Drawn0 w w' := by
  have hc := hV.len.2.1
  have HV := Lib.hid hV
  clear hV
  go_enter Tryz.func94, Tryz.ntmps94
  go_wp2_with fail
  go_loopw [3] (fun v3 wr => ∃ i : Nat, i ≤ l.length ∧ v3 = .int .i64 i ∧ Hid (val (l.take i) = val l) ∧ Drawn0 w wr) (fun v3 _ => (intOf v3).toNat)
  case atStart => exact ⟨l.length, Nat.le_refl _, rfl, by rw [List.take_length]; rfl, Drawn0.refl _⟩
  case round =>
    obtain ⟨i, hi, rfl, hv, ⟨m, rfl⟩⟩ := hrel
    cases i with
    | zero =>
      go_wp2_with fail
      go_ret
      refine ⟨0, rfl, ?_, ⟨m, rfl⟩⟩
      have : val l = 0 := hv.out.symm
      unfold IsI
      rw [this, show (0 : Int).toNat = 0 from rfl, limbs_zero]
      exact NatV.nil _ _ _ _
    | succ i =>
      obtain ⟨ad, rfl, hcx⟩ := HV.out.cell i (by omega)
      have hs := Lib.hid (val_take_succ l i (by omega))
      by_cases c0 : rd l i = 0
      · have b0 : (rd l i == 0) = true := beq_iff_eq.2 c0
        have HC := Lib.hid c0
        clear c0
        go_wp2_with fail
        go_roundw
        case rel => exact ⟨i, by omega, rfl, (by have := hs.out; have h2 := hv.out; rw [HC.out] at this; show val (l.take i) = val l; omega), ⟨m, rfl⟩⟩
        case measure => simp [intOf]
      · have b0 : (rd l i == 0) = false := beq_eq_false_iff_ne.2 c0
        have HC := Lib.hid c0
        clear c0
        go_wp2_with fail
        go_ret
        refine ⟨i + 1, rfl, ?_, ⟨m, rfl⟩⟩
        have e : l.take (i + 1) = limbs (val l).toNat := by
          rw [← hv.out]
          refine limbs_of (lim_take hl _) (.inr ?_)
          rw [List.length_take, Nat.min_eq_left hi, Nat.add_sub_cancel, rd_take _ _ _ (by omega)]
          exact HC.out
        unfold IsI
        rw [← e]
        exact (HV.out.take_ (i + 1) hi).below (Drawn0.below ⟨m, rfl⟩)

theorem div_step {x L : List Int} {b R S d : Nat} {i : Nat} (hi : i < x.length) (hL : L.length = x.length) (hv : val (L.drop (i + 1)) * b + R = val (x.drop (i + 1))) 
    (hS : (S : Int) = rd x i + 1000000000 * R) (hd : S = d * b + (S - d * b)) : val ((L.set i (d : Int)).drop i) * b + (S - d * b : Nat) = val (x.drop i) := by
  rw [val_drop x i hi, ← hv, val_drop _ i (by rw [List.length_set]; omega), rd_set_self _ _ _ (by omega), List.drop_set_of_lt (by omega)]
  have h1 : ((S - d * b : Nat) : Int) = S - d * b := by
    have : d * b ≤ S := by omega
    rw [Int.natCast_sub this, Int.natCast_mul]
  rw [h1, hS]
  generalize val (L.drop (i + 1)) = q at *
  grind
theorem div_zero {x L : List Int} {b R S : Nat} {i : Nat} (hi : i < x.length) (hL : L.length = x.length) (hv : val (L.drop (i + 1)) * b + R = val (x.drop (i + 1))) (hz : rd L i = 0)
    (hS : (S : Int) = rd x i + 1000000000 * R) : val (L.drop i) * b + S = val (x.drop i) := by
  rw [val_drop x i hi, ← hv, val_drop L i (by omega), hz, hS]
  generalize val (L.drop (i + 1)) = q at *
  grind

def OutD (a b : Nat) (w : World) (e : Ending) (w' : World) : Prop := ∃ v1 v2, e = .returned (.tuple #[v1, v2]) ∧ IsI w' v1 (a / b) ∧ IsI w' v2 (a % b) ∧ Below w.heap.size w w'
set_option maxRecDepth 100000 in
set_option maxHeartbeats 1000000 in
theorem div_small (a b : Nat) (hb0 : b ≠ 0) (ha2 : (limbs a).length ≤ 2) (hb2 : (limbs b).length ≤ 2) (va vb : Value) (w : World) (hA : Hid (IsI w va a)) (hB : Hid (IsI w vb b)) :
    Calls Tryz.prog 50 #[va, vb] w (OutD a b w) := by
  have ha9 := OverWalk.len2 ha2
  have hb9 := OverWalk.len2 hb2
  have hsa := small_calls a (by omega) va w hA
  have hsb := small_calls b (by omega) vb w hB
  rw [if_pos ha2, decide_eq_true ha2] at hsa
  rw [if_pos hb2, decide_eq_true hb2] at hsb
  have HSA := Lib.hid hsa
  have HSB := Lib.hid hsb
  clear hsa hsb ha2 hb2
  obtain ⟨q, hq⟩ : ∃ q, q = a / b := ⟨_, rfl⟩
  obtain ⟨r, hr⟩ : ∃ r, r = a % b := ⟨_, rfl⟩
  have hq9 : q < 9000000000000000000 := by rw [hq]; exact Nat.lt_of_le_of_lt (Nat.div_le_self _ _) (by omega)
  have hr9 : r < 9000000000000000000 := by rw [hr]; exact Nat.lt_of_le_of_lt (Nat.mod_le _ _) (by omega)
  have X1 : Int.tdiv (a : Int) b = q := by rw [Int.tdiv_eq_ediv_of_nonneg (by omega), ← Int.natCast_ediv, ← hq]
  have X2 : (a : Int) / b = q := by rw [← Int.natCast_ediv, ← hq]
  have X3 : Int.tmod (a : Int) b = r := by rw [Int.tmod_eq_emod_of_nonneg (by omega), ← Int.natCast_emod, ← hr]
  have X4 : (a : Int) % b = r := by rw [← Int.natCast_emod, ← hr]
  have W1 : IntKind.i64.wrap (q : Int) = q := IntWalk.i64_in _ (by omega)
  have W2 : IntKind.i64.wrap (r : Int) = r := IntWalk.i64_in _ (by omega)
  have W3 : IntKind.i64.wrap (Int.tdiv (a : Int) b) = q := by rw [X1]; exact W1
  have W4 : IntKind.i64.wrap (Int.tmod (a : Int) b) = r := by rw [X3]; exact W2
  have W5 : IntKind.i64.wrap ((a : Int) / b) = q := by rw [X2]; exact W1
  have W6 : IntKind.i64.wrap ((a : Int) % b) = r := by rw [X4]; exact W2
  have hz : ((b : Int) == 0) = false := beq_eq_false_iff_ne.2 (by omega)
  have hz' : (b : Int) ≠ 0 := by omega
  have HQ := Lib.hid (And.intro hq hr)
  have HIQ := Lib.hid (fun W => int_calls q hq9 W)
  have HIR := Lib.hid (fun W => int_calls r hr9 W)
  clear hq hr
  go_enter Tryz.func50, Tryz.ntmps50
  go_wp2_with fail
  refine HSA.out.mono ?_
  rintro e w1 ⟨rfl, rfl⟩
  go_wp2_with fail
  refine HSB.out.mono ?_
  rintro e w1 ⟨rfl, rfl⟩
  clear HSA HSB
  go_wp2_with fail
  go_region_with (go_at_call 48; first
    | (with_reducible refine (HIQ.out _).mono ?_; rintro e w2 ⟨v1, rfl, hv1, hb1⟩)
    | (with_reducible refine (HIR.out _).mono ?_; rintro e w3 ⟨v2, rfl, hv2, hb2⟩))
  all_goals
    have H1 := Lib.hid hv1
    have H2 := Lib.hid hv2
    have HB1 := Lib.hid hb1
    have HB2 := Lib.hid hb2
    have HD := Lib.hid (Drawn0.below (w := w1) (w' := w1.drew) ⟨1, rfl⟩)
    clear hv1 hv2 hb1 hb2
    go_wp2_with fail
    go_ret2
    first
      | exact ⟨_, _, rfl, by rw [← HQ.out.1]; exact isI_below H1.out HB2.out, by rw [← HQ.out.2]; exact H2.out, below_step (below_step HD.out HB1.out) HB2.out⟩
      | exact ⟨_, _, rfl, by rw [← HQ.out.1]; exact H1.out, by rw [← HQ.out.2]; exact isI_below H2.out HB1.out, below_step (below_step HD.out HB2.out) HB1.out⟩

def RelD (w : World) (x : List Int) (b : Nat) (v11 v12 : Value) (L : List Int) (g : Nat) (wr : World) : Prop :=
  ∃ (i R : Nat) (z : Int), i ≤ x.length ∧ v12 = .int .i64 z ∧ z = (i : Int) - 1 ∧ IsI wr v11 R ∧ R < b ∧ L.length = x.length ∧ Lim L ∧ (∀ p : Nat, p < i → rd L p = 0) ∧ val (L.drop i) * b + R = val (x.drop i) ∧
    Arr .i64 3 wr g L ∧ Below w.heap.size w wr
set_option maxRecDepth 100000 in
set_option maxHeartbeats 2000000 in
theorem div_long (a b : Nat) (hb0 : b ≠ 0) (hn2 : ¬ ((limbs a).length ≤ 2 ∧ (limbs b).length ≤ 2)) (hla : (limbs a).length ≤ 800000000) (hlb : (limbs b).length ≤ 800000000) (va vb : Value) (w : World) (hA : Hid (IsI w va a)) (hB : Hid (IsI w vb b)) :
    Calls Tryz.prog 50 #[va, vb] w (OutD a b w) := by
  have hsa := small_calls a (by omega) va w hA
  have hsb := small_calls b (by omega) vb w hB
  have hpp : ¬ (decide ((limbs a).length ≤ 2) = true ∧ decide ((limbs b).length ≤ 2) = true) := fun h => hn2 ⟨of_decide_eq_true h.1, of_decide_eq_true h.2⟩
  generalize (if (limbs a).length ≤ 2 then (a : Int) else 0) = ua at hsa
  generalize (if (limbs b).length ≤ 2 then (b : Int) else 0) = ub at hsb
  generalize decide ((limbs a).length ≤ 2) = pa at hsa hpp
  generalize decide ((limbs b).length ≤ 2) = pb at hsb hpp
  have HSA := Lib.hid hsa
  have HSB := Lib.hid hsb
  clear hsa hsb hn2
  obtain ⟨A, c, rfl, hc⟩ := hA.out.form
  have hX : Hid (NatV .i64 w (.slice A (limbs a).length c) (limbs a)) := hA
  have hlx := limbs_lim a
  have HVX := Lib.hid (val_limbs a)
  generalize hx : limbs a = x at *
  have HX := Lib.hid hx
  clear hx hA
  have hmk : ∀ W : World, (Instr.makeSlice 49 (.int .i64 (x.length : Int)) (.int .i64 (x.length : Int))).run Tryz.prog W = .ok (.slice (some ⟨W.heap.size, 0, none⟩) x.length x.length) (W.alloc (.cells (madeCells #[.int .i64 0] x.length) 3)) := fun W => run_makeI x.length (by omega) W
  have hmk0 : ∀ W : World, (Instr.makeSlice 49 (.int .i64 0) (.int .i64 0)).run Tryz.prog W = .ok (.slice (some ⟨W.heap.size, 0, none⟩) 0 0) (W.alloc (.cells (madeCells #[.int .i64 0] 0) 3)) := fun W => run_make0I 0 (by omega) W
  have W0 : IntKind.i64.wrap ((x.length : Int) - 1) = (x.length : Int) - 1 := IntWalk.i64_in _ (by omega)
  go_enter Tryz.func50, Tryz.ntmps50
  go_wp2_with fail
  refine HSA.out.mono ?_
  rintro e w1 ⟨rfl, rfl⟩
  go_wp2_with fail
  refine HSB.out.mono ?_
  rintro e w1 ⟨rfl, rfl⟩
  clear HSA HSB
  go_upto_region 3 with fail
  go_cut [28] (fun v wx => v = .bool false ∧ wx = w1)
  case first =>
    cases pa
    · go_wp2_with fail
      go_meet
      case rel => exact ⟨rfl, rfl⟩
    · cases pb
      · go_wp2_with fail
        go_meet
        case rel => exact ⟨rfl, rfl⟩
      · exact absurd ⟨rfl, rfl⟩ hpp
  case rest =>
    obtain ⟨rfl, hw⟩ := hcut
    rw [hw]
    clear hw hpp
    go_wp2_with fail
    clear hmk hmk0 W0
    go_loopw [11, 12, 13, 14] (fun v11 v12 _ _ wr => ∃ L, RelD w1 x b v11 v12 L w1.heap.size wr) (fun _ v12 _ _ _ => (intOf v12 + 1).toNat)
    case atStart =>
      refine ⟨List.replicate x.length 0, x.length, 0, (x.length : Int) - 1, Nat.le_refl _, rfl, rfl, ?_, by omega, by simp, lim_replicate _, fun p _ => rd_replicate _ _, ?_, ?_, ?_⟩
      · unfold IsI; rw [limbs_zero]; exact NatV.nil _ _ _ _
      · rw [List.drop_length, List.drop_of_length_le (by simp)]; simp [val]
      · exact (Arr.made .i64 3 w1 x.length).alloc _
      · exact LongWalk.belowA (LongWalk.belowA (Below.refl _ _) _) _
    case round =>
      obtain ⟨L, i, R, z, hi, rfl, hz, hR, hRb, hL, hlm, hzr, hv, hArr, hbel⟩ := hrel
      have HR := Lib.hid hR
      have HV := Lib.hid hv
      have HA := Lib.hid hArr
      have HB' := Lib.hid hbel
      have HZ := Lib.hid hzr
      have HL := Lib.hid hL
      obtain ⟨AR, cR, rfl, hcR⟩ := hR.form
      clear hR hv hArr hbel hzr hL
      cases i with
      | zero =>
        have hz0 : z = -1 := by omega
        subst hz0
        have hv0 : val L * b + R = a := by have := HV.out; rw [List.drop_zero, List.drop_zero, HVX.out] at this; exact this
        have hq : (val L).toNat = a / b ∧ R = a % b := by
          have h0 := (val_range hlm).1
          obtain ⟨q, hq⟩ := Int.eq_ofNat_of_zero_le h0
          rw [hq] at hv0
          have h1 : q * b + R = a := by
            have : ((q * b + R : Nat) : Int) = (a : Int) := by rw [Int.natCast_add, Int.natCast_mul]; exact hv0
            exact Int.ofNat.inj this
          rw [hq, Int.toNat_natCast]
          constructor
          · rw [← h1, Nat.mul_comm, Nat.mul_add_div (by omega), Nat.div_eq_of_lt hRb, Nat.add_zero]
          · rw [← h1, Nat.mul_comm, Nat.mul_add_mod, Nat.mod_eq_of_lt hRb]
        have HQ := Lib.hid hq
        clear hq hv0 hz
        go_wp2_with fail
        have hw := HA.out.whole x.length (by rw [HL.out]; exact Nat.le_refl _) (by have := HL.out; omega)
        rw [HL.out] at hw
        refine (trim_calls L hlm (by have := HL.out; omega) _ _ hw).mono ?_
        rintro e w2 ⟨v, rfl, h, hD⟩
        have H := Lib.hid h
        have HD := Lib.hid hD
        clear h hD hw
        go_wp2_with fail
        go_ret2
        have h := H.out
        rw [HQ.out.1] at h
        exact ⟨_, _, rfl, h, by rw [← HQ.out.2]; exact isI_below HR.out HD.out.below, below_step HB'.out HD.out.below⟩
      | succ i =>
        obtain ⟨wo, hwo⟩ : ∃ wo, wo = wr := ⟨_, rfl⟩
        subst hwo
        have hz0 : z = (i : Int) := by omega
        subst hz0
        have hxi := lim_rd hlx i
        have hlR : (limbs R).length ≤ 800000000 := Nat.le_trans (limbs_len_mono (Nat.le_of_lt hRb)) hlb
        have W1 : IntKind.i64.wrap (((limbs R).length : Int) + 1) = ((limbs R).length : Int) + 1 := IntWalk.i64_in _ (by omega)
        have hmk : ∀ W : World, (Instr.makeSlice 49 (.int .i64 0) (.int .i64 (((limbs R).length : Int) + 1))).run Tryz.prog W = .ok (.slice (some ⟨W.heap.size, 0, none⟩) 0 ((limbs R).length + 1)) (W.alloc (.cells (madeCells #[.int .i64 0] ((limbs R).length + 1)) 3)) := fun W => by
          have := run_make0I ((limbs R).length + 1) (by omega) W
          rw [Int.natCast_add] at this
          exact this
        obtain ⟨S, hS⟩ : ∃ S : Nat, (S : Int) = rd x i + 1000000000 * R := ⟨(rd x i + 1000000000 * R).toNat, by omega⟩
        have hSb : S < 1000000000 * b := by
          have h1 : (S : Int) < 1000000000 * b := by
            have : (R : Int) + 1 ≤ b := by omega
            omega
          omega
        have hlS : (limbs S).length ≤ 850000000 := by
          have h1 := limbs_len_mul 1000000000 b
          have h2 : (limbs 1000000000).length ≤ 2 := limbs_len_le (by simp [pw])
          have h3 := limbs_len_mono (Nat.le_of_lt hSb)
          omega
        have HS := Lib.hid hS
        clear hS hz
        go_upto_region 11 with fail
        clear hmk W1
        have hbw : Below wo.heap.size wo (wo.alloc (.cells (madeCells #[.int .i64 0] ((limbs R).length + 1)) 3)) := (Below.refl _ _).alloc (Nat.le_refl _) _
        have hro := made0I_row wo wo ((limbs R).length + 1) (by omega) (Below.refl _ _)
        obtain ⟨g, hg⟩ : ∃ g, g = wo.heap.size := ⟨_, rfl⟩
        obtain ⟨ad, rfl, hcx⟩ := (hX.out.below (below_step HB'.out hbw)).cell i (by omega)
        have hgs : Hid (Value.slice (some ⟨wo.heap.size, 0, none⟩) 0 ((limbs R).length + 1) = .slice (some ⟨g, 0, none⟩) 0 ((limbs R).length + 1)) := Lib.hid (by rw [hg])
        rw [hgs.out] at hro ⊢
        have HRO := Lib.hid hro
        have HBO := Lib.hid hbw
        clear hbw hro hg hgs
        generalize wo.alloc (.cells (madeCells #[.int .i64 0] ((limbs R).length + 1)) 3) = wn at *
        generalize hu : rd x i = u at *
        have HU := Lib.hid hu
        clear hu
        go_wp2_with ((at_builtin; refine Kd.R_append (Kd.int .i64) (w0 := wo) wo.heap.size rfl (.tmp 52) (.tmp 57) 49 3 (.int .i64 0) 8 rfl Tryz.underlying49 info3 rfl (by decide) (by omega) (.slice (some ⟨g, 0, none⟩) 0 ((limbs R).length + 1)) [] (u) [.int .i64 (u)] (fun _ => True) (fun _ => False) rfl rfl ?aP (fun _ hk => hk.elim) ?aF ?aO ?aB ?aS ?aL ?_; (case aP => exact rfl); (case aF => exact (fun _ _ => trivial)); (case aO => exact HRO.out); (case aB => exact HBO.out); (case aS => exact HBO.out.size); (case aL => simp); intro v1 w2 h1 h2 _ _; have H1 := Lib.hid h1; have H2 := Lib.hid h2; clear h1 h2))
        clear HRO HBO hcx
        go_loopw [13, 14] (fun v13 v14 ws => ∃ k : Nat, k ≤ (limbs R).length ∧ v14 = .int .i64 k ∧ Hid ((Kd.int .i64).R 3 ws wo.heap.size (fun _ => True) v13 (u :: (limbs R).take k)) ∧ Hid (Below wo.heap.size wo ws)) (fun _ v14 _ => (limbs R).length - (intOf v14).toNat)
        case atStart => exact ⟨0, Nat.zero_le _, rfl, H1, H2⟩
        case round =>
          clear H1 H2
          obtain ⟨k, hk, rfl, HRO, HBO⟩ := hrel
          obtain ⟨A3, c3, rfl, hc3, _⟩ := Kd.R_reads HRO.out
          by_cases hkl : k < (limbs R).length
          · obtain ⟨rad, rfl, hcr⟩ := (NatV.below HR.out HBO.out).cell k hkl
            have htk : Hid (u :: (limbs R).take (k + 1) = (u :: (limbs R).take k) ++ [rd (limbs R) k]) := Lib.hid (by rw [take_snoc _ _ hkl]; rfl)
            have hlen : (u :: (limbs R).take k).length = k + 1 := by rw [List.length_cons, List.length_take]; omega
            have hlen' : (u :: (limbs R).take k).length ≤ 900000000 := by omega
            clear hlen
            generalize u :: (limbs R).take k = ol at *
            generalize rd (limbs R) k = y at *
            go_wp2_with ((at_builtin; refine Kd.R_append (Kd.int .i64) (w0 := wo) wo.heap.size rfl (.tmp 65) (.tmp 70) 49 3 (.int .i64 0) 8 rfl Tryz.underlying49 info3 rfl (by decide) (by omega) (.slice A3 ol.length c3) ol (y) [.int .i64 (y)] (fun _ => True) (fun _ => False) rfl rfl ?aP (fun _ hk => hk.elim) ?aF ?aO ?aB ?aS ?aL ?_; (case aP => exact rfl); (case aF => exact (fun _ _ => trivial)); (case aO => exact HRO.out); (case aB => exact HBO.out); (case aS => exact HBO.out.size); (case aL => omega); intro v1 w2 h1 h2 _ _; have H1 := Lib.hid h1; have H2 := Lib.hid h2; clear h1 h2))
            go_roundw
            case rel => exact ⟨k + 1, by omega, by rfl, by rw [htk.out]; exact H1, H2⟩
            case measure => simp [intOf]; omega
          · have hke : k = (limbs R).length := by omega
            subst hke
            have hval : val (u :: (limbs R).take (limbs R).length) = S := by
              rw [List.take_length, val_cons, val_limbs, HS.out]
            have hlim : Lim (u :: (limbs R).take (limbs R).length) := by
              rw [List.take_length]
              exact lim_cons.2 ⟨hxi, limbs_lim R⟩
            have hlen : (u :: (limbs R).take (limbs R).length).length ≤ 900000000 := by rw [List.take_length, List.length_cons]; omega
            have hnv := NatV.ofR HRO.out
            have hbs := Kd.R_base HRO.out
            have HVL := Lib.hid (And.intro hval hlim)
            generalize u :: (limbs R).take (limbs R).length = ol at *
            clear hval hlim
            have HNV := Lib.hid hnv
            have hA3 : ∀ ad, A3 = some ad → ad.block ≠ w1.heap.size := by
              intro ad he
              have h1 := hbs ad.block (by rw [he]; rfl)
              have h2 := HA.out.lt
              omega
            have HA3 := Lib.hid hA3
            clear hnv HRO hbs hA3
            go_wp2_with fail
            refine (trim_base ol HVL.out.2 (by omega) _ _ _ HNV.out).mono ?_
            rintro e w2 ⟨nS, rfl, hS2, hD2⟩
            rw [HVL.out.1, Int.toNat_natCast] at hS2
            have HS2 := Lib.hid hS2
            have HBO2 := Lib.hid (below_step HBO.out hD2.below)
            clear hS2 hD2 HNV HBO
            go_wp2_with fail
            refine (cmp_calls S b (by omega) (by omega) _ _ _ HS2 (Lib.hid (isI_below hB.out (below_step HB'.out HBO2.out)))).mono ?_
            rintro e w3 ⟨rfl, hb3⟩
            have HS3 := Lib.hid (isI_below HS2.out hb3)
            have HBO3 := Lib.hid (below_step HBO2.out hb3)
            clear hb3 HS2 HBO2
            by_cases hSb2 : S < b
            · have hsg : sgn S b < 0 := by unfold sgn; rw [if_pos hSb2]; omega
              have hsg2 : ¬ 0 ≤ sgn S b := by omega
              have HSB := Lib.hid hSb2
              have W3 : IntKind.i64.wrap ((i : Int) - 1) = (i : Int) - 1 := IntWalk.i64_in _ (by omega)
              generalize sgn S b = zz at *
              clear hSb2
              go_wp2_with fail
              go_roundw
              case rel => exact ⟨L, i, S, (i : Int) - 1, by omega, rfl, rfl, HS3.out, HSB.out, HL.out, hlm, fun p hp => HZ.out p (by omega), div_zero (by omega) HL.out HV.out (HZ.out i (by omega)) (by rw [HU.out]; exact HS.out), HA.out.below HBO3.out, below_step HB'.out HBO3.out⟩
              case measure => simp [intOf]
            · have hsg : ¬ sgn S b < 0 := by
                unfold sgn
                rw [if_neg hSb2]
                split <;> omega
              have hsg2 : 0 ≤ sgn S b := by omega
              have HSB := Lib.hid hSb2
              generalize sgn S b = zz at *
              clear hSb2
              go_wp2_with fail
              refine (times_calls S b hb0 hSb (by omega) (by omega) _ _ _ HS3 (Lib.hid (isI_below hB.out (below_step HB'.out HBO3.out)))).mono ?_
              rintro e w4 ⟨rfl, hb4⟩
              have HB4 := Lib.hid (below_step HBO3.out hb4)
              have HS4 := Lib.hid (isI_below HS3.out hb4)
              clear hb4 HS3 HBO3
              have hd9 : S / b < 1000000000 := (Nat.div_lt_iff_lt_mul (by omega)).2 hSb
              have hdm : S / b * b ≤ S := Nat.div_mul_le_self S b
              have hrem : S - S / b * b < b := by
                have := Nat.mod_lt S (y := b) (by omega)
                have h2 := Nat.div_add_mod S b
                rw [Nat.mul_comm] at h2
                omega
              obtain ⟨d, hd⟩ : ∃ d, d = S / b := ⟨_, rfl⟩
              rw [← hd] at hd9 hdm hrem ⊢
              have HDM := Lib.hid (And.intro hdm hrem)
              clear hdm hrem hd
              have hA4 := HA.out.below HB4.out
              have hil : i < L.length := by rw [HL.out]; omega
              have hcl := hA4.cell i hil
              have hfr := hA4.frozen i
              have HA5 := Lib.hid (hA4.set i (d : Int) hil)
              have HBS := Lib.hid ((below_step HB'.out HB4.out).setCell (p := ⟨w1.heap.size, i, none⟩) (Nat.le_refl _) (.int .i64 (d : Int)))
              have HSS : Hid (IsI (w4.setCell ⟨w1.heap.size, i, none⟩ (.int .i64 (d : Int))) (.slice A3 nS c3) S) := Lib.hid (NatV.other HS4.out HA3.out (Go.Proofs.YtjeamchaibialaaGreatDoor.Heaps.grown_set _ _ _ _))
              clear hA4 hil HS4 HB4
              go_upto_region 19 with fail
              generalize w4.setCell ⟨w1.heap.size, i, none⟩ (.int .i64 (d : Int)) = w5 at *
              clear hcl hfr
              have hcl := HA5.out.cell i (by rw [List.length_set, HL.out]; omega)
              have hfr := HA5.out.frozen i
              rw [rd_set_self _ _ _ (by rw [HL.out]; omega)] at hcl
              go_wp2_with fail
              refine (int_calls d (by omega) _).mono ?_
              rintro e w6 ⟨v6, rfl, h6, hb6⟩
              have H6 := Lib.hid h6
              have HB6 := Lib.hid hb6
              clear h6 hb6 hcl hfr
              go_wp2_with fail
              have hl6 : (limbs d).length ≤ 1 := limbs_len_le (by simp [pw]; omega)
              refine (mul_calls b d (by omega) (by omega) _ _ _ (isI_below hB.out (below_step HBS.out HB6.out)) H6.out).mono ?_
              rintro e w7 ⟨v7, rfl, h7, hb7⟩
              have H7 := Lib.hid h7
              have HB7 := Lib.hid (below_step HB6.out hb7)
              clear h7 hb7 H6 HB6
              go_wp2_with fail
              refine (sub_calls S (b * d) (by rw [Nat.mul_comm]; exact HDM.out.1) (by omega) _ _ _ (isI_below HSS.out HB7.out) H7.out).mono ?_
              rintro e w8 ⟨v8, rfl, h8, hb8⟩
              have H8 := Lib.hid h8
              have HB8 := Lib.hid (below_step HB7.out hb8)
              clear h8 hb8 H7 HB7
              have W3 : IntKind.i64.wrap ((i : Int) - 1) = (i : Int) - 1 := IntWalk.i64_in _ (by omega)
              go_wp2_with fail
              go_roundw
              case rel => exact ⟨L.set i d, i, S - b * d, (i : Int) - 1, by omega, rfl, rfl, H8.out, by rw [Nat.mul_comm]; exact HDM.out.2, by rw [List.length_set]; exact HL.out, lim_set hlm _ (by omega) (by omega), fun p hp => by rw [rd_set_ne _ _ _ _ (by omega)]; exact HZ.out p (by omega), by rw [Nat.mul_comm b d]; exact div_step (by omega) HL.out HV.out (by rw [HU.out]; exact HS.out) (by have := HDM.out.1; omega), HA5.out.below HB8.out, below_step HBS.out HB8.out⟩
              case measure => simp [intOf]

end Go.Proofs.YtjeamchaibialaaGreatDoor.RefF
