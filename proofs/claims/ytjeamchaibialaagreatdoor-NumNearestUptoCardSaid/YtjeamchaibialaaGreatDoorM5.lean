/- Joined: Quo Mul Plus2 Adds Subs Cmp Pair -/
import Derived.Test.YtjeamchaibialaaGreatDoorM4
set_option linter.unusedVariables false
set_option linter.unusedSimpArgs false
/- big's quotient: the walk. -/
namespace Go.Proofs.YtjeamchaibialaaGreatDoor.QuoWalk
open Go.RowKit Go.Proofs.YtjeamchaibialaaGreatDoorW.PrintWords Go.Proofs.YtjeamchaibialaaGreatDoorW.PrintLast Go.Proofs.YtjeamchaibialaaGreatDoorW.PrintMore Fns Limbs Pure1 Nats Go.Proofs.YtjeamchaibialaaGreatDoor.Told ReadWalk Texts Rats Parses Heaps Go.Proofs.YtjeamchaibialaaGreatDoor.Ints Go.Proofs.YtjeamchaibialaaGreatDoor.PutWalk Go.Proofs.YtjeamchaibialaaGreatDoor.Ops

set_option maxRecDepth 100000 in
set_option maxHeartbeats 1000000 in
theorem calls (p q : Rat) (hq : q ≠ 0) (hp : Sizes.Sz p 40000000) (hqz : Sizes.Sz q 40000000) (gx gy g : Nat) (h1 : g ≠ gx) (h2 : g ≠ gy) (w : World) (hx : RatAt w gx p) (hy : RatAt w gy q) (hz : Fit w g) :
    Calls Tryz.prog 111 #[.pointer (some ⟨g, 0, none⟩), .pointer (some ⟨gx, 0, none⟩), .pointer (some ⟨gy, 0, none⟩)] w (Out (p / q) g w) := by
  have hxx := hx
  have hyy := hy
  obtain ⟨A, B, c, d, hB, hn, hd⟩ := hxx
  obtain ⟨A', B', c', d', hB', hn', hd'⟩ := hyy
  have hS : w.cell? ⟨gx, 0, none⟩ = some (.bool (decide (p.num < 0))) ∧ w.cell? ⟨gy, 0, none⟩ = some (.bool (decide (q.num < 0))) ∧ w.cell? ⟨gx, 1, none⟩ = some (.slice A (limbs p.num.natAbs).length c) ∧ w.cell? ⟨gy, 1, none⟩ = some (.slice A' (limbs q.num.natAbs).length c') ∧
      Args w gx gy g p q (.slice A (limbs p.num.natAbs).length c) (.slice A' (limbs q.num.natAbs).length c') w :=
    ⟨hB.cell 0, hB'.cell 0, hB.cell 1, hB'.cell 1, hx, hy, hn, hn', hz, Keeps.refl w, grown_below (Below.refl _ _)⟩
  have hqn : q.num.natAbs ≠ 0 := by
    intro e
    exact hq (Rat.num_eq_zero.1 (by omega))
  have e1 := Sizes.div_frac (p := p) hq
  rw [e1]
  have m1 := limbs_len_mul p.num.natAbs q.den
  have m2 := limbs_len_mul p.den q.num.natAbs
  have p1 := hp.1
  have p2 := hp.2
  have q1 := hqz.1
  have q2 := hqz.2
  have m3 : p.den * q.num.natAbs ≠ 0 := Nat.mul_ne_zero p.den_nz hqn
  have m4 : (limbs (p.num.natAbs * q.den)).length ≤ 100000000 := by omega
  have m5 : (limbs (p.den * q.num.natAbs)).length ≤ 100000000 := by omega
  have p1' : (limbs p.num.natAbs).length ≤ 30000000000 := by omega
  have p2' : (limbs p.den).length ≤ 30000000000 := by omega
  have q1' : (limbs q.num.natAbs).length ≤ 30000000000 := by omega
  have q2' : (limbs q.den).length ≤ 30000000000 := by omega
  clear hB hn hd hB' hn' hd' hx hy hz hp hqz e1 m1 m2 p1 p2 q1 q2 hqn
  go_enter Tryz.func111, Tryz.ntmps111
  go_upto_region 1 with fail
  go_region_held3 (fun W => W.cell? ⟨gx, 0, none⟩ = some (.bool (decide (p.num < 0))) ∧ W.cell? ⟨gy, 0, none⟩ = some (.bool (decide (q.num < 0))) ∧ W.cell? ⟨gx, 1, none⟩ = some (.slice A (limbs p.num.natAbs).length c) ∧ W.cell? ⟨gy, 1, none⟩ = some (.slice A' (limbs q.num.natAbs).length c') ∧
      Args w gx gy g p q (.slice A (limbs p.num.natAbs).length c) (.slice A' (limbs q.num.natAbs).length c') W)
    (first | exact held_below hS (Drawn0.below ⟨1, rfl⟩) | exact held_below (by assumption) (by assumption) | exact held_put (by assumption) h1 h2 (by assumption) (by assumption) (by assumption))
    (first
      | (go_at_call 67; first
          | (with_reducible refine (RatTell.low_calls p gx _ (nx_of (by assumption)).x).mono ?_; rintro e w' ⟨v, rfl, hv, hb⟩)
          | (with_reducible refine (RatTell.low_calls q gy _ (nx_of (by assumption)).y).mono ?_; rintro e w' ⟨v, rfl, hv, hb⟩))
      | (go_at_call 66; first
          | (with_reducible refine (times_calls p.num.natAbs q.den p1' q2' (.slice A (limbs p.num.natAbs).length c) _ _ (nx_of (by assumption)).nx ?_).mono ?_; (first | assumption | exact isU_below (by assumption) (by assumption) | exact isU_below (isU_below (by assumption) (by assumption)) (by assumption) | exact isU_below (isU_below (isU_below (by assumption) (by assumption)) (by assumption)) (by assumption)); rintro e w' ⟨v, rfl, hv, hb⟩)
          | (with_reducible refine (times_calls p.den q.num.natAbs p2' q1' _ (.slice A' (limbs q.num.natAbs).length c') _ ?_ (nx_of (by assumption)).ny).mono ?_; (first | assumption | exact isU_below (by assumption) (by assumption) | exact isU_below (isU_below (by assumption) (by assumption)) (by assumption) | exact isU_below (isU_below (isU_below (by assumption) (by assumption)) (by assumption)) (by assumption)); rintro e w' ⟨v, rfl, hv, hb⟩))
      | (go_at_call 108; refine (put_fit (decide (p.num < 0) != decide (q.num < 0)) (p.num.natAbs * q.den) (p.den * q.num.natAbs) m3 m4 m5 g _ _ _ (nx_of (by assumption)).z ?_ ?_).mono ?_; (first | assumption | exact isU_below (by assumption) (by assumption) | exact isU_below (isU_below (by assumption) (by assumption)) (by assumption)); (first | assumption | exact isU_below (by assumption) (by assumption) | exact isU_below (isU_below (by assumption) (by assumption)) (by assumption)); rintro e w' ⟨rfl, hr, hk, hg⟩))
  all_goals
    go_wp2_with fail
    go_ret
    exact ⟨rfl, by assumption, (nx_of (by assumption)).keeps, (nx_of (by assumption)).grown⟩

end Go.Proofs.YtjeamchaibialaaGreatDoor.QuoWalk

/- big's product: the walk. -/
namespace Go.Proofs.YtjeamchaibialaaGreatDoor.MulWalk
open Go.RowKit Go.Proofs.YtjeamchaibialaaGreatDoorW.PrintWords Go.Proofs.YtjeamchaibialaaGreatDoorW.PrintLast Go.Proofs.YtjeamchaibialaaGreatDoorW.PrintMore Fns Limbs Pure1 Nats Go.Proofs.YtjeamchaibialaaGreatDoor.Told ReadWalk Texts Rats Parses Heaps Go.Proofs.YtjeamchaibialaaGreatDoor.Ints Go.Proofs.YtjeamchaibialaaGreatDoor.PutWalk Go.Proofs.YtjeamchaibialaaGreatDoor.Ops Go.Proofs.YtjeamchaibialaaGreatDoor.TinyWalk

set_option maxRecDepth 100000 in
set_option maxHeartbeats 1000000 in
theorem calls (p q : Rat) (hp : Sizes.Sz p 40000000) (hqz : Sizes.Sz q 40000000) (gx gy g : Nat) (h1 : g ≠ gx) (h2 : g ≠ gy) (w : World) (hx : RatAt w gx p) (hy : RatAt w gy q) (hz : Fit w g) :
    Calls Tryz.prog 131 #[.pointer (some ⟨g, 0, none⟩), .pointer (some ⟨gx, 0, none⟩), .pointer (some ⟨gy, 0, none⟩)] w (Out (p * q) g w) := by
  have HX := Lib.hid hx
  have HY := Lib.hid hy
  have HZ := Lib.hid hz
  by_cases hs : Small p ∧ Small q
  · rw [Rat.mul_def']
    clear hp hqz h1 h2 hx hy hz
    have HS := Lib.hid hs
    have n1 := mul_lt hs.1.1 hs.2.1
    have n2 := mul_lt hs.1.2 hs.2.2
    have n3 : p.den * q.den ≠ 0 := Nat.mul_ne_zero p.den_nz q.den_nz
    have n4 : (p.num * q.num).natAbs < 1000000000000000000 := by rw [Int.natAbs_mul]; exact n1
    have W1 : IntKind.i64.wrap (p.num * q.num) = p.num * q.num := IntWalk.i64_in _ (by omega)
    have W2 : IntKind.i64.wrap ((p.den : Int) * q.den) = ((p.den * q.den : Nat) : Int) := by rw [← Int.natCast_mul]; exact IntWalk.i64_in _ (by omega)
    clear hs n1
    go_enter Tryz.func131, Tryz.ntmps131
    go_wp2_with fail
    refine (tiny_yes p HS.out.1 gx _ HX.out).mono ?_
    rintro e w1 ⟨rfl, rfl⟩
    go_wp2_with fail
    refine (tiny_yes q HS.out.2 gy _ HY.out).mono ?_
    rintro e w2 ⟨rfl, rfl⟩
    go_wp2_with fail
    refine (take_z (p.num * q.num) (p.den * q.den) (by omega) n3 (by omega) g _ HZ.out).mono ?_
    rintro e w3 ⟨rfl, hr, hk, hg⟩
    have H := Lib.hid (And.intro hr (And.intro hk hg))
    clear hr hk hg
    go_wp2_with fail
    go_ret
    exact ⟨rfl, H.out⟩
  · obtain ⟨A, B, c, d, hB, hn, hd⟩ := HX.out
    obtain ⟨A', B', c', d', hB', hn', hd'⟩ := HY.out
    have hS : w.cell? ⟨gx, 0, none⟩ = some (.bool (decide (p.num < 0))) ∧ w.cell? ⟨gy, 0, none⟩ = some (.bool (decide (q.num < 0))) ∧ w.cell? ⟨gx, 1, none⟩ = some (.slice A (limbs p.num.natAbs).length c) ∧ w.cell? ⟨gy, 1, none⟩ = some (.slice A' (limbs q.num.natAbs).length c') ∧
        Args w gx gy g p q (.slice A (limbs p.num.natAbs).length c) (.slice A' (limbs q.num.natAbs).length c') w :=
      ⟨hB.cell 0, hB'.cell 0, hB.cell 1, hB'.cell 1, hx, hy, hn, hn', hz, Keeps.refl w, grown_below (Below.refl _ _)⟩
    have HS := Lib.hid hS
    have e1 := frac_mul (decide (p.num < 0)) (decide (q.num < 0)) p.num.natAbs q.num.natAbs p.den q.den
    rw [frac_self, frac_self] at e1
    rw [e1]
    have m1 := limbs_len_mul p.num.natAbs q.num.natAbs
    have m2 := limbs_len_mul p.den q.den
    have p1 := hp.1
    have p2 := hp.2
    have q1 := hqz.1
    have q2 := hqz.2
    have m3 : p.den * q.den ≠ 0 := Nat.mul_ne_zero p.den_nz q.den_nz
    have m4 : (limbs (p.num.natAbs * q.num.natAbs)).length ≤ 100000000 := by omega
    have m5 : (limbs (p.den * q.den)).length ≤ 100000000 := by omega
    have p1' : (limbs p.num.natAbs).length ≤ 30000000000 := by omega
    have p2' : (limbs p.den).length ≤ 30000000000 := by omega
    have q1' : (limbs q.num.natAbs).length ≤ 30000000000 := by omega
    have q2' : (limbs q.den).length ≤ 30000000000 := by omega
    have hgo : ¬ Small p ∨ Small p ∧ ¬ Small q := by
      by_cases h : Small p
      · exact .inr ⟨h, fun h' => hs ⟨h, h'⟩⟩
      · exact .inl h
    clear hB hn hd hB' hn' hd' hx hy hz hp hqz e1 m1 m2 p1 p2 q1 q2 hs hS
    go_enter Tryz.func131, Tryz.ntmps131
    rcases hgo with hnp | ⟨hsp, hnq⟩
    · have HN := Lib.hid hnp
      clear hnp
      go_wp2_with fail
      refine (tiny_no p HN.out gx _ HX.out).mono ?_
      rintro e w1 ⟨rfl, rfl⟩
      clear HN HX HY HZ
      go_upto_region 6 with fail
      have hS := HS.out
      clear HS
      go_region_held3 (fun (W : World) => W.cell? ⟨gx, 0, none⟩ = some (.bool (decide (p.num < 0))) ∧ W.cell? ⟨gy, 0, none⟩ = some (.bool (decide (q.num < 0))) ∧ W.cell? ⟨gx, 1, none⟩ = some (.slice A (limbs p.num.natAbs).length c) ∧ W.cell? ⟨gy, 1, none⟩ = some (.slice A' (limbs q.num.natAbs).length c') ∧
          Args w1 gx gy g p q (.slice A (limbs p.num.natAbs).length c) (.slice A' (limbs q.num.natAbs).length c') W)
        (first | exact held_below hS (Drawn0.below ⟨1, rfl⟩) | exact held_below (by assumption) (by assumption) | exact held_put (by assumption) h1 h2 (by assumption) (by assumption) (by assumption))
        (first
          | (go_at_call 67; first
              | (with_reducible refine (RatTell.low_calls p gx _ (nx_of (by assumption)).x).mono ?_; rintro e w' ⟨v, rfl, hv, hb⟩)
              | (with_reducible refine (RatTell.low_calls q gy _ (nx_of (by assumption)).y).mono ?_; rintro e w' ⟨v, rfl, hv, hb⟩))
          | (go_at_call 66; first
              | (with_reducible refine (times_calls p.num.natAbs q.num.natAbs p1' q1' (.slice A (limbs p.num.natAbs).length c) (.slice A' (limbs q.num.natAbs).length c') _ (nx_of (by assumption)).nx (nx_of (by assumption)).ny).mono ?_; rintro e w' ⟨v, rfl, hv, hb⟩)
              | (with_reducible refine (times_calls p.den q.den p2' q2' _ _ _ ?_ ?_).mono ?_; (first | assumption | exact isU_below (by assumption) (by assumption) | exact isU_below (isU_below (by assumption) (by assumption)) (by assumption) | exact isU_below (isU_below (isU_below (by assumption) (by assumption)) (by assumption)) (by assumption)); (first | assumption | exact isU_below (by assumption) (by assumption) | exact isU_below (isU_below (by assumption) (by assumption)) (by assumption) | exact isU_below (isU_below (isU_below (by assumption) (by assumption)) (by assumption)) (by assumption)); rintro e w' ⟨v, rfl, hv, hb⟩))
          | (go_at_call 108; refine (put_fit (decide (p.num < 0) != decide (q.num < 0)) (p.num.natAbs * q.num.natAbs) (p.den * q.den) m3 m4 m5 g _ _ _ (nx_of (by assumption)).z ?_ ?_).mono ?_; (first | assumption | exact isU_below (by assumption) (by assumption) | exact isU_below (isU_below (by assumption) (by assumption)) (by assumption) | exact isU_below (isU_below (isU_below (by assumption) (by assumption)) (by assumption)) (by assumption)); (first | assumption | exact isU_below (by assumption) (by assumption) | exact isU_below (isU_below (by assumption) (by assumption)) (by assumption) | exact isU_below (isU_below (isU_below (by assumption) (by assumption)) (by assumption)) (by assumption)); rintro e w' ⟨rfl, hr, hk, hg⟩))
      all_goals
        go_wp2_with fail
        go_ret
        exact ⟨rfl, by assumption, (nx_of (by assumption)).keeps, (nx_of (by assumption)).grown⟩
    · have HN := Lib.hid (And.intro hsp hnq)
      clear hsp hnq
      go_wp2_with fail
      refine (tiny_yes p HN.out.1 gx _ HX.out).mono ?_
      rintro e w1 ⟨rfl, rfl⟩
      go_wp2_with fail
      refine (tiny_no q HN.out.2 gy _ HY.out).mono ?_
      rintro e w1 ⟨rfl, rfl⟩
      clear HN HX HY HZ
      go_upto_region 6 with fail
      have hS := HS.out
      clear HS
      go_region_held3 (fun (W : World) => W.cell? ⟨gx, 0, none⟩ = some (.bool (decide (p.num < 0))) ∧ W.cell? ⟨gy, 0, none⟩ = some (.bool (decide (q.num < 0))) ∧ W.cell? ⟨gx, 1, none⟩ = some (.slice A (limbs p.num.natAbs).length c) ∧ W.cell? ⟨gy, 1, none⟩ = some (.slice A' (limbs q.num.natAbs).length c') ∧
          Args w1 gx gy g p q (.slice A (limbs p.num.natAbs).length c) (.slice A' (limbs q.num.natAbs).length c') W)
        (first | exact held_below hS (Drawn0.below ⟨1, rfl⟩) | exact held_below (by assumption) (by assumption) | exact held_put (by assumption) h1 h2 (by assumption) (by assumption) (by assumption))
        (first
          | (go_at_call 67; first
              | (with_reducible refine (RatTell.low_calls p gx _ (nx_of (by assumption)).x).mono ?_; rintro e w' ⟨v, rfl, hv, hb⟩)
              | (with_reducible refine (RatTell.low_calls q gy _ (nx_of (by assumption)).y).mono ?_; rintro e w' ⟨v, rfl, hv, hb⟩))
          | (go_at_call 66; first
              | (with_reducible refine (times_calls p.num.natAbs q.num.natAbs p1' q1' (.slice A (limbs p.num.natAbs).length c) (.slice A' (limbs q.num.natAbs).length c') _ (nx_of (by assumption)).nx (nx_of (by assumption)).ny).mono ?_; rintro e w' ⟨v, rfl, hv, hb⟩)
              | (with_reducible refine (times_calls p.den q.den p2' q2' _ _ _ ?_ ?_).mono ?_; (first | assumption | exact isU_below (by assumption) (by assumption) | exact isU_below (isU_below (by assumption) (by assumption)) (by assumption) | exact isU_below (isU_below (isU_below (by assumption) (by assumption)) (by assumption)) (by assumption)); (first | assumption | exact isU_below (by assumption) (by assumption) | exact isU_below (isU_below (by assumption) (by assumption)) (by assumption) | exact isU_below (isU_below (isU_below (by assumption) (by assumption)) (by assumption)) (by assumption)); rintro e w' ⟨v, rfl, hv, hb⟩))
          | (go_at_call 108; refine (put_fit (decide (p.num < 0) != decide (q.num < 0)) (p.num.natAbs * q.num.natAbs) (p.den * q.den) m3 m4 m5 g _ _ _ (nx_of (by assumption)).z ?_ ?_).mono ?_; (first | assumption | exact isU_below (by assumption) (by assumption) | exact isU_below (isU_below (by assumption) (by assumption)) (by assumption) | exact isU_below (isU_below (isU_below (by assumption) (by assumption)) (by assumption)) (by assumption)); (first | assumption | exact isU_below (by assumption) (by assumption) | exact isU_below (isU_below (by assumption) (by assumption)) (by assumption) | exact isU_below (isU_below (isU_below (by assumption) (by assumption)) (by assumption)) (by assumption)); rintro e w' ⟨rfl, hr, hk, hg⟩))
      all_goals
        go_wp2_with fail
        go_ret
        exact ⟨rfl, by assumption, (nx_of (by assumption)).keeps, (nx_of (by assumption)).grown⟩

end Go.Proofs.YtjeamchaibialaaGreatDoor.MulWalk

/- Sums of fractions: plain facts. -/
namespace Go.Proofs.YtjeamchaibialaaGreatDoor.PlusMid
open Rats

theorem sg_scale (a : Bool) (n e : Nat) : sg a (n * e) = sg a n * e := by cases a <;> simp [sg, Int.neg_mul]
theorem back_add {p q : Rat} {s : Bool} {k : Nat} (h : sg s k = sg (decide (p.num < 0)) (p.num.natAbs * q.den) + sg (decide (q.num < 0)) (q.num.natAbs * p.den)) : frac s k (p.den * q.den) = p + q := by
  rw [Rat.add_def']
  unfold frac
  rw [h, sg_scale, sg_scale, sg_self, sg_self]
theorem back_sub {p q : Rat} {s : Bool} {k : Nat} (h : sg s k = sg (decide (p.num < 0)) (p.num.natAbs * q.den) + sg (!decide (q.num < 0)) (q.num.natAbs * p.den)) : frac s k (p.den * q.den) = p - q := by
  rw [Rat.sub_def']
  unfold frac
  rw [h, sg_scale, sg_scale, sg_self, ← sg_opp, sg_self, Int.neg_mul, ← Int.sub_eq_add_neg]

end Go.Proofs.YtjeamchaibialaaGreatDoor.PlusMid

/- big's sum: the walk. -/
namespace Go.Proofs.YtjeamchaibialaaGreatDoor.AddsWalk
open Go.RowKit Go.Proofs.YtjeamchaibialaaGreatDoorW.PrintWords Go.Proofs.YtjeamchaibialaaGreatDoorW.PrintLast Go.Proofs.YtjeamchaibialaaGreatDoorW.PrintMore Fns Limbs Pure1 Nats Go.Proofs.YtjeamchaibialaaGreatDoor.Told ReadWalk Texts Rats Parses Heaps Go.Proofs.YtjeamchaibialaaGreatDoor.Ints Go.Proofs.YtjeamchaibialaaGreatDoor.PutWalk Go.Proofs.YtjeamchaibialaaGreatDoor.Ops Go.Proofs.YtjeamchaibialaaGreatDoor.TinyWalk Go.Proofs.YtjeamchaibialaaGreatDoor.PlusMid

structure Mid (w : World) (gx gy g : Nat) (p q : Rat) (vx vy v : Value) (s : Bool) (k : Nat) (W : World) : Prop where
  args : Args w gx gy g p q vx vy W
  val : IsU W v k
  sum : sg s k = sg (decide (p.num < 0)) (p.num.natAbs * q.den) + sg (decide (q.num < 0)) (q.num.natAbs * p.den)
  len : (limbs k).length ≤ 100000000

set_option maxRecDepth 100000 in
set_option maxHeartbeats 1000000 in
theorem calls (p q : Rat) (hp : Sizes.Sz p 40000000) (hqz : Sizes.Sz q 40000000) (gx gy g : Nat) (h1 : g ≠ gx) (h2 : g ≠ gy) (w : World) (hx : RatAt w gx p) (hy : RatAt w gy q) (hz : Fit w g) :
    Calls Tryz.prog 115 #[.pointer (some ⟨g, 0, none⟩), .pointer (some ⟨gx, 0, none⟩), .pointer (some ⟨gy, 0, none⟩), .bool false] w (Out (p + q) g w) := by
  have HX := Lib.hid hx
  have HY := Lib.hid hy
  have HZ := Lib.hid hz
  by_cases hs : Small p ∧ Small q
  · rw [Rat.add_def']
    clear hp hqz h1 h2 hx hy hz
    have HS := Lib.hid hs
    have n1 := mul_lt hs.1.1 hs.2.2
    have n1' := mul_lt hs.2.1 hs.1.2
    have n2 := mul_lt hs.1.2 hs.2.2
    have n3 : p.den * q.den ≠ 0 := Nat.mul_ne_zero p.den_nz q.den_nz
    have e1 : (p.num * q.den).natAbs < 1000000000000000000 := by rw [Int.natAbs_mul, Int.natAbs_natCast]; exact n1
    have e2 : (q.num * p.den).natAbs < 1000000000000000000 := by rw [Int.natAbs_mul, Int.natAbs_natCast]; exact n1'
    have n4 : (p.num * q.den + q.num * p.den).natAbs < 9000000000000000000 := by omega
    have W1 : IntKind.i64.wrap (p.num * (q.den : Int)) = p.num * q.den := IntWalk.i64_in _ (by omega)
    have W2 : IntKind.i64.wrap ((p.den : Int) * q.den) = ((p.den * q.den : Nat) : Int) := by rw [← Int.natCast_mul]; exact IntWalk.i64_in _ (by omega)
    have W4 : IntKind.i64.wrap (q.num * (p.den : Int)) = q.num * p.den := IntWalk.i64_in _ (by omega)
    have W5 : IntKind.i64.wrap (p.num * (q.den : Int) + q.num * (p.den : Int)) = p.num * q.den + q.num * p.den := IntWalk.i64_in _ (by omega)
    clear hs n1 n1'
    go_enter Tryz.func115, Tryz.ntmps115
    go_wp2_with fail
    refine (tiny_yes p HS.out.1 gx _ HX.out).mono ?_
    rintro e w1 ⟨rfl, rfl⟩
    go_wp2_with fail
    refine (tiny_yes q HS.out.2 gy _ HY.out).mono ?_
    rintro e w2 ⟨rfl, rfl⟩
    go_wp2_with fail
    refine (take_z (p.num * q.den + q.num * p.den) (p.den * q.den) (by omega) n3 (by omega) g _ HZ.out).mono ?_
    rintro e w3 ⟨rfl, hr, hk, hg⟩
    have H := Lib.hid (And.intro hr (And.intro hk hg))
    clear hr hk hg
    go_wp2_with fail
    go_ret
    exact ⟨rfl, H.out⟩
  · obtain ⟨A, B, c, d, hB, hn, hd⟩ := HX.out
    obtain ⟨A', B', c', d', hB', hn', hd'⟩ := HY.out
    have hS : w.cell? ⟨gx, 0, none⟩ = some (.bool (decide (p.num < 0))) ∧ w.cell? ⟨gy, 0, none⟩ = some (.bool (decide (q.num < 0))) ∧ w.cell? ⟨gx, 1, none⟩ = some (.slice A (limbs p.num.natAbs).length c) ∧ w.cell? ⟨gy, 1, none⟩ = some (.slice A' (limbs q.num.natAbs).length c') ∧
        Args w gx gy g p q (.slice A (limbs p.num.natAbs).length c) (.slice A' (limbs q.num.natAbs).length c') w :=
      ⟨hB.cell 0, hB'.cell 0, hB.cell 1, hB'.cell 1, hx, hy, hn, hn', hz, Keeps.refl w, grown_below (Below.refl _ _)⟩
    have HS := Lib.hid hS
    have m1 := limbs_len_mul p.num.natAbs q.den
    have m0 := limbs_len_mul q.num.natAbs p.den
    have m2 := limbs_len_mul p.den q.den
    have p1 := hp.1
    have p2 := hp.2
    have q1 := hqz.1
    have q2 := hqz.2
    have m3 : p.den * q.den ≠ 0 := Nat.mul_ne_zero p.den_nz q.den_nz
    have m4 : (limbs (p.num.natAbs * q.den)).length ≤ 90000000 := by omega
    have m6 : (limbs (q.num.natAbs * p.den)).length ≤ 90000000 := by omega
    have m5 : (limbs (p.den * q.den)).length ≤ 100000000 := by omega
    have p1' : (limbs p.num.natAbs).length ≤ 30000000000 := by omega
    have p2' : (limbs p.den).length ≤ 30000000000 := by omega
    have q1' : (limbs q.num.natAbs).length ≤ 30000000000 := by omega
    have q2' : (limbs q.den).length ≤ 30000000000 := by omega
    have hgo : ¬ Small p ∨ Small p ∧ ¬ Small q := by
      by_cases h : Small p
      · exact .inr ⟨h, fun h' => hs ⟨h, h'⟩⟩
      · exact .inl h
    clear hB hn hd hB' hn' hd' hx hy hz hp hqz m1 m0 m2 p1 p2 q1 q2 hs hS
    go_enter Tryz.func115, Tryz.ntmps115
    rcases hgo with hnp | ⟨hsp, hnq⟩
    · have HN := Lib.hid hnp
      clear hnp
      go_wp2_with fail
      refine (tiny_no p HN.out gx _ HX.out).mono ?_
      rintro e w1 ⟨rfl, rfl⟩
      clear HN HX HY HZ
      go_upto_region 8 with fail
      have hS := HS.out
      clear HS
      go_cut [15, 16] (fun v15 v16 wx => ∃ s k, v15 = .bool s ∧ Mid w1 gx gy g p q (.slice A (limbs p.num.natAbs).length c) (.slice A' (limbs q.num.natAbs).length c') v16 s k wx)
      case first =>
        go_region_held3 (fun (W : World) => W.cell? ⟨gx, 0, none⟩ = some (.bool (decide (p.num < 0))) ∧ W.cell? ⟨gy, 0, none⟩ = some (.bool (decide (q.num < 0))) ∧ W.cell? ⟨gx, 1, none⟩ = some (.slice A (limbs p.num.natAbs).length c) ∧ W.cell? ⟨gy, 1, none⟩ = some (.slice A' (limbs q.num.natAbs).length c') ∧
            Args w1 gx gy g p q (.slice A (limbs p.num.natAbs).length c) (.slice A' (limbs q.num.natAbs).length c') W)
          (first | exact held_below hS (Drawn0.below ⟨1, rfl⟩) | exact held_below (by assumption) (by assumption))
          (first
            | (go_at_call 67; first
                | (with_reducible refine (RatTell.low_calls p gx _ (nx_of (by assumption)).x).mono ?_; rintro e w' ⟨v, rfl, hv, hb⟩)
                | (with_reducible refine (RatTell.low_calls q gy _ (nx_of (by assumption)).y).mono ?_; rintro e w' ⟨v, rfl, hv, hb⟩))
            | (go_at_call 66; first
                | (with_reducible refine (times_calls p.num.natAbs q.den p1' q2' (.slice A (limbs p.num.natAbs).length c) _ _ (nx_of (by assumption)).nx ?_).mono ?_; (first | assumption | exact isU_below (by assumption) (by assumption) | exact isU_below (isU_below (by assumption) (by assumption)) (by assumption) | exact isU_below (isU_below (isU_below (by assumption) (by assumption)) (by assumption)) (by assumption)); rintro e w' ⟨v, rfl, hv, hb⟩)
                | (with_reducible refine (times_calls q.num.natAbs p.den q1' p2' (.slice A' (limbs q.num.natAbs).length c') _ _ (nx_of (by assumption)).ny ?_).mono ?_; (first | assumption | exact isU_below (by assumption) (by assumption) | exact isU_below (isU_below (by assumption) (by assumption)) (by assumption) | exact isU_below (isU_below (isU_below (by assumption) (by assumption)) (by assumption)) (by assumption)); rintro e w' ⟨v, rfl, hv, hb⟩))
            | (go_at_call 113; refine (SumWalk.sum_calls (decide (p.num < 0)) (decide (q.num < 0)) (p.num.natAbs * q.den) (q.num.natAbs * p.den) m4 m6 _ _ _ ?_ ?_).mono ?_; (first | assumption | exact isU_below (by assumption) (by assumption) | exact isU_below (isU_below (by assumption) (by assumption)) (by assumption) | exact isU_below (isU_below (isU_below (by assumption) (by assumption)) (by assumption)) (by assumption)); (first | assumption | exact isU_below (by assumption) (by assumption) | exact isU_below (isU_below (by assumption) (by assumption)) (by assumption) | exact isU_below (isU_below (isU_below (by assumption) (by assumption)) (by assumption)) (by assumption)); rintro e w' ⟨s, v, k, rfl, hv, hsum, hlen, hb⟩))
        all_goals
          go_wp2_with fail
          go_meet
          exact ⟨_, _, rfl, (nx_of (by assumption)), by assumption, by assumption, by assumption⟩
      case rest =>
        obtain ⟨s, k, rfl, hM⟩ := hcut
        have HM := Lib.hid hM
        have ha := Lib.hid hM.args.x
        clear hM hS
        go_wp2_with fail
        refine (RatTell.low_calls p gx _ ha.out).mono ?_
        rintro e w2 ⟨v2, rfl, hv, hb⟩
        have HA2 := Lib.hid (HM.out.args.below hb)
        have HK2 := Lib.hid (isU_below HM.out.val hb)
        have HV2 := Lib.hid hv
        clear hv hb
        go_wp2_with fail
        refine (RatTell.low_calls q gy _ HA2.out.y).mono ?_
        rintro e w3 ⟨v3, rfl, hv, hb⟩
        have HA3 := Lib.hid (HA2.out.below hb)
        have HK3 := Lib.hid (isU_below HK2.out hb)
        have HV3 := Lib.hid (And.intro (isU_below HV2.out hb) hv)
        clear hv hb
        go_wp2_with fail
        refine (times_calls p.den q.den p2' q2' _ _ _ HV3.out.1 HV3.out.2).mono ?_
        rintro e w4 ⟨v4, rfl, hv, hb⟩
        have HA4 := Lib.hid (HA3.out.below hb)
        have HK4 := Lib.hid (isU_below HK3.out hb)
        have HV4 := Lib.hid hv
        clear hv hb
        go_wp2_with fail
        refine (put_fit s k (p.den * q.den) m3 HM.out.len m5 g _ _ _ HA4.out.z HK4.out HV4.out).mono ?_
        rintro e w5 ⟨rfl, hr, hk, hg⟩
        have H := Lib.hid (And.intro hr (And.intro (HA4.out.keeps.trans hk) (HA4.out.grown.trans hg)))
        clear hr hk hg
        go_wp2_with fail
        go_ret
        have h := H.out
        rw [back_add HM.out.sum] at h
        exact ⟨rfl, h⟩
    · have HN := Lib.hid (And.intro hsp hnq)
      clear hsp hnq
      go_wp2_with fail
      refine (tiny_yes p HN.out.1 gx _ HX.out).mono ?_
      rintro e w1 ⟨rfl, rfl⟩
      go_wp2_with fail
      refine (tiny_no q HN.out.2 gy _ HY.out).mono ?_
      rintro e w1 ⟨rfl, rfl⟩
      clear HN HX HY HZ
      go_upto_region 8 with fail
      have hS := HS.out
      clear HS
      go_cut [15, 16] (fun v15 v16 wx => ∃ s k, v15 = .bool s ∧ Mid w1 gx gy g p q (.slice A (limbs p.num.natAbs).length c) (.slice A' (limbs q.num.natAbs).length c') v16 s k wx)
      case first =>
        go_region_held3 (fun (W : World) => W.cell? ⟨gx, 0, none⟩ = some (.bool (decide (p.num < 0))) ∧ W.cell? ⟨gy, 0, none⟩ = some (.bool (decide (q.num < 0))) ∧ W.cell? ⟨gx, 1, none⟩ = some (.slice A (limbs p.num.natAbs).length c) ∧ W.cell? ⟨gy, 1, none⟩ = some (.slice A' (limbs q.num.natAbs).length c') ∧
            Args w1 gx gy g p q (.slice A (limbs p.num.natAbs).length c) (.slice A' (limbs q.num.natAbs).length c') W)
          (first | exact held_below hS (Drawn0.below ⟨1, rfl⟩) | exact held_below (by assumption) (by assumption))
          (first
            | (go_at_call 67; first
                | (with_reducible refine (RatTell.low_calls p gx _ (nx_of (by assumption)).x).mono ?_; rintro e w' ⟨v, rfl, hv, hb⟩)
                | (with_reducible refine (RatTell.low_calls q gy _ (nx_of (by assumption)).y).mono ?_; rintro e w' ⟨v, rfl, hv, hb⟩))
            | (go_at_call 66; first
                | (with_reducible refine (times_calls p.num.natAbs q.den p1' q2' (.slice A (limbs p.num.natAbs).length c) _ _ (nx_of (by assumption)).nx ?_).mono ?_; (first | assumption | exact isU_below (by assumption) (by assumption) | exact isU_below (isU_below (by assumption) (by assumption)) (by assumption) | exact isU_below (isU_below (isU_below (by assumption) (by assumption)) (by assumption)) (by assumption)); rintro e w' ⟨v, rfl, hv, hb⟩)
                | (with_reducible refine (times_calls q.num.natAbs p.den q1' p2' (.slice A' (limbs q.num.natAbs).length c') _ _ (nx_of (by assumption)).ny ?_).mono ?_; (first | assumption | exact isU_below (by assumption) (by assumption) | exact isU_below (isU_below (by assumption) (by assumption)) (by assumption) | exact isU_below (isU_below (isU_below (by assumption) (by assumption)) (by assumption)) (by assumption)); rintro e w' ⟨v, rfl, hv, hb⟩))
            | (go_at_call 113; refine (SumWalk.sum_calls (decide (p.num < 0)) (decide (q.num < 0)) (p.num.natAbs * q.den) (q.num.natAbs * p.den) m4 m6 _ _ _ ?_ ?_).mono ?_; (first | assumption | exact isU_below (by assumption) (by assumption) | exact isU_below (isU_below (by assumption) (by assumption)) (by assumption) | exact isU_below (isU_below (isU_below (by assumption) (by assumption)) (by assumption)) (by assumption)); (first | assumption | exact isU_below (by assumption) (by assumption) | exact isU_below (isU_below (by assumption) (by assumption)) (by assumption) | exact isU_below (isU_below (isU_below (by assumption) (by assumption)) (by assumption)) (by assumption)); rintro e w' ⟨s, v, k, rfl, hv, hsum, hlen, hb⟩))
        all_goals
          go_wp2_with fail
          go_meet
          exact ⟨_, _, rfl, (nx_of (by assumption)), by assumption, by assumption, by assumption⟩
      case rest =>
        obtain ⟨s, k, rfl, hM⟩ := hcut
        have HM := Lib.hid hM
        have ha := Lib.hid hM.args.x
        clear hM hS
        go_wp2_with fail
        refine (RatTell.low_calls p gx _ ha.out).mono ?_
        rintro e w2 ⟨v2, rfl, hv, hb⟩
        have HA2 := Lib.hid (HM.out.args.below hb)
        have HK2 := Lib.hid (isU_below HM.out.val hb)
        have HV2 := Lib.hid hv
        clear hv hb
        go_wp2_with fail
        refine (RatTell.low_calls q gy _ HA2.out.y).mono ?_
        rintro e w3 ⟨v3, rfl, hv, hb⟩
        have HA3 := Lib.hid (HA2.out.below hb)
        have HK3 := Lib.hid (isU_below HK2.out hb)
        have HV3 := Lib.hid (And.intro (isU_below HV2.out hb) hv)
        clear hv hb
        go_wp2_with fail
        refine (times_calls p.den q.den p2' q2' _ _ _ HV3.out.1 HV3.out.2).mono ?_
        rintro e w4 ⟨v4, rfl, hv, hb⟩
        have HA4 := Lib.hid (HA3.out.below hb)
        have HK4 := Lib.hid (isU_below HK3.out hb)
        have HV4 := Lib.hid hv
        clear hv hb
        go_wp2_with fail
        refine (put_fit s k (p.den * q.den) m3 HM.out.len m5 g _ _ _ HA4.out.z HK4.out HV4.out).mono ?_
        rintro e w5 ⟨rfl, hr, hk, hg⟩
        have H := Lib.hid (And.intro hr (And.intro (HA4.out.keeps.trans hk) (HA4.out.grown.trans hg)))
        clear hr hk hg
        go_wp2_with fail
        go_ret
        have h := H.out
        rw [back_add HM.out.sum] at h
        exact ⟨rfl, h⟩

end Go.Proofs.YtjeamchaibialaaGreatDoor.AddsWalk

/- big's difference: the walk. -/
namespace Go.Proofs.YtjeamchaibialaaGreatDoor.SubsWalk
open Go.RowKit Go.Proofs.YtjeamchaibialaaGreatDoorW.PrintWords Go.Proofs.YtjeamchaibialaaGreatDoorW.PrintLast Go.Proofs.YtjeamchaibialaaGreatDoorW.PrintMore Fns Limbs Pure1 Nats Go.Proofs.YtjeamchaibialaaGreatDoor.Told ReadWalk Texts Rats Parses Heaps Go.Proofs.YtjeamchaibialaaGreatDoor.Ints Go.Proofs.YtjeamchaibialaaGreatDoor.PutWalk Go.Proofs.YtjeamchaibialaaGreatDoor.Ops Go.Proofs.YtjeamchaibialaaGreatDoor.TinyWalk Go.Proofs.YtjeamchaibialaaGreatDoor.PlusMid

structure Mid (w : World) (gx gy g : Nat) (p q : Rat) (vx vy v : Value) (s : Bool) (k : Nat) (W : World) : Prop where
  args : Args w gx gy g p q vx vy W
  val : IsU W v k
  sum : sg s k = sg (decide (p.num < 0)) (p.num.natAbs * q.den) + sg (!decide (q.num < 0)) (q.num.natAbs * p.den)
  len : (limbs k).length ≤ 100000000

set_option maxRecDepth 100000 in
set_option maxHeartbeats 1000000 in
theorem calls (p q : Rat) (hp : Sizes.Sz p 40000000) (hqz : Sizes.Sz q 40000000) (gx gy g : Nat) (h1 : g ≠ gx) (h2 : g ≠ gy) (w : World) (hx : RatAt w gx p) (hy : RatAt w gy q) (hz : Fit w g) :
    Calls Tryz.prog 115 #[.pointer (some ⟨g, 0, none⟩), .pointer (some ⟨gx, 0, none⟩), .pointer (some ⟨gy, 0, none⟩), .bool true] w (Out (p - q) g w) := by
  have HX := Lib.hid hx
  have HY := Lib.hid hy
  have HZ := Lib.hid hz
  by_cases hs : Small p ∧ Small q
  · rw [Rat.sub_def']
    clear hp hqz h1 h2 hx hy hz
    have HS := Lib.hid hs
    have n1 := mul_lt hs.1.1 hs.2.2
    have n1' := mul_lt hs.2.1 hs.1.2
    have n2 := mul_lt hs.1.2 hs.2.2
    have n3 : p.den * q.den ≠ 0 := Nat.mul_ne_zero p.den_nz q.den_nz
    have e1 : (p.num * q.den).natAbs < 1000000000000000000 := by rw [Int.natAbs_mul, Int.natAbs_natCast]; exact n1
    have e2 : (q.num * p.den).natAbs < 1000000000000000000 := by rw [Int.natAbs_mul, Int.natAbs_natCast]; exact n1'
    have n4 : (p.num * q.den - q.num * p.den).natAbs < 9000000000000000000 := by omega
    have W1 : IntKind.i64.wrap (p.num * (q.den : Int)) = p.num * q.den := IntWalk.i64_in _ (by omega)
    have W2 : IntKind.i64.wrap ((p.den : Int) * q.den) = ((p.den * q.den : Nat) : Int) := by rw [← Int.natCast_mul]; exact IntWalk.i64_in _ (by omega)
    have W0 : IntKind.i64.wrap (-q.num) = -q.num := IntWalk.i64_in _ (by have := hs.2.1; omega)
    have n5 : -q.num * (p.den : Int) = -(q.num * p.den) := Int.neg_mul _ _
    have W4 : IntKind.i64.wrap (-q.num * (p.den : Int)) = -(q.num * p.den) := by rw [n5]; exact IntWalk.i64_in _ (by omega)
    have W5 : IntKind.i64.wrap (p.num * (q.den : Int) + -(q.num * (p.den : Int))) = p.num * q.den - q.num * p.den := by rw [← Int.sub_eq_add_neg]; exact IntWalk.i64_in _ (by omega)
    clear hs n1 n1'
    go_enter Tryz.func115, Tryz.ntmps115
    go_wp2_with fail
    refine (tiny_yes p HS.out.1 gx _ HX.out).mono ?_
    rintro e w1 ⟨rfl, rfl⟩
    go_wp2_with fail
    refine (tiny_yes q HS.out.2 gy _ HY.out).mono ?_
    rintro e w2 ⟨rfl, rfl⟩
    go_wp2_with fail
    refine (take_z (p.num * q.den - q.num * p.den) (p.den * q.den) (by omega) n3 (by omega) g _ HZ.out).mono ?_
    rintro e w3 ⟨rfl, hr, hk, hg⟩
    have H := Lib.hid (And.intro hr (And.intro hk hg))
    clear hr hk hg
    go_wp2_with fail
    go_ret
    exact ⟨rfl, H.out⟩
  · obtain ⟨A, B, c, d, hB, hn, hd⟩ := HX.out
    obtain ⟨A', B', c', d', hB', hn', hd'⟩ := HY.out
    have hS : w.cell? ⟨gx, 0, none⟩ = some (.bool (decide (p.num < 0))) ∧ w.cell? ⟨gy, 0, none⟩ = some (.bool (decide (q.num < 0))) ∧ w.cell? ⟨gx, 1, none⟩ = some (.slice A (limbs p.num.natAbs).length c) ∧ w.cell? ⟨gy, 1, none⟩ = some (.slice A' (limbs q.num.natAbs).length c') ∧
        Args w gx gy g p q (.slice A (limbs p.num.natAbs).length c) (.slice A' (limbs q.num.natAbs).length c') w :=
      ⟨hB.cell 0, hB'.cell 0, hB.cell 1, hB'.cell 1, hx, hy, hn, hn', hz, Keeps.refl w, grown_below (Below.refl _ _)⟩
    have HS := Lib.hid hS
    have m1 := limbs_len_mul p.num.natAbs q.den
    have m0 := limbs_len_mul q.num.natAbs p.den
    have m2 := limbs_len_mul p.den q.den
    have p1 := hp.1
    have p2 := hp.2
    have q1 := hqz.1
    have q2 := hqz.2
    have m3 : p.den * q.den ≠ 0 := Nat.mul_ne_zero p.den_nz q.den_nz
    have m4 : (limbs (p.num.natAbs * q.den)).length ≤ 90000000 := by omega
    have m6 : (limbs (q.num.natAbs * p.den)).length ≤ 90000000 := by omega
    have m5 : (limbs (p.den * q.den)).length ≤ 100000000 := by omega
    have p1' : (limbs p.num.natAbs).length ≤ 30000000000 := by omega
    have p2' : (limbs p.den).length ≤ 30000000000 := by omega
    have q1' : (limbs q.num.natAbs).length ≤ 30000000000 := by omega
    have q2' : (limbs q.den).length ≤ 30000000000 := by omega
    have hgo : ¬ Small p ∨ Small p ∧ ¬ Small q := by
      by_cases h : Small p
      · exact .inr ⟨h, fun h' => hs ⟨h, h'⟩⟩
      · exact .inl h
    clear hB hn hd hB' hn' hd' hx hy hz hp hqz m1 m0 m2 p1 p2 q1 q2 hs hS
    go_enter Tryz.func115, Tryz.ntmps115
    rcases hgo with hnp | ⟨hsp, hnq⟩
    · have HN := Lib.hid hnp
      clear hnp
      go_wp2_with fail
      refine (tiny_no p HN.out gx _ HX.out).mono ?_
      rintro e w1 ⟨rfl, rfl⟩
      clear HN HX HY HZ
      go_upto_region 8 with fail
      have hS := HS.out
      clear HS
      go_cut [15, 16] (fun v15 v16 wx => ∃ s k, v15 = .bool s ∧ Mid w1 gx gy g p q (.slice A (limbs p.num.natAbs).length c) (.slice A' (limbs q.num.natAbs).length c') v16 s k wx)
      case first =>
        go_region_held3 (fun (W : World) => W.cell? ⟨gx, 0, none⟩ = some (.bool (decide (p.num < 0))) ∧ W.cell? ⟨gy, 0, none⟩ = some (.bool (decide (q.num < 0))) ∧ W.cell? ⟨gx, 1, none⟩ = some (.slice A (limbs p.num.natAbs).length c) ∧ W.cell? ⟨gy, 1, none⟩ = some (.slice A' (limbs q.num.natAbs).length c') ∧
            Args w1 gx gy g p q (.slice A (limbs p.num.natAbs).length c) (.slice A' (limbs q.num.natAbs).length c') W)
          (first | exact held_below hS (Drawn0.below ⟨1, rfl⟩) | exact held_below (by assumption) (by assumption))
          (first
            | (go_at_call 67; first
                | (with_reducible refine (RatTell.low_calls p gx _ (nx_of (by assumption)).x).mono ?_; rintro e w' ⟨v, rfl, hv, hb⟩)
                | (with_reducible refine (RatTell.low_calls q gy _ (nx_of (by assumption)).y).mono ?_; rintro e w' ⟨v, rfl, hv, hb⟩))
            | (go_at_call 66; first
                | (with_reducible refine (times_calls p.num.natAbs q.den p1' q2' (.slice A (limbs p.num.natAbs).length c) _ _ (nx_of (by assumption)).nx ?_).mono ?_; (first | assumption | exact isU_below (by assumption) (by assumption) | exact isU_below (isU_below (by assumption) (by assumption)) (by assumption) | exact isU_below (isU_below (isU_below (by assumption) (by assumption)) (by assumption)) (by assumption)); rintro e w' ⟨v, rfl, hv, hb⟩)
                | (with_reducible refine (times_calls q.num.natAbs p.den q1' p2' (.slice A' (limbs q.num.natAbs).length c') _ _ (nx_of (by assumption)).ny ?_).mono ?_; (first | assumption | exact isU_below (by assumption) (by assumption) | exact isU_below (isU_below (by assumption) (by assumption)) (by assumption) | exact isU_below (isU_below (isU_below (by assumption) (by assumption)) (by assumption)) (by assumption)); rintro e w' ⟨v, rfl, hv, hb⟩))
            | (go_at_call 113; refine (SumWalk.sum_calls (decide (p.num < 0)) (!decide (q.num < 0)) (p.num.natAbs * q.den) (q.num.natAbs * p.den) m4 m6 _ _ _ ?_ ?_).mono ?_; (first | assumption | exact isU_below (by assumption) (by assumption) | exact isU_below (isU_below (by assumption) (by assumption)) (by assumption) | exact isU_below (isU_below (isU_below (by assumption) (by assumption)) (by assumption)) (by assumption)); (first | assumption | exact isU_below (by assumption) (by assumption) | exact isU_below (isU_below (by assumption) (by assumption)) (by assumption) | exact isU_below (isU_below (isU_below (by assumption) (by assumption)) (by assumption)) (by assumption)); rintro e w' ⟨s, v, k, rfl, hv, hsum, hlen, hb⟩))
        all_goals
          go_wp2_with fail
          go_meet
          exact ⟨_, _, rfl, (nx_of (by assumption)), by assumption, by assumption, by assumption⟩
      case rest =>
        obtain ⟨s, k, rfl, hM⟩ := hcut
        have HM := Lib.hid hM
        have ha := Lib.hid hM.args.x
        clear hM hS
        go_wp2_with fail
        refine (RatTell.low_calls p gx _ ha.out).mono ?_
        rintro e w2 ⟨v2, rfl, hv, hb⟩
        have HA2 := Lib.hid (HM.out.args.below hb)
        have HK2 := Lib.hid (isU_below HM.out.val hb)
        have HV2 := Lib.hid hv
        clear hv hb
        go_wp2_with fail
        refine (RatTell.low_calls q gy _ HA2.out.y).mono ?_
        rintro e w3 ⟨v3, rfl, hv, hb⟩
        have HA3 := Lib.hid (HA2.out.below hb)
        have HK3 := Lib.hid (isU_below HK2.out hb)
        have HV3 := Lib.hid (And.intro (isU_below HV2.out hb) hv)
        clear hv hb
        go_wp2_with fail
        refine (times_calls p.den q.den p2' q2' _ _ _ HV3.out.1 HV3.out.2).mono ?_
        rintro e w4 ⟨v4, rfl, hv, hb⟩
        have HA4 := Lib.hid (HA3.out.below hb)
        have HK4 := Lib.hid (isU_below HK3.out hb)
        have HV4 := Lib.hid hv
        clear hv hb
        go_wp2_with fail
        refine (put_fit s k (p.den * q.den) m3 HM.out.len m5 g _ _ _ HA4.out.z HK4.out HV4.out).mono ?_
        rintro e w5 ⟨rfl, hr, hk, hg⟩
        have H := Lib.hid (And.intro hr (And.intro (HA4.out.keeps.trans hk) (HA4.out.grown.trans hg)))
        clear hr hk hg
        go_wp2_with fail
        go_ret
        have h := H.out
        rw [back_sub HM.out.sum] at h
        exact ⟨rfl, h⟩
    · have HN := Lib.hid (And.intro hsp hnq)
      clear hsp hnq
      go_wp2_with fail
      refine (tiny_yes p HN.out.1 gx _ HX.out).mono ?_
      rintro e w1 ⟨rfl, rfl⟩
      go_wp2_with fail
      refine (tiny_no q HN.out.2 gy _ HY.out).mono ?_
      rintro e w1 ⟨rfl, rfl⟩
      clear HN HX HY HZ
      go_upto_region 8 with fail
      have hS := HS.out
      clear HS
      go_cut [15, 16] (fun v15 v16 wx => ∃ s k, v15 = .bool s ∧ Mid w1 gx gy g p q (.slice A (limbs p.num.natAbs).length c) (.slice A' (limbs q.num.natAbs).length c') v16 s k wx)
      case first =>
        go_region_held3 (fun (W : World) => W.cell? ⟨gx, 0, none⟩ = some (.bool (decide (p.num < 0))) ∧ W.cell? ⟨gy, 0, none⟩ = some (.bool (decide (q.num < 0))) ∧ W.cell? ⟨gx, 1, none⟩ = some (.slice A (limbs p.num.natAbs).length c) ∧ W.cell? ⟨gy, 1, none⟩ = some (.slice A' (limbs q.num.natAbs).length c') ∧
            Args w1 gx gy g p q (.slice A (limbs p.num.natAbs).length c) (.slice A' (limbs q.num.natAbs).length c') W)
          (first | exact held_below hS (Drawn0.below ⟨1, rfl⟩) | exact held_below (by assumption) (by assumption))
          (first
            | (go_at_call 67; first
                | (with_reducible refine (RatTell.low_calls p gx _ (nx_of (by assumption)).x).mono ?_; rintro e w' ⟨v, rfl, hv, hb⟩)
                | (with_reducible refine (RatTell.low_calls q gy _ (nx_of (by assumption)).y).mono ?_; rintro e w' ⟨v, rfl, hv, hb⟩))
            | (go_at_call 66; first
                | (with_reducible refine (times_calls p.num.natAbs q.den p1' q2' (.slice A (limbs p.num.natAbs).length c) _ _ (nx_of (by assumption)).nx ?_).mono ?_; (first | assumption | exact isU_below (by assumption) (by assumption) | exact isU_below (isU_below (by assumption) (by assumption)) (by assumption) | exact isU_below (isU_below (isU_below (by assumption) (by assumption)) (by assumption)) (by assumption)); rintro e w' ⟨v, rfl, hv, hb⟩)
                | (with_reducible refine (times_calls q.num.natAbs p.den q1' p2' (.slice A' (limbs q.num.natAbs).length c') _ _ (nx_of (by assumption)).ny ?_).mono ?_; (first | assumption | exact isU_below (by assumption) (by assumption) | exact isU_below (isU_below (by assumption) (by assumption)) (by assumption) | exact isU_below (isU_below (isU_below (by assumption) (by assumption)) (by assumption)) (by assumption)); rintro e w' ⟨v, rfl, hv, hb⟩))
            | (go_at_call 113; refine (SumWalk.sum_calls (decide (p.num < 0)) (!decide (q.num < 0)) (p.num.natAbs * q.den) (q.num.natAbs * p.den) m4 m6 _ _ _ ?_ ?_).mono ?_; (first | assumption | exact isU_below (by assumption) (by assumption) | exact isU_below (isU_below (by assumption) (by assumption)) (by assumption) | exact isU_below (isU_below (isU_below (by assumption) (by assumption)) (by assumption)) (by assumption)); (first | assumption | exact isU_below (by assumption) (by assumption) | exact isU_below (isU_below (by assumption) (by assumption)) (by assumption) | exact isU_below (isU_below (isU_below (by assumption) (by assumption)) (by assumption)) (by assumption)); rintro e w' ⟨s, v, k, rfl, hv, hsum, hlen, hb⟩))
        all_goals
          go_wp2_with fail
          go_meet
          exact ⟨_, _, rfl, (nx_of (by assumption)), by assumption, by assumption, by assumption⟩
      case rest =>
        obtain ⟨s, k, rfl, hM⟩ := hcut
        have HM := Lib.hid hM
        have ha := Lib.hid hM.args.x
        clear hM hS
        go_wp2_with fail
        refine (RatTell.low_calls p gx _ ha.out).mono ?_
        rintro e w2 ⟨v2, rfl, hv, hb⟩
        have HA2 := Lib.hid (HM.out.args.below hb)
        have HK2 := Lib.hid (isU_below HM.out.val hb)
        have HV2 := Lib.hid hv
        clear hv hb
        go_wp2_with fail
        refine (RatTell.low_calls q gy _ HA2.out.y).mono ?_
        rintro e w3 ⟨v3, rfl, hv, hb⟩
        have HA3 := Lib.hid (HA2.out.below hb)
        have HK3 := Lib.hid (isU_below HK2.out hb)
        have HV3 := Lib.hid (And.intro (isU_below HV2.out hb) hv)
        clear hv hb
        go_wp2_with fail
        refine (times_calls p.den q.den p2' q2' _ _ _ HV3.out.1 HV3.out.2).mono ?_
        rintro e w4 ⟨v4, rfl, hv, hb⟩
        have HA4 := Lib.hid (HA3.out.below hb)
        have HK4 := Lib.hid (isU_below HK3.out hb)
        have HV4 := Lib.hid hv
        clear hv hb
        go_wp2_with fail
        refine (put_fit s k (p.den * q.den) m3 HM.out.len m5 g _ _ _ HA4.out.z HK4.out HV4.out).mono ?_
        rintro e w5 ⟨rfl, hr, hk, hg⟩
        have H := Lib.hid (And.intro hr (And.intro (HA4.out.keeps.trans hk) (HA4.out.grown.trans hg)))
        clear hr hk hg
        go_wp2_with fail
        go_ret
        have h := H.out
        rw [back_sub HM.out.sum] at h
        exact ⟨rfl, h⟩

end Go.Proofs.YtjeamchaibialaaGreatDoor.SubsWalk

/- big's comparison of fractions, and Add, Sub: the walks. -/
namespace Go.Proofs.YtjeamchaibialaaGreatDoor.CmpWalk
open Go.RowKit Go.Proofs.YtjeamchaibialaaGreatDoorW.PrintWords Go.Proofs.YtjeamchaibialaaGreatDoorW.PrintLast Go.Proofs.YtjeamchaibialaaGreatDoorW.PrintMore Fns Limbs Pure1 Nats Go.Proofs.YtjeamchaibialaaGreatDoor.Told ReadWalk Texts Rats Parses Heaps Go.Proofs.YtjeamchaibialaaGreatDoor.Ints Go.Proofs.YtjeamchaibialaaGreatDoor.PutWalk Go.Proofs.YtjeamchaibialaaGreatDoor.Ops Go.Proofs.YtjeamchaibialaaGreatDoor.TinyWalk

def cmpQ (p q : Rat) : Int := if p < q then -1 else if q < p then 1 else 0
theorem sgn_range (a b : Nat) : -1 ≤ sgn a b ∧ sgn a b ≤ 1 := by
  unfold sgn
  split
  · omega
  · split <;> omega
theorem sign_lt {a b : Int} (d e : Nat) (hd : d ≠ 0) (he : e ≠ 0) (h : a.sign < b.sign) : a * e < b * d := by
  have hd' : 0 < (d : Int) := by omega
  have he' : 0 < (e : Int) := by omega
  rcases Int.lt_trichotomy a 0 with ha | ha | ha
  · have h1 : a * e < 0 := Int.mul_neg_of_neg_of_pos ha he'
    rw [Int.sign_eq_neg_one_of_neg ha] at h
    have hb : 0 ≤ b := by
      refine Int.not_lt.1 fun hb => ?_
      rw [Int.sign_eq_neg_one_of_neg hb] at h
      omega
    have h2 : 0 ≤ b * d := Int.mul_nonneg hb (by omega)
    omega
  · subst ha
    have hb : 0 < b := by
      refine Int.not_le.1 fun hb => ?_
      rcases Int.lt_or_eq_of_le hb with hb | hb
      · rw [Int.sign_eq_neg_one_of_neg hb] at h; simp at h
      · rw [hb] at h; simp at h
    have h2 : 0 < b * d := Int.mul_pos hb hd'
    simpa using h2
  · rw [Int.sign_eq_one_of_pos ha] at h
    rcases Int.lt_trichotomy b 0 with hb | hb | hb
    · rw [Int.sign_eq_neg_one_of_neg hb] at h; omega
    · rw [hb] at h; simp at h
    · rw [Int.sign_eq_one_of_pos hb] at h; omega
theorem cmp_diff {p q : Rat} (h : p.num.sign ≠ q.num.sign) : cmpQ p q = if p.num.sign < q.num.sign then -1 else 1 := by
  unfold cmpQ
  by_cases h1 : p.num.sign < q.num.sign
  · rw [if_pos h1, if_pos ((Rat.lt_iff p q).2 (sign_lt _ _ p.den_nz q.den_nz h1))]
  · have h2 : q.num.sign < p.num.sign := by omega
    have h3 := (Rat.lt_iff q p).2 (sign_lt _ _ q.den_nz p.den_nz h2)
    rw [if_neg h1, if_neg (fun h4 => Rat.lt_irrefl (Std.lt_trans h3 h4)), if_pos h3]
theorem cmp_same {p q : Rat} (h : p.num.sign = q.num.sign) : cmpQ p q = if p.num < 0 then -sgn (p.num.natAbs * q.den) (q.num.natAbs * p.den) else sgn (p.num.natAbs * q.den) (q.num.natAbs * p.den) := by
  have hsp : sg (decide (p.num < 0)) p.num.natAbs = p.num := sg_self _
  have hsq : sg (decide (q.num < 0)) q.num.natAbs = q.num := sg_self _
  have hs : (p.num < 0) ↔ (q.num < 0) := by
    rw [← Int.sign_eq_neg_one_iff_neg, ← Int.sign_eq_neg_one_iff_neg, h]
  have e1 : p < q ↔ sg (decide (p.num < 0)) (p.num.natAbs * q.den) < sg (decide (q.num < 0)) (q.num.natAbs * p.den) := by
    rw [Rat.lt_iff, PlusMid.sg_scale, PlusMid.sg_scale, hsp, hsq]
  have e2 : q < p ↔ sg (decide (q.num < 0)) (q.num.natAbs * p.den) < sg (decide (p.num < 0)) (p.num.natAbs * q.den) := by
    rw [Rat.lt_iff, PlusMid.sg_scale, PlusMid.sg_scale, hsp, hsq]
  unfold cmpQ sgn
  generalize p.num.natAbs * q.den = x at *
  generalize q.num.natAbs * p.den = y at *
  by_cases hp : p.num < 0
  · rw [decide_eq_true hp, decide_eq_true (hs.1 hp)] at e1 e2
    simp only [sg, if_true] at e1 e2
    rw [if_pos hp]
    by_cases h1 : x < y
    · rw [if_pos h1, if_neg (by rw [e1]; omega), if_pos (by rw [e2]; omega)]; rfl
    · by_cases h2 : y < x
      · rw [if_neg h1, if_pos h2, if_pos (by rw [e1]; omega)]
      · rw [if_neg h1, if_neg h2, if_neg (by rw [e1]; omega), if_neg (by rw [e2]; omega)]; rfl
  · rw [decide_eq_false hp, decide_eq_false (fun h => hp (hs.2 h))] at e1 e2
    rw [sg_false, sg_false] at e1 e2
    rw [if_neg hp]
    by_cases h1 : x < y
    · rw [if_pos h1, if_pos (by rw [e1]; omega)]
    · by_cases h2 : y < x
      · rw [if_neg h1, if_pos h2, if_neg (by rw [e1]; omega), if_pos (by rw [e2]; omega)]
      · rw [if_neg h1, if_neg h2, if_neg (by rw [e1]; omega), if_neg (by rw [e2]; omega)]

set_option maxRecDepth 100000 in
theorem add_calls (p q : Rat) (hp : Sizes.Sz p 40000000) (hqz : Sizes.Sz q 40000000) (gx gy g : Nat) (h1 : g ≠ gx) (h2 : g ≠ gy) (w : World) (hx : RatAt w gx p) (hy : RatAt w gy q) (hz : Fit w g) :
    Calls Tryz.prog 110 #[.pointer (some ⟨g, 0, none⟩), .pointer (some ⟨gx, 0, none⟩), .pointer (some ⟨gy, 0, none⟩)] w (Out (p + q) g w) := by
  go_enter Tryz.func110, Tryz.ntmps110
  go_wp2_with fail
  refine (AddsWalk.calls p q hp hqz gx gy g h1 h2 _ hx hy hz).mono ?_
  rintro e w' ⟨rfl, h⟩
  have H := Lib.hid h
  clear h
  go_wp2_with fail
  go_ret
  exact ⟨rfl, H.out⟩
set_option maxRecDepth 100000 in
theorem sub_calls (p q : Rat) (hp : Sizes.Sz p 40000000) (hqz : Sizes.Sz q 40000000) (gx gy g : Nat) (h1 : g ≠ gx) (h2 : g ≠ gy) (w : World) (hx : RatAt w gx p) (hy : RatAt w gy q) (hz : Fit w g) :
    Calls Tryz.prog 75 #[.pointer (some ⟨g, 0, none⟩), .pointer (some ⟨gx, 0, none⟩), .pointer (some ⟨gy, 0, none⟩)] w (Out (p - q) g w) := by
  go_enter Tryz.func75, Tryz.ntmps75
  go_wp2_with fail
  refine (SubsWalk.calls p q hp hqz gx gy g h1 h2 _ hx hy hz).mono ?_
  rintro e w' ⟨rfl, h⟩
  have H := Lib.hid h
  clear h
  go_wp2_with fail
  go_ret
  exact ⟨rfl, H.out⟩

section
variable {w w0 : World} {gx gy g : Nat} {p q : Rat} {vx vy bx by_ : Value} {W W' : World}
theorem held_below2 (h : W.cell? ⟨gx, 0, none⟩ = some bx ∧ W.cell? ⟨gy, 0, none⟩ = some by_ ∧ W.cell? ⟨gx, 1, none⟩ = some vx ∧ W.cell? ⟨gy, 1, none⟩ = some vy ∧ Args w gx gy g p q vx vy W) (h0 : Below w0.heap.size w0 W) (hb : Below W.heap.size W W') :
    W'.cell? ⟨gx, 0, none⟩ = some bx ∧ W'.cell? ⟨gy, 0, none⟩ = some by_ ∧ W'.cell? ⟨gx, 1, none⟩ = some vx ∧ W'.cell? ⟨gy, 1, none⟩ = some vy ∧ Args w gx gy g p q vx vy W' ∧ Below w0.heap.size w0 W' := by
  obtain ⟨h1, h2, h3, h4, h5⟩ := held_below h hb
  exact ⟨h1, h2, h3, h4, h5, below_step h0 hb⟩
theorem held_below3 (h : W.cell? ⟨gx, 0, none⟩ = some bx ∧ W.cell? ⟨gy, 0, none⟩ = some by_ ∧ W.cell? ⟨gx, 1, none⟩ = some vx ∧ W.cell? ⟨gy, 1, none⟩ = some vy ∧ Args w gx gy g p q vx vy W ∧ Below w0.heap.size w0 W) (hb : Below W.heap.size W W') :
    W'.cell? ⟨gx, 0, none⟩ = some bx ∧ W'.cell? ⟨gy, 0, none⟩ = some by_ ∧ W'.cell? ⟨gx, 1, none⟩ = some vx ∧ W'.cell? ⟨gy, 1, none⟩ = some vy ∧ Args w gx gy g p q vx vy W' ∧ Below w0.heap.size w0 W' :=
  held_below2 ⟨h.1, h.2.1, h.2.2.1, h.2.2.2.1, h.2.2.2.2.1⟩ h.2.2.2.2.2 hb
theorem nx_of2 (h : W.cell? ⟨gx, 0, none⟩ = some bx ∧ W.cell? ⟨gy, 0, none⟩ = some by_ ∧ W.cell? ⟨gx, 1, none⟩ = some vx ∧ W.cell? ⟨gy, 1, none⟩ = some vy ∧ Args w gx gy g p q vx vy W ∧ Below w0.heap.size w0 W) : Args w gx gy g p q vx vy W := h.2.2.2.2.1
theorem cell0_of2 (h : W.cell? ⟨gx, 0, none⟩ = some bx ∧ W.cell? ⟨gy, 0, none⟩ = some by_ ∧ W.cell? ⟨gx, 1, none⟩ = some vx ∧ W.cell? ⟨gy, 1, none⟩ = some vy ∧ Args w gx gy g p q vx vy W ∧ Below w0.heap.size w0 W) : W.cell? ⟨gx, 0, none⟩ = some bx := h.1
theorem below_of2 (h : W.cell? ⟨gx, 0, none⟩ = some bx ∧ W.cell? ⟨gy, 0, none⟩ = some by_ ∧ W.cell? ⟨gx, 1, none⟩ = some vx ∧ W.cell? ⟨gy, 1, none⟩ = some vy ∧ Args w gx gy g p q vx vy W ∧ Below w0.heap.size w0 W) : Below w0.heap.size w0 W := h.2.2.2.2.2
end

set_option maxRecDepth 100000 in
set_option maxHeartbeats 1000000 in
theorem calls (p q : Rat) (hp : Sizes.Sz p 40000000) (hqz : Sizes.Sz q 40000000) (gx gy : Nat) (w : World) (hx : RatAt w gx p) (hy : RatAt w gy q) :
    Calls Tryz.prog 27 #[.pointer (some ⟨gx, 0, none⟩), .pointer (some ⟨gy, 0, none⟩)] w fun e w' => e = .returned (.int .i64 (cmpQ p q)) ∧ Below w.heap.size w w' := by
  have HX := Lib.hid hx
  have HY := Lib.hid hy
  have p1' : (limbs p.num.natAbs).length ≤ 30000000000 := by have := hp.1; omega
  have p2' : (limbs p.den).length ≤ 30000000000 := by have := hp.2; omega
  have q1' : (limbs q.num.natAbs).length ≤ 30000000000 := by have := hqz.1; omega
  have q2' : (limbs q.den).length ≤ 30000000000 := by have := hqz.2; omega
  have m1 : (limbs (p.num.natAbs * q.den)).length ≤ 1000000000000000 := by have := limbs_len_mul p.num.natAbs q.den; omega
  have m2 : (limbs (q.num.natAbs * p.den)).length ≤ 1000000000000000 := by have := limbs_len_mul q.num.natAbs p.den; omega
  clear hx hy hp hqz
  have hdiff := Lib.hid (cmp_diff (p := p) (q := q))
  have hsame := Lib.hid (cmp_same (p := p) (q := q))
  go_enter Tryz.func27, Tryz.ntmps27
  go_wp2_with fail
  refine (RatTell.sign_calls p gx _ HX.out).mono ?_
  rintro e w1 ⟨rfl, hb⟩
  have HX1 := Lib.hid (HX.out.below hb)
  have HY1 := Lib.hid (HY.out.below hb)
  have HB1 := Lib.hid hb
  clear hb HX HY
  go_wp2_with fail
  refine (RatTell.sign_calls q gy _ HY1.out).mono ?_
  rintro e w2 ⟨rfl, hb⟩
  have HX2 := Lib.hid (HX1.out.below hb)
  have HY2 := Lib.hid (HY1.out.below hb)
  have HB2 := Lib.hid (below_step HB1.out hb)
  clear hb HX1 HY1
  by_cases hs : p.num.sign = q.num.sign
  · have HE := Lib.hid (hsame.out hs)
    have hpz := sg_self p.num
    clear hdiff hsame hpz
    have hsb : (p.num.sign == q.num.sign) = true := beq_iff_eq.2 hs
    generalize p.num.sign = sp at *
    generalize q.num.sign = sq at *
    subst hs
    obtain ⟨A, B, c, d, hB, hn, hd⟩ := HX2.out
    obtain ⟨A', B', c', d', hB', hn', hd'⟩ := HY2.out
    have hS : w2.cell? ⟨gx, 0, none⟩ = some (.bool (decide (p.num < 0))) ∧ w2.cell? ⟨gy, 0, none⟩ = some (.bool (decide (q.num < 0))) ∧ w2.cell? ⟨gx, 1, none⟩ = some (.slice A (limbs p.num.natAbs).length c) ∧ w2.cell? ⟨gy, 1, none⟩ = some (.slice A' (limbs q.num.natAbs).length c') ∧
        Args w2 gx gy gx p q (.slice A (limbs p.num.natAbs).length c) (.slice A' (limbs q.num.natAbs).length c') w2 :=
      ⟨hB.cell 0, hB'.cell 0, hB.cell 1, hB'.cell 1, HX2.out, HY2.out, hn, hn', HX2.out.fit, Keeps.refl w2, grown_below (Below.refl _ _)⟩
    have HS := Lib.hid hS
    clear hB hn hd hB' hn' hd' HX2 HY2 hS
    go_upto_region 5 with fail
    have hS := HS.out
    have HB0 := Lib.hid (And.intro HB2.out hS)
    clear HS HB1
    go_cut [5] (fun v5 wx => v5 = .int .i64 (sgn (p.num.natAbs * q.den) (q.num.natAbs * p.den)) ∧ Hid (wx.cell? ⟨gx, 0, none⟩ = some (.bool (decide (p.num < 0))) ∧ Below w.heap.size w wx))
    case first =>
      go_region_held3 (fun (W : World) => W.cell? ⟨gx, 0, none⟩ = some (.bool (decide (p.num < 0))) ∧ W.cell? ⟨gy, 0, none⟩ = some (.bool (decide (q.num < 0))) ∧ W.cell? ⟨gx, 1, none⟩ = some (.slice A (limbs p.num.natAbs).length c) ∧ W.cell? ⟨gy, 1, none⟩ = some (.slice A' (limbs q.num.natAbs).length c') ∧
          Args w2 gx gy gx p q (.slice A (limbs p.num.natAbs).length c) (.slice A' (limbs q.num.natAbs).length c') W ∧ Below w2.heap.size w2 W)
        (first | exact held_below2 hS (Below.refl _ _) (Drawn0.below ⟨1, rfl⟩) | exact held_below3 (by assumption) (by assumption))
        (first
          | (go_at_call 67; first
              | (with_reducible refine (RatTell.low_calls p gx _ (nx_of2 (by assumption)).x).mono ?_; rintro e w' ⟨v, rfl, hv, hb⟩)
              | (with_reducible refine (RatTell.low_calls q gy _ (nx_of2 (by assumption)).y).mono ?_; rintro e w' ⟨v, rfl, hv, hb⟩))
          | (go_at_call 66; first
              | (with_reducible refine (times_calls p.num.natAbs q.den p1' q2' (.slice A (limbs p.num.natAbs).length c) _ _ (nx_of2 (by assumption)).nx ?_).mono ?_; (first | assumption | exact isU_below (by assumption) (by assumption) | exact isU_below (isU_below (by assumption) (by assumption)) (by assumption) | exact isU_below (isU_below (isU_below (by assumption) (by assumption)) (by assumption)) (by assumption)); rintro e w' ⟨v, rfl, hv, hb⟩)
              | (with_reducible refine (times_calls q.num.natAbs p.den q1' p2' (.slice A' (limbs q.num.natAbs).length c') _ _ (nx_of2 (by assumption)).ny ?_).mono ?_; (first | assumption | exact isU_below (by assumption) (by assumption) | exact isU_below (isU_below (by assumption) (by assumption)) (by assumption) | exact isU_below (isU_below (isU_below (by assumption) (by assumption)) (by assumption)) (by assumption)); rintro e w' ⟨v, rfl, hv, hb⟩))
          | (go_at_call 68; refine (cmp_calls (p.num.natAbs * q.den) (q.num.natAbs * p.den) m1 m2 _ _ _ ?_ ?_).mono ?_; (first | assumption | exact isU_below (by assumption) (by assumption) | exact isU_below (isU_below (by assumption) (by assumption)) (by assumption) | exact isU_below (isU_below (isU_below (by assumption) (by assumption)) (by assumption)) (by assumption)); (first | assumption | exact isU_below (by assumption) (by assumption) | exact isU_below (isU_below (by assumption) (by assumption)) (by assumption) | exact isU_below (isU_below (isU_below (by assumption) (by assumption)) (by assumption)) (by assumption)); rintro e w' ⟨rfl, hd⟩; have hb := Drawn0.below hd; clear hd))
      all_goals
        go_wp2_with fail
        go_meet
        exact ⟨rfl, Lib.hid ⟨cell0_of2 (by assumption), below_step HB0.out.1 (below_of2 (by assumption))⟩⟩
    case rest =>
      obtain ⟨rfl, hx⟩ := hcut
      have hc0 := hx.out.1
      clear hS HB0 HB2
      have hz9 : Hid (-1 ≤ sgn (p.num.natAbs * q.den) (q.num.natAbs * p.den) ∧ sgn (p.num.natAbs * q.den) (q.num.natAbs * p.den) ≤ 1) := Lib.hid (sgn_range _ _)
      generalize sgn (p.num.natAbs * q.den) (q.num.natAbs * p.den) = z at *
      by_cases hz : p.num < 0
      · have HZ := Lib.hid hz
        rw [decide_eq_true hz] at hc0
        clear hz
        have hzr := hz9.out
        have hw : IntKind.i64.wrap (-z) = -z := IntWalk.i64_in _ (by omega)
        go_wp2_with fail
        go_ret
        exact ⟨by rw [HE.out, if_pos HZ.out]; rfl, hx.out.2⟩
      · have HZ := Lib.hid hz
        rw [decide_eq_false hz] at hc0
        clear hz
        go_wp2_with fail
        go_ret
        exact ⟨by rw [HE.out, if_neg (Int.not_lt.2 HZ.out)]; rfl, hx.out.2⟩
  · have HE := Lib.hid (hdiff.out hs)
    clear hdiff hsame
    have hsb : (p.num.sign == q.num.sign) = false := beq_eq_false_iff_ne.2 hs
    have hp := RatTell.sign_calls p gx
    have hq := RatTell.sign_calls q gy
    generalize p.num.sign = sp at *
    generalize q.num.sign = sq at *
    have HP := Lib.hid hp
    have HQ := Lib.hid hq
    clear hp hq
    go_wp2_with fail
    refine (HP.out _ HX2.out).mono ?_
    rintro e w3 ⟨rfl, hb⟩
    have HY3 := Lib.hid (HY2.out.below hb)
    have HB3 := Lib.hid (below_step HB2.out hb)
    clear hb
    go_wp2_with fail
    refine (HQ.out _ HY3.out).mono ?_
    rintro e w4 ⟨rfl, hb⟩
    have HB4 := Lib.hid (below_step HB3.out hb)
    clear hb
    by_cases hlt : sp < sq
    · have HL := Lib.hid hlt
      go_wp2_with fail
      go_ret
      exact ⟨by rw [HE.out, if_pos HL.out]; rfl, HB4.out⟩
    · have HL := Lib.hid hlt
      go_wp2_with fail
      go_ret
      exact ⟨by rw [HE.out, if_neg (Int.not_lt.2 HL.out)]; rfl, HB4.out⟩

end Go.Proofs.YtjeamchaibialaaGreatDoor.CmpWalk

/- num's parseAll of two texts: the walk. -/
namespace Go.Proofs.YtjeamchaibialaaGreatDoor.PairWalk
open Go.RowKit Go.Proofs.YtjeamchaibialaaGreatDoorW.PrintWords Go.Proofs.YtjeamchaibialaaGreatDoorW.PrintLast Go.Proofs.YtjeamchaibialaaGreatDoorW.PrintMore Fns Limbs Nats Go.Proofs.YtjeamchaibialaaGreatDoor.Told ReadWalk Texts Rats Parses Heaps Go.Proofs.YtjeamchaibialaaGreatDoor.Splits Go.Proofs.YtjeamchaibialaaGreatDoor.PutWalk

abbrev P (g : Nat) : Value := .pointer (some ⟨g, 0, none⟩)
def St (a b : List UInt8) (w : World) (L : Nat) (j : Nat) (W : World) : Prop :=
  Below w.heap.size w W ∧ (
    (j = 0 ∧ Blk W L #[.pointer none, .pointer none]) ∨
    (j = 1 ∧ ∃ p g, a = rtxt p ∧ Blk W L #[P g, .pointer none] ∧ RatAt W g p ∧ w.heap.size ≤ g) ∨
    (j = 2 ∧ ∃ p q g k, a = rtxt p ∧ b = rtxt q ∧ Blk W L #[P g, P k] ∧ RatAt W g p ∧ RatAt W k q ∧ w.heap.size ≤ g ∧ w.heap.size ≤ k))
def Out (a b : List UInt8) (w : World) (e : Ending) (W : World) : Prop :=
  Below w.heap.size w W ∧ (
    (∃ p q g k L, a = rtxt p ∧ b = rtxt q ∧ e = .returned (.slice (some ⟨L, 0, none⟩) 2 2) ∧ Blk W L #[P g, P k] ∧ RatAt W g p ∧ RatAt W k q ∧ w.heap.size ≤ g ∧ w.heap.size ≤ k) ∨
    (((∀ p, a ≠ rtxt p) ∨ (∀ q, b ≠ rtxt q)) ∧ e = .returned (.slice none 0 0)))
theorem flatP {u v : Option Addr} : Flat #[.pointer u, .pointer v] := by
  intro i k z e
  match i with
  | 0 => simp at e
  | 1 => simp at e
  | i + 2 => simp at e

theorem infoP : (Tryz.prog.info? 37).map (fun i => (i.zero, i.size, i.bytes)) = some (some (.pointer none), 1, 8) := by kernel_rfl
theorem run_makeP (W : World) : (Instr.makeSlice 115 (.int .i64 2) (.int .i64 2)).run Tryz.prog W = .ok (.slice (some ⟨W.heap.size, 0, none⟩) 2 2) (W.alloc (.cells #[.pointer none, .pointer none] 37)) := by
  obtain ⟨i, hi, hz0, hz1, hz2⟩ := info_parts infoP
  have h := run_make (P := Tryz.prog) W 115 37 i (.pointer none) Tryz.underlying115 hi hz0 .i64 .i64 2 2 (by omega) (by omega) (by rw [hz2]; omega) (by omega)
  simp only [show (2 : Int).toNat = 2 from rfl, hz1, Nat.mul_one] at h
  have e : madeCells (Value.pointer none).cells 2 = #[.pointer none, .pointer none] := by
    unfold madeCells
    rw [show (Value.pointer none).cells = #[.pointer none] from rfl]
    apply Array.ext
    · simp
    · intro i h1 h2
      simp
      have h3 : i = 0 ∨ i = 1 := by simp at h2; omega
      rcases h3 with rfl | rfl <;> rfl
  rw [e] at h
  exact h
set_option maxRecDepth 100000 in
set_option maxHeartbeats 1000000 in
theorem calls (a b : ByteArray) (ha : a.size ≤ 100000000) (hb : b.size ≤ 100000000) (w : World) (t : Nat) (hA : w.cell? ⟨t, 0, none⟩ = some (.string a)) (hB : w.cell? ⟨t, 1, none⟩ = some (.string b)) (hok : Ok w) :
    Calls Tryz.prog 101 #[.slice (some ⟨t, 0, none⟩) 2 2] w (Out a.data.toList b.data.toList w) := by
  have hlt := World.block_lt_of_cell? w _ hA
  have HA := Lib.hid hA
  have HB := Lib.hid hB
  have HOK := Lib.hid hok
  clear hA hB hok
  go_enter Tryz.func101, Tryz.ntmps101
  have hmk := run_makeP
  go_wp2_with fail
  clear hmk
  have hb0 : Below w.heap.size w (w.alloc (.cells #[.pointer none, .pointer none] 37)) := (Below.refl _ _).alloc (Nat.le_refl _) _
  have HB0 := Lib.hid hb0
  have HL : Hid (Blk (w.alloc (.cells #[.pointer none, .pointer none] 37)) w.heap.size #[.pointer none, .pointer none]) := Lib.hid (Blk.alloc _ _ _)
  clear hb0
  go_loopw [4, 10] (fun _ v10 wr => ∃ j : Nat, j ≤ 2 ∧ v10 = .int .i64 j ∧ St a.data.toList b.data.toList w w.heap.size j wr) (fun _ v10 _ => 2 - (intOf v10).toNat)
  case atStart => exact ⟨0, by omega, rfl, HB0.out, .inl ⟨rfl, HL.out⟩⟩
  case round =>
    obtain ⟨j, hj, rfl, hbe, hst⟩ := hrel
    clear HB0 HL
    have HBE := Lib.hid hbe
    have HA' := Lib.hid (Ops.cell_below HA.out hbe)
    have HB' := Lib.hid (Ops.cell_below HB.out hbe)
    have HOK' := Lib.hid (HOK.out.below hbe)
    clear hbe HA HB HOK
    rcases hst with ⟨rfl, hbl⟩ | ⟨rfl, p, g, hp, hbl, hr, hg⟩ | ⟨rfl, p, q, g, k, hp, hq, hbl, hr, hr2, hg, hk⟩
    · have hc0 := HA'.out
      have HBL := Lib.hid hbl
      clear hbl
      go_wp2_with fail
      refine (ParseWalk.calls a ha _ HOK'.out).mono ?_
      rintro e w2 ⟨ho, hb2⟩
      rcases ho with ⟨p, g, hp, rfl, hr, hg⟩ | ⟨hn, rfl⟩
      · have hB2 := HBL.out.same (hb2.block _ HBL.out.lt)
        have hc1 : w2.cell? ⟨w.heap.size, 0, none⟩ = some (.pointer none) := hB2.cell 0
        have hf1 := hB2.frozen 0
        have hne : g ≠ w.heap.size := by have := HBL.out.lt; omega
        have hr3 := hr.grown (Keeps.set hB2 flatP 0 (P g)) (grown_set w2 w.heap.size 0 (P g)) hne
        have hB3 := hB2.set 0 (P g)
        have hc3 : (w2.setCell ⟨w.heap.size, 0, none⟩ (P g)).cell? ⟨w.heap.size, 0, none⟩ = some (P g) := hB3.cell 0
        have HS : Hid (St a.data.toList b.data.toList w w.heap.size 1 (w2.setCell ⟨w.heap.size, 0, none⟩ (P g))) :=
          Lib.hid ⟨below_grown (below_step HBE.out hb2) (grown_set _ _ _ _) (Nat.le_refl _), .inr (.inl ⟨rfl, p, g, hp, hB3, hr3, Nat.le_trans HBE.out.size hg⟩)⟩
        clear hb2 hp hr hg hB2 hne hr3 hB3
        go_wp2_with fail
        go_roundw
        case rel => exact ⟨1, by omega, by rfl, HS.out⟩
        case measure => simp [intOf]
      · have hB2 := HBL.out.same (hb2.block _ HBL.out.lt)
        have hc1 : w2.cell? ⟨w.heap.size, 0, none⟩ = some (.pointer none) := hB2.cell 0
        have hf1 := hB2.frozen 0
        have hB3 := hB2.set 0 (.pointer none)
        have hc3 : (w2.setCell ⟨w.heap.size, 0, none⟩ (.pointer none)).cell? ⟨w.heap.size, 0, none⟩ = some (.pointer none) := hB3.cell 0
        have HS : Hid (Below w.heap.size w (w2.setCell ⟨w.heap.size, 0, none⟩ (.pointer none)) ∧ ∀ q, a.data.toList ≠ rtxt q) := Lib.hid ⟨below_grown (below_step HBE.out hb2) (grown_set _ _ _ _) (Nat.le_refl _), hn⟩
        clear hb2 hn hB2 hB3
        go_wp2_with fail
        go_ret
        exact ⟨HS.out.1, .inr ⟨.inl HS.out.2, rfl⟩⟩
    · have hc0 := HB'.out
      have HBL := Lib.hid hbl
      have HP := Lib.hid (And.intro hp (And.intro hr hg))
      clear hbl hp hr hg
      go_wp2_with fail
      refine (ParseWalk.calls b hb _ HOK'.out).mono ?_
      rintro e w2 ⟨ho, hb2⟩
      rcases ho with ⟨q, k, hq, rfl, hr, hk⟩ | ⟨hn, rfl⟩
      · have hB2 := HBL.out.same (hb2.block _ HBL.out.lt)
        have hc1 : w2.cell? ⟨w.heap.size, 1, none⟩ = some (.pointer none) := hB2.cell 1
        have hf1 := hB2.frozen 1
        have hne : k ≠ w.heap.size := by have := HBL.out.lt; omega
        have hgl : g ≠ w.heap.size := by
          intro e
          obtain ⟨A, B, c, d, h1, _⟩ := HP.out.2.1
          rw [e] at h1
          have h2 := h1.cell 0
          rw [HBL.out.cell 0] at h2
          simp at h2
        have hr3 := hr.grown (Keeps.set hB2 flatP 1 (P k)) (grown_set w2 w.heap.size 1 (P k)) hne
        have hr4 := (HP.out.2.1.below hb2).grown (Keeps.set hB2 flatP 1 (P k)) (grown_set w2 w.heap.size 1 (P k)) hgl
        have hB3 := hB2.set 1 (P k)
        have hc3 : (w2.setCell ⟨w.heap.size, 1, none⟩ (P k)).cell? ⟨w.heap.size, 1, none⟩ = some (P k) := hB3.cell 1
        have HS : Hid (St a.data.toList b.data.toList w w.heap.size 2 (w2.setCell ⟨w.heap.size, 1, none⟩ (P k))) :=
          Lib.hid ⟨below_grown (below_step HBE.out hb2) (grown_set _ _ _ _) (Nat.le_refl _), .inr (.inr ⟨rfl, p, q, g, k, HP.out.1, hq, hB3, hr4, hr3, HP.out.2.2, Nat.le_trans HBE.out.size hk⟩)⟩
        clear hb2 hq hr hk hB2 hne hr3 hr4 hB3 hgl
        go_wp2_with fail
        go_roundw
        case rel => exact ⟨2, by omega, by rfl, HS.out⟩
        case measure => simp [intOf]
      · have hB2 := HBL.out.same (hb2.block _ HBL.out.lt)
        have hc1 : w2.cell? ⟨w.heap.size, 1, none⟩ = some (.pointer none) := hB2.cell 1
        have hf1 := hB2.frozen 1
        have hB3 := hB2.set 1 (.pointer none)
        have hc3 : (w2.setCell ⟨w.heap.size, 1, none⟩ (.pointer none)).cell? ⟨w.heap.size, 1, none⟩ = some (.pointer none) := hB3.cell 1
        have HS : Hid (Below w.heap.size w (w2.setCell ⟨w.heap.size, 1, none⟩ (.pointer none)) ∧ ∀ q, b.data.toList ≠ rtxt q) := Lib.hid ⟨below_grown (below_step HBE.out hb2) (grown_set _ _ _ _) (Nat.le_refl _), hn⟩
        clear hb2 hn hB2 hB3
        go_wp2_with fail
        go_ret
        exact ⟨HS.out.1, .inr ⟨.inr HS.out.2, rfl⟩⟩
    · have HP : Hid (Out a.data.toList b.data.toList w (.returned (.slice (some ⟨w.heap.size, 0, none⟩) 2 2)) wr) := Lib.hid ⟨HBE.out, .inl ⟨p, q, g, k, _, hp, hq, rfl, hbl, hr, hr2, hg, hk⟩⟩
      clear hbl hp hq hr hr2 hg hk
      go_wp2_with fail
      go_ret
      exact HP.out

end Go.Proofs.YtjeamchaibialaaGreatDoor.PairWalk
