/- Joined: Heads -/
import Derived.Test.YtjeamchaibialaaGreatDoorM20
set_option linter.unusedVariables false
set_option linter.unusedSimpArgs false
/- What must come at any rate: the walk. -/
namespace Go.Proofs.YtjeamchaibialaaGreatDoor.Sums
open Go.RowKit Go.Proofs.YtjeamchaibialaaGreatDoorW.PrintWords Go.Proofs.YtjeamchaibialaaGreatDoorW.PrintLast Go.Proofs.YtjeamchaibialaaGreatDoorW.PrintMore Fns Limbs Nats Go.Proofs.YtjeamchaibialaaGreatDoor.Told ReadWalk Texts Rats Parses Heaps Go.Proofs.YtjeamchaibialaaGreatDoor.Splits Go.Proofs.YtjeamchaibialaaGreatDoor.Laws

set_option maxRecDepth 100000 in
set_option maxHeartbeats 2000000 in
theorem heads_yes (w : World) (hok : Ok w) :
    Calls Tryz.prog 14 #[] w (Says true w) := by
  have H_half := Lib.hid k_half
  have H_third := Lib.hid k_third
  have H_five6 := Lib.hid k_five6
  have H_m23 := Lib.hid k_m23
  have H_k32 := Lib.hid k_32
  have H_m1 := Lib.hid k_m1
  have H_m3 := Lib.hid k_m3
  have H_m125 := Lib.hid k_m125
  have H_mhalf := Lib.hid k_mhalf
  have H_mthird := Lib.hid k_mthird
  have HOK := Lib.hid hok
  have HB := Lib.hid (Below.refl w.heap.size w)
  clear hok
  go_enter Tryz.func14, Tryz.ntmps14
  go_wp2_with fail
  refine (add_yes 120000 (by omega) _ _ _ _ (H_half.out.mono (by omega)) (H_third.out.mono (by omega)) _ HOK.out).mono ?_
  rintro e w1 ⟨v, rfl, hv, hb⟩
  have hsame := H_five6.out.same hv (show (1 / 2 : Rat) + 1 / 3 = 5 / 6 by decide +kernel)
  subst hsame
  have HOK' := Lib.hid (HOK.out.below hb)
  have HB' := Lib.hid (below_step HB.out hb)
  clear hv hb HOK HB
  have HOK := HOK'
  have HB := HB'
  clear HOK' HB'
  go_wp2_with fail
  refine (mul_yes 120000 (by omega) _ _ _ _ (H_m23.out.mono (by omega)) (H_k32.out.mono (by omega)) _ HOK.out).mono ?_
  rintro e w2 ⟨v, rfl, hv, hb⟩
  have hsame := H_m1.out.same hv (show (-2 / 3 : Rat) * (3 / 2) = -1 by decide +kernel)
  subst hsame
  have HOK' := Lib.hid (HOK.out.below hb)
  have HB' := Lib.hid (below_step HB.out hb)
  clear hv hb HOK HB
  have HOK := HOK'
  have HB := HB'
  clear HOK' HB'
  go_wp2_with fail
  refine (quo_yes 120000 (by omega) _ _ _ _ (show (1 / 3 : Rat) ≠ 0 by decide +kernel) (H_m1.out.mono (by omega)) (H_third.out.mono (by omega)) _ HOK.out).mono ?_
  rintro e w3 ⟨v, rfl, hv, hb⟩
  have hsame := H_m3.out.same hv (show (-1 : Rat) / (1 / 3) = -3 by decide +kernel)
  subst hsame
  have HOK' := Lib.hid (HOK.out.below hb)
  have HB' := Lib.hid (below_step HB.out hb)
  clear hv hb HOK HB
  have HOK := HOK'
  have HB := HB'
  clear HOK' HB'
  go_wp2_with fail
  refine (CanonWalk.calls _ (by decide) _ HOK.out).mono ?_
  rintro e w9 ⟨hb, ⟨h, _⟩ | ⟨_, h, _⟩ | ⟨_, _, rfl⟩⟩
  · exact absurd loose_42.1 h
  · exact absurd h loose_42.2.1
  rw [show (⟨#[52, 47, 50]⟩ : ByteArray).data.toList = [52, 47, 50] from rfl, loose_42.2.2, ← k_2.txt, show CanonWalk.bs (⟨#[50]⟩ : ByteArray).data.toList = ⟨#[50]⟩ from rfl]
  have HOK' := Lib.hid (HOK.out.below hb)
  have HB' := Lib.hid (below_step HB.out hb)
  clear hb HOK HB
  have HOK := HOK'
  have HB := HB'
  clear HOK' HB'
  go_wp2_with fail
  refine (no_calls 0 (by omega) (by omega) _).mono ?_
  rintro e w10 ⟨rfl, rfl⟩
  go_wp2_with fail
  refine (canon_yes 120000 (by omega) _ _ (H_m125.out.mono (by omega)) _ HOK.out).mono ?_
  rintro e w5 ⟨rfl, hb⟩
  have HOK' := Lib.hid (HOK.out.below hb)
  have HB' := Lib.hid (below_step HB.out hb)
  clear hb HOK HB
  have HOK := HOK'
  have HB := HB'
  clear HOK' HB'
  go_wp2_with fail
  refine (canon_no _ (by decide) (no_01) _ HOK.out).mono ?_
  rintro e w6 ⟨rfl, hb⟩
  have HOK' := Lib.hid (HOK.out.below hb)
  have HB' := Lib.hid (below_step HB.out hb)
  clear hb HOK HB
  have HOK := HOK'
  have HB := HB'
  clear HOK' HB'
  go_wp2_with fail
  refine (cmp_yes 120000 (by omega) _ _ _ _ (H_mhalf.out.mono (by omega)) (H_mthird.out.mono (by omega)) _ HOK.out).mono ?_
  rintro e w7 ⟨rfl, hb⟩
  have HOK' := Lib.hid (HOK.out.below hb)
  have HB' := Lib.hid (below_step HB.out hb)
  clear hb HOK HB
  have HOK := HOK'
  have HB := HB'
  clear HOK' HB'
  have hcm : CmpWalk.cmpQ (-1 / 2) (-1 / 3) = -1 := by decide +kernel
  rw [hcm]
  clear hcm
  go_wp2_with fail
  go_ret
  exact ⟨rfl, HB.out⟩

end Go.Proofs.YtjeamchaibialaaGreatDoor.Sums
