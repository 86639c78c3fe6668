/- Joined: ReadLaw -/
import Derived.Test.YtjeamchaibialaaGreatDoorM11
import Derived.Test.YtjeamchaibialaaGreatDoorM17
set_option linter.unusedVariables false
set_option linter.unusedSimpArgs false
/- The law's reads: the walk. -/
namespace Go.Proofs.YtjeamchaibialaaGreatDoor.Consts
open Go.RowKit Go.Proofs.YtjeamchaibialaaGreatDoorW.PrintWords Go.Proofs.YtjeamchaibialaaGreatDoorW.PrintLast Go.Proofs.YtjeamchaibialaaGreatDoorW.PrintMore Fns Limbs Nats Go.Proofs.YtjeamchaibialaaGreatDoor.Told ReadWalk Texts Rats Parses Heaps Go.Proofs.YtjeamchaibialaaGreatDoor.Splits Go.Proofs.YtjeamchaibialaaGreatDoor.Nums Go.Proofs.YtjeamchaibialaaGreatDoor.Laws Go.Proofs.YtjeamchaibialaaGreatDoor.Reads2

theorem lit_point (n : Nat) : Reads2.Lit (txt n ++ [46, 48]) ∧ litOf (txt n ++ [46, 48]) = ((n : Int) : Rat) := by
  have hc : Lib.cut (txt n ++ [46, 48]) [46] = (txt n, [48], true) := cut_one (txt n) [48] 46 (fun b hb => (fun e => by
    have := txt_dig n b hb
    rw [e] at this
    exact absurd this (by decide)))
  unfold Reads2.Lit litOf
  rw [hc]
  refine ⟨⟨num_txt n, fun _ => ⟨by simp, fun b hb => ?_⟩⟩, ?_⟩
  · rw [List.mem_singleton.1 hb]; decide
  · rw [dec_append, dec_txt]
    show frac false (n * 10 ^ 1 + dec [48]) (10 ^ 1) = _
    rw [show dec [48] = 0 from rfl, Nat.add_zero]
    unfold frac
    rw [sg_false, show ((n * 10 ^ 1 : Nat) : Int) = (n : Int) * ((10 : Nat) : Int) from by push_cast; rfl, show (10 ^ 1 : Nat) = 1 * 10 from rfl, Rat.mkRat_mul_right (by omega), Rat.mkRat_one]

theorem sz_int {z : Int} {N : Nat} (h : (limbs z.natAbs).length ≤ N) (h1 : 1 ≤ N) : Sizes.Sz (z : Rat) N := ⟨by rw [Rat.num_intCast]; exact h, by rw [Rat.den_intCast, Sizes.limbs_one]; exact h1⟩

set_option maxRecDepth 100000 in
theorem reads_yes (N : Nat) (s : ByteArray) (r : Rat) (hs : s.size ≤ 30000000) (hl : Reads2.Lit s.data.toList) (hr : litOf s.data.toList = r) (hz : Sizes.Sz r N) (w : World) (hok : Ok w) :
    Calls Tryz.prog 20 #[.string s] w (Tells N r w) := by
  go_enter Tryz.func20, Tryz.ntmps20
  go_wp2_with fail
  refine (Reads2.calls s hs _ hok).mono ?_
  rintro e w1 ⟨hb1, ⟨_, rfl⟩ | ⟨hn, rfl⟩⟩
  · rw [hr]
    have HB := Lib.hid hb1
    obtain ⟨v, hv⟩ : ∃ v : ByteArray, v = ⟨(rtxt r).toArray⟩ := ⟨_, rfl⟩
    rw [← hv]
    have HV : Hid (Is N v r) := Lib.hid ⟨by rw [hv], hz⟩
    clear hb1 hl hr hv
    go_wp2_with fail
    refine (told_yes v _).mono ?_
    rintro e w2 ⟨rfl, rfl⟩
    go_wp2_with fail
    go_ret
    exact ⟨_, rfl, HV.out, HB.out⟩
  · exact absurd hl hn

end Go.Proofs.YtjeamchaibialaaGreatDoor.Consts
