/- Joined: Kons -/
import Derived.Test.YtjeamchaibialaaGreatDoorM11
set_option linter.unusedVariables false
set_option linter.unusedSimpArgs false
/- Texts of constants: The laws of sums and products: the walks. -/
namespace Go.Proofs.YtjeamchaibialaaGreatDoor.Sums
open Go.RowKit Go.Proofs.YtjeamchaibialaaGreatDoorW.PrintWords Go.Proofs.YtjeamchaibialaaGreatDoorW.PrintLast Go.Proofs.YtjeamchaibialaaGreatDoorW.PrintMore Fns Limbs Nats Go.Proofs.YtjeamchaibialaaGreatDoor.Told ReadWalk Texts Rats Parses Heaps Go.Proofs.YtjeamchaibialaaGreatDoor.Splits Go.Proofs.YtjeamchaibialaaGreatDoor.Laws

theorem rtxt_of (q : Rat) (n : Int) (d : Nat) (hn : q.num = n) (hd : q.den = d) : rtxt q = (if n < 0 then [45] else []) ++ (txt n.natAbs ++ (if d = 1 then [] else 47 :: txt d)) := by
  unfold rtxt; rw [hn, hd]
theorem txt1 : txt 1 = [49] := txt_small (by omega)
theorem txt2 : txt 2 = [50] := txt_small (by omega)
theorem txt3 : txt 3 = [51] := txt_small (by omega)
theorem txt5 : txt 5 = [53] := txt_small (by omega)
theorem txt6 : txt 6 = [54] := txt_small (by omega)
theorem txt12 : txt 12 = [49, 50] := by rw [txt_big (by omega)]; simp [txt1]; rfl
theorem is_of {a : ByteArray} {p : Rat} (h : a.data.toList = rtxt p) (hs : a.size ≤ 100) : Is 120000 a p := Is.of h (by omega)
theorem k_half : Is 120000 ⟨#[49, 47, 50]⟩ (1 / 2) := is_of (by rw [rtxt_of _ 1 2 (by decide +kernel) (by decide +kernel)]; simp [txt1, txt2]) (by decide)
theorem k_third : Is 120000 ⟨#[49, 47, 51]⟩ (1 / 3) := is_of (by rw [rtxt_of _ 1 3 (by decide +kernel) (by decide +kernel)]; simp [txt1, txt3]) (by decide)
theorem k_five6 : Is 120000 ⟨#[53, 47, 54]⟩ (5 / 6) := is_of (by rw [rtxt_of _ 5 6 (by decide +kernel) (by decide +kernel)]; simp [txt5, txt6]) (by decide)
theorem k_m23 : Is 120000 ⟨#[45, 50, 47, 51]⟩ (-2 / 3) := is_of (by rw [rtxt_of _ (-2) 3 (by decide +kernel) (by decide +kernel)]; simp [txt2, txt3]) (by decide)
theorem k_32 : Is 120000 ⟨#[51, 47, 50]⟩ (3 / 2) := is_of (by rw [rtxt_of _ 3 2 (by decide +kernel) (by decide +kernel)]; simp [txt2, txt3]) (by decide)
theorem k_m1 : Is 120000 ⟨#[45, 49]⟩ (-1) := is_of (by rw [rtxt_of _ (-1) 1 (by decide +kernel) (by decide +kernel)]; simp [txt1]) (by decide)
theorem k_m3 : Is 120000 ⟨#[45, 51]⟩ (-3) := is_of (by rw [rtxt_of _ (-3) 1 (by decide +kernel) (by decide +kernel)]; simp [txt3]) (by decide)
theorem k_m125 : Is 120000 ⟨#[45, 49, 50, 47, 53]⟩ (-12 / 5) := is_of (by rw [rtxt_of _ (-12) 5 (by decide +kernel) (by decide +kernel)]; simp [txt12, txt5]) (by decide)
theorem k_mhalf : Is 120000 ⟨#[45, 49, 47, 50]⟩ (-1 / 2) := is_of (by rw [rtxt_of _ (-1) 2 (by decide +kernel) (by decide +kernel)]; simp [txt1, txt2]) (by decide)
theorem k_mthird : Is 120000 ⟨#[45, 49, 47, 51]⟩ (-1 / 3) := is_of (by rw [rtxt_of _ (-1) 3 (by decide +kernel) (by decide +kernel)]; simp [txt1, txt3]) (by decide)
theorem k_0 : Is 120000 ⟨#[48]⟩ 0 := is_of (by rw [Nums.rtxt_zero]) (by decide)
theorem k_1 : Is 120000 ⟨#[49]⟩ 1 := is_of (by rw [rtxt_of _ 1 1 (by decide +kernel) (by decide +kernel)]; simp [txt1]) (by decide)
theorem k_2 : Is 120000 ⟨#[50]⟩ 2 := is_of (by rw [rtxt_of _ 2 1 (by decide +kernel) (by decide +kernel)]; simp [txt2]) (by decide)
theorem no_01 : No ⟨#[48, 49]⟩ := by
  intro p h
  have h1 : ratOf (rtxt p) = p := ratOf_rtxt p
  rw [← h] at h1
  have h2 : ratOf [48, 49] = 1 := by decide +kernel
  have h3 : p = 1 := h1.symm.trans h2
  subst h3
  rw [k_1.txt.symm] at h
  exact absurd h (by decide)
theorem loose_42 : CanonWalk.Loose [52, 47, 50] ∧ ¬ CanonWalk.Zero [52, 47, 50] ∧ ratOf [52, 47, 50] = 2 := by
  have hc : Lib.cut (Lib.trimPrefix [52, 47, 50] [45]) [47] = ([52], [50], true) := by decide +kernel
  unfold CanonWalk.Loose CanonWalk.Zero
  rw [hc]
  refine ⟨⟨⟨by simp, ?_⟩, fun _ => ⟨by simp, ?_⟩⟩, fun h => absurd h.2 (by decide +kernel), by decide +kernel⟩
  · intro b hb; rw [List.mem_singleton.1 hb]; decide
  · intro b hb; rw [List.mem_singleton.1 hb]; decide

end Go.Proofs.YtjeamchaibialaaGreatDoor.Sums
