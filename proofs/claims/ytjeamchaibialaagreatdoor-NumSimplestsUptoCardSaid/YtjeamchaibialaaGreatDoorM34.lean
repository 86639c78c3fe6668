/- Joined: TopSimplests -/
import Derived.Test.YtjeamchaibialaaGreatDoorM33
import Derived.Test.YtjeamchaibialaaGreatDoorM10
set_option linter.unusedVariables false
set_option linter.unusedSimpArgs false
/- NumSimplests: the walk. -/
namespace Go.Proofs.YtjeamchaibialaaGreatDoor.TopSimplests
open Go.RowKit Go.Proofs.YtjeamchaibialaaGreatDoorW.PrintWords Go.Proofs.YtjeamchaibialaaGreatDoorW.PrintLast Go.Proofs.YtjeamchaibialaaGreatDoorW.PrintMore Fns Limbs Nats Go.Proofs.YtjeamchaibialaaGreatDoor.Told ReadWalk Texts Rats Parses Heaps Go.Proofs.YtjeamchaibialaaGreatDoor.Splits Go.Proofs.YtjeamchaibialaaGreatDoor.SaysLaw Go.Proofs.YtjeamchaibialaaGreatDoor.BoundWalk Go.Proofs.YtjeamchaibialaaGreatDoor.SimpWalk

theorem same {l m : List UInt8} {w w' W W' : World} {e e' : Ending} (h : OutS l m w e W) (h' : OutS l m w' e' W') : ∃ (x : ByteArray) (z : Int), (0 ≤ z ∧ z ≤ 3) ∧ e = .returned (.tuple #[.string x, .int .i64 z]) ∧ e' = .returned (.tuple #[.string x, .int .i64 z]) := by
  rcases h.2 with ⟨x, y, r, h1, h2, h3, h4, _, rfl⟩ | ⟨x, y, h1, h2, h3, rfl⟩ | ⟨h1, rfl⟩ <;> rcases h'.2 with ⟨x', y', r', k1, k2, k3, k4, _, rfl⟩ | ⟨x', y', k1, k2, k3, rfl⟩ | ⟨k1, rfl⟩
  · obtain rfl := h1.uniq k1
    obtain rfl := h2.uniq k2
    obtain rfl := h4.uniq k4
    exact ⟨_, 0, by omega, rfl, rfl⟩
  · obtain rfl := h1.uniq k1
    obtain rfl := h2.uniq k2
    exact absurd h3 k3
  · rcases k1 with k | k
    · exact absurd h1 (k _)
    · exact absurd h2 (k _)
  · obtain rfl := h1.uniq k1
    obtain rfl := h2.uniq k2
    exact absurd k3 h3
  · exact ⟨_, 3, by omega, rfl, rfl⟩
  · rcases k1 with k | k
    · exact absurd h1 (k _)
    · exact absurd h2 (k _)
  · rcases h1 with k | k
    · exact absurd k1 (k _)
    · exact absurd k2 (k _)
  · rcases h1 with k | k
    · exact absurd k1 (k _)
    · exact absurd k2 (k _)
  · exact ⟨_, 1, by omega, rfl, rfl⟩
theorem form {l m : List UInt8} {w W : World} {e : Ending} (h : OutS l m w e W) : ∃ (x : ByteArray) (z : Int), e = .returned (.tuple #[.string x, .int .i64 z]) := by
  obtain ⟨x, z, _, h, _⟩ := same h h
  exact ⟨x, z, h⟩

set_option maxRecDepth 100000 in
set_option maxHeartbeats 400000 in
theorem law (a b : ByteArray) (ha : a.size ≤ 1048576) (hb : b.size ≤ 1048576) (w : World) (hok : Ok w) :
    Calls Tryz.prog 3 #[.string a, .string b] w (Says true w) := by
  go_enter Tryz.func3, Tryz.ntmps3
  go_wp2_with fail
  refine (SimpWalk.calls a b ha hb _ hok).mono ?_
  rintro e w1 h1
  obtain ⟨x, z, rfl⟩ := form h1
  have H1 := Lib.hid h1
  clear h1
  go_wp2_with fail
  refine (SimR.calls a b ha hb _).mono ?_
  rintro e w2 h2
  obtain ⟨x2, z2, hz, e1, e2⟩ := same H1.out h2
  injection e1 with e1
  injection e1 with e1
  obtain ⟨rfl, rfl⟩ : x = x2 ∧ z = z2 := by simp at e1; exact e1
  subst e2
  have HB := Lib.hid (below_step H1.out.1 h2.1)
  have HE : (x.toList == x.toList) = true := beq_self_eq_true _
  have HZ2 : (z == z) = true := beq_self_eq_true _
  clear h2 e1 H1
  go_wp2_with fail
  refine (no_calls z hz.1 hz.2 _).mono ?_
  rintro e w3 ⟨rfl, hw3⟩
  rw [hw3]
  clear hw3
  go_wp2_with fail
  go_ret
  exact ⟨rfl, HB.out⟩
end Go.Proofs.YtjeamchaibialaaGreatDoor.TopSimplests
