/- Joined: Says TopCanons -/
import Derived.Test.YtjeamchaibialaaDoorM3
import Derived.Test.YtjeamchaibialaaDoorM9
set_option linter.unusedVariables false
set_option linter.unusedSimpArgs false
/- What a law's walk answers, and its errors' numbers. -/
namespace Go.Proofs.YtjeamchaibialaaDoor.SaysLaw
open Go.RowKit Go.Proofs.YtjeamchaibialaaDoorW.PrintWords Go.Proofs.YtjeamchaibialaaDoorW.PrintLast Go.Proofs.YtjeamchaibialaaDoorW.PrintMore

set_option maxRecDepth 100000 in
theorem no_calls (z : Int) (h0 : 0 ≤ z) (h1 : z ≤ 3) (w : World) :
    Calls Tryd.prog 13 #[.int .i64 z] w fun e w' => e = .returned (.int .i64 z) ∧ w' = w := by
  have hw : IntKind.i64.wrap z = z := IntWalk.i64_in _ (by omega)
  go_enter Tryd.func13, Tryd.ntmps13
  go_wp2_with fail
  go_ret
  exact ⟨rfl, rfl⟩
def Says (b : Bool) (w : World) (e : Ending) (w' : World) : Prop := e = .returned (.bool b) ∧ Below w.heap.size w w'
end Go.Proofs.YtjeamchaibialaaDoor.SaysLaw

/- NumCanons: the walk. -/
namespace Go.Proofs.YtjeamchaibialaaDoor.TopCanons
open Go.RowKit Go.Proofs.YtjeamchaibialaaDoorW.PrintWords Go.Proofs.YtjeamchaibialaaDoorW.PrintLast Go.Proofs.YtjeamchaibialaaDoorW.PrintMore Fns Limbs Nats Go.Proofs.YtjeamchaibialaaDoor.Told ReadWalk Texts Rats Parses Heaps Go.Proofs.YtjeamchaibialaaDoor.Splits Go.Proofs.YtjeamchaibialaaDoor.SaysLaw

theorem canon_same {l : List UInt8} {w w' W W' : World} {e e' : Ending} (h : CanonWalk.Out l w e W) (h' : CanonWalk.Out l w' e' W') : ∃ (x : ByteArray) (z : Int), (z = 0 ∨ z = 1 ∨ z = 2) ∧ e = .returned (.tuple #[.string x, .int .i64 z]) ∧ e' = .returned (.tuple #[.string x, .int .i64 z]) := by
  rcases h.2 with ⟨h1, rfl⟩ | ⟨h1, h2, rfl⟩ | ⟨h1, h2, rfl⟩ <;> rcases h'.2 with ⟨k1, rfl⟩ | ⟨k1, k2, rfl⟩ | ⟨k1, k2, rfl⟩
  · exact ⟨_, 1, .inr (.inl rfl), rfl, rfl⟩
  · exact absurd k1 h1
  · exact absurd k1 h1
  · exact absurd h1 k1
  · exact ⟨_, 2, .inr (.inr rfl), rfl, rfl⟩
  · exact absurd h2 k2
  · exact absurd h1 k1
  · exact absurd k2 h2
  · exact ⟨_, 0, .inl rfl, rfl, rfl⟩
theorem canon_form {l : List UInt8} {w W : World} {e : Ending} (h : CanonWalk.Out l w e W) : ∃ (x : ByteArray) (z : Int), e = .returned (.tuple #[.string x, .int .i64 z]) := by
  rcases h.2 with ⟨h1, rfl⟩ | ⟨h1, h2, rfl⟩ | ⟨h1, h2, rfl⟩
  · exact ⟨_, _, rfl⟩
  · exact ⟨_, _, rfl⟩
  · exact ⟨_, _, rfl⟩

set_option maxRecDepth 100000 in
set_option maxHeartbeats 400000 in
theorem canons (s : ByteArray) (hs : s.size ≤ 1048576) (w : World) (hok : Ok w) :
    Calls Tryd.prog 3 #[.string s] w (Says true w) := by
  go_enter Tryd.func3, Tryd.ntmps3
  go_wp2_with fail
  refine (CanonWalk.calls s (by omega) _ hok).mono ?_
  rintro e w1 h1
  obtain ⟨x, z, rfl⟩ := canon_form h1
  have H1 := Lib.hid h1
  clear h1
  go_wp2_with fail
  refine (RefO.normal_calls s (by omega) _).mono ?_
  rintro e w2 h2
  obtain ⟨x2, z2, hz, e1, e2⟩ := canon_same H1.out h2
  injection e1 with e1
  injection e1 with e1
  obtain ⟨rfl, rfl⟩ : x = x2 ∧ z = z2 := by simp at e1; exact e1
  subst e2
  have HB := Lib.hid (below_step H1.out.1 h2.1)
  have HE : (x.toList == x.toList) = true := beq_self_eq_true _
  have HZ : (z == z) = true := beq_self_eq_true _
  clear h2 e1 H1
  go_wp2_with fail
  refine (no_calls z (by omega) (by omega) _).mono ?_
  rintro e w3 ⟨rfl, hw3⟩
  rw [hw3]
  clear hw3
  go_wp2_with fail
  go_ret
  exact ⟨rfl, HB.out⟩
end Go.Proofs.YtjeamchaibialaaDoor.TopCanons
