/- Joined: TopMuls TopAdds -/
import Derived.Test.YtjeamchaibialaaDoorM16
import Derived.Test.YtjeamchaibialaaDoorM11
set_option linter.unusedVariables false
set_option linter.unusedSimpArgs false
/- NumMuls: the walk. -/
namespace Go.Proofs.YtjeamchaibialaaDoor.TopMuls
open Go.RowKit Go.Proofs.YtjeamchaibialaaDoorW.PrintWords Go.Proofs.YtjeamchaibialaaDoorW.PrintLast Go.Proofs.YtjeamchaibialaaDoorW.PrintMore Fns Limbs Nats Go.Proofs.YtjeamchaibialaaDoor.Told ReadWalk Texts Rats Parses Heaps Go.Proofs.YtjeamchaibialaaDoor.Splits Go.Proofs.YtjeamchaibialaaDoor.Laws Go.Proofs.YtjeamchaibialaaDoor.Bins Go.Proofs.YtjeamchaibialaaDoor.Nums

theorem two_same {f : Rat → Rat → Rat} {a b : List UInt8} {w w' W W' : World} {e e' : Ending} (h : Out2 f a b w e W) (h' : Out2 f a b w' e' W') : ∃ (x : ByteArray) (z : Int), 0 ≤ z ∧ z ≤ 3 ∧ e = .returned (.tuple #[.string x, .int .i64 z]) ∧ e' = .returned (.tuple #[.string x, .int .i64 z]) := by
  rcases h.2 with ⟨p, q, h1, h2, rfl⟩ | ⟨h1, rfl⟩ <;> rcases h'.2 with ⟨p', q', k1, k2, rfl⟩ | ⟨k1, rfl⟩
  · have e1 : p' = p := rtxt_inj (by rw [← k1, h1])
    have e2 : q' = q := rtxt_inj (by rw [← k2, h2])
    subst e1 e2
    exact ⟨_, 0, by omega, by omega, rfl, rfl⟩
  · exact absurd k1 (fun h => by rcases h with h | h; exact h p h1; exact h q h2)
  · exact absurd h1 (fun h => by rcases h with h | h; exact h p' k1; exact h q' k2)
  · exact ⟨_, 1, by omega, by omega, rfl, rfl⟩
theorem quo_same {a b : List UInt8} {w w' W W' : World} {e e' : Ending} (h : OutQ a b w e W) (h' : OutQ a b w' e' W') : ∃ (x : ByteArray) (z : Int), 0 ≤ z ∧ z ≤ 3 ∧ e = .returned (.tuple #[.string x, .int .i64 z]) ∧ e' = .returned (.tuple #[.string x, .int .i64 z]) := by
  rcases h.2 with ⟨p, q, h1, h2, h3, rfl⟩ | ⟨p, h1, h2, rfl⟩ | ⟨h1, rfl⟩ <;> rcases h'.2 with ⟨p', q', k1, k2, k3, rfl⟩ | ⟨p', k1, k2, rfl⟩ | ⟨k1, rfl⟩
  · have e1 : p' = p := rtxt_inj (by rw [← k1, h1])
    have e2 : q' = q := rtxt_inj (by rw [← k2, h2])
    subst e1 e2
    exact ⟨_, 0, by omega, by omega, rfl, rfl⟩
  · exact absurd (rtxt_inj (by rw [← h2, k2])) h3
  · exact absurd k1 (fun h => by rcases h with h | h; exact h p h1; exact h q h2)
  · exact absurd (rtxt_inj (by rw [← k2, h2])) k3
  · exact ⟨_, 2, by omega, by omega, rfl, rfl⟩
  · exact absurd k1 (fun h => by rcases h with h | h; exact h p h1; exact h 0 h2)
  · exact absurd h1 (fun h => by rcases h with h | h; exact h p' k1; exact h q' k2)
  · exact absurd h1 (fun h => by rcases h with h | h; exact h p' k1; exact h 0 k2)
  · exact ⟨_, 1, by omega, by omega, rfl, rfl⟩

set_option maxRecDepth 100000 in
set_option maxHeartbeats 1000000 in
theorem law (a b : ByteArray) (ha : a.size ≤ 1048576) (hb : b.size ≤ 1048576) (w : World) (hok : Ok w) :
    Calls Tryd.prog 5 #[.string a, .string b] w (Says true w) := by
  have HOK := Lib.hid hok
  have HB := Lib.hid (Below.refl w.heap.size w)
  clear hok
  go_enter Tryd.func5, Tryd.ntmps5
  go_wp2_with fail
  refine (Nums.mul_calls a b (by omega) (by omega) _ HOK.out).mono ?_
  rintro e w1 h1
  obtain ⟨x1, z1, hz1, hy1, e1, _⟩ := two_same h1 h1
  subst e1
  have H1 := Lib.hid (And.intro h1 (And.intro (HOK.out.below h1.1) (below_step HB.out h1.1)))
  clear h1 HOK HB
  go_wp2_with fail
  refine (RefQ.refMul_calls a b (by omega) (by omega) _).mono ?_
  rintro e w2 h2
  obtain ⟨x', z', _, _, e1, e2⟩ := two_same H1.out.1 h2
  injection e1 with e1
  injection e1 with e1
  obtain ⟨rfl, rfl⟩ : x1 = x' ∧ z1 = z' := by simp at e1; exact e1
  subst e2
  have HOK := Lib.hid (H1.out.2.1.below h2.1)
  have HB := Lib.hid (below_step H1.out.2.2 h2.1)
  have HE : (x1.toList == x1.toList) = true := beq_self_eq_true _
  have HEn : (x1.toList != x1.toList) = false := bne_self_eq_false _
  have HZ : (z1 == z1) = true := beq_self_eq_true _
  have HZn : (z1 != z1) = false := bne_self_eq_false _
  clear h2 e1 H1
  go_wp2_with fail
  refine (no_calls z1 hz1 hy1 _).mono ?_
  rintro e w3 ⟨rfl, hw3⟩
  rw [hw3]
  clear hw3
  go_wp2_with fail
  refine (Nums.quo_calls a b (by omega) (by omega) _ HOK.out).mono ?_
  rintro e w1 h1
  obtain ⟨x2, z2, hz2, hy2, e1, _⟩ := quo_same h1 h1
  subst e1
  have H1 := Lib.hid (And.intro h1 (And.intro (HOK.out.below h1.1) (below_step HB.out h1.1)))
  clear h1 HOK HB
  go_wp2_with fail
  refine (RefQ.refQuo_calls a b (by omega) (by omega) _).mono ?_
  rintro e w2 h2
  obtain ⟨x', z', _, _, e1, e2⟩ := quo_same H1.out.1 h2
  injection e1 with e1
  injection e1 with e1
  obtain ⟨rfl, rfl⟩ : x2 = x' ∧ z2 = z' := by simp at e1; exact e1
  subst e2
  have HOK := Lib.hid (H1.out.2.1.below h2.1)
  have HB := Lib.hid (below_step H1.out.2.2 h2.1)
  have HE : (x2.toList == x2.toList) = true := beq_self_eq_true _
  have HEn : (x2.toList != x2.toList) = false := bne_self_eq_false _
  have HZ : (z2 == z2) = true := beq_self_eq_true _
  have HZn : (z2 != z2) = false := bne_self_eq_false _
  clear h2 e1 H1
  go_wp2_with fail
  refine (no_calls z2 hz2 hy2 _).mono ?_
  rintro e w3 ⟨rfl, hw3⟩
  rw [hw3]
  clear hw3
  go_wp2_with fail
  go_ret
  exact ⟨rfl, HB.out⟩

end Go.Proofs.YtjeamchaibialaaDoor.TopMuls

/- NumAdds: the walk. -/
namespace Go.Proofs.YtjeamchaibialaaDoor.TopAdds
open Go.RowKit Go.Proofs.YtjeamchaibialaaDoorW.PrintWords Go.Proofs.YtjeamchaibialaaDoorW.PrintLast Go.Proofs.YtjeamchaibialaaDoorW.PrintMore Fns Limbs Nats Go.Proofs.YtjeamchaibialaaDoor.Told ReadWalk Texts Rats Parses Heaps Go.Proofs.YtjeamchaibialaaDoor.Splits Go.Proofs.YtjeamchaibialaaDoor.Laws Go.Proofs.YtjeamchaibialaaDoor.Bins Go.Proofs.YtjeamchaibialaaDoor.Nums

theorem two_same {f : Rat → Rat → Rat} {a b : List UInt8} {w w' W W' : World} {e e' : Ending} (h : Out2 f a b w e W) (h' : Out2 f a b w' e' W') : ∃ (x : ByteArray) (z : Int), 0 ≤ z ∧ z ≤ 3 ∧ e = .returned (.tuple #[.string x, .int .i64 z]) ∧ e' = .returned (.tuple #[.string x, .int .i64 z]) := by
  rcases h.2 with ⟨p, q, h1, h2, rfl⟩ | ⟨h1, rfl⟩ <;> rcases h'.2 with ⟨p', q', k1, k2, rfl⟩ | ⟨k1, rfl⟩
  · have e1 : p' = p := rtxt_inj (by rw [← k1, h1])
    have e2 : q' = q := rtxt_inj (by rw [← k2, h2])
    subst e1 e2
    exact ⟨_, 0, by omega, by omega, rfl, rfl⟩
  · exact absurd k1 (fun h => by rcases h with h | h; exact h p h1; exact h q h2)
  · exact absurd h1 (fun h => by rcases h with h | h; exact h p' k1; exact h q' k2)
  · exact ⟨_, 1, by omega, by omega, rfl, rfl⟩

set_option maxRecDepth 100000 in
set_option maxHeartbeats 1000000 in
theorem law (a b : ByteArray) (ha : a.size ≤ 1048576) (hb : b.size ≤ 1048576) (w : World) (hok : Ok w) :
    Calls Tryd.prog 7 #[.string a, .string b] w (Says true w) := by
  have HOK := Lib.hid hok
  have HB := Lib.hid (Below.refl w.heap.size w)
  clear hok
  go_enter Tryd.func7, Tryd.ntmps7
  go_wp2_with fail
  refine (Nums.add_calls a b (by omega) (by omega) _ HOK.out).mono ?_
  rintro e w1 h1
  obtain ⟨x1, z1, hz1, hy1, e1, _⟩ := two_same h1 h1
  subst e1
  have H1 := Lib.hid (And.intro h1 (And.intro (HOK.out.below h1.1) (below_step HB.out h1.1)))
  clear h1 HOK HB
  go_wp2_with fail
  refine (RefQ.refAdd_calls a b (by omega) (by omega) _).mono ?_
  rintro e w2 h2
  obtain ⟨x', z', _, _, e1, e2⟩ := two_same H1.out.1 h2
  injection e1 with e1
  injection e1 with e1
  obtain ⟨rfl, rfl⟩ : x1 = x' ∧ z1 = z' := by simp at e1; exact e1
  subst e2
  have HOK := Lib.hid (H1.out.2.1.below h2.1)
  have HB := Lib.hid (below_step H1.out.2.2 h2.1)
  have HE : (x1.toList == x1.toList) = true := beq_self_eq_true _
  have HEn : (x1.toList != x1.toList) = false := bne_self_eq_false _
  have HZ : (z1 == z1) = true := beq_self_eq_true _
  have HZn : (z1 != z1) = false := bne_self_eq_false _
  clear h2 e1 H1
  go_wp2_with fail
  refine (no_calls z1 hz1 hy1 _).mono ?_
  rintro e w3 ⟨rfl, hw3⟩
  rw [hw3]
  clear hw3
  go_wp2_with fail
  refine (Nums.sub_calls a b (by omega) (by omega) _ HOK.out).mono ?_
  rintro e w1 h1
  obtain ⟨x2, z2, hz2, hy2, e1, _⟩ := two_same h1 h1
  subst e1
  have H1 := Lib.hid (And.intro h1 (And.intro (HOK.out.below h1.1) (below_step HB.out h1.1)))
  clear h1 HOK HB
  go_wp2_with fail
  refine (RefQ.refSub_calls a b (by omega) (by omega) _).mono ?_
  rintro e w2 h2
  obtain ⟨x', z', _, _, e1, e2⟩ := two_same H1.out.1 h2
  injection e1 with e1
  injection e1 with e1
  obtain ⟨rfl, rfl⟩ : x2 = x' ∧ z2 = z' := by simp at e1; exact e1
  subst e2
  have HOK := Lib.hid (H1.out.2.1.below h2.1)
  have HB := Lib.hid (below_step H1.out.2.2 h2.1)
  have HE : (x2.toList == x2.toList) = true := beq_self_eq_true _
  have HEn : (x2.toList != x2.toList) = false := bne_self_eq_false _
  have HZ : (z2 == z2) = true := beq_self_eq_true _
  have HZn : (z2 != z2) = false := bne_self_eq_false _
  clear h2 e1 H1
  go_wp2_with fail
  refine (no_calls z2 hz2 hy2 _).mono ?_
  rintro e w3 ⟨rfl, hw3⟩
  rw [hw3]
  clear hw3
  go_wp2_with fail
  go_ret
  exact ⟨rfl, HB.out⟩

end Go.Proofs.YtjeamchaibialaaDoor.TopAdds
