/- The walk of ScanLines over the contract of Place. -/
import Derived.Test.YtccmehomnbdhgaaLinesPure
import Derived.WalkKit
import Derived.Outline
import Derived.BigQuiet
import Derived.Lib.Hide
import Derived.Deep.QuietTactic
namespace Go.Proofs.Ytccmehomnbdhgaa.LinesWalk
open Go.RowKit Go.Proofs.Ytccmehomnbdhgaa.PScanPlaces Go.Proofs.YtccmehomnbdhgaaW.PrintWords Go.Proofs.YtccmehomnbdhgaaW.PrintLast

theorem place_calls (s : ByteArray) (hs : s.size ≤ 300000000000000) (a : Nat) (ha : a ≤ s.size) (w : World) :
    Calls Try.prog 5 #[.string s, .int .i64 a] w fun e w' => e = .returned (.tuple #[.int .i64 (LinesPure.run s a).1, .int .i64 (LinesPure.run s a).2, .int .i64 0]) ∧ Drawn0 w w' := by
  obtain ⟨k, hk⟩ := LinesPure.place s hs a ha
  exact scan_Place.calls k s a _ _ _ w hk

theorem lines_out (a b : ByteArray) (i : Int) (w : World) (h : i < 0 ∨ (b.size : Int) < i) :
    Calls Try.prog 4 #[.string a, .string b, .int .i64 i] w fun e w' => e = .returned (.bool true) ∧ Drawn0 w w' := by
  go_enter Try.func4, Try.ntmps4
  go_wp2_with fail
  all_goals go_ret
  all_goals exact ⟨rfl, Drawn0.refl _⟩

theorem lines_core (a b : ByteArray) (ha : a.size ≤ 140737488351232) (hb : b.size ≤ 140737488351232) (n : Nat) (w : World) (h : n ≤ b.size) (l1 c1 l2 c2 l4 c4 : Int)
    (hA : Hid (∀ w, Calls Try.prog 5 #[.string a, .int .i64 a.size] w fun e w' => e = .returned (.tuple #[.int .i64 l1, .int .i64 c1, .int .i64 0]) ∧ Drawn0 w w'))
    (hB : Hid (∀ w, Calls Try.prog 5 #[.string b, .int .i64 n] w fun e w' => e = .returned (.tuple #[.int .i64 l2, .int .i64 c2, .int .i64 0]) ∧ Drawn0 w w'))
    (hT : Hid (∀ w, Calls Try.prog 5 #[.string (a ++ ⟨#[13, 10]⟩ ++ b), .int .i64 (a.size + 2 + n)] w fun e w' => e = .returned (.tuple #[.int .i64 (l1 + l2), .int .i64 c2, .int .i64 0]) ∧ Drawn0 w w'))
    (hD : Hid (0 < n → ∀ w, Calls Try.prog 5 #[.string b, .int .i64 (n - 1)] w fun e w' => e = .returned (.tuple #[.int .i64 l4, .int .i64 c4, .int .i64 0]) ∧ Drawn0 w w'))
    (b1 : 1 ≤ l1) (b2 : l1 ≤ 140737488351240) (b3 : 1 ≤ c1) (b4 : 1 ≤ l2) (b5 : l2 ≤ 140737488351240) (b6 : 1 ≤ c2) (b7 : Hid (n = 0 → l2 = 1 ∧ c2 = 1)) (b8 : Hid (0 < n → l4 < l2 ∨ (l4 = l2 ∧ c4 ≤ c2))) :
    Calls Try.prog 4 #[.string a, .string b, .int .i64 n] w fun e w' => e = .returned (.bool true) ∧ Drawn0 w w' := by
  have t1 : decide ((n : Int) < 0) = false := by simp
  have t2 : ¬ ((b.size : Int) < n) := by omega
  have q1 : decide (l1 < 1) = false := decide_eq_false (by omega)
  have q2 : decide (c1 < 1) = false := decide_eq_false (by omega)
  have q3 : decide (l2 < 1) = false := decide_eq_false (by omega)
  have q4 : decide (c2 < 1) = false := decide_eq_false (by omega)
  go_enter Try.func4, Try.ntmps4
  go_wp2_with fail
  refine (hA.out _).mono ?_
  rintro e w1 ⟨rfl, ⟨m1, rfl⟩⟩
  go_wp2_with fail
  refine (hB.out _).mono ?_
  rintro e w1 ⟨rfl, ⟨m2, rfl⟩⟩
  go_wp2_with fail
  refine (hT.out _).mono ?_
  rintro e w1 ⟨rfl, ⟨m3, rfl⟩⟩
  rcases Nat.eq_zero_or_pos n with hn | hn
  · obtain ⟨e1, e2⟩ := b7.out hn
    subst hn e1 e2
    go_wp2_with fail
    go_ret
    exact ⟨rfl, ⟨_, rfl⟩⟩
  · have hD := Lib.hid (hD.out hn)
    have b8 := Lib.hid (b8.out hn)
    have n0 : ((n : Int) == 0) = false := by simp; omega
    go_wp2_with fail
    refine (hD.out _).mono ?_
    rintro e w1 ⟨rfl, ⟨m4, rfl⟩⟩
    rcases b8.out with c | ⟨c, c'⟩
    · go_wp2_with fail
      go_ret
      exact ⟨rfl, ⟨_, rfl⟩⟩
    · subst c
      go_wp2_with fail
      go_ret
      exact ⟨rfl, ⟨_, rfl⟩⟩

theorem lines_walk (a b : ByteArray) (i : Int) (w : World) (ha : a.size ≤ 140737488351232) (hb : b.size ≤ 140737488351232) :
    Calls Try.prog 4 #[.string a, .string b, .int .i64 i] w fun e w' => e = .returned (.bool true) ∧ Drawn0 w w' := by
  by_cases c : i < 0 ∨ (b.size : Int) < i
  · exact lines_out a b i w c
  · obtain ⟨n, rfl⟩ := Int.eq_ofNat_of_zero_le (show 0 ≤ i by omega)
    have hn : n ≤ b.size := by omega
    have r1 := LinesPure.run_range a a.size
    have r2 := LinesPure.run_range b n
    have hr := LinesPure.run_right a b n hn
    refine lines_core a b ha hb n w hn (LinesPure.run a a.size).1 (LinesPure.run a a.size).2 (LinesPure.run b n).1 (LinesPure.run b n).2 (LinesPure.run b (n - 1)).1 (LinesPure.run b (n - 1)).2
      (fun w => place_calls a (by omega) _ (Nat.le_refl _) w) (fun w => place_calls b (by omega) n hn w) (fun w => ?_) (fun h w => ?_) r1.1 (by omega) r1.2.2.1 r2.1 (by omega) r2.2.2.1 (fun h => ?_) (fun h => ?_)
    · have hs := LinesPure.cl_size a b
      have := place_calls (a ++ LinesPure.crlf ++ b) (by rw [hs]; omega) (a.size + 2 + n) (by rw [hs]; omega) w
      rw [hr] at this
      exact this
    · have := place_calls b (by omega) (n - 1) (by omega) w
      rw [show ((n - 1 : Nat) : Int) = (n : Int) - 1 from by omega] at this
      exact this
    · subst h; exact ⟨rfl, rfl⟩
    · have := LinesPure.run_mono b (n - 1)
      rw [show n - 1 + 1 = n from by omega] at this
      exact this

end Go.Proofs.Ytccmehomnbdhgaa.LinesWalk
