-- PRINTED BY print.sh 35421559b90ae4d0a3588c463048766b98c2df88dd9212a6774a882060cdf62d: not written by this session
import Derived.Test.YtkmnoiploeineaaPOrderLubysx0
namespace Go.Proofs.Ytkmnoiploeineaa.POrderLubys
open Go.RowKit Go.Proofs.YtkmnoiploeineaaW.PrintWords Go.Proofs.YtkmnoiploeineaaW.PrintLast Go.Proofs.YtkmnoiploeineaaW.PrintMore
attribute [local go_sem] max2_int min2_int max_two min_two max_three min_three max_four min_four   -- for this text's walks alone
set_option linter.unusedVariables false
set_option linter.unusedSimpArgs false

/-! ### order_Luby: function 11 -/
mutual
def order_Luby.l0 : Nat → Int → Option (Int × Int)
  | 0, _ => none
  | k + 1, x0 => order_Luby.l1 k x0 1
def order_Luby.l1 : Nat → Int → Int → Option (Int × Int)
  | 0, _, _ => none
  | k + 1, x0, x4 => if x4 < (IntKind.u64.wrap (x0)) then (order_Luby.l1 k x0 (Go.bits .or .u64 (IntKind.u64.wrap (x4 * 2)) 1)) else (if x4 = (IntKind.u64.wrap (x0)) then (some (wrap64 (IntKind.u64.wrap ((IntKind.u64.wrap (Int.tdiv x4 2)) + 1)), 0)) else (order_Luby.l0 k (wrap64 (x0 - (wrap64 (IntKind.u64.wrap (Int.tdiv x4 2)))))))
end
def order_Luby.f (k : Nat) (a0 : Int) : Option (Int × Int) := if a0 < 1 then (some (0, 70)) else (order_Luby.l0 k a0)
theorem order_Luby.mono_l : ∀ k, (∀ y0, LeO (order_Luby.l0 k y0) (order_Luby.l0 (k + 1) y0)) ∧ (∀ y0 y1, LeO (order_Luby.l1 k y0 y1) (order_Luby.l1 (k + 1) y0 y1))
  | 0 => ⟨fun _ r h => by simp [order_Luby.l0] at h, fun _ _ r h => by simp [order_Luby.l1] at h⟩
  | k + 1 => by
    obtain ⟨ih0, ih1⟩ := order_Luby.mono_l k
    refine ⟨?_, ?_⟩
    · intro y0
      unfold order_Luby.l0
      repeat' first
      | (with_reducible exact ih0 _)
      | (with_reducible exact ih1 _ _)
      | (with_reducible exact LeO.refl _)
      | (with_reducible exact LeO.none _)
      | (with_reducible refine LeO.ite ?_ ?_)
      | (with_reducible refine LeO.bind ?_ (fun _ => ?_))
      | exact ih0 _
      | exact ih1 _ _
      | exact LeO.none _
      | refine LeO.ite ?_ ?_
      | refine LeO.bind ?_ (fun _ => ?_)
    · intro y0 y1
      unfold order_Luby.l1
      repeat' first
      | (with_reducible exact ih0 _)
      | (with_reducible exact ih1 _ _)
      | (with_reducible exact LeO.refl _)
      | (with_reducible exact LeO.none _)
      | (with_reducible refine LeO.ite ?_ ?_)
      | (with_reducible refine LeO.bind ?_ (fun _ => ?_))
      | exact ih0 _
      | exact ih1 _ _
      | exact LeO.none _
      | refine LeO.ite ?_ ?_
      | refine LeO.bind ?_ (fun _ => ?_)
theorem order_Luby.mono : ∀ a0 k, LeO (order_Luby.f k a0) (order_Luby.f (k + 1) a0) := by
  intro a0 k
  obtain ⟨ih0, ih1⟩ := order_Luby.mono_l k
  unfold order_Luby.f
  repeat' first
      | (with_reducible exact ih0 _)
      | (with_reducible exact ih1 _ _)
      | (with_reducible exact LeO.refl _)
      | (with_reducible exact LeO.none _)
      | (with_reducible refine LeO.ite ?_ ?_)
      | (with_reducible refine LeO.bind ?_ (fun _ => ?_))
      | exact ih0 _
      | exact ih1 _ _
      | exact LeO.none _
      | refine LeO.ite ?_ ?_
      | refine LeO.bind ?_ (fun _ => ?_)
set_option maxHeartbeats 8000000 in
set_option maxRecDepth 100000 in
theorem order_Luby.calls (k : Nat) (a0 : Int) (r1 : Int) (r2 : Int) (w : World) (h : order_Luby.f k a0 = some (r1, r2)) :
    Calls Try.prog 11 #[.int .i64 a0] w fun e w' => e = .returned (.tuple #[.int .i64 r1, .int .i64 r2]) ∧ Drawn0 w w' := by
  have H : (if a0 < 1 then (some (0, 70)) else (order_Luby.l0 k a0)) = some (r1, r2) := h
  clear h
  by_cases c2 : a0 < 1
  · rw [if_pos c2] at H
    have c2b0 : decide (a0 < 1) = true := decide_eq_true c2
    clear c2
    simp only [Option.some.injEq, Prod.mk.injEq] at H
    obtain ⟨rfl, rfl⟩ := H
    go_enter Try.func11, Try.ntmps11
    go_wp2
    go_ret2
    exact ⟨by first | rfl | (simp; done) | (simp [*]; done), by repeat (first | exact Drawn0.refl _ | apply Drawn0.step)⟩
  · rw [if_neg c2] at H
    have c2b0 : decide (a0 < 1) = false := decide_eq_false c2
    clear c2
    have H' := Aside0.mk H
    clear H
    go_enter Try.func11, Try.ntmps11
    go_wp2
    go_loopg [0] k (fun kq v0 w' => ∃ (x0_1 : Int), v0 = .int .i64 x0_1 ∧ Aside0 (order_Luby.l0 kq x0_1 = some (r1, r2)) ∧ Aside0 (kq ≤ k) ∧ Drawn0 w w')
    case atStart => exact ⟨(a0), (by first | rfl | (simp; done) | (simp [*]; done)), H', ⟨Nat.le_refl _⟩, by repeat (first | exact Drawn0.refl _ | apply Drawn0.step)⟩
    case round =>
      clear H'
      try clear c1
      try clear c2
      try clear c2b0
      try clear p2
      obtain ⟨x0_1, rfl, HA, HK1, ⟨m1, rfl⟩⟩ := hrel
      cases gk with
      | zero => exact absurd HA.out (by simp [order_Luby.l0])
      | succ k1 =>
        have H := HA.out
        clear HA
        simp only [order_Luby.l0] at H
        have H' := Aside0.mk H
        clear H
        go_wp2
        go_loopg [4] k1 (fun kq v4 w' => ∃ (x4_2 : Int), v4 = .int .u64 x4_2 ∧ Aside0 (order_Luby.l1 kq x0_1 x4_2 = some (r1, r2)) ∧ Aside0 (kq ≤ k1) ∧ Drawn0 w w')
        case atStart => exact ⟨(1), (by first | rfl | (simp; done) | (simp [*]; done)), H', ⟨Nat.le_refl _⟩, by repeat (first | exact Drawn0.refl _ | apply Drawn0.step)⟩
        case round =>
          clear H'
          try clear c1
          try clear c2
          try clear c2b0
          try clear p2
          try clear p2
          obtain ⟨x4_2, rfl, HA, HK2, ⟨m2, rfl⟩⟩ := hrel
          cases gk with
          | zero => exact absurd HA.out (by simp [order_Luby.l1])
          | succ k2 =>
            have H := HA.out
            clear HA
            simp only [order_Luby.l1] at H
            by_cases c3 : x4_2 < (IntKind.u64.wrap (x0_1))
            · rw [if_pos c3] at H
              have c3b0 : decide (x4_2 < (IntKind.u64.wrap (x0_1))) = true := decide_eq_true c3
              clear c3
              have H' := Aside0.mk H
              clear H
              go_wp2
              go_roundg k2
              case measure => have := HK1.out; have := HK2.out; omega
              case rel => exact ⟨(Go.bits .or .u64 (IntKind.u64.wrap (x4_2 * 2)) 1), (by first | rfl | (simp; done) | (simp [*]; done)), H', ⟨by have := HK1.out; have := HK2.out; omega⟩, by repeat (first | exact Drawn0.refl _ | apply Drawn0.step)⟩
            · rw [if_neg c3] at H
              have c3b0 : decide (x4_2 < (IntKind.u64.wrap (x0_1))) = false := decide_eq_false c3
              clear c3
              by_cases c4 : x4_2 = (IntKind.u64.wrap (x0_1))
              · rw [if_pos c4] at H
                have c4b0 : (x4_2 == (IntKind.u64.wrap (x0_1))) = true := beq_iff_eq.mpr c4
                have c4b1 : (x4_2 != (IntKind.u64.wrap (x0_1))) = false := bne_eq_false_iff_eq.mpr c4
                clear c4
                simp only [Option.some.injEq, Prod.mk.injEq] at H
                obtain ⟨rfl, rfl⟩ := H
                go_wp2
                go_ret2
                exact ⟨by first | rfl | (simp; done) | (simp [*]; done), by repeat (first | exact Drawn0.refl _ | apply Drawn0.step)⟩
              · rw [if_neg c4] at H
                have c4b0 : (x4_2 == (IntKind.u64.wrap (x0_1))) = false := beq_eq_false_iff_ne.mpr c4
                have c4b1 : (x4_2 != (IntKind.u64.wrap (x0_1))) = true := bne_iff_ne.mpr c4
                have H' := Aside0.mk H
                clear H
                go_wp2
                go_roundg k2
                case measure => have := HK1.out; have := HK2.out; omega
                case rel => exact ⟨(wrap64 (x0_1 - (wrap64 (IntKind.u64.wrap (Int.tdiv x4_2 2))))), (by first | rfl | (simp; done) | (simp [*]; done)), H', ⟨by have := HK1.out; have := HK2.out; omega⟩, by repeat (first | exact Drawn0.refl _ | apply Drawn0.step)⟩

/-! ### arbiterref10_Luby: function 12 -/
mutual
def arbiterref10_Luby.l0 : Nat → Int → Option (Int × Int)
  | 0, _ => none
  | k + 1, x0 => arbiterref10_Luby.l1 k x0 1
def arbiterref10_Luby.l1 : Nat → Int → Int → Option (Int × Int)
  | 0, _, _ => none
  | k + 1, x0, x4 => if x4 ≤ (wrap64 (Int.tdiv (wrap64 (x0 - 1)) 2)) then (arbiterref10_Luby.l1 k x0 (wrap64 ((wrap64 (2 * x4)) + 1))) else (if x4 = x0 then (some (wrap64 ((wrap64 (Int.tdiv (wrap64 (x4 - 1)) 2)) + 1), 0)) else (arbiterref10_Luby.l0 k (wrap64 (x0 - x4))))
end
def arbiterref10_Luby.f (k : Nat) (a0 : Int) : Option (Int × Int) := if a0 < 1 then (some (0, 70)) else (arbiterref10_Luby.l0 k a0)
theorem arbiterref10_Luby.mono_l : ∀ k, (∀ y0, LeO (arbiterref10_Luby.l0 k y0) (arbiterref10_Luby.l0 (k + 1) y0)) ∧ (∀ y0 y1, LeO (arbiterref10_Luby.l1 k y0 y1) (arbiterref10_Luby.l1 (k + 1) y0 y1))
  | 0 => ⟨fun _ r h => by simp [arbiterref10_Luby.l0] at h, fun _ _ r h => by simp [arbiterref10_Luby.l1] at h⟩
  | k + 1 => by
    obtain ⟨ih0, ih1⟩ := arbiterref10_Luby.mono_l k
    refine ⟨?_, ?_⟩
    · intro y0
      unfold arbiterref10_Luby.l0
      repeat' first
      | (with_reducible exact ih0 _)
      | (with_reducible exact ih1 _ _)
      | (with_reducible exact LeO.refl _)
      | (with_reducible exact LeO.none _)
      | (with_reducible refine LeO.ite ?_ ?_)
      | (with_reducible refine LeO.bind ?_ (fun _ => ?_))
      | exact ih0 _
      | exact ih1 _ _
      | exact LeO.none _
      | refine LeO.ite ?_ ?_
      | refine LeO.bind ?_ (fun _ => ?_)
    · intro y0 y1
      unfold arbiterref10_Luby.l1
      repeat' first
      | (with_reducible exact ih0 _)
      | (with_reducible exact ih1 _ _)
      | (with_reducible exact LeO.refl _)
      | (with_reducible exact LeO.none _)
      | (with_reducible refine LeO.ite ?_ ?_)
      | (with_reducible refine LeO.bind ?_ (fun _ => ?_))
      | exact ih0 _
      | exact ih1 _ _
      | exact LeO.none _
      | refine LeO.ite ?_ ?_
      | refine LeO.bind ?_ (fun _ => ?_)
theorem arbiterref10_Luby.mono : ∀ a0 k, LeO (arbiterref10_Luby.f k a0) (arbiterref10_Luby.f (k + 1) a0) := by
  intro a0 k
  obtain ⟨ih0, ih1⟩ := arbiterref10_Luby.mono_l k
  unfold arbiterref10_Luby.f
  repeat' first
      | (with_reducible exact ih0 _)
      | (with_reducible exact ih1 _ _)
      | (with_reducible exact LeO.refl _)
      | (with_reducible exact LeO.none _)
      | (with_reducible refine LeO.ite ?_ ?_)
      | (with_reducible refine LeO.bind ?_ (fun _ => ?_))
      | exact ih0 _
      | exact ih1 _ _
      | exact LeO.none _
      | refine LeO.ite ?_ ?_
      | refine LeO.bind ?_ (fun _ => ?_)
set_option maxHeartbeats 8000000 in
set_option maxRecDepth 100000 in
theorem arbiterref10_Luby.calls (k : Nat) (a0 : Int) (r1 : Int) (r2 : Int) (w : World) (h : arbiterref10_Luby.f k a0 = some (r1, r2)) :
    Calls Try.prog 12 #[.int .i64 a0] w fun e w' => e = .returned (.tuple #[.int .i64 r1, .int .i64 r2]) ∧ Drawn0 w w' := by
  have H : (if a0 < 1 then (some (0, 70)) else (arbiterref10_Luby.l0 k a0)) = some (r1, r2) := h
  clear h
  by_cases c2 : a0 < 1
  · rw [if_pos c2] at H
    have c2b0 : decide (a0 < 1) = true := decide_eq_true c2
    clear c2
    simp only [Option.some.injEq, Prod.mk.injEq] at H
    obtain ⟨rfl, rfl⟩ := H
    go_enter Try.func12, Try.ntmps12
    go_wp2
    go_ret2
    exact ⟨by first | rfl | (simp; done) | (simp [*]; done), by repeat (first | exact Drawn0.refl _ | apply Drawn0.step)⟩
  · rw [if_neg c2] at H
    have c2b0 : decide (a0 < 1) = false := decide_eq_false c2
    clear c2
    have H' := Aside0.mk H
    clear H
    go_enter Try.func12, Try.ntmps12
    go_wp2
    go_loopg [0] k (fun kq v0 w' => ∃ (x0_1 : Int), v0 = .int .i64 x0_1 ∧ Aside0 (arbiterref10_Luby.l0 kq x0_1 = some (r1, r2)) ∧ Aside0 (kq ≤ k) ∧ Drawn0 w w')
    case atStart => exact ⟨(a0), (by first | rfl | (simp; done) | (simp [*]; done)), H', ⟨Nat.le_refl _⟩, by repeat (first | exact Drawn0.refl _ | apply Drawn0.step)⟩
    case round =>
      clear H'
      try clear c1
      try clear c2
      try clear c2b0
      try clear p2
      obtain ⟨x0_1, rfl, HA, HK1, ⟨m1, rfl⟩⟩ := hrel
      cases gk with
      | zero => exact absurd HA.out (by simp [arbiterref10_Luby.l0])
      | succ k1 =>
        have H := HA.out
        clear HA
        simp only [arbiterref10_Luby.l0] at H
        have H' := Aside0.mk H
        clear H
        go_wp2
        go_loopg [4] k1 (fun kq v4 w' => ∃ (x4_2 : Int), v4 = .int .i64 x4_2 ∧ Aside0 (arbiterref10_Luby.l1 kq x0_1 x4_2 = some (r1, r2)) ∧ Aside0 (kq ≤ k1) ∧ Drawn0 w w')
        case atStart => exact ⟨(1), (by first | rfl | (simp; done) | (simp [*]; done)), H', ⟨Nat.le_refl _⟩, by repeat (first | exact Drawn0.refl _ | apply Drawn0.step)⟩
        case round =>
          clear H'
          try clear c1
          try clear c2
          try clear c2b0
          try clear p2
          try clear p2
          obtain ⟨x4_2, rfl, HA, HK2, ⟨m2, rfl⟩⟩ := hrel
          cases gk with
          | zero => exact absurd HA.out (by simp [arbiterref10_Luby.l1])
          | succ k2 =>
            have H := HA.out
            clear HA
            simp only [arbiterref10_Luby.l1] at H
            by_cases c3 : x4_2 ≤ (wrap64 (Int.tdiv (wrap64 (x0_1 - 1)) 2))
            · rw [if_pos c3] at H
              have c3b0 : decide (x4_2 ≤ (wrap64 (Int.tdiv (wrap64 (x0_1 - 1)) 2))) = true := decide_eq_true c3
              clear c3
              have H' := Aside0.mk H
              clear H
              go_wp2
              go_roundg k2
              case measure => have := HK1.out; have := HK2.out; omega
              case rel => exact ⟨(wrap64 ((wrap64 (2 * x4_2)) + 1)), (by first | rfl | (simp; done) | (simp [*]; done)), H', ⟨by have := HK1.out; have := HK2.out; omega⟩, by repeat (first | exact Drawn0.refl _ | apply Drawn0.step)⟩
            · rw [if_neg c3] at H
              have c3b0 : decide (x4_2 ≤ (wrap64 (Int.tdiv (wrap64 (x0_1 - 1)) 2))) = false := decide_eq_false c3
              clear c3
              by_cases c4 : x4_2 = x0_1
              · rw [if_pos c4] at H
                have c4b0 : (x4_2 == x0_1) = true := beq_iff_eq.mpr c4
                have c4b1 : (x4_2 != x0_1) = false := bne_eq_false_iff_eq.mpr c4
                clear c4
                simp only [Option.some.injEq, Prod.mk.injEq] at H
                obtain ⟨rfl, rfl⟩ := H
                go_wp2
                go_ret2
                exact ⟨by first | rfl | (simp; done) | (simp [*]; done), by repeat (first | exact Drawn0.refl _ | apply Drawn0.step)⟩
              · rw [if_neg c4] at H
                have c4b0 : (x4_2 == x0_1) = false := beq_eq_false_iff_ne.mpr c4
                have c4b1 : (x4_2 != x0_1) = true := bne_iff_ne.mpr c4
                have H' := Aside0.mk H
                clear H
                go_wp2
                go_roundg k2
                case measure => have := HK1.out; have := HK2.out; omega
                case rel => exact ⟨(wrap64 (x0_1 - x4_2)), (by first | rfl | (simp; done) | (simp [*]; done)), H', ⟨by have := HK1.out; have := HK2.out; omega⟩, by repeat (first | exact Drawn0.refl _ | apply Drawn0.step)⟩

/-! ### arbiterlaw10_no: function 13 -/
def arbiterlaw10_no.f (a0 : Int) : Option (Int) := some a0
set_option maxHeartbeats 8000000 in
set_option maxRecDepth 100000 in
theorem arbiterlaw10_no.calls (a0 : Int) (r : Int) (w : World) (h : arbiterlaw10_no.f a0 = some r) :
    Calls Try.prog 13 #[.int .i64 a0] w fun e w' => e = .returned (.int .i64 r) ∧ Drawn0 w w' := by
  have H : (some a0) = some r := h
  clear h
  obtain rfl := Option.some.inj H
  go_enter Try.func13, Try.ntmps13
  go_wp2
  go_ret
  exact ⟨by first | rfl | (simp; done) | (simp [*]; done), by repeat (first | exact Drawn0.refl _ | apply Drawn0.step)⟩

/-! ### arbiterlaw10_OrderLubys: function 3 -/
def arbiterlaw10_OrderLubys.f (k : Nat) (a0 : Int) : Option (Bool) := (order_Luby.f k a0).bind fun bt101 => ((arbiterref10_Luby.f k a0).bind fun bt103 => (if bt101.1 = bt103.1 then ((arbiterlaw10_no.f bt101.2).bind fun t105 => (some (t105 == bt103.2))) else (some false)))
theorem arbiterlaw10_OrderLubys.mono : ∀ a0 k, LeO (arbiterlaw10_OrderLubys.f k a0) (arbiterlaw10_OrderLubys.f (k + 1) a0) := by
  intro a0 k
  unfold arbiterlaw10_OrderLubys.f
  repeat' first
      | (with_reducible exact arbiterref10_Luby.mono _ _)
      | (with_reducible exact order_Luby.mono _ _)
      | (with_reducible exact LeO.refl _)
      | (with_reducible exact LeO.none _)
      | (with_reducible refine LeO.ite ?_ ?_)
      | (with_reducible refine LeO.bind ?_ (fun _ => ?_))
      | exact arbiterref10_Luby.mono _ _
      | exact order_Luby.mono _ _
      | exact LeO.none _
      | refine LeO.ite ?_ ?_
      | refine LeO.bind ?_ (fun _ => ?_)
set_option maxHeartbeats 8000000 in
set_option maxRecDepth 100000 in
theorem arbiterlaw10_OrderLubys.calls (k : Nat) (a0 : Int) (r : Bool) (w : World) (h : arbiterlaw10_OrderLubys.f k a0 = some r) :
    Calls Try.prog 3 #[.int .i64 a0] w fun e w' => e = .returned (.bool r) ∧ Drawn0 w w' := by
  have H : ((order_Luby.f k a0).bind fun bt101 => ((arbiterref10_Luby.f k a0).bind fun bt103 => (if bt101.1 = bt103.1 then ((arbiterlaw10_no.f bt101.2).bind fun t105 => (some (t105 == bt103.2))) else (some false)))) = some r := h
  clear h
  replace H := Option.bind_eq_some_iff.mp H
  obtain ⟨⟨t101, t102⟩, A20, H⟩ := H
  replace H : ((arbiterref10_Luby.f k a0).bind fun bt103 => (if t101 = bt103.1 then ((arbiterlaw10_no.f t102).bind fun t105 => (some (t105 == bt103.2))) else (some false))) = some r := H
  have A2 := Aside0.mk A20
  clear A20
  replace H := Option.bind_eq_some_iff.mp H
  obtain ⟨⟨t103, t104⟩, A30, H⟩ := H
  replace H : (if t101 = t103 then ((arbiterlaw10_no.f t102).bind fun t105 => (some (t105 == t104))) else (some false)) = some r := H
  have A3 := Aside0.mk A30
  clear A30
  by_cases c4 : t101 = t103
  · rw [if_pos c4] at H
    have c4b0 : (t101 == t103) = true := beq_iff_eq.mpr c4
    have c4b1 : (t101 != t103) = false := bne_eq_false_iff_eq.mpr c4
    clear c4
    replace H := Option.bind_eq_some_iff.mp H
    obtain ⟨t105, A50, H⟩ := H
    replace H : (some (t105 == t104)) = some r := H
    have A5 := Aside0.mk A50
    clear A50
    obtain rfl := Option.some.inj H
    go_enter Try.func3, Try.ntmps3
    go_wp2_with (first | ((with_reducible refine gate_callee (f := 11) rfl ?_); refine goesL_ (some 9) rfl rfl Try.func11 (by kernel_rfl) rfl #[.int .i64 a0] rfl (by (try simp only [List.map_toArray, List.map_cons, List.map_nil]); first | done | rfl | (simp only [List.length_drop, List.length_take]; rfl)) ?_; (with_reducible refine (order_Luby.calls k a0 t101 t102 _ A2.out).mono ?_); rintro e w' ⟨rfl, ⟨nd, rfl⟩⟩; refine ⟨_, rfl, ?_⟩) | ((with_reducible refine gate_callee (f := 12) rfl ?_); refine goesL_ (some 14) rfl rfl Try.func12 (by kernel_rfl) rfl #[.int .i64 a0] rfl (by (try simp only [List.map_toArray, List.map_cons, List.map_nil]); first | done | rfl | (simp only [List.length_drop, List.length_take]; rfl)) ?_; (with_reducible refine (arbiterref10_Luby.calls k a0 t103 t104 _ A3.out).mono ?_); rintro e w' ⟨rfl, ⟨nd, rfl⟩⟩; refine ⟨_, rfl, ?_⟩) | (go_at_call 13; (with_reducible refine (arbiterlaw10_no.calls t102 t105 _ A5.out).mono ?_); rintro e w' ⟨rfl, ⟨nd, rfl⟩⟩))
    go_ret
    exact ⟨by first | rfl | (simp; done) | (simp [*]; done), by repeat (first | exact Drawn0.refl _ | apply Drawn0.step)⟩
  · rw [if_neg c4] at H
    have c4b0 : (t101 == t103) = false := beq_eq_false_iff_ne.mpr c4
    have c4b1 : (t101 != t103) = true := bne_iff_ne.mpr c4
    obtain rfl := Option.some.inj H
    go_enter Try.func3, Try.ntmps3
    go_wp2_with (first | ((with_reducible refine gate_callee (f := 11) rfl ?_); refine goesL_ (some 9) rfl rfl Try.func11 (by kernel_rfl) rfl #[.int .i64 a0] rfl (by (try simp only [List.map_toArray, List.map_cons, List.map_nil]); first | done | rfl | (simp only [List.length_drop, List.length_take]; rfl)) ?_; (with_reducible refine (order_Luby.calls k a0 t101 t102 _ A2.out).mono ?_); rintro e w' ⟨rfl, ⟨nd, rfl⟩⟩; refine ⟨_, rfl, ?_⟩) | ((with_reducible refine gate_callee (f := 12) rfl ?_); refine goesL_ (some 14) rfl rfl Try.func12 (by kernel_rfl) rfl #[.int .i64 a0] rfl (by (try simp only [List.map_toArray, List.map_cons, List.map_nil]); first | done | rfl | (simp only [List.length_drop, List.length_take]; rfl)) ?_; (with_reducible refine (arbiterref10_Luby.calls k a0 t103 t104 _ A3.out).mono ?_); rintro e w' ⟨rfl, ⟨nd, rfl⟩⟩; refine ⟨_, rfl, ?_⟩))
    go_ret
    exact ⟨by first | rfl | (simp; done) | (simp [*]; done), by repeat (first | exact Drawn0.refl _ | apply Drawn0.step)⟩

/-- THE ONE PURE STATEMENT of arbiterlaw10_OrderLubys: yours. -/
def arbiterlaw10_OrderLubys.Pure : Prop := ∀ (a0 : Int), (Lit.int .i64 a0).wf = true → ∃ k, arbiterlaw10_OrderLubys.f k a0 = some true
theorem arbiterlaw10_OrderLubys.walk (P : arbiterlaw10_OrderLubys.Pure) (a0 : Int) (w : World) (w0 : (Lit.int .i64 a0).wf = true) :
    Calls Try.prog 3 #[.int .i64 a0] w fun e w' => e = .returned (.bool true) ∧ Below w.heap.size w w' := by
  obtain ⟨k, h⟩ := P a0 w0
  refine (arbiterlaw10_OrderLubys.calls k a0 true w h).mono ?_
  rintro e w' ⟨rfl, hd⟩
  exact ⟨rfl, hd.below⟩

end Go.Proofs.Ytkmnoiploeineaa.POrderLubys
