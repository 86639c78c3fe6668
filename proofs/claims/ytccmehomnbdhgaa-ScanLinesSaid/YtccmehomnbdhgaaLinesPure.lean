/- The plain law behind ScanLines: the line and the column of a text behind another one and the end of a line. -/
import Derived.Test.YtccmehomnbdhgaaPScanPlacesx1
namespace Go.Proofs.Ytccmehomnbdhgaa.LinesPure
open Go.RowKit Go.Proofs.Ytccmehomnbdhgaa.PScanPlaces Go.Proofs.YtccmehomnbdhgaaW.PrintWords Go.Proofs.YtccmehomnbdhgaaW.PrintLast

theorem w64 (x : Int) (h0 : -9223372036854775808 ≤ x) (h1 : x < 9223372036854775808) : wrap64 x = x := by
  unfold wrap64; omega

/-- does a line end at byte i? -/
def ends (s : ByteArray) (i : Nat) : Bool := bt s i == 10 || (bt s i == 13 && (i + 1 == s.size || bt s ((i + 1 : Nat) : Int) != 10))
def ch (s : ByteArray) (i : Nat) : Int := if bt s i < 128 then 1 else if bt s i > 191 then 1 else 0
def one (e : Bool) (c : Int) (x : Int × Int) : Int × Int := if e then (x.1 + 1, 1) else (x.1, x.2 + c)
def run (s : ByteArray) : Nat → Int × Int
  | 0 => (1, 1)
  | n + 1 => one (ends s n) (ch s n) (run s n)

theorem ch_range (s : ByteArray) (i : Nat) : 0 ≤ ch s i ∧ ch s i ≤ 1 := by
  unfold ch; split <;> (try split) <;> omega
theorem one_range (e : Bool) (c : Int) (x : Int × Int) (n : Nat) (hc : 0 ≤ c ∧ c ≤ 1) (h : 1 ≤ x.1 ∧ x.1 ≤ n + 1 ∧ 1 ≤ x.2 ∧ x.2 ≤ n + 1) :
    1 ≤ (one e c x).1 ∧ (one e c x).1 ≤ n + 2 ∧ 1 ≤ (one e c x).2 ∧ (one e c x).2 ≤ n + 2 := by
  obtain ⟨L, C⟩ := x
  cases e <;> simp only [one] at * <;> simp <;> omega
theorem run_range (s : ByteArray) : ∀ n, 1 ≤ (run s n).1 ∧ (run s n).1 ≤ n + 1 ∧ 1 ≤ (run s n).2 ∧ (run s n).2 ≤ n + 1 := by
  intro n
  induction n with
  | zero => simp [run]
  | succ n ih =>
    have h := one_range (ends s n) _ _ n (ch_range s n) ih
    simp only [run]
    generalize one (ends s n) (ch s n) (run s n) = y at h ⊢
    omega

theorem loop_step (s : ByteArray) (hs : s.size ≤ 300000000000000) (a i : Nat) (hi : i < a) (ha : a ≤ s.size) (L C : Int) (hL : 1 ≤ L) (hL2 : L ≤ i + 1) (hC : 1 ≤ C) (hC2 : C ≤ i + 1) (k : Nat) :
    scan_Place.l0 (k + 2) s L C a i = scan_Place.l0 k s (one (ends s i) (ch s i) (L, C)).1 (one (ends s i) (ch s i) (L, C)).2 a ((i + 1 : Nat) : Int) := by
  have iw : wrap64 ((i : Int) + 1) = ((i + 1 : Nat) : Int) := w64 _ (by omega) (by omega)
  have two : ∀ e : Bool, ends s i = e → scan_Place.j2 (k + 1) s L C (bt s i) a i e = scan_Place.l0 k s (one (ends s i) (ch s i) (L, C)).1 (one (ends s i) (ch s i) (L, C)).2 a ((i + 1 : Nat) : Int) := by
    intro e he
    rw [he]
    simp only [scan_Place.j2]
    cases e with
    | true =>
      rw [if_pos rfl, iw, w64 _ (by omega) (by omega)]; rfl
    | false =>
      rw [if_neg (by simp), iw, w64 (C + 1) (by omega) (by omega)]
      unfold ch one
      by_cases c1 : bt s i < 128
      · rw [if_pos c1, if_pos c1]; rfl
      · rw [if_neg c1, if_neg c1]
        by_cases c2 : bt s i > 191
        · rw [if_pos c2, if_pos c2]; rfl
        · rw [if_neg c2, if_neg c2]; simp
  simp only [scan_Place.l0]
  rw [if_pos (by omega), if_pos (by omega), if_pos (by omega)]
  by_cases c10 : bt s i = 10
  · rw [if_pos c10]
    exact two _ (by simp [ends, c10])
  · rw [if_neg c10]
    by_cases c13 : bt s i = 13
    · rw [if_pos c13, iw]
      by_cases ce : ((i + 1 : Nat) : Int) = (s.size : Int)
      · rw [if_pos ce]
        have ce' : i + 1 = s.size := by omega
        exact two _ (by simp [ends, c13, ce'])
      · rw [if_neg ce, if_pos (by omega), if_pos (by omega)]
        have ce' : ¬ i + 1 = s.size := by omega
        exact two _ (by simp [ends, c13, ce'])
    · rw [if_neg c13]
      exact two _ (by simp [ends, c13, c10])

theorem loop (s : ByteArray) (hs : s.size ≤ 300000000000000) (a : Nat) (ha : a ≤ s.size) : ∀ (d i : Nat), i + d = a →
    ∀ k, scan_Place.l0 (k + 1 + 2 * d) s (run s i).1 (run s i).2 a i = some ((run s a).1, (run s a).2, 0) := by
  intro d
  induction d with
  | zero =>
    intro i e k
    obtain rfl : i = a := by omega
    rw [show k + 1 + 2 * 0 = k + 1 from rfl]
    simp only [scan_Place.l0]
    rw [if_neg (by omega)]
  | succ d ih =>
    intro i e k
    have hr := run_range s i
    rw [show k + 1 + 2 * (d + 1) = (k + 1 + 2 * d) + 2 from by omega, loop_step s hs a i (by omega) ha _ _ hr.1 hr.2.1 hr.2.2.1 hr.2.2.2]
    exact ih (i + 1) (by omega) k

theorem place (s : ByteArray) (hs : s.size ≤ 300000000000000) (a : Nat) (ha : a ≤ s.size) : ∃ k, scan_Place.f k s a = some ((run s a).1, (run s a).2, 0) := by
  refine ⟨0 + 1 + 2 * a + 1, ?_⟩
  unfold scan_Place.f
  rw [if_neg (by omega), decide_eq_false (by omega)]
  simp only [scan_Place.j0]
  rw [if_neg (by simp)]
  exact loop s hs a ha a 0 (by omega) 0

theorem bt_nat (s : ByteArray) (n : Nat) : bt s (n : Int) = (if h : n < s.size then ((s[n]'h).toNat : Int) else 0) := rfl
theorem bt_left (a b : ByteArray) (i : Nat) (h : i < a.size) : bt (a ++ b) i = bt a i := by
  rw [bt_nat, bt_nat, dif_pos h, dif_pos (by rw [ByteArray.size_append]; omega), ByteArray.getElem_append_left h]
theorem bt_right (a b : ByteArray) (i : Nat) : bt (a ++ b) ((a.size + i : Nat) : Int) = bt b i := by
  rw [bt_nat, bt_nat]
  by_cases h : i < b.size
  · rw [dif_pos h, dif_pos (by rw [ByteArray.size_append]; omega), ByteArray.getElem_append_right (by omega)]
    simp
  · rw [dif_neg h, dif_neg (by rw [ByteArray.size_append]; omega)]

def crlf : ByteArray := ⟨#[13, 10]⟩
theorem crlf_size : crlf.size = 2 := rfl
theorem crlf_0 : bt crlf ((0 : Nat) : Int) = 13 := by decide
theorem crlf_1 : bt crlf ((1 : Nat) : Int) = 10 := by decide

theorem cl_left (a b : ByteArray) (i : Nat) (h : i < a.size) : bt (a ++ crlf ++ b) i = bt a i := by
  rw [bt_left _ _ _ (by rw [ByteArray.size_append]; omega), bt_left _ _ _ h]
theorem cl_mid (a b : ByteArray) (i : Nat) (h : i < 2) : bt (a ++ crlf ++ b) ((a.size + i : Nat) : Int) = bt crlf i := by
  rw [bt_left _ _ _ (by rw [ByteArray.size_append, crlf_size]; omega), bt_right]
theorem cl_right (a b : ByteArray) (i : Nat) : bt (a ++ crlf ++ b) ((a.size + 2 + i : Nat) : Int) = bt b i := by
  have := bt_right (a ++ crlf) b i
  rw [ByteArray.size_append, crlf_size] at this
  exact this
theorem cl_size (a b : ByteArray) : (a ++ crlf ++ b).size = a.size + 2 + b.size := by
  rw [ByteArray.size_append, ByteArray.size_append, crlf_size]

theorem run_left (a b : ByteArray) : ∀ n, n ≤ a.size → run (a ++ crlf ++ b) n = run a n := by
  intro n
  induction n with
  | zero => intro _; rfl
  | succ n ih =>
    intro h
    simp only [run]
    rw [ih (by omega)]
    have e1 := cl_left a b n (by omega)
    have e2 : ch (a ++ crlf ++ b) n = ch a n := by unfold ch; rw [e1]
    have e3 : ends (a ++ crlf ++ b) n = ends a n := by
      unfold ends
      rw [e1, cl_size]
      by_cases c : n + 1 = a.size
      · have e4 : bt (a ++ crlf ++ b) ((n + 1 : Nat) : Int) = 13 := by
          have := cl_mid a b 0 (by omega)
          rw [crlf_0, Nat.add_zero, ← c] at this
          exact this
        rw [e4]
        have c1 : (n + 1 == a.size) = true := by simpa using c
        have c2 : (n + 1 == a.size + 2 + b.size) = false := by simp; omega
        rw [c1, c2]
        simp
      · rw [cl_left a b (n + 1) (by omega)]
        have c1 : (n + 1 == a.size) = false := by simpa using c
        have c2 : (n + 1 == a.size + 2 + b.size) = false := by simp; omega
        rw [c1, c2]
    rw [e2, e3]

theorem run_right (a b : ByteArray) : ∀ n, n ≤ b.size → run (a ++ crlf ++ b) (a.size + 2 + n) = ((run a a.size).1 + (run b n).1, (run b n).2) := by
  intro n
  induction n with
  | zero =>
    intro _
    show one (ends (a ++ crlf ++ b) (a.size + 1)) (ch (a ++ crlf ++ b) (a.size + 1)) (one (ends (a ++ crlf ++ b) a.size) (ch (a ++ crlf ++ b) a.size) (run (a ++ crlf ++ b) a.size)) = _
    rw [run_left a b _ (Nat.le_refl _)]
    have e0 : bt (a ++ crlf ++ b) (a.size : Int) = 13 := (cl_mid a b 0 (by omega)).trans crlf_0
    have e1 : bt (a ++ crlf ++ b) ((a.size + 1 : Nat) : Int) = 10 := (cl_mid a b 1 (by omega)).trans crlf_1
    have n0 : ends (a ++ crlf ++ b) a.size = false := by
      unfold ends
      rw [e0, e1, cl_size]
      have c2 : (a.size + 1 == a.size + 2 + b.size) = false := by simp; omega
      rw [c2]; rfl
    have n1 : ends (a ++ crlf ++ b) (a.size + 1) = true := by
      unfold ends
      rw [e1]; rfl
    rw [n0, n1]
    simp [one, run]
  | succ n ih =>
    intro h
    rw [show a.size + 2 + (n + 1) = (a.size + 2 + n) + 1 from by omega]
    simp only [run]
    rw [ih (by omega)]
    have e1 := cl_right a b n
    have e1' := cl_right a b (n + 1)
    rw [show a.size + 2 + (n + 1) = (a.size + 2 + n) + 1 from by omega] at e1'
    have e2 : ch (a ++ crlf ++ b) (a.size + 2 + n) = ch b n := by unfold ch; rw [e1]
    have e3 : ends (a ++ crlf ++ b) (a.size + 2 + n) = ends b n := by
      unfold ends
      rw [e1, e1', cl_size]
      have c : (a.size + 2 + n + 1 == a.size + 2 + b.size) = (n + 1 == b.size) := by
        rw [Bool.eq_iff_iff]; simp; omega
      rw [c]
    rw [e2, e3]
    cases ends b n <;> simp [one]; omega

theorem run_mono (s : ByteArray) (n : Nat) : (run s n).1 < (run s (n + 1)).1 ∨ ((run s n).1 = (run s (n + 1)).1 ∧ (run s n).2 ≤ (run s (n + 1)).2) := by
  have := ch_range s n
  simp only [run]
  cases ends s n <;> simp [one] <;> omega

end Go.Proofs.Ytccmehomnbdhgaa.LinesPure
