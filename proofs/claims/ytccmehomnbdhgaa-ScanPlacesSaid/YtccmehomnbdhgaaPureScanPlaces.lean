/- Proved: Place of the program and Place of the document answer the same line, column and error for every text and every number; no condition. -/
import Derived.Test.YtccmehomnbdhgaaPScanPlacesx2
namespace Go.Proofs.Ytccmehomnbdhgaa.Pure
open Go.RowKit Go.Proofs.Ytccmehomnbdhgaa.PScanPlaces Go.Proofs.YtccmehomnbdhgaaW.PrintWords Go.Proofs.YtccmehomnbdhgaaW.PrintLast

theorem w64 (x : Int) (h0 : -9223372036854775808 ≤ x) (h1 : x < 9223372036854775808) : wrap64 x = x := by
  unfold wrap64; omega

/-- a byte that begins a character -/
def ch (s : ByteArray) (i : Nat) : Int := if bt s i < 128 then 1 else if bt s i > 191 then 1 else 0
/-- how many of n bytes from i on begin a character -/
def cs (s : ByteArray) : Nat → Nat → Int
  | _, 0 => 0
  | i, n + 1 => ch s i + cs s (i + 1) n
theorem cs_snoc (s : ByteArray) : ∀ (n i : Nat), cs s i (n + 1) = cs s i n + ch s (i + n) := by
  intro n
  induction n with
  | zero => intro i; simp [cs]
  | succ n ih =>
    intro i
    rw [cs, ih (i + 1), cs, show i + 1 + n = i + (n + 1) from by omega]
    omega
theorem ch_range (s : ByteArray) (i : Nat) : 0 ≤ ch s i ∧ ch s i ≤ 1 := by
  unfold ch; split <;> (try split) <;> omega
theorem cs_range (s : ByteArray) : ∀ (n i : Nat), 0 ≤ cs s i n ∧ cs s i n ≤ n := by
  intro n
  induction n with
  | zero => intro i; simp [cs]
  | succ n ih =>
    intro i
    have := ih (i + 1)
    have := ch_range s i
    simp only [cs]
    omega

theorem column (s : ByteArray) (hs : s.size ≤ 140737488351232) (a : Nat) (ha : a ≤ s.size) (L : Int) : ∀ (d i : Nat) (C : Int), i + d = a → 1 ≤ C → C ≤ i + 1 →
    Ev (fun k => arbiterref3_Place.l1 k s a L C i) (L, C + cs s i d, 0) := by
  intro d
  induction d with
  | zero =>
    intro i C e h1 h2
    refine Ev.step (f := fun _ => some (L, C + cs s i 0, 0)) (fun k => ?_) (Ev.now _)
    simp only [arbiterref3_Place.l1]
    rw [if_neg (by omega)]
    simp [cs]
  | succ d ih =>
    intro i C e h1 h2
    have hc := ch_range s i
    have ih := ih (i + 1) (C + ch s i) (by omega) (by omega) (by omega)
    rw [cs, ← Int.add_assoc]
    refine Ev.step (fun k => ?_) ih
    simp only [arbiterref3_Place.l1]
    rw [if_pos (by omega), if_pos (by omega), if_pos (by omega), w64 (C + 1) (by omega) (by omega), w64 (i + 1) (by omega) (by omega)]
    unfold ch
    by_cases c1 : bt s i < 128
    · rw [if_pos c1, if_pos c1]; rfl
    · rw [if_neg c1, if_neg c1]
      by_cases c2 : bt s i > 191
      · rw [if_pos c2, if_pos c2]; rfl
      · rw [if_neg c2, if_neg c2, Int.add_zero]; rfl

theorem both (s : ByteArray) (hs : s.size ≤ 140737488351232) (a : Nat) (ha : a ≤ s.size) : ∀ (d i : Nat) (L : Int) (F : Nat), i + d = a → 1 ≤ L → L ≤ i + 1 → F ≤ i →
    ∃ R, Ev (fun k => scan_Place.l0 k s L (1 + cs s F (i - F)) a i) R ∧ Ev (fun k => arbiterref3_Place.l0 k s a L F i) R := by
  intro d
  induction d with
  | zero =>
    intro i L F e h1 h2 h3
    obtain rfl : i = a := by omega
    refine ⟨(L, 1 + cs s F (i - F), 0), ?_, ?_⟩
    · refine Ev.step (f := fun _ => some (L, 1 + cs s F (i - F), 0)) (fun k => ?_) (Ev.now _)
      simp only [scan_Place.l0]
      rw [if_neg (by omega)]
    · refine Ev.step (fun k => ?_) (column s hs i ha L (i - F) F 1 (by omega) (by omega) (by omega))
      simp only [arbiterref3_Place.l0]
      rw [if_neg (by omega)]
  | succ d ih =>
    intro i L F e h1 h2 h3
    have hcs := cs_range s (i - F) F
    have hcs2 : cs s F (i - F) ≤ i := by omega
    have hcs1 := hcs.1
    clear hcs
    have sn : cs s F (i + 1 - F) = cs s F (i - F) + ch s i := by
      have sn := cs_snoc s (i - F) F
      have e1 : F + (i - F) = i := by clear sn; omega
      have e2 : i - F + 1 = i + 1 - F := by clear sn; omega
      rw [e1, e2] at sn
      exact sn
    have ih2 := ih (i + 1) L F (by clear sn; omega) (by clear sn; omega) (by clear sn; omega) (by clear sn; omega)
    rw [sn] at ih2
    clear sn
    generalize cs s F (i - F) = c at *
    have iw : wrap64 ((i : Int) + 1) = ((i + 1 : Nat) : Int) := w64 _ (by omega) (by omega)
    have hend : ∃ R, Ev (fun k => scan_Place.l0 k s (L + 1) 1 a ((i + 1 : Nat) : Int)) R ∧ Ev (fun k => arbiterref3_Place.l0 k s a (L + 1) ((i + 1 : Nat) : Int) ((i + 1 : Nat) : Int)) R := by
      obtain ⟨R, h, h'⟩ := ih (i + 1) (L + 1) (i + 1) (by omega) (by omega) (by omega) (by omega)
      refine ⟨R, ?_, h'⟩
      have e0 : 1 + cs s (i + 1) (i + 1 - (i + 1)) = 1 := by rw [Nat.sub_self]; rfl
      rw [e0] at h
      exact h
    obtain ⟨R1, hp, hr⟩ := hend
    obtain ⟨R2, hq, hq'⟩ := ih2
    by_cases c10 : bt s i = 10
    · refine ⟨R1, ?_, ?_⟩
      · refine Ev.step (f := fun k => scan_Place.j2 k s L (1 + c) (bt s i) a i true) (fun k => ?_) (Ev.step (fun k => ?_) hp)
        · simp only [scan_Place.l0]
          rw [if_pos (by omega), if_pos (by omega), if_pos (by omega), if_pos c10, c10, beq_self_eq_true]
        · simp only [scan_Place.j2]
          rw [if_pos trivial, w64 _ (by omega) (by omega), iw]
      · refine Ev.step (fun k => ?_) hr
        simp only [arbiterref3_Place.l0]
        rw [if_pos (by omega), if_pos (by omega), if_pos (by omega), if_pos c10, w64 (L + 1) (by omega) (by omega), iw]
    · by_cases c13 : bt s i = 13
      · by_cases ce : ((i + 1 : Nat) : Int) = (s.size : Int)
        · refine ⟨R1, ?_, ?_⟩
          · refine Ev.step (f := fun k => scan_Place.j2 k s L (1 + c) (bt s i) a i true) (fun k => ?_) (Ev.step (fun k => ?_) hp)
            · simp only [scan_Place.l0]
              rw [if_pos (by omega), if_pos (by omega), if_pos (by omega), if_neg c10, if_pos c13, iw, if_pos ce]
            · simp only [scan_Place.j2]
              rw [if_pos trivial, w64 _ (by omega) (by omega), iw]
          · refine Ev.step (fun k => ?_) hr
            simp only [arbiterref3_Place.l0]
            rw [if_pos (by omega), if_pos (by omega), if_pos (by omega), if_neg c10, if_pos c13, w64 (L + 1) (by omega) (by omega), iw, if_pos (by omega)]
        · by_cases cn : bt s ((i + 1 : Nat) : Int) = 10
          · refine ⟨R2, ?_, ?_⟩
            · refine Ev.step (f := fun k => scan_Place.j2 k s L (1 + c) (bt s i) a i false) (fun k => ?_) (Ev.step (fun k => ?_) hq)
              · simp only [scan_Place.l0]
                rw [if_pos (by omega), if_pos (by omega), if_pos (by omega), if_neg c10, if_pos c13, iw, if_neg ce, if_pos (by omega), if_pos (by omega), cn, bne_self_eq_false]
              · simp only [scan_Place.j2]
                have hc : ch s i = 1 := by unfold ch; rw [if_pos (by omega)]
                rw [if_neg (by simp), if_pos (by omega), w64 _ (by omega) (by omega), iw, hc, Int.add_assoc]
            · refine Ev.step (fun k => ?_) hq'
              simp only [arbiterref3_Place.l0]
              rw [if_pos (by omega), if_pos (by omega), if_pos (by omega), if_neg c10, if_pos c13, iw, if_neg (by omega), if_pos (by omega), if_pos (by omega), if_pos cn]
          · refine ⟨R1, ?_, ?_⟩
            · refine Ev.step (f := fun k => scan_Place.j2 k s L (1 + c) (bt s i) a i true) (fun k => ?_) (Ev.step (fun k => ?_) hp)
              · simp only [scan_Place.l0]
                rw [if_pos (by omega), if_pos (by omega), if_pos (by omega), if_neg c10, if_pos c13, iw, if_neg ce, if_pos (by omega), if_pos (by omega), bne_iff_ne.2 cn]
              · simp only [scan_Place.j2]
                rw [if_pos trivial, w64 _ (by omega) (by omega), iw]
            · refine Ev.step (fun k => ?_) hr
              simp only [arbiterref3_Place.l0]
              rw [if_pos (by omega), if_pos (by omega), if_pos (by omega), if_neg c10, if_pos c13, iw, if_neg (by omega), if_pos (by omega), if_pos (by omega), if_neg cn, w64 (L + 1) (by omega) (by omega)]
      · refine ⟨R2, ?_, ?_⟩
        · refine Ev.step (f := fun k => scan_Place.j2 k s L (1 + c) (bt s i) a i false) (fun k => ?_) (Ev.step (fun k => ?_) hq)
          · simp only [scan_Place.l0]
            rw [if_pos (by omega), if_pos (by omega), if_pos (by omega), if_neg c10, if_neg c13]
          · simp only [scan_Place.j2]
            rw [if_neg (by simp), w64 _ (by omega) (by omega), iw]
            unfold ch
            by_cases c1 : bt s i < 128
            · rw [if_pos c1, if_pos c1, Int.add_assoc]
            · rw [if_neg c1, if_neg c1]
              by_cases c2 : bt s i > 191
              · rw [if_pos c2, if_pos c2, Int.add_assoc]
              · rw [if_neg c2, if_neg c2, Int.add_zero]
        · refine Ev.step (fun k => ?_) hq'
          simp only [arbiterref3_Place.l0]
          rw [if_pos (by omega), if_pos (by omega), if_pos (by omega), if_neg c10, if_neg c13, iw]



theorem ScanPlaces : arbiterlaw3_ScanPlaces.Pure := by
  intro s a hs hw
  refine Ev.rounds (g := fun k => arbiterlaw3_ScanPlaces.f k s a) (r := true) ?_
  have key : ∃ R, Ev (fun k => scan_Place.f k s a) R ∧ Ev (fun k => arbiterref3_Place.f k s a) R := by
    by_cases c : a < 0 ∨ a > (s.size : Int)
    · have e1 : ∀ k, scan_Place.f k s a = scan_Place.j0 k s a true := fun k => by
        unfold scan_Place.f; split
        · rfl
        · rw [decide_eq_true (by omega)]
      have e2 : ∀ k, arbiterref3_Place.f k s a = arbiterref3_Place.j0 k s a true := fun k => by
        unfold arbiterref3_Place.f; split
        · rfl
        · rw [decide_eq_true (by omega)]
      exact ⟨(0, 0, 30), Ev.congr e1 (Ev.step (fun k => by simp only [scan_Place.j0]; rw [if_pos trivial]) (Ev.now _)), Ev.congr e2 (Ev.step (fun k => by simp only [arbiterref3_Place.j0]; rw [if_pos trivial]) (Ev.now _))⟩
    · obtain ⟨n, rfl⟩ := Int.eq_ofNat_of_zero_le (show 0 ≤ a by omega)
      have e1 : ∀ k, scan_Place.f k s n = scan_Place.j0 k s n false := fun k => by
        unfold scan_Place.f; rw [if_neg (by omega), decide_eq_false (by omega)]
      have e2 : ∀ k, arbiterref3_Place.f k s n = arbiterref3_Place.j0 k s n false := fun k => by
        unfold arbiterref3_Place.f; rw [if_neg (by omega), decide_eq_false (by omega)]
      obtain ⟨R, h, h'⟩ := both s hs n (by omega) n 0 1 0 (by omega) (by omega) (by omega) (by omega)
      refine ⟨R, Ev.congr e1 (Ev.step (fun k => ?_) h), Ev.congr e2 (Ev.step (fun k => ?_) h')⟩
      · simp only [scan_Place.j0]; rw [if_neg (by simp)]; rfl
      · simp only [arbiterref3_Place.j0]; rw [if_neg (by simp)]; rfl
  obtain ⟨R, h, h'⟩ := key
  unfold arbiterlaw3_ScanPlaces.f
  refine Ev.bind h (Ev.bind h' ?_)
  simpa using Ev.now true

end Go.Proofs.Ytccmehomnbdhgaa.Pure
