/- Joined: Limbs Pure1 Pure2 Pure3 Nats Plus Arr Minus Takes Gives Knuth Guess -/
import Derived.Test.YtjeamchaibialaaGreatDoorWNEv
import Derived.Test.YtjeamchaibialaaGreatDoorFn3
import Derived.Lib.Hide
import Derived.Outline
set_option linter.unusedVariables false
set_option linter.unusedSimpArgs false
/- Plain facts about lists of limbs to the base 10^9, the lowest first: no program in sight. -/
namespace Go.Proofs.YtjeamchaibialaaGreatDoor.Limbs
open Go.RowKit Go.Proofs.YtjeamchaibialaaGreatDoorW.PrintWords

def val : List Int → Int
  | [] => 0
  | x :: l => x + 1000000000 * val l
def Lim (l : List Int) : Prop := ∀ x ∈ l, 0 ≤ x ∧ x < 1000000000
def limbs (n : Nat) : List Int := if _h : n = 0 then [] else ((n % 1000000000 : Nat) : Int) :: limbs (n / 1000000000)
termination_by n
decreasing_by omega
def pw (k : Nat) : Int := 1000000000 ^ k

theorem pw_zero : pw 0 = 1 := rfl
theorem pw_succ (k : Nat) : pw (k + 1) = 1000000000 * pw k := by unfold pw; rw [Int.pow_succ]; exact Int.mul_comm _ _
theorem pw_pos (k : Nat) : 0 < pw k := Int.pow_pos (by omega)
theorem pw_add (a b : Nat) : pw (a + b) = pw a * pw b := Int.pow_add _ _ _
theorem pw_mono {a b : Nat} (h : a ≤ b) : pw a ≤ pw b := by
  obtain ⟨d, rfl⟩ := Nat.exists_eq_add_of_le h
  rw [pw_add]
  have h1 := pw_pos a
  have h2 := pw_pos d
  have : pw a * 1 ≤ pw a * pw d := Int.mul_le_mul_of_nonneg_left (by omega) (by omega)
  omega

theorem lim_nil : Lim [] := fun _ h => by cases h
theorem lim_cons {x : Int} {l : List Int} : Lim (x :: l) ↔ (0 ≤ x ∧ x < 1000000000) ∧ Lim l := by
  unfold Lim; simp
theorem lim_append {a b : List Int} : Lim (a ++ b) ↔ Lim a ∧ Lim b := by
  unfold Lim
  constructor
  · exact fun h => ⟨fun x hx => h x (List.mem_append_left _ hx), fun x hx => h x (List.mem_append_right _ hx)⟩
  · rintro ⟨h1, h2⟩ x hx
    rcases List.mem_append.1 hx with hx | hx
    · exact h1 x hx
    · exact h2 x hx
theorem lim_take {l : List Int} (h : Lim l) (n : Nat) : Lim (l.take n) := fun x hx => h x (List.mem_of_mem_take hx)
theorem lim_drop {l : List Int} (h : Lim l) (n : Nat) : Lim (l.drop n) := fun x hx => h x (List.mem_of_mem_drop hx)
theorem lim_set {l : List Int} (h : Lim l) (n : Nat) {v : Int} (h0 : 0 ≤ v) (h1 : v < 1000000000) : Lim (l.set n v) := fun x hx => by
  rcases List.mem_or_eq_of_mem_set hx with hx | hx
  · exact h x hx
  · rw [hx]; exact ⟨h0, h1⟩
theorem lim_replicate (n : Nat) : Lim (List.replicate n 0) := fun x hx => by
  rw [List.eq_of_mem_replicate hx]; omega
theorem lim_rd {l : List Int} (h : Lim l) (i : Nat) : 0 ≤ rd l i ∧ rd l i < 1000000000 := by
  unfold rd
  rw [Int.toNat_natCast]
  by_cases hi : i < l.length
  · have := h l[i] (List.getElem_mem hi)
    simpa [List.getD, hi] using this
  · simp [List.getD, hi]

theorem val_nil : val [] = 0 := rfl
theorem val_cons (x : Int) (l : List Int) : val (x :: l) = x + 1000000000 * val l := rfl
theorem val_append (a b : List Int) : val (a ++ b) = val a + pw a.length * val b := by
  induction a with
  | nil => simp [val, pw_zero]
  | cons x a ih =>
    simp only [List.cons_append, val, List.length_cons, pw_succ]
    rw [ih, Int.mul_add, Int.mul_assoc]; omega
theorem val_range {l : List Int} (h : Lim l) : 0 ≤ val l ∧ val l < pw l.length := by
  induction l with
  | nil => simp [val, pw_zero]
  | cons x l ih =>
    obtain ⟨hx, hl⟩ := lim_cons.1 h
    have := ih hl
    simp only [val, List.length_cons, pw_succ]
    omega
theorem val_replicate (n : Nat) : val (List.replicate n 0) = 0 := by
  induction n with
  | zero => rfl
  | succ n ih => simp only [List.replicate_succ, val, ih]; rfl
theorem val_set (l : List Int) (v : Int) : ∀ i, i < l.length → val (l.set i v) = val l + (v - rd l i) * pw i := by
  induction l with
  | nil => intro i h; simp at h
  | cons x l ih =>
    intro i h
    cases i with
    | zero => simp [val, rd, pw_zero]; omega
    | succ i =>
      have hh := ih i (by simpa using h)
      have e : rd (x :: l) ((i + 1 : Nat) : Int) = rd l (i : Nat) := by simp [rd]
      simp only [List.set_cons_succ, val, hh, e, pw_succ]
      rw [Int.mul_add, Int.mul_left_comm]; omega
theorem take_snoc (l : List Int) (i : Nat) (h : i < l.length) : l.take (i + 1) = l.take i ++ [rd l i] := by
  rw [List.take_succ_eq_append_getElem h]
  simp [rd, List.getD, h]
theorem drop_cons (l : List Int) (i : Nat) (h : i < l.length) : l.drop i = rd l i :: l.drop (i + 1) := by
  rw [List.drop_eq_getElem_cons h]
  simp [rd, List.getD, h]
theorem val_take_succ (l : List Int) (i : Nat) (h : i < l.length) : val (l.take (i + 1)) = val (l.take i) + pw i * rd l i := by
  rw [take_snoc l i h, val_append, List.length_take, Nat.min_eq_left (by omega)]
  simp [val]
theorem val_drop (l : List Int) (i : Nat) (h : i < l.length) : val (l.drop i) = rd l i + 1000000000 * val (l.drop (i + 1)) := by
  rw [drop_cons l i h, val]
theorem val_split (l : List Int) (i : Nat) (h : i ≤ l.length) : val l = val (l.take i) + pw i * val (l.drop i) := by
  have := val_append (l.take i) (l.drop i)
  rw [List.take_append_drop, List.length_take, Nat.min_eq_left h] at this
  exact this
theorem rd_set_self (l : List Int) (i : Nat) (v : Int) (h : i < l.length) : rd (l.set i v) i = v := by
  simp [rd, List.getD, h]
theorem rd_set_ne (l : List Int) (i j : Nat) (v : Int) (h : i ≠ j) : rd (l.set i v) j = rd l j := by
  simp [rd, List.getD, List.getElem?_set_ne h]
theorem rd_replicate (n i : Nat) : rd (List.replicate n 0) i = 0 := by
  by_cases h : i < n <;> simp [rd, List.getD, h]
theorem rd_take (l : List Int) (n i : Nat) (h : i < n) : rd (l.take n) i = rd l i := by
  simp [rd, List.getD, h]
theorem rd_drop (l : List Int) (n i : Nat) : rd (l.drop n) i = rd l ((n + i : Nat) : Int) := by
  simp [rd, List.getD, Int.toNat_add]
theorem rd_getElem (l : List Int) (i : Nat) (h : i < l.length) : rd l i = l[i] := by
  simp [rd, List.getD, h]

/-! ### the limbs of a number -/
theorem limbs_zero : limbs 0 = [] := by unfold limbs; simp
theorem limbs_pos {n : Nat} (h : n ≠ 0) : limbs n = ((n % 1000000000 : Nat) : Int) :: limbs (n / 1000000000) := by
  rw [limbs, dif_neg h]
theorem limbs_eq_nil {n : Nat} : limbs n = [] ↔ n = 0 := by
  constructor
  · intro h
    by_cases c : n = 0
    · exact c
    · rw [limbs_pos c] at h; cases h
  · rintro rfl; exact limbs_zero
theorem limbs_lim (n : Nat) : Lim (limbs n) := by
  induction n using Nat.strongRecOn with
  | _ n ih =>
    by_cases c : n = 0
    · subst c; rw [limbs_zero]; exact lim_nil
    · rw [limbs_pos c]
      exact lim_cons.2 ⟨by omega, ih _ (by omega)⟩
theorem val_limbs (n : Nat) : val (limbs n) = n := by
  induction n using Nat.strongRecOn with
  | _ n ih =>
    by_cases c : n = 0
    · subst c; rw [limbs_zero]; rfl
    · rw [limbs_pos c, val, ih _ (by omega)]; omega
theorem limbs_unit {n : Nat} (h : 0 < n) (h1 : n < 1000000000) : limbs n = [(n : Int)] := by
  rw [limbs_pos (by omega), Nat.mod_eq_of_lt h1, show n / 1000000000 = 0 from by omega, limbs_zero]
theorem limbs_of {l : List Int} (h : Lim l) (ht : l = [] ∨ rd l ((l.length - 1 : Nat) : Int) ≠ 0) : l = limbs (val l).toNat := by
  induction l with
  | nil => rw [val]; simp [limbs_zero]
  | cons x l ih =>
    obtain ⟨hx, hl⟩ := lim_cons.1 h
    have hv := val_range hl
    have ht' : l = [] ∨ rd l ((l.length - 1 : Nat) : Int) ≠ 0 := by
      rcases l with _ | ⟨y, l⟩
      · exact .inl rfl
      · refine .inr ?_
        rcases ht with ht | ht
        · cases ht
        · simpa [rd] using ht
    have ih := ih hl ht'
    have hne : (val (x :: l)).toNat ≠ 0 := by
      rw [val]
      rcases l with _ | ⟨y, l⟩
      · rcases ht with ht | ht
        · cases ht
        · have : x ≠ 0 := by simpa [rd] using ht
          simp only [val]; omega
      · have : (val (y :: l)).toNat ≠ 0 := by
          intro e
          rw [e, limbs_zero] at ih
          cases ih
        omega
    rw [limbs_pos hne]
    have e1 : ((val (x :: l)).toNat % 1000000000 : Nat) = x.toNat := by rw [val]; omega
    have e2 : (val (x :: l)).toNat / 1000000000 = (val l).toNat := by rw [val]; omega
    rw [e1, e2, ← ih]
    congr 1
    omega
theorem limbs_top {n : Nat} (h : n ≠ 0) : rd (limbs n) (((limbs n).length - 1 : Nat) : Int) ≠ 0 := by
  induction n using Nat.strongRecOn with
  | _ n ih =>
    rw [limbs_pos h]
    by_cases c : n / 1000000000 = 0
    · rw [c, limbs_zero]
      simp [rd]; omega
    · have := ih _ (by omega) c
      have hp : (limbs (n / 1000000000)).length ≠ 0 := fun e => c (limbs_eq_nil.1 (List.length_eq_zero_iff.1 e))
      have e2 : ((((n % 1000000000 : Nat) : Int) :: limbs (n / 1000000000)).length - 1 : Nat) = ((limbs (n / 1000000000)).length - 1) + 1 := by
        rw [List.length_cons]; omega
      rw [e2]
      simpa [rd] using this
theorem limbs_len_pos {n : Nat} (h : n ≠ 0) : 0 < (limbs n).length := by
  rcases Nat.eq_zero_or_pos (limbs n).length with e | e
  · exact absurd (limbs_eq_nil.1 (List.length_eq_zero_iff.1 e)) h
  · exact e
theorem limbs_lt {n : Nat} : (n : Int) < pw (limbs n).length := by
  have := val_range (limbs_lim n)
  rw [val_limbs] at this
  exact this.2
theorem limbs_ge {n : Nat} (h : n ≠ 0) : pw ((limbs n).length - 1) ≤ (n : Int) := by
  have hp := limbs_len_pos h
  have h1 := val_take_succ (limbs n) ((limbs n).length - 1) (by omega)
  rw [show (limbs n).length - 1 + 1 = (limbs n).length from by omega, List.take_length, val_limbs] at h1
  have h2 := val_range (lim_take (limbs_lim n) ((limbs n).length - 1))
  have h3 := lim_rd (limbs_lim n) ((limbs n).length - 1)
  have h4 := limbs_top h
  have h5 := pw_pos ((limbs n).length - 1)
  have h6 : pw ((limbs n).length - 1) * 1 ≤ pw ((limbs n).length - 1) * rd (limbs n) (((limbs n).length - 1 : Nat) : Int) := Int.mul_le_mul_of_nonneg_left (by omega) (by omega)
  omega
theorem limbs_len_le {n k : Nat} (h : (n : Int) < pw k) : (limbs n).length ≤ k := by
  by_cases c : n = 0
  · subst c; rw [limbs_zero]; exact Nat.zero_le _
  · rcases Nat.lt_or_ge k (limbs n).length with q | q
    · have h1 := limbs_ge c
      have h2 := pw_mono (show k ≤ (limbs n).length - 1 by omega)
      omega
    · exact q
theorem limbs_len_mono {a b : Nat} (h : a ≤ b) : (limbs a).length ≤ (limbs b).length := by
  refine limbs_len_le ?_
  have := @limbs_lt b
  omega
theorem limbs_len_mul (a b : Nat) : (limbs (a * b)).length ≤ (limbs a).length + (limbs b).length := by
  refine limbs_len_le ?_
  rw [pw_add]
  have h1 := @limbs_lt a
  have h2 := @limbs_lt b
  have h3 := pw_pos (limbs a).length
  rw [Int.natCast_mul]
  rcases Nat.eq_zero_or_pos b with e | e
  · subst e
    simp only [Int.natCast_zero, Int.mul_zero]
    exact Int.mul_pos h3 (pw_pos _)
  · have q1 : (a : Int) * b < pw (limbs a).length * b := Int.mul_lt_mul_of_pos_right h1 (by omega)
    have q2 : pw (limbs a).length * (b : Int) ≤ pw (limbs a).length * pw (limbs b).length := Int.mul_le_mul_of_nonneg_left (by omega) (by omega)
    omega
theorem limbs_len_add (a b : Nat) : (limbs (a + b)).length ≤ max (limbs a).length (limbs b).length + 1 := by
  refine limbs_len_le ?_
  rw [pw_succ]
  have h1 := @limbs_lt a
  have h2 := @limbs_lt b
  have h3 := pw_mono (Nat.le_max_left (limbs a).length (limbs b).length)
  have h4 := pw_mono (Nat.le_max_right (limbs a).length (limbs b).length)
  omega

theorem limbs_eq {l : List Int} (h : Lim l) (ht : l = [] ∨ pw (l.length - 1) ≤ val l) : l = limbs (val l).toNat := by
  refine limbs_of h ?_
  rcases ht with ht | ht
  · exact .inl ht
  · rcases Nat.eq_zero_or_pos l.length with e | e
    · exact .inl (List.length_eq_zero_iff.1 e)
    · refine .inr fun h0 => ?_
      have h1 := val_take_succ l (l.length - 1) (by omega)
      rw [show l.length - 1 + 1 = l.length from by omega, List.take_length, h0] at h1
      have h2 := val_range (lim_take h (l.length - 1))
      rw [List.length_take, Nat.min_eq_left (by omega)] at h2
      omega
theorem val_take_next (l : List Int) (i : Nat) : val (l.take (i + 1)) = val (l.take i) + pw i * rd l i := by
  by_cases h : i < l.length
  · exact val_take_succ l i h
  · rw [List.take_of_length_le (by omega), List.take_of_length_le (by omega)]
    have : rd l i = 0 := by simp [rd, List.getD, h]
    rw [this]; omega
theorem val_snoc (l : List Int) (x : Int) : val (l ++ [x]) = val l + pw l.length * x := by
  rw [val_append]; simp [val]

end Go.Proofs.YtjeamchaibialaaGreatDoor.Limbs

/- The plain laws of big's whole numbers: what the printed calls come to, in numbers. -/
namespace Go.Proofs.YtjeamchaibialaaGreatDoor.Pure1
open Go.RowKit Go.Proofs.YtjeamchaibialaaGreatDoorW.PrintWords Go.Proofs.YtjeamchaibialaaGreatDoorW.PrintLast Go.Proofs.YtjeamchaibialaaGreatDoorW.PrintMore Fns Limbs

theorem w64 {x : Int} (h0 : -9223372036854775808 ≤ x) (h1 : x ≤ 9223372036854775807) : wrap64 x = x := by
  unfold wrap64; omega
theorem u64w {x : Int} (h0 : 0 ≤ x) (h1 : x ≤ 18446744073709551615) : IntKind.u64.wrap x = x := Go.IntWalk.u64_in x ⟨h0, h1⟩

/-! ### trim -/
theorem trim_at (l : List Int) (hl : Lim l) (hn : l.length ≤ 1000000000000000) : ∀ i : Nat, i ≤ l.length → val (l.take i) = val l → Ev (fun k => big_trim.l0 k l i) (limbs (val l).toNat) := by
  intro i
  induction i with
  | zero =>
    intro _ h
    refine Ev.step (f := fun _ => some (limbs (val l).toNat)) (fun k => ?_) (Ev.now _)
    simp only [big_trim.l0]
    rw [if_neg (by omega), if_pos (by omega), if_pos (by omega)]
    have : val l = 0 := by rw [← h]; rfl
    rw [this]; simp [limbs_zero]
  | succ i ih =>
    intro hi h
    have hs := val_take_succ l i (by omega)
    by_cases c : rd l i = 0
    · refine Ev.step (fun k => ?_) (ih (by omega) (by rw [← h, hs, c]; omega))
      simp only [big_trim.l0]
      rw [if_pos (by omega), w64 (by omega) (by omega), show ((i + 1 : Nat) : Int) - 1 = (i : Int) from by omega, if_pos (by omega), if_pos (by omega), if_pos c]
    · refine Ev.step (f := fun _ => some (limbs (val l).toNat)) (fun k => ?_) (Ev.now _)
      simp only [big_trim.l0]
      rw [if_pos (by omega), w64 (by omega) (by omega), show ((i + 1 : Nat) : Int) - 1 = (i : Int) from by omega, if_pos (by omega), if_pos (by omega), if_neg c, if_pos (by omega), if_pos (by omega), Int.toNat_natCast]
      congr 1
      rw [← h]
      refine limbs_of (lim_take hl _) (.inr ?_)
      rw [List.length_take, Nat.min_eq_left hi, Nat.add_sub_cancel, rd_take _ _ _ (by omega)]
      exact c
theorem trim_ev (l : List Int) (hl : Lim l) (hn : l.length ≤ 1000000000000000) : Ev (fun k => big_trim.f k l) (limbs (val l).toNat) := by
  unfold big_trim.f
  exact trim_at l hl hn l.length (Nat.le_refl _) (by rw [List.take_length])

/-! ### natOf, small, cmp -/
theorem natOf_at : ∀ (d : Nat) (n : Nat) (l : List Int), n < 10 ^ d → n < 18446744073709551616 → l.length + d ≤ 1000 → Ev (fun k => big_natOf.l0 k n l) (l ++ limbs n) := by
  intro d
  induction d with
  | zero =>
    intro n l h _ _
    obtain rfl : n = 0 := by simpa using h
    refine Ev.step (f := fun _ => some (l ++ limbs 0)) (fun k => ?_) (Ev.now _)
    simp only [big_natOf.l0]
    rw [if_neg (by omega)]; simp [limbs_zero]
  | succ d ih =>
    intro n l h h2 h3
    by_cases c : n = 0
    · subst c
      refine Ev.step (f := fun _ => some (l ++ limbs 0)) (fun k => ?_) (Ev.now _)
      simp only [big_natOf.l0]
      rw [if_neg (by omega)]; simp [limbs_zero]
    · have hd : n / 1000000000 < 10 ^ d := by
        have h10 : 10 ^ (d + 1) = 10 * 10 ^ d := by rw [Nat.pow_succ]; omega
        rcases Nat.eq_zero_or_pos d with q | q
        · subst q; simp at h; simp; omega
        · omega
      have := ih (n / 1000000000) (l ++ [((n % 1000000000 : Nat) : Int)]) hd (by omega) (by simp; omega)
      rw [List.append_assoc, List.singleton_append, ← limbs_pos c] at this
      refine Ev.step (fun k => ?_) this
      simp only [big_natOf.l0]
      rw [if_pos (by omega), if_pos (by omega), Int.tdiv_eq_ediv_of_nonneg (by omega), Int.tmod_eq_emod_of_nonneg (by omega), u64w (by omega) (by omega), Int.emod_eq_of_lt (a := (n : Int) % 1000000000) (by omega) (by omega)]
      rfl
theorem natOf_ev (n : Nat) (h : n < 18446744073709551616) : Ev (fun k => big_natOf.f k n) (limbs n) := by
  unfold big_natOf.f
  have := natOf_at 20 n [] (by omega) h (by simp)
  simpa using this

theorem small_some (n : Nat) (h : (limbs n).length ≤ 2) : big_nat_small.f (limbs n) = some ((n : Int), true) := by
  have hv := val_limbs n
  have hl := limbs_lim n
  unfold big_nat_small.f
  generalize limbs n = l at *
  match l, h with
  | [], _ => simp only [val] at hv; simp; omega
  | [x], _ =>
    have hx := (lim_cons.1 hl).1
    simp only [val] at hv
    simp [rd]
    rw [u64w (by omega) (by omega)]; omega
  | [x, y], _ =>
    have hx := (lim_cons.1 hl).1
    have hy := (lim_cons.1 (lim_cons.1 hl).2).1
    simp only [val] at hv
    simp [rd]
    rw [u64w (x := x) (by omega) (by omega), u64w (x := y) (by omega) (by omega), u64w (x := y * 1000000000) (by omega) (by omega), u64w (by omega) (by omega)]; omega
theorem small_none (l : List Int) (h : 2 < l.length) : big_nat_small.f l = some (0, false) := by
  unfold big_nat_small.f
  rw [if_neg (by omega), if_neg (by omega), if_neg (by omega)]

def sgn (a b : Nat) : Int := if a < b then -1 else if b < a then 1 else 0
theorem cmp_at (x y : List Int) (hx : Lim x) (hy : Lim y) (he : x.length = y.length) (hn : x.length ≤ 1000000000000000) (R : Int) (hR : (val x < val y → R = -1) ∧ (val y < val x → R = 1) ∧ (val x = val y → R = 0)) :
    ∀ i : Nat, i ≤ x.length → val (x.drop i) = val (y.drop i) → Ev (fun k => big_nat_cmp.l0 k x y ((i : Int) - 1)) R := by
  intro i
  induction i with
  | zero =>
    intro _ h
    refine Ev.step (f := fun _ => some R) (fun k => ?_) (Ev.now _)
    simp only [big_nat_cmp.l0]
    rw [if_neg (by omega), hR.2.2 (by simpa using h)]
  | succ i ih =>
    intro hi h
    have e1 := val_drop x i (by omega)
    have e2 := val_drop y i (by omega)
    have s1 := val_split x i (by omega)
    have s2 := val_split y i (by omega)
    have r1 := val_range (lim_take hx i)
    have r2 := val_range (lim_take hy i)
    rw [List.length_take, Nat.min_eq_left (by omega)] at r1 r2
    have p := pw_pos i
    have step : ∀ k, big_nat_cmp.l0 (k + 1) x y (((i + 1 : Nat) : Int) - 1) = (if rd x i < rd y i then some (-1) else if rd x i > rd y i then some 1 else big_nat_cmp.l0 k x y ((i : Int) - 1)) := by
      intro k
      simp only [big_nat_cmp.l0]
      rw [show ((i + 1 : Nat) : Int) - 1 = (i : Int) from by omega, if_pos (by omega), if_pos (by omega), if_pos (by omega), if_pos (by omega), w64 (by omega) (by omega)]
    by_cases c1 : rd x i < rd y i
    · refine Ev.step (f := fun _ => some R) (fun k => ?_) (Ev.now _)
      rw [step, if_pos c1]
      congr 1
      refine (hR.1 ?_).symm
      have : val (x.drop i) + 1 ≤ val (y.drop i) := by omega
      have := Int.mul_le_mul_of_nonneg_left this (Int.le_of_lt p)
      rw [Int.mul_add] at this
      omega
    · by_cases c2 : rd x i > rd y i
      · refine Ev.step (f := fun _ => some R) (fun k => ?_) (Ev.now _)
        rw [step, if_neg c1, if_pos c2]
        congr 1
        refine (hR.2.1 ?_).symm
        have : val (y.drop i) + 1 ≤ val (x.drop i) := by omega
        have := Int.mul_le_mul_of_nonneg_left this (Int.le_of_lt p)
        rw [Int.mul_add] at this
        omega
      · refine Ev.step (fun k => ?_) (ih (by omega) (by omega))
        rw [step, if_neg c1, if_neg c2]
theorem len_lt_val {a b : Nat} (h : (limbs a).length < (limbs b).length) : a < b := by
  rcases Nat.lt_or_ge a b with q | q
  · exact q
  · have := limbs_len_mono q; omega
theorem cmp_ev (a b : Nat) (ha : (limbs a).length ≤ 1000000000000000) (_hb : (limbs b).length ≤ 1000000000000000) : Ev (fun k => big_nat_cmp.f k (limbs a) (limbs b)) (sgn a b) := by
  unfold big_nat_cmp.f
  by_cases e : (limbs a).length = (limbs b).length
  · refine Ev.congr (f := fun k => big_nat_cmp.l0 k (limbs a) (limbs b) (((limbs a).length : Int) - 1)) (fun k => ?_) (cmp_at _ _ (limbs_lim a) (limbs_lim b) e ha _ ?_ _ (Nat.le_refl _) ?_)
    · rw [if_pos (by omega), w64 (by omega) (by omega)]
    · rw [val_limbs, val_limbs]; unfold sgn
      refine ⟨fun h => ?_, fun h => ?_, fun h => ?_⟩
      · rw [if_pos (by omega)]
      · rw [if_neg (by omega), if_pos (by omega)]
      · rw [if_neg (by omega), if_neg (by omega)]
    · rw [List.drop_length, e, List.drop_length]
  · rcases Nat.lt_or_gt_of_ne e with q | q
    · have := len_lt_val q
      refine Ev.congr (f := fun _ => some (sgn a b)) (fun k => ?_) (Ev.now _)
      rw [if_neg (by omega), if_pos (by omega)]; unfold sgn; rw [if_pos this]
    · have := len_lt_val q
      refine Ev.congr (f := fun _ => some (sgn a b)) (fun k => ?_) (Ev.now _)
      rw [if_neg (by omega), if_neg (by omega)]; unfold sgn; rw [if_neg (by omega), if_pos this]

end Go.Proofs.YtjeamchaibialaaGreatDoor.Pure1

/- The plain laws of big's products and of its quotients by a limb. -/
namespace Go.Proofs.YtjeamchaibialaaGreatDoor.Pure2
open Go.RowKit Go.Proofs.YtjeamchaibialaaGreatDoorW.PrintWords Go.Proofs.YtjeamchaibialaaGreatDoorW.PrintLast Go.Proofs.YtjeamchaibialaaGreatDoorW.PrintMore Fns Limbs Pure1

/-! ### times -/
theorem times_step (a y o c P J V W T : Int) (q : Int) (hq : q = a * y + o + c) (h : V + c * (P * J) = W + a * T * P) :
    (V + (q % 1000000000 - o) * (P * J)) + q / 1000000000 * (P * (1000000000 * J)) = W + a * (T + J * y) * P := by
  have e : q = 1000000000 * (q / 1000000000) + q % 1000000000 := (Int.mul_ediv_add_emod q 1000000000).symm
  generalize q / 1000000000 = d at *
  generalize q % 1000000000 = r at *
  grind

theorem times_inner (R : List Int) (x y : List Int) (hy : Lim y) (lx i N : Nat) (hN : N ≤ 1000000000000000) (hly : i + y.length < N) (_hx : x.length = lx) (a : Int) (ha0 : 0 ≤ a) (ha1 : a < 1000000000) (V : Int)
    (K : ∀ out, Lim out → out.length = N → (∀ p : Nat, i + 1 + y.length ≤ p → rd out p = 0) → val out = V + a * val y * pw i → Ev (fun k => big_nat_times.l0 k y out x lx ((i + 1 : Nat) : Int)) R) :
    ∀ (d j : Nat) (out : List Int) (c : Int), j + d = y.length → Lim out → out.length = N → 0 ≤ c → c < 1000000000 → (∀ p : Nat, i + y.length ≤ p → rd out p = 0) →
      val out + c * (pw i * pw j) = V + a * val (y.take j) * pw i → Ev (fun k => big_nat_times.l1 k y out i a c x lx i y y.length j) R := by
  intro d
  induction d with
  | zero =>
    intro j out c e hl hlen hc0 hc1 hz hv
    obtain rfl : j = y.length := by omega
    have hp : i + y.length < out.length := by omega
    have K := K (out.set (i + y.length) c) (lim_set hl _ hc0 hc1) (by rw [List.length_set]; exact hlen) (fun p hp => by rw [rd_set_ne _ _ _ _ (by omega)]; exact hz p (by omega)) (by
      rw [val_set _ _ _ hp, hz _ (Nat.le_refl _), pw_add]
      rw [List.take_length] at hv
      rw [Int.sub_zero]
      exact hv)
    refine Ev.step (fun k => ?_) K
    simp only [big_nat_times.l1]
    rw [if_neg (by omega), show (i : Int) + (y.length : Int) = ((i + y.length : Nat) : Int) from by omega, w64 (by omega) (by omega), if_pos (by omega), if_pos (by omega), Int.toNat_natCast, Int.emod_eq_of_lt (by omega) (by omega), w64 (by omega) (by omega)]
    rfl
  | succ d ih =>
    intro j out c e hl hlen hc0 hc1 hz hv
    have hyj := lim_rd hy j
    have ho := lim_rd hl (i + j)
    have hm0 : 0 ≤ a * rd y j := Int.mul_nonneg ha0 hyj.1
    have hm1 : a * rd y j ≤ 999999999 * 999999999 := Int.le_trans (Int.mul_le_mul_of_nonneg_right (show a ≤ 999999999 by omega) hyj.1) (Int.mul_le_mul_of_nonneg_left (by omega) (by omega))
    have hp : i + j < out.length := by omega
    have hst := times_step a (rd y j) (rd out ((i + j : Nat) : Int)) c (pw i) (pw j) (val out) V (val (y.take j)) _ rfl hv
    have ih := ih (j + 1) (out.set (i + j) ((a * rd y j + rd out ((i + j : Nat) : Int) + c) % 1000000000)) ((a * rd y j + rd out ((i + j : Nat) : Int) + c) / 1000000000) (by omega)
      (lim_set hl _ (by omega) (by omega)) (by rw [List.length_set]; exact hlen) (by omega) (by omega) (fun p hp => by rw [rd_set_ne _ _ _ _ (by omega)]; exact hz p hp) (by
        rw [val_set _ _ _ hp, val_take_succ _ _ (by omega), pw_add, pw_succ]
        exact hst)
    refine Ev.step (fun k => ?_) ih
    simp only [big_nat_times.l1]
    rw [if_pos (by omega), if_pos (by omega), if_pos (by omega), show (i : Int) + (j : Int) = ((i + j : Nat) : Int) from by omega, w64 (x := ((i + j : Nat) : Int)) (by omega) (by omega), if_pos (by omega), if_pos (by omega), Int.toNat_natCast,
      u64w ha0 (by omega), u64w hyj.1 (by omega), u64w hm0 (by omega), u64w ho.1 (by omega), u64w (x := a * rd y j + rd out ((i + j : Nat) : Int)) (by omega) (by omega), u64w (x := a * rd y j + rd out ((i + j : Nat) : Int) + c) (by omega) (by omega),
      Int.tmod_eq_emod_of_nonneg (by omega), Int.tdiv_eq_ediv_of_nonneg (by omega), Int.emod_eq_of_lt (a := (a * rd y j + rd out ((i + j : Nat) : Int) + c) % 1000000000) (by omega) (by omega), u64w (by omega) (by omega), w64 (by omega) (by omega)]
    rfl

theorem times_outer (x y : List Int) (hx : Lim x) (hy : Lim y) (N : Nat) (hN : N ≤ 1000000000000000) (hNe : x.length + y.length = N) (hyp : 0 < y.length) :
    ∀ (d i : Nat) (out : List Int), i + d = x.length → Lim out → out.length = N → (∀ p : Nat, i + y.length ≤ p → rd out p = 0) → val out = val (x.take i) * val y →
      Ev (fun k => big_nat_times.l0 k y out x x.length i) (limbs (val x * val y).toNat) := by
  intro d
  induction d with
  | zero =>
    intro i out e hl hlen hz hv
    obtain rfl : i = x.length := by omega
    rw [List.take_length] at hv
    refine Ev.step (f := fun k => (big_trim.f k out).bind fun t125 => some t125) (fun k => ?_) (Ev.bind (trim_ev out hl (by omega)) ?_)
    · simp only [big_nat_times.l0]
      rw [if_neg (by omega)]
    · rw [hv]; exact Ev.now _
  | succ d ih =>
    intro i out e hl hlen hz hv
    have hxi := lim_rd hx i
    have hs := val_take_succ x i (by omega)
    by_cases c : rd x i = 0
    · refine Ev.step (fun k => ?_) (ih (i + 1) out (by omega) hl hlen (fun p hp => hz p (by omega)) (by rw [hs, c, Int.mul_zero, Int.add_zero]; exact hv))
      simp only [big_nat_times.l0]
      rw [if_pos (by omega), if_pos (by omega), if_pos (by omega), if_pos c, w64 (by omega) (by omega)]
      rfl
    · refine Ev.step (f := fun k => big_nat_times.l1 k y out i (rd x i) 0 x x.length i y y.length ((0 : Nat) : Int)) (fun k => ?_) (times_inner _ x y hy x.length i N hN (by omega) rfl (rd x i) hxi.1 hxi.2 (val out) (fun out' h1 h2 h3 h4 => ?_) y.length 0 out 0 (by omega) hl hlen (by omega) (by omega) hz ?_)
      · simp only [big_nat_times.l0]
        rw [if_pos (by omega), if_pos (by omega), if_pos (by omega), if_neg c]
        rfl
      · refine ih (i + 1) out' (by omega) h1 h2 h3 ?_
        rw [h4, hv, hs]
        generalize val (x.take i) = t
        generalize val y = v
        generalize rd x i = z
        generalize pw i = p
        grind
      · simp [val]

theorem times_ev (a b : Nat) (ha : (limbs a).length ≤ 30000000000) (hb : (limbs b).length ≤ 30000000000) : Ev (fun k => big_nat_times.f k (limbs a) (limbs b)) (limbs (a * b)) := by
  unfold big_nat_times.f
  by_cases ca : a = 0
  · subst ca
    rw [limbs_zero, Nat.zero_mul, limbs_zero]
    refine Ev.congr (f := fun k => big_nat_times.j0 k [] (limbs b) true) (fun k => by rw [if_pos (by simp)]) (Ev.step (f := fun _ => some []) (fun k => ?_) (Ev.now _))
    simp only [big_nat_times.j0]
    rw [if_pos trivial]
  · by_cases cb : b = 0
    · subst cb
      have := limbs_len_pos ca
      rw [limbs_zero, Nat.mul_zero, limbs_zero]
      refine Ev.congr (f := fun k => big_nat_times.j0 k (limbs a) [] true) (fun k => by rw [if_neg (by omega)]; rfl) (Ev.step (f := fun _ => some []) (fun k => ?_) (Ev.now _))
      simp only [big_nat_times.j0]
      rw [if_pos trivial]
    · have hpa := limbs_len_pos ca
      have hpb := limbs_len_pos cb
      have hr := times_outer (limbs a) (limbs b) (limbs_lim a) (limbs_lim b) _ (by omega) rfl hpb (limbs a).length 0 (List.replicate ((limbs a).length + (limbs b).length) 0) (by omega) (lim_replicate _) (by simp) (fun p _ => rd_replicate _ _) (by rw [val_replicate]; simp [val])
      rw [val_limbs, val_limbs, ← Int.natCast_mul, Int.toNat_natCast] at hr
      refine Ev.congr (f := fun k => big_nat_times.j0 k (limbs a) (limbs b) false) (fun k => ?_) (Ev.step (fun k => ?_) hr)
      · rw [if_neg (by omega), show ((((limbs b).length : Int) == 0) = false) from beq_eq_false_iff_ne.2 (by omega)]
      · simp only [big_nat_times.j0]
        rw [if_neg (by simp), show ((limbs a).length : Int) + ((limbs b).length : Int) = (((limbs a).length + (limbs b).length : Nat) : Int) from by omega, w64 (by omega) (by omega), if_pos (by omega), Int.toNat_natCast, if_pos (by omega)]
        rfl

/-! ### limbed -/
theorem limbed_step (V d r p X q c : Int) (hc : c = r * 1000000000 + q) (h : V * d + r * (1000000000 * p) = X * (1000000000 * p)) : (V + (c / d - 0) * p) * d + c % d * p = (q + 1000000000 * X) * p := by
  have e : c = d * (c / d) + c % d := (Int.mul_ediv_add_emod c d).symm
  generalize c / d = u at *
  generalize c % d = v at *
  grind
theorem quot_lt {r q d : Int} (hr : r < d) (hr0 : 0 ≤ r) (hq : q < 1000000000) (hq0 : 0 ≤ q) : 0 ≤ (r * 1000000000 + q) / d ∧ (r * 1000000000 + q) / d < 1000000000 := by
  have hd : 0 < d := by omega
  refine ⟨Int.ediv_nonneg (by omega) (by omega), ?_⟩
  refine Int.ediv_lt_of_lt_mul hd ?_
  have : (r + 1) * 1000000000 ≤ d * 1000000000 := Int.mul_le_mul_of_nonneg_right (by omega) (by omega)
  omega
theorem limbed_at (x : List Int) (hx : Lim x) (d : Int) (hd0 : 0 < d) (hd1 : d < 1000000001) (hn : x.length ≤ 1000000000000000) :
    ∀ (i : Nat) (out : List Int) (r : Int), i ≤ x.length → Lim out → out.length = x.length → 0 ≤ r → r < d → (∀ p : Nat, p < i → rd out p = 0) → val out * d + r * pw i = val (x.drop i) * pw i →
      Ev (fun k => big_nat_limbed.l0 k x d out r ((i : Int) - 1)) (limbs (val x / d).toNat, val x % d) := by
  intro i
  induction i with
  | zero =>
    intro out r _ hl hlen hr0 hr1 hz hv
    rw [pw_zero, Int.mul_one, Int.mul_one, List.drop_zero] at hv
    have e1 : val x / d = val out := by
      rw [← hv, Int.mul_comm, Int.add_comm, Int.add_mul_ediv_left _ _ (by omega), Int.ediv_eq_zero_of_lt hr0 hr1, Int.zero_add]
    have e2 : val x % d = r := by
      rw [← hv, Int.add_comm, Int.add_mul_emod_self_right, Int.emod_eq_of_lt hr0 hr1]
    rw [e1, e2]
    refine Ev.step (f := fun k => (big_trim.f k out).bind fun t145 => some (t145, r % 4294967296)) (fun k => ?_) (Ev.bind (trim_ev out hl (by omega)) ?_)
    · simp only [big_nat_limbed.l0]
      rw [if_neg (by omega)]
    · rw [Int.emod_eq_of_lt (by omega) (by omega)]; exact Ev.now _
  | succ i ih =>
    intro out r hi hl hlen hr0 hr1 hz hv
    have hxi := lim_rd hx i
    have hq := quot_lt hr1 hr0 hxi.2 hxi.1
    have hm0 := Int.emod_nonneg (r * 1000000000 + rd x i) (show d ≠ 0 by omega)
    have hm1 := Int.emod_lt_of_pos (r * 1000000000 + rd x i) hd0
    have hst := limbed_step (val out) d r (pw i) (val (x.drop (i + 1))) (rd x i) _ rfl (by rw [← pw_succ]; exact hv)
    have ih := ih (out.set i ((r * 1000000000 + rd x i) / d)) ((r * 1000000000 + rd x i) % d) (by omega) (lim_set hl _ hq.1 hq.2) (by rw [List.length_set]; exact hlen) hm0 hm1 (fun p hp => by rw [rd_set_ne _ _ _ _ (by omega)]; exact hz p (by omega)) (by
      rw [val_set _ _ _ (by omega), hz i (by omega), val_drop x i (by omega)]; exact hst)
    refine Ev.step (fun k => ?_) ih
    simp only [big_nat_limbed.l0]
    rw [show ((i + 1 : Nat) : Int) - 1 = (i : Int) from by omega, if_pos (by omega), if_pos (by omega), if_pos (by omega), u64w (x := d) (by omega) (by omega), if_neg (by omega), if_pos (by omega), Int.toNat_natCast,
      u64w (x := r * 1000000000) (by omega) (by omega), u64w (x := rd x i) (by omega) (by omega), u64w (x := r * 1000000000 + rd x i) (by omega) (by omega), Int.tdiv_eq_ediv_of_nonneg (by omega), Int.tmod_eq_emod_of_nonneg (by omega),
      u64w (x := (r * 1000000000 + rd x i) / d) (by omega) (by omega), Int.emod_eq_of_lt (a := (r * 1000000000 + rd x i) / d) (by omega) (by omega), w64 (by omega) (by omega)]
theorem limbed_ev (a d : Nat) (hd0 : 0 < d) (hd1 : d < 1000000001) (ha : (limbs a).length ≤ 30000000000) : Ev (fun k => big_nat_limbed.f k (limbs a) d) (limbs (a / d), ((a % d : Nat) : Int)) := by
  unfold big_nat_limbed.f
  have h := limbed_at (limbs a) (limbs_lim a) d (by omega) (by omega) (by omega) (limbs a).length (List.replicate (limbs a).length 0) 0 (Nat.le_refl _) (lim_replicate _) (by simp) (by omega) (by omega) (fun p _ => rd_replicate _ _) (by
    rw [val_replicate, List.drop_length, val]; simp)
  rw [val_limbs] at h
  have e : (limbs ((a : Int) / d).toNat, (a : Int) % d) = (limbs (a / d), ((a % d : Nat) : Int)) := by
    rw [← Int.natCast_ediv, Int.toNat_natCast, Int.natCast_emod]
  rw [e] at h
  refine Ev.congr (fun k => ?_) h
  rw [if_pos (by omega), if_pos (by omega), Int.toNat_natCast, w64 (by omega) (by omega)]

end Go.Proofs.YtjeamchaibialaaGreatDoor.Pure2

/- The plain laws of big's powers: which power of ten, how often a limb divides, a limb to the k. -/
namespace Go.Proofs.YtjeamchaibialaaGreatDoor.Pure3
open Go.RowKit Go.Proofs.YtjeamchaibialaaGreatDoorW.PrintWords Go.Proofs.YtjeamchaibialaaGreatDoorW.PrintLast Go.Proofs.YtjeamchaibialaaGreatDoorW.PrintMore Fns Limbs Pure1 Go.Proofs.YtjeamchaibialaaGreatDoor.Pure2

/-! ### exponent -/
theorem pw_ten (k : Nat) : pw k = ((10 ^ (9 * k) : Nat) : Int) := by
  unfold pw
  rw [Nat.pow_mul, Int.natCast_pow]
  rfl
theorem exp_top : ∀ (t : Nat) (K : Nat), 0 < t → t < 4294967296 → K + t ≤ 1000000000000000 → ∃ r, Ev (fun k => big_nat_exponent.l1 k K t) r ∧ (r.2 = true → ∃ e : Nat, r.1 = ((K + e : Nat) : Int) ∧ t = 10 ^ e ∧ e ≤ t) := by
  intro t
  induction t using Nat.strongRecOn with
  | _ t ih =>
    intro K h0 h1 h2
    by_cases c : t = 1
    · subst c
      refine ⟨((K : Int), true), Ev.step (f := fun _ => some ((K : Int), true)) (fun k => ?_) (Ev.now _), fun _ => ⟨0, by simp, by simp, by omega⟩⟩
      simp only [big_nat_exponent.l1]
      rw [if_neg (by omega)]
    · by_cases c2 : t % 10 = 0
      · obtain ⟨r, hr, hs⟩ := ih (t / 10) (by omega) (K + 1) (by omega) (by omega) (by omega)
        refine ⟨r, Ev.step (fun k => ?_) hr, fun h => ?_⟩
        · simp only [big_nat_exponent.l1]
          rw [if_pos (by omega), Int.tmod_eq_emod_of_nonneg (by omega), Int.tdiv_eq_ediv_of_nonneg (by omega), if_pos (by omega), w64 (by omega) (by omega), Int.emod_eq_of_lt (by omega) (by omega)]
          rfl
        · obtain ⟨e, e1, e2, e3⟩ := hs h
          refine ⟨e + 1, by rw [e1]; omega, ?_, by omega⟩
          rw [Nat.pow_succ, ← e2]; omega
      · refine ⟨(0, false), Ev.step (f := fun _ => some ((0 : Int), false)) (fun k => ?_) (Ev.now _), fun h => by simp at h⟩
        simp only [big_nat_exponent.l1]
        rw [if_pos (by omega), Int.tmod_eq_emod_of_nonneg (by omega), if_neg (by omega)]
theorem exp_low (l : List Int) (hl : Lim l) (hn : l.length ≤ 10000000000000) (hp : 0 < l.length) (ht : rd l ((l.length - 1 : Nat) : Int) ≠ 0) :
    ∀ (d i : Nat), i + d = l.length → (i < l.length → val (l.take i) = 0) → (i = l.length → val (l.take (l.length - 1)) = 0) →
      ∃ r, Ev (fun k => big_nat_exponent.l0 k l l.length l l.length i) r ∧ (r.2 = true → ∃ e : Nat, r.1 = (e : Int) ∧ val l = ((10 ^ e : Nat) : Int)) := by
  intro d
  induction d with
  | zero =>
    intro i e _ hv
    obtain rfl : i = l.length := by omega
    have hv := hv rfl
    have hx := lim_rd hl (l.length - 1)
    obtain ⟨t, hti⟩ := Int.eq_ofNat_of_zero_le hx.1
    obtain ⟨r, hr, hs⟩ := exp_top t ((l.length - 1) * 9) (by omega) (by omega) (by omega)
    refine ⟨r, Ev.step (fun k => ?_) hr, fun h => ?_⟩
    · simp only [big_nat_exponent.l0]
      rw [if_neg (by omega), show (l.length : Int) - 1 = ((l.length - 1 : Nat) : Int) from by omega, w64 (x := ((l.length - 1 : Nat) : Int)) (by omega) (by omega), if_pos (by omega), if_pos (by omega), hti, w64 (by omega) (by omega)]
      rfl
    · obtain ⟨e, e1, e2, _⟩ := hs h
      refine ⟨_, e1, ?_⟩
      have := val_take_succ l (l.length - 1) (by omega)
      rw [show l.length - 1 + 1 = l.length from by omega, List.take_length, hv, hti, pw_ten, e2, ← Int.natCast_mul, ← Nat.pow_add] at this
      rw [this, Int.zero_add, Nat.mul_comm 9]
  | succ d ih =>
    intro i e hv _
    have hv := hv (by omega)
    have hs := val_take_succ l i (by omega)
    by_cases c : i = l.length - 1
    · obtain ⟨r, hr, hq⟩ := ih (i + 1) (by omega) (by omega) (fun _ => by rw [← c]; exact hv)
      refine ⟨r, Ev.step (fun k => ?_) hr, hq⟩
      simp only [big_nat_exponent.l0]
      rw [if_pos (by omega), if_pos (by omega), if_pos (by omega), w64 (x := (l.length : Int) - 1) (by omega) (by omega), if_neg (by omega), w64 (by omega) (by omega)]
      rfl
    · by_cases c2 : rd l i = 0
      · obtain ⟨r, hr, hq⟩ := ih (i + 1) (by omega) (fun _ => by rw [hs, hv, c2]; omega) (by omega)
        refine ⟨r, Ev.step (fun k => ?_) hr, hq⟩
        simp only [big_nat_exponent.l0]
        rw [if_pos (by omega), if_pos (by omega), if_pos (by omega), w64 (x := (l.length : Int) - 1) (by omega) (by omega), if_pos (by omega), if_pos c2, w64 (by omega) (by omega)]
        rfl
      · refine ⟨(0, false), Ev.step (f := fun _ => some ((0 : Int), false)) (fun k => ?_) (Ev.now _), fun h => by simp at h⟩
        simp only [big_nat_exponent.l0]
        rw [if_pos (by omega), if_pos (by omega), if_pos (by omega), w64 (x := (l.length : Int) - 1) (by omega) (by omega), if_pos (by omega), if_neg c2]
theorem exponent_ev (n : Nat) (h0 : n ≠ 0) (hn : (limbs n).length ≤ 10000000000000) :
    ∃ r, Ev (fun k => big_nat_exponent.f k (limbs n)) r ∧ (r.2 = true → ∃ e : Nat, r.1 = (e : Int) ∧ n = 10 ^ e) := by
  unfold big_nat_exponent.f
  obtain ⟨r, hr, hs⟩ := exp_low (limbs n) (limbs_lim n) hn (limbs_len_pos h0) (limbs_top h0) (limbs n).length 0 (by omega) (fun _ => rfl) (fun h => absurd h (by have := limbs_len_pos h0; omega))
  refine ⟨r, hr, fun h => ?_⟩
  obtain ⟨e, e1, e2⟩ := hs h
  rw [val_limbs] at e2
  exact ⟨e, e1, by omega⟩

/-! ### strip -/
theorem strip_at (d : Nat) (hd0 : 1 < d) (hd1 : d < 1000000000) (most : Nat) (hm : most ≤ 1000000000000000) : ∀ (n : Nat) (a K : Nat), K + n = most → a ≠ 0 → (limbs a).length ≤ 30000000000 →
    ∃ e q : Nat, Ev (fun k => big_nat_strip.l0 k (limbs a) d most K) (((K + e : Nat) : Int), limbs q) ∧ a = d ^ e * q ∧ K + e ≤ most ∧ (K + e = most ∨ ¬ d ∣ q) := by
  intro n
  induction n with
  | zero =>
    intro a K e _ _
    obtain rfl : K = most := by omega
    refine ⟨0, a, ?_, by simp, by omega, .inl (by omega)⟩
    refine Ev.step (f := fun k => big_nat_strip.j1 k (limbs a) d K K false) (fun k => ?_) (Ev.step (f := fun _ => some ((K : Int), limbs a)) (fun k => ?_) (Ev.now _))
    · simp only [big_nat_strip.l0]
      rw [if_neg (by omega)]
    · simp only [big_nat_strip.j1]
      rw [if_neg (by simp)]
  | succ n ih =>
    intro a K e ha hl
    have hp := limbs_len_pos ha
    have first : ∀ k, big_nat_strip.l0 (k + 1) (limbs a) d most K = big_nat_strip.j1 k (limbs a) d most K true := by
      intro k
      simp only [big_nat_strip.l0]
      rw [if_pos (by omega), decide_eq_true (by omega)]
    by_cases c : a % d = 0
    · have hq : a / d ≠ 0 := by
        intro h0
        have := Nat.div_add_mod a d
        rw [h0, c] at this
        simp at this
        exact ha this.symm
      have hle : a / d ≤ a := Nat.div_le_self a d
      obtain ⟨e', q, hr, h1, h2, h3⟩ := ih (a / d) (K + 1) (by omega) hq (Nat.le_trans (limbs_len_mono hle) hl)
      refine ⟨e' + 1, q, ?_, ?_, by omega, ?_⟩
      · rw [show K + (e' + 1) = K + 1 + e' from by omega]
        refine Ev.step first (Ev.step (f := fun k => (big_nat_limbed.f k (limbs a) d).bind fun bt190 => if bt190.2 = 0 then (big_nat_strip.l0 k bt190.1 d most (wrap64 ((K : Int) + 1))) else (some ((K : Int), limbs a))) (fun k => ?_) (Ev.bind (limbed_ev a d (by omega) (by omega) hl) ?_))
        · simp only [big_nat_strip.j1]
          rw [if_pos trivial]
        · refine Ev.congr (fun k => ?_) hr
          rw [if_pos (by omega), w64 (by omega) (by omega)]
          rfl
      · rw [Nat.pow_succ, Nat.mul_right_comm, ← h1, Nat.div_mul_cancel (Nat.dvd_of_mod_eq_zero c)]
      · rcases h3 with h3 | h3
        · exact .inl (by omega)
        · exact .inr h3
    · refine ⟨0, a, ?_, by simp, by omega, .inr fun hdv => c (Nat.mod_eq_zero_of_dvd hdv)⟩
      refine Ev.step first (Ev.step (f := fun k => (big_nat_limbed.f k (limbs a) d).bind fun bt190 => if bt190.2 = 0 then (big_nat_strip.l0 k bt190.1 d most (wrap64 ((K : Int) + 1))) else (some ((K : Int), limbs a))) (fun k => ?_) (Ev.bind (limbed_ev a d (by omega) (by omega) hl) ?_))
      · simp only [big_nat_strip.j1]
        rw [if_pos trivial]
      · refine Ev.congr (f := fun _ => some ((K : Int), limbs a)) (fun k => ?_) (Ev.now _)
        rw [if_neg (by omega)]
theorem strip_ev (a d most : Nat) (hd0 : 1 < d) (hd1 : d < 1000000000) (hm : most ≤ 1000000000000000) (ha : a ≠ 0) (hl : (limbs a).length ≤ 30000000000) :
    ∃ e q : Nat, Ev (fun k => big_nat_strip.f k (limbs a) d most) ((e : Int), limbs q) ∧ a = d ^ e * q ∧ e ≤ most ∧ (e = most ∨ ¬ d ∣ q) := by
  unfold big_nat_strip.f
  obtain ⟨e, q, h1, h2, h3, h4⟩ := strip_at d hd0 hd1 most hm most a 0 (by omega) ha hl
  rw [Nat.zero_add] at h1 h3 h4
  exact ⟨e, q, h1, h2, h3, h4⟩

/-! ### power -/
theorem len_pow (d k : Nat) (hd : d < 1000000000) : (limbs (d ^ k)).length ≤ k + 1 := by
  refine limbs_len_le ?_
  have h1 : d ^ k ≤ 1000000000 ^ k := Nat.pow_le_pow_left (by omega) k
  have h2 : ((1000000000 ^ k : Nat) : Int) = pw k := by unfold pw; rw [Int.natCast_pow]; rfl
  have h3 := pw_pos k
  rw [pw_succ]
  omega
theorem half (s m : Nat) : s * m = (s + s) * (m / 2) + s * (m % 2) := by
  have e1 : s * (2 * (m / 2) + m % 2) = s * m := by rw [Nat.div_add_mod]
  rw [← e1, Nat.mul_add, ← Nat.mul_assoc, Nat.mul_comm s 2, Nat.two_mul]
theorem half_wrap (m : Nat) (h : m ≤ 1000000000) : wrap64 (Int.tdiv (m : Int) 2) = ((m / 2 : Nat) : Int) := by
  rw [Int.tdiv_eq_ediv_of_nonneg (by omega)]
  unfold wrap64; omega
theorem power_at (d : Nat) (hd1 : d < 1000000000) : ∀ (n m : Nat) (o s t : Nat), m ≤ n → s * m = t → o + t ≤ 1000000000 → m ≤ 1000000000 → s ≤ 1000000000 →
    Ev (fun k => big_power.l0 k m (limbs (d ^ o)) (limbs (d ^ s))) (limbs (d ^ (o + t))) := by
  intro n
  induction n with
  | zero =>
    intro m o s t h h0 _ _ _
    obtain rfl : m = 0 := by omega
    obtain rfl : t = 0 := by simpa using h0.symm
    refine Ev.step (f := fun _ => some (limbs (d ^ o))) (fun k => ?_) (Ev.now _)
    simp only [big_power.l0]
    rw [if_neg (by omega)]
  | succ n ih =>
    intro m o s t h h0 h1 h2 h3
    by_cases c0 : m = 0
    · subst c0
      obtain rfl : t = 0 := by simpa using h0.symm
      refine Ev.step (f := fun _ => some (limbs (d ^ o))) (fun k => ?_) (Ev.now _)
      simp only [big_power.l0]
      rw [if_neg (by omega)]
    · have hs : s ≤ t := by rw [← h0]; exact Nat.le_mul_of_pos_right s (by omega)
      have es := half s m
      rw [h0] at es
      have hq : m / 2 ≤ n := by clear es; omega
      have hq2 : m / 2 ≤ 1000000000 := by clear es; omega
      have wd := half_wrap m h2
      have mpos : (m : Int) > 0 := by clear es; omega
      have ls := len_pow d s hd1
      have ls' : (limbs (d ^ s)).length ≤ 30000000000 := Nat.le_trans ls (by clear es; omega)
      clear ls
      have lo := len_pow d o hd1
      have lo' : (limbs (d ^ o)).length ≤ 30000000000 := Nat.le_trans lo (by clear es; omega)
      clear lo
      have sq := times_ev (d ^ s) (d ^ s) ls' ls'
      rw [← Nat.pow_add] at sq
      have mm : Int.tmod (m : Int) 2 = ((m % 2 : Nat) : Int) := by
        rw [Int.tmod_eq_emod_of_nonneg (by clear es; omega), Int.natCast_emod]; rfl
      by_cases c1 : m / 2 = 0
      · -- the last round: what the square grows to is not looked at any more
        obtain rfl : m = 1 := by clear es; omega
        obtain rfl : s = t := by simpa using h0
        have hm := times_ev (d ^ o) (d ^ s) lo' ls'
        rw [← Nat.pow_add] at hm
        refine Ev.step (f := fun k => (big_nat_times.f k (limbs (d ^ o)) (limbs (d ^ s))).bind fun t200 => (big_nat_times.f k (limbs (d ^ s)) (limbs (d ^ s))).bind fun t203 => big_power.l0 k (wrap64 (Int.tdiv ((1 : Nat) : Int) 2)) t200 t203) (fun k => ?_) (Ev.bind hm (Ev.bind sq ?_))
        · simp only [big_power.l0]
          rw [if_pos mpos, mm, if_pos (by decide)]
        · rw [wd]
          refine Ev.step (f := fun _ => some (limbs (d ^ (o + s)))) (fun k => ?_) (Ev.now _)
          simp only [big_power.l0]
          rw [if_neg (by omega)]
      · have hs2 : s + s ≤ t := by
          have : (s + s) * 1 ≤ (s + s) * (m / 2) := Nat.mul_le_mul_left _ (Nat.one_le_iff_ne_zero.2 c1)
          rw [Nat.mul_one] at this
          rw [es]
          exact Nat.le_trans this (Nat.le_add_right _ _)
        have hs3 : s + s ≤ 1000000000 := Nat.le_trans hs2 (Nat.le_trans (Nat.le_add_left _ _) h1)
        rcases Nat.mod_two_eq_zero_or_one m with c | c
        · rw [c, Nat.mul_zero, Nat.add_zero] at es
          have ih := ih (m / 2) o (s + s) t hq es.symm h1 hq2 hs3
          refine Ev.step (f := fun k => (big_nat_times.f k (limbs (d ^ s)) (limbs (d ^ s))).bind fun t206 => big_power.l0 k (wrap64 (Int.tdiv (m : Int) 2)) (limbs (d ^ o)) t206) (fun k => ?_) (Ev.bind sq ?_)
          · simp only [big_power.l0]
            rw [if_pos mpos, mm, c, if_neg (by decide)]
          · rw [wd]; exact ih
        · rw [c, Nat.mul_one] at es
          have hm := times_ev (d ^ o) (d ^ s) lo' ls'
          rw [← Nat.pow_add] at hm
          generalize ht : (s + s) * (m / 2) = t' at es
          have ih := ih (m / 2) (o + s) (s + s) t' hq ht (by omega) hq2 hs3
          rw [show o + s + t' = o + t from by omega] at ih
          refine Ev.step (f := fun k => (big_nat_times.f k (limbs (d ^ o)) (limbs (d ^ s))).bind fun t200 => (big_nat_times.f k (limbs (d ^ s)) (limbs (d ^ s))).bind fun t203 => big_power.l0 k (wrap64 (Int.tdiv (m : Int) 2)) t200 t203) (fun k => ?_) (Ev.bind hm (Ev.bind sq ?_))
          · simp only [big_power.l0]
            rw [if_pos mpos, mm, c, if_pos (by decide)]
          · rw [wd]; exact ih
theorem power_ev (d k : Nat) (hd0 : 0 < d) (hd1 : d < 1000000000) (hk : k ≤ 1000000000) : Ev (fun n => big_power.f n d k) (limbs (d ^ k)) := by
  unfold big_power.f
  refine Ev.bind (Ev.now [1]) ?_
  have h := power_at d hd1 k k 0 1 k (Nat.le_refl _) (Nat.one_mul k) (by omega) (by omega) (by omega)
  rw [Nat.zero_add, Nat.pow_zero, Nat.pow_one, limbs_unit (by omega) (by omega), limbs_unit hd0 hd1] at h
  exact h

end Go.Proofs.YtjeamchaibialaaGreatDoor.Pure3

/- How a whole number lies in memory, and what that stands. -/
namespace Go.Proofs.YtjeamchaibialaaGreatDoor.Nats
open Go.RowKit Go.Proofs.YtjeamchaibialaaGreatDoorW.PrintWords Go.Proofs.YtjeamchaibialaaGreatDoorW.PrintLast Go.Proofs.YtjeamchaibialaaGreatDoorW.PrintMore Fns Limbs Pure1 Go.Proofs.YtjeamchaibialaaGreatDoor.Pure2 Pure3

def NatV (k : IntKind) (w : World) (v : Value) (l : List Int) : Prop := ∃ A c, v = .slice A l.length c ∧ l.length ≤ c ∧ ReadsInt w k A l.length l
def IsU (w : World) (v : Value) (n : Nat) : Prop := NatV .u32 w v (limbs n)
def IsI (w : World) (v : Value) (n : Nat) : Prop := NatV .i64 w v (limbs n)

theorem NatV.below {k : IntKind} {w w' : World} {v : Value} {l : List Int} (h : NatV k w v l) (hb : Below w.heap.size w w') : NatV k w' v l := by
  obtain ⟨A, c, h1, h2, h3⟩ := h
  exact ⟨A, c, h1, h2, h3.below hb⟩
theorem NatV.toC {k : IntKind} {w : World} {v : Value} {l : List Int} (h : NatV k w v l) : ∃ A c, v = .slice A l.length c ∧ l.length ≤ c ∧ (Kd.int k).C w A l.length l := by
  obtain ⟨A, c, h1, h2, h3⟩ := h
  exact ⟨A, c, h1, h2, Kd.C_of_reads (enc := Value.int k) (d := (0 : Int)) (h1 := fun _ => rfl) h3⟩
theorem NatV.ofC {k : IntKind} {w : World} {A : Option Addr} {c : Nat} {l : List Int} (h : (Kd.int k).C w A l.length l) (hc : l.length ≤ c) : NatV k w (.slice A l.length c) l :=
  ⟨A, c, rfl, hc, Kd.reads_of_C (enc := Value.int k) (d := (0 : Int)) (h1 := fun _ => rfl) h⟩
theorem NatV.ofR {k : IntKind} {w : World} {v : Value} {l : List Int} {e base : Nat} {ok : Nat → Prop} (h : (Kd.int k).R e w base ok v l) : NatV k w v l := by
  obtain ⟨A, c, rfl, hc, h⟩ := Kd.R_reads h
  exact NatV.ofC h hc
theorem NatV.nil (k : IntKind) (w : World) (c : Nat) (A : Option Addr) : NatV k w (.slice A 0 c) [] := ⟨A, c, rfl, Nat.zero_le _, rfl, by simp, fun h => by simp at h⟩
theorem NatV.cell {k : IntKind} {w : World} {A : Option Addr} {n c : Nat} {l : List Int} (h : NatV k w (.slice A n c) l) (i : Nat) (hi : i < n) : ∃ ad, A = some ad ∧ w.cell? (ad.add i) = some (.int k (rd l i)) := by
  obtain ⟨A', c', h1, h2, h3⟩ := h
  injection h1 with e1 e2 e3
  subst e1 e2 e3
  obtain ⟨ad, e, hc⟩ := h3.at_ (i : Int) (by omega) (by omega)
  rw [Int.toNat_natCast] at hc
  exact ⟨ad, e, hc⟩
theorem NatV.len {k : IntKind} {w : World} {A : Option Addr} {n c : Nat} {l : List Int} (h : NatV k w (.slice A n c) l) : l.length = n ∧ n ≤ c ∧ n ≤ 9223372036854775807 := by
  obtain ⟨A', c', h1, h2, h3⟩ := h
  injection h1 with e1 e2 e3
  subst e1 e2 e3
  exact ⟨rfl, h2, h3.2.1⟩
theorem NatV.form {k : IntKind} {w : World} {v : Value} {l : List Int} (h : NatV k w v l) : ∃ A c, v = .slice A l.length c ∧ l.length ≤ c := by
  obtain ⟨A, c, h1, h2, _⟩ := h
  exact ⟨A, c, h1, h2⟩
theorem Below.from {w w1 w2 : World} (h : Below w.heap.size w w1) (k : Below w1.heap.size w1 w2) : Below w.heap.size w w2 := below_then h h.size k

theorem run_make0 (n : Nat) (hn : n ≤ 40000000000) (W : World) : (Instr.makeSlice 45 (.int .i64 0) (.int .i64 (n : Int))).run Tryz.prog W = .ok (.slice (some ⟨W.heap.size, 0, none⟩) 0 n) (W.alloc (.cells (madeCells #[.int .u32 0] n) 106)) := by
  obtain ⟨i, hi, hz0, hz1, hz2⟩ := info_parts info106
  have h := run_make (P := Tryz.prog) W 45 106 i (.int .u32 0) Tryz.underlying45 hi hz0 .i64 .i64 0 n (Int.le_refl _) (by omega) (by rw [hz2]; omega) (by omega)
  simp only [Int.toNat_zero, Int.toNat_natCast, hz1, Nat.mul_one] at h
  exact h
theorem made0_row (w0 W : World) (n : Nat) (hn : n ≤ 40000000000) (hb : Below w0.heap.size w0 W) : (Kd.int .u32).R 106 (W.alloc (.cells (madeCells #[.int .u32 0] n) 106)) w0.heap.size (fun _ => True) (.slice (some ⟨W.heap.size, 0, none⟩) 0 n) [] :=
  Kd.R_of_own (enc := Value.int .u32) (h1 := fun _ => rfl) (World.ownsRow_made W _ n hb.size (by simp only [maxLen]; omega) (by simp [madeCells])) (fun _ _ => trivial)

end Go.Proofs.YtjeamchaibialaaGreatDoor.Nats

/- big's plus: the walk. -/
namespace Go.Proofs.YtjeamchaibialaaGreatDoor.PlusWalk
open Go.RowKit Go.Proofs.YtjeamchaibialaaGreatDoorW.PrintWords Go.Proofs.YtjeamchaibialaaGreatDoorW.PrintLast Go.Proofs.YtjeamchaibialaaGreatDoorW.PrintMore Fns Limbs Pure1 Nats

def Rel (w : World) (x y : List Int) (v5 v6 v22 : Value) (wr : World) : Prop :=
  ∃ (i : Nat) (out : List Int) (c : Int), i ≤ x.length ∧ v22 = .int .i64 i ∧ v6 = .int .u32 c ∧ 0 ≤ c ∧ c ≤ 1 ∧ out.length = i ∧ Lim out ∧ val out + c * pw i = val (x.take i) + val (y.take i) ∧
    (Kd.int .u32).R 106 wr w.heap.size (fun _ => True) v5 out ∧ Below w.heap.size w wr
def Post (w : World) (x y : List Int) (e : Ending) (w' : World) : Prop :=
  ∃ v l, e = .returned v ∧ NatV .u32 w' v l ∧ Lim l ∧ val l = val x + val y ∧ (l.length = x.length ∨ pw x.length ≤ val l ∧ l.length = x.length + 1) ∧ Below w.heap.size w w'

theorem rel_start (w : World) (x y : List Int) (hn : x.length ≤ 30000000000) : Rel w x y (.slice (some ⟨w.heap.size, 0, none⟩) 0 (x.length + 1)) (.int .u32 0) (.int .i64 0) (w.alloc (.cells (madeCells #[.int .u32 0] (x.length + 1)) 106)) :=
  ⟨0, [], 0, Nat.zero_le _, rfl, rfl, by omega, by omega, rfl, lim_nil, by simp [val], made0_row w w _ (by omega) (Below.refl _ _), (Below.refl _ _).alloc (Nat.le_refl _) _⟩
theorem rel_step {w : World} {x y : List Int} {i : Nat} {out : List Int} {c : Int} (hi : i < x.length) (ho : out.length = i) (hl : Lim out) (hv : val out + c * pw i = val (x.take i) + val (y.take i)) (s c' : Int) (hs0 : 0 ≤ s) (hs1 : s < 1000000000) (hc : 0 ≤ c' ∧ c' ≤ 1) (he : s + 1000000000 * c' = rd x i + c + rd y i)
    {v1 : Value} {w1 : World} (hR : (Kd.int .u32).R 106 w1 w.heap.size (fun _ => True) v1 (out ++ [s])) (hb : Below w.heap.size w w1) :
    Rel w x y v1 (.int .u32 c') (.int .i64 ((i : Int) + 1)) w1 := by
  refine ⟨i + 1, out ++ [s], c', by omega, by rfl, rfl, hc.1, hc.2, by simp [ho], lim_append.2 ⟨hl, lim_cons.2 ⟨⟨hs0, hs1⟩, lim_nil⟩⟩, ?_, hR, hb⟩
  rw [val_snoc, val_take_next, val_take_next, pw_succ, ho]
  have e2 : rd x i = s + 1000000000 * c' - c - rd y i := by omega
  rw [e2]
  clear e2 he
  generalize val out = a at *
  generalize val (x.take i) = b at *
  generalize val (y.take i) = d at *
  generalize pw i = p at *
  generalize rd y i = z at *
  grind

theorem post_end {w : World} {x y : List Int} {out : List Int} (_hy : Lim y) (hxy : y.length ≤ x.length) (hl : Lim out) (ho : out.length = x.length) (hv : val out = val (x.take x.length) + val (y.take x.length)) {v : Value} {w1 : World}
    (hR : (Kd.int .u32).R 106 w1 w.heap.size (fun _ => True) v out) (hb : Below w.heap.size w w1) : Post w x y (.returned v) w1 := by
  rw [List.take_length, List.take_of_length_le hxy] at hv
  exact ⟨v, out, rfl, NatV.ofR hR, hl, hv, .inl ho, hb⟩
theorem post_carry {w : World} {x y : List Int} {out : List Int} (_hy : Lim y) (hxy : y.length ≤ x.length) (hl : Lim out) (ho : out.length = x.length) (hv : val out + pw x.length = val (x.take x.length) + val (y.take x.length)) {v : Value} {w1 : World}
    (hR : (Kd.int .u32).R 106 w1 w.heap.size (fun _ => True) v (out ++ [1])) (hb : Below w.heap.size w w1) : Post w x y (.returned v) w1 := by
  rw [List.take_length, List.take_of_length_le hxy] at hv
  have h0 := (val_range hl).1
  have e : val (out ++ [1]) = val x + val y := by rw [val_snoc, ho]; omega
  exact ⟨v, out ++ [1], rfl, NatV.ofR hR, lim_append.2 ⟨hl, lim_cons.2 ⟨⟨by omega, by omega⟩, lim_nil⟩⟩, e, .inr ⟨by rw [val_snoc, ho]; omega, by simp [ho]⟩, hb⟩

set_option maxRecDepth 100000 in
set_option maxHeartbeats 400000 in
theorem ge_calls (x y : List Int) (hx : Lim x) (hy : Lim y) (hxy : y.length ≤ x.length) (hn : x.length ≤ 30000000000) (A B : Option Addr) (c d : Nat) (w : World) (hX : Hid (NatV .u32 w (.slice A x.length c) x)) (hY : Hid (NatV .u32 w (.slice B y.length d) y)) :
    Calls Tryz.prog 142 #[.slice A x.length c, .slice B y.length d] w (Post w x y) := by
  have t1 : decide ((x.length : Int) < y.length) = false := decide_eq_false (by omega)
  have t2 : ¬ x.length < y.length := by omega
  have hmk : ∀ W : World, (Instr.makeSlice 45 (.int .i64 0) (.int .i64 ((x.length : Int) + 1))).run Tryz.prog W = .ok (.slice (some ⟨W.heap.size, 0, none⟩) 0 (x.length + 1)) (W.alloc (.cells (madeCells #[.int .u32 0] (x.length + 1)) 106)) := fun W => run_make0 (x.length + 1) (by omega) W
  go_enter Tryz.func142, Tryz.ntmps142
  go_wp2_with fail
  clear hmk t1
  go_loopw [5, 6, 22] (fun v5 v6 v22 wr => Rel w x y v5 v6 v22 wr) (fun _ _ v22 _ => x.length - (intOf v22).toNat)
  case atStart => exact rel_start w x y hn
  case round =>
    obtain ⟨i, out, cc, hi, rfl, rfl, hc0, hc1, ho, hl, hv, hR, hb⟩ := hrel
    have HR := Lib.hid hR
    have HB := Lib.hid hb
    have HV := Lib.hid hv
    have HO := Lib.hid ho
    clear hR hb hv ho
    by_cases hlt : i < x.length
    · have hxi := lim_rd hx i
      have hyi := lim_rd hy i
      obtain ⟨ad, rfl, hcx⟩ := (hX.out.below HB.out).cell i hlt
      by_cases hly : i < y.length
      · obtain ⟨bd, rfl, hcy⟩ := (hY.out.below HB.out).cell i hly
        by_cases hs : rd x i + cc + rd y i < 1000000000
        · go_wp2_with ((at_builtin; refine Kd.R_append (Kd.int .u32) (w0 := w) w.heap.size rfl (.tmp 44) (.tmp 46) 45 106 (.int .u32 0) 4 rfl Tryz.underlying45 info106 rfl (by decide) (by omega) u5 out (rd x i + cc + rd y i) [.int .u32 (rd x i + cc + rd y i)] (fun _ => True) (fun _ => False) rfl rfl ?aP (fun _ hk => hk.elim) ?aF ?aO ?aB ?aS ?aL ?_; (case aP => exact rfl); (case aF => exact (fun _ _ => trivial)); (case aO => exact HR.out); (case aB => exact HB.out); (case aS => exact HB.out.size); (case aL => have := HO.out; omega); intro v1 w1 h1 h2 _ _; have H1 := Lib.hid h1; have H2 := Lib.hid h2; clear h1 h2))
          go_roundw
          case rel => exact rel_step hlt HO.out hl HV.out (rd x i + cc + rd y i) (0) (by omega) (by omega) (by omega) (by omega) H1.out H2.out
          case measure => simp [intOf]; omega
        · go_wp2_with ((at_builtin; refine Kd.R_append (Kd.int .u32) (w0 := w) w.heap.size rfl (.tmp 44) (.tmp 46) 45 106 (.int .u32 0) 4 rfl Tryz.underlying45 info106 rfl (by decide) (by omega) u5 out (rd x i + cc + rd y i - 1000000000) [.int .u32 (rd x i + cc + rd y i - 1000000000)] (fun _ => True) (fun _ => False) rfl rfl ?aP (fun _ hk => hk.elim) ?aF ?aO ?aB ?aS ?aL ?_; (case aP => exact rfl); (case aF => exact (fun _ _ => trivial)); (case aO => exact HR.out); (case aB => exact HB.out); (case aS => exact HB.out.size); (case aL => have := HO.out; omega); intro v1 w1 h1 h2 _ _; have H1 := Lib.hid h1; have H2 := Lib.hid h2; clear h1 h2))
          go_roundw
          case rel => exact rel_step hlt HO.out hl HV.out (rd x i + cc + rd y i - 1000000000) (1) (by omega) (by omega) (by omega) (by omega) H1.out H2.out
          case measure => simp [intOf]; omega
      · have hy0 : rd y i = 0 := by simp [rd, List.getD, hly]
        have HY0 := Lib.hid hy0
        clear hy0 hyi
        by_cases hs : rd x i + cc < 1000000000
        · go_wp2_with ((at_builtin; refine Kd.R_append (Kd.int .u32) (w0 := w) w.heap.size rfl (.tmp 44) (.tmp 46) 45 106 (.int .u32 0) 4 rfl Tryz.underlying45 info106 rfl (by decide) (by omega) u5 out (rd x i + cc) [.int .u32 (rd x i + cc)] (fun _ => True) (fun _ => False) rfl rfl ?aP (fun _ hk => hk.elim) ?aF ?aO ?aB ?aS ?aL ?_; (case aP => exact rfl); (case aF => exact (fun _ _ => trivial)); (case aO => exact HR.out); (case aB => exact HB.out); (case aS => exact HB.out.size); (case aL => have := HO.out; omega); intro v1 w1 h1 h2 _ _; have H1 := Lib.hid h1; have H2 := Lib.hid h2; clear h1 h2))
          go_roundw
          case rel => exact rel_step hlt HO.out hl HV.out (rd x i + cc) (0) (by omega) (by omega) (by omega) (by have := HY0.out; omega) H1.out H2.out
          case measure => simp [intOf]; omega
        · go_wp2_with ((at_builtin; refine Kd.R_append (Kd.int .u32) (w0 := w) w.heap.size rfl (.tmp 44) (.tmp 46) 45 106 (.int .u32 0) 4 rfl Tryz.underlying45 info106 rfl (by decide) (by omega) u5 out (rd x i + cc - 1000000000) [.int .u32 (rd x i + cc - 1000000000)] (fun _ => True) (fun _ => False) rfl rfl ?aP (fun _ hk => hk.elim) ?aF ?aO ?aB ?aS ?aL ?_; (case aP => exact rfl); (case aF => exact (fun _ _ => trivial)); (case aO => exact HR.out); (case aB => exact HB.out); (case aS => exact HB.out.size); (case aL => have := HO.out; omega); intro v1 w1 h1 h2 _ _; have H1 := Lib.hid h1; have H2 := Lib.hid h2; clear h1 h2))
          go_roundw
          case rel => exact rel_step hlt HO.out hl HV.out (rd x i + cc - 1000000000) (1) (by omega) (by omega) (by omega) (by have := HY0.out; omega) H1.out H2.out
          case measure => simp [intOf]; omega
    · have HE := Lib.hid (show i = x.length by omega)
      rcases (show cc = 0 ∨ cc = 1 by omega) with hcc | hcc
      · subst hcc
        go_wp2_with fail
        go_ret
        exact post_end hy hxy hl (HO.out.trans HE.out) (by have := HV.out; rw [HE.out] at this; simpa using this) HR.out HB.out
      · subst hcc
        go_wp2_with (at_builtin; refine Kd.R_append (Kd.int .u32) (w0 := w) w.heap.size rfl (.tmp 51) (.tmp 53) 45 106 (.int .u32 0) 4 rfl Tryz.underlying45 info106 rfl (by decide) (by omega) u5 out (1) [.int .u32 (1)] (fun _ => True) (fun _ => False) rfl rfl ?aP (fun _ hk => hk.elim) ?aF ?aO ?aB ?aS ?aL ?_; (case aP => exact rfl); (case aF => exact (fun _ _ => trivial)); (case aO => exact HR.out); (case aB => exact HB.out); (case aS => exact HB.out.size); (case aL => have := HO.out; omega); intro v1 w1 h1 h2 _ _; have H1 := Lib.hid h1; have H2 := Lib.hid h2; clear h1 h2)
        go_ret
        exact post_carry hy hxy hl (HO.out.trans HE.out) (by have := HV.out; rw [HE.out] at this; simpa using this) H1.out H2.out

set_option maxRecDepth 100000 in
set_option maxHeartbeats 400000 in
theorem lt_calls (x y : List Int) (hx : Lim x) (hy : Lim y) (hxy0 : y.length < x.length) (hn : x.length ≤ 30000000000) (A B : Option Addr) (c d : Nat) (w : World) (hX : Hid (NatV .u32 w (.slice A x.length c) x)) (hY : Hid (NatV .u32 w (.slice B y.length d) y)) :
    Calls Tryz.prog 142 #[.slice B y.length d, .slice A x.length c] w (Post w x y) := by
  have hxy : y.length ≤ x.length := by omega
  have t1 : decide ((y.length : Int) < x.length) = true := decide_eq_true (by omega)
  have hmk : ∀ W : World, (Instr.makeSlice 45 (.int .i64 0) (.int .i64 ((x.length : Int) + 1))).run Tryz.prog W = .ok (.slice (some ⟨W.heap.size, 0, none⟩) 0 (x.length + 1)) (W.alloc (.cells (madeCells #[.int .u32 0] (x.length + 1)) 106)) := fun W => run_make0 (x.length + 1) (by omega) W
  go_enter Tryz.func142, Tryz.ntmps142
  go_wp2_with fail
  clear hmk t1
  go_loopw [5, 6, 22] (fun v5 v6 v22 wr => Rel w x y v5 v6 v22 wr) (fun _ _ v22 _ => x.length - (intOf v22).toNat)
  case atStart => exact rel_start w x y hn
  case round =>
    obtain ⟨i, out, cc, hi, rfl, rfl, hc0, hc1, ho, hl, hv, hR, hb⟩ := hrel
    have HR := Lib.hid hR
    have HB := Lib.hid hb
    have HV := Lib.hid hv
    have HO := Lib.hid ho
    clear hR hb hv ho
    by_cases hlt : i < x.length
    · have hxi := lim_rd hx i
      have hyi := lim_rd hy i
      obtain ⟨ad, rfl, hcx⟩ := (hX.out.below HB.out).cell i hlt
      by_cases hly : i < y.length
      · obtain ⟨bd, rfl, hcy⟩ := (hY.out.below HB.out).cell i hly
        by_cases hs : rd x i + cc + rd y i < 1000000000
        · go_wp2_with ((at_builtin; refine Kd.R_append (Kd.int .u32) (w0 := w) w.heap.size rfl (.tmp 44) (.tmp 46) 45 106 (.int .u32 0) 4 rfl Tryz.underlying45 info106 rfl (by decide) (by omega) u5 out (rd x i + cc + rd y i) [.int .u32 (rd x i + cc + rd y i)] (fun _ => True) (fun _ => False) rfl rfl ?aP (fun _ hk => hk.elim) ?aF ?aO ?aB ?aS ?aL ?_; (case aP => exact rfl); (case aF => exact (fun _ _ => trivial)); (case aO => exact HR.out); (case aB => exact HB.out); (case aS => exact HB.out.size); (case aL => have := HO.out; omega); intro v1 w1 h1 h2 _ _; have H1 := Lib.hid h1; have H2 := Lib.hid h2; clear h1 h2))
          go_roundw
          case rel => exact rel_step hlt HO.out hl HV.out (rd x i + cc + rd y i) (0) (by omega) (by omega) (by omega) (by omega) H1.out H2.out
          case measure => simp [intOf]; omega
        · go_wp2_with ((at_builtin; refine Kd.R_append (Kd.int .u32) (w0 := w) w.heap.size rfl (.tmp 44) (.tmp 46) 45 106 (.int .u32 0) 4 rfl Tryz.underlying45 info106 rfl (by decide) (by omega) u5 out (rd x i + cc + rd y i - 1000000000) [.int .u32 (rd x i + cc + rd y i - 1000000000)] (fun _ => True) (fun _ => False) rfl rfl ?aP (fun _ hk => hk.elim) ?aF ?aO ?aB ?aS ?aL ?_; (case aP => exact rfl); (case aF => exact (fun _ _ => trivial)); (case aO => exact HR.out); (case aB => exact HB.out); (case aS => exact HB.out.size); (case aL => have := HO.out; omega); intro v1 w1 h1 h2 _ _; have H1 := Lib.hid h1; have H2 := Lib.hid h2; clear h1 h2))
          go_roundw
          case rel => exact rel_step hlt HO.out hl HV.out (rd x i + cc + rd y i - 1000000000) (1) (by omega) (by omega) (by omega) (by omega) H1.out H2.out
          case measure => simp [intOf]; omega
      · have hy0 : rd y i = 0 := by simp [rd, List.getD, hly]
        have HY0 := Lib.hid hy0
        clear hy0 hyi
        by_cases hs : rd x i + cc < 1000000000
        · go_wp2_with ((at_builtin; refine Kd.R_append (Kd.int .u32) (w0 := w) w.heap.size rfl (.tmp 44) (.tmp 46) 45 106 (.int .u32 0) 4 rfl Tryz.underlying45 info106 rfl (by decide) (by omega) u5 out (rd x i + cc) [.int .u32 (rd x i + cc)] (fun _ => True) (fun _ => False) rfl rfl ?aP (fun _ hk => hk.elim) ?aF ?aO ?aB ?aS ?aL ?_; (case aP => exact rfl); (case aF => exact (fun _ _ => trivial)); (case aO => exact HR.out); (case aB => exact HB.out); (case aS => exact HB.out.size); (case aL => have := HO.out; omega); intro v1 w1 h1 h2 _ _; have H1 := Lib.hid h1; have H2 := Lib.hid h2; clear h1 h2))
          go_roundw
          case rel => exact rel_step hlt HO.out hl HV.out (rd x i + cc) (0) (by omega) (by omega) (by omega) (by have := HY0.out; omega) H1.out H2.out
          case measure => simp [intOf]; omega
        · go_wp2_with ((at_builtin; refine Kd.R_append (Kd.int .u32) (w0 := w) w.heap.size rfl (.tmp 44) (.tmp 46) 45 106 (.int .u32 0) 4 rfl Tryz.underlying45 info106 rfl (by decide) (by omega) u5 out (rd x i + cc - 1000000000) [.int .u32 (rd x i + cc - 1000000000)] (fun _ => True) (fun _ => False) rfl rfl ?aP (fun _ hk => hk.elim) ?aF ?aO ?aB ?aS ?aL ?_; (case aP => exact rfl); (case aF => exact (fun _ _ => trivial)); (case aO => exact HR.out); (case aB => exact HB.out); (case aS => exact HB.out.size); (case aL => have := HO.out; omega); intro v1 w1 h1 h2 _ _; have H1 := Lib.hid h1; have H2 := Lib.hid h2; clear h1 h2))
          go_roundw
          case rel => exact rel_step hlt HO.out hl HV.out (rd x i + cc - 1000000000) (1) (by omega) (by omega) (by omega) (by have := HY0.out; omega) H1.out H2.out
          case measure => simp [intOf]; omega
    · have HE := Lib.hid (show i = x.length by omega)
      rcases (show cc = 0 ∨ cc = 1 by omega) with hcc | hcc
      · subst hcc
        go_wp2_with fail
        go_ret
        exact post_end hy hxy hl (HO.out.trans HE.out) (by have := HV.out; rw [HE.out] at this; simpa using this) HR.out HB.out
      · subst hcc
        go_wp2_with (at_builtin; refine Kd.R_append (Kd.int .u32) (w0 := w) w.heap.size rfl (.tmp 51) (.tmp 53) 45 106 (.int .u32 0) 4 rfl Tryz.underlying45 info106 rfl (by decide) (by omega) u5 out (1) [.int .u32 (1)] (fun _ => True) (fun _ => False) rfl rfl ?aP (fun _ hk => hk.elim) ?aF ?aO ?aB ?aS ?aL ?_; (case aP => exact rfl); (case aF => exact (fun _ _ => trivial)); (case aO => exact HR.out); (case aB => exact HB.out); (case aS => exact HB.out.size); (case aL => have := HO.out; omega); intro v1 w1 h1 h2 _ _; have H1 := Lib.hid h1; have H2 := Lib.hid h2; clear h1 h2)
        go_ret
        exact post_carry hy hxy hl (HO.out.trans HE.out) (by have := HV.out; rw [HE.out] at this; simpa using this) H1.out H2.out


theorem calls (a b : Nat) (ha : (limbs a).length ≤ 30000000000) (hb : (limbs b).length ≤ 30000000000) (va vb : Value) (w : World) (hA : IsU w va a) (hB : IsU w vb b) :
    Calls Tryz.prog 142 #[va, vb] w fun e w' => ∃ v, e = .returned v ∧ IsU w' v (a + b) ∧ Below w.heap.size w w' := by
  obtain ⟨A, c, rfl, hc⟩ := hA.form
  obtain ⟨B, d, rfl, hd⟩ := hB.form
  have top : ∀ (p q : Nat) (l : List Int), (limbs q).length ≤ (limbs p).length → Lim l → val l = p + q → (l.length = (limbs p).length ∨ pw (limbs p).length ≤ val l ∧ l.length = (limbs p).length + 1) → l = limbs (p + q) := by
    intro p q l hpq hl hv h
    have e : (val l).toNat = p + q := by omega
    rw [← e]
    refine limbs_eq hl ?_
    rcases h with h | ⟨h1, h2⟩
    · by_cases hp : p = 0
      · subst hp
        rw [limbs_zero] at h
        exact .inl (List.length_eq_zero_iff.1 h)
      · have := limbs_ge hp
        rw [h]
        exact .inr (by omega)
    · rw [h2, Nat.add_sub_cancel]
      exact .inr h1
  rcases Nat.lt_or_ge (limbs a).length (limbs b).length with h | h
  · refine (lt_calls (limbs b) (limbs a) (limbs_lim b) (limbs_lim a) h hb B A d c w hB hA).mono ?_
    rintro e w' ⟨v, l, he, hN, hl, hv, ht, hbel⟩
    rw [val_limbs, val_limbs] at hv
    have := top b a l (by omega) hl hv ht
    rw [this, Nat.add_comm] at hN
    exact ⟨v, he, hN, hbel⟩
  · refine (ge_calls (limbs a) (limbs b) (limbs_lim a) (limbs_lim b) h ha A B c d w hA hB).mono ?_
    rintro e w' ⟨v, l, he, hN, hl, hv, ht, hbel⟩
    rw [val_limbs, val_limbs] at hv
    have := top a b l h hl hv ht
    rw [this] at hN
    exact ⟨v, he, hN, hbel⟩

end Go.Proofs.YtjeamchaibialaaGreatDoor.PlusWalk

/- An array of limbs of the call's own, written in place; and trim at whatever slice. -/
namespace Go.Proofs.YtjeamchaibialaaGreatDoor.Arrs
open Go.RowKit Go.Proofs.YtjeamchaibialaaGreatDoorW.PrintWords Go.Proofs.YtjeamchaibialaaGreatDoorW.PrintLast Go.Proofs.YtjeamchaibialaaGreatDoorW.PrintMore Fns Limbs Pure1 Nats

def Arr (k : IntKind) (t : TypeId) (w : World) (g : Nat) (l : List Int) : Prop := ∃ tl : List Value, w.heap[g]? = some (.cells (l.map (Value.int k) ++ tl).toArray t (0, 0))

theorem _root_.Go.Proofs.YtjeamchaibialaaGreatDoor.Nats.NatV.take_ {k : IntKind} {w : World} {A : Option Addr} {n c : Nat} {l : List Int} (h : NatV k w (.slice A n c) l) (i : Nat) (hi : i ≤ l.length) : NatV k w (.slice A i c) (l.take i) := by
  obtain ⟨A', c', h1, h2, h3⟩ := h
  injection h1 with e1 e2 e3
  subst e1 e2 e3
  have e : (l.take i).length = i := by rw [List.length_take]; omega
  refine ⟨_, _, by rw [e], by omega, ?_⟩
  have := h3.take_ i hi
  rw [e]; exact this
section
variable {k : IntKind} {t : TypeId} {w : World} {g : Nat} {l : List Int}
theorem Arr.lt (h : Arr k t w g l) : g < w.heap.size := by
  obtain ⟨tl, h⟩ := h
  exact (Array.getElem?_eq_some_iff.1 h).1
theorem Arr.cell (h : Arr k t w g l) (i : Nat) (hi : i < l.length) : w.cell? ⟨g, i, none⟩ = some (.int k (rd l i)) := by
  obtain ⟨tl, h⟩ := h
  unfold World.cell?
  simp only [h]
  rw [List.getElem?_toArray, List.getElem?_append_left (by simpa using hi)]
  simp [rd, List.getD, hi]
theorem Arr.frozen (h : Arr k t w g l) (i : Nat) : w.frozen? ⟨g, i, none⟩ = false := by
  obtain ⟨tl, h⟩ := h
  unfold World.frozen?
  simp only [h]
  simp
theorem Arr.set (h : Arr k t w g l) (i : Nat) (v : Int) (hi : i < l.length) : Arr k t (w.setCell ⟨g, i, none⟩ (.int k v)) g (l.set i v) := by
  obtain ⟨tl, h⟩ := h
  refine ⟨tl, ?_⟩
  simp only [World.setCell, Array.getElem?_modify, h]
  simp [List.map_set, List.set_append, hi]
theorem Arr.block {w' : World} (h : Arr k t w g l) (e : w'.heap[g]? = w.heap[g]?) : Arr k t w' g l := by
  obtain ⟨tl, h⟩ := h
  exact ⟨tl, e.trans h⟩
theorem Arr.below {w' : World} (h : Arr k t w g l) (hb : Below w.heap.size w w') : Arr k t w' g l := h.block (hb.block g h.lt)
theorem Arr.far (h : Arr k t w g l) {p : Addr} (hp : g ≠ p.block) (u : Value) : Arr k t (w.setCell p u) g l := h.block (Below.heap_setCell _ _ _ _ hp)
theorem Arr.alloc (h : Arr k t w g l) (o : Obj) : Arr k t (w.alloc o) g l := h.block (Below.heap_alloc _ _ _ h.lt)
theorem Arr.drewN (h : Arr k t w g l) (n : Nat) : Arr k t (w.drewN n) g l := by
  induction n with
  | zero => exact h
  | succ n ih => rw [← World.drew_drewN]; exact h
theorem Arr.part (h : Arr k t w g l) (off n c : Nat) (hn : off + n ≤ l.length) (hc : n ≤ c) (hm : n ≤ 9223372036854775807) : NatV k w (.slice (some ⟨g, off, none⟩) n c) ((l.drop off).take n) := by
  have hlen : ((l.drop off).take n).length = n := by rw [List.length_take, List.length_drop]; omega
  refine ⟨some ⟨g, off, none⟩, c, by rw [hlen], by omega, rfl, by omega, fun _ => ⟨_, rfl, fun j hj => ?_⟩⟩
  rw [hlen] at hj
  have e : (⟨g, off, none⟩ : Addr).add j = ⟨g, off + j, none⟩ := by unfold Addr.add; split <;> simp_all
  rw [e, h.cell (off + j) (by omega)]
  congr 2
  have h1 := rd_take (l.drop off) n j hj
  rw [rd_drop] at h1
  rw [← h1]; rfl
theorem Arr.whole (h : Arr k t w g l) (c : Nat) (hc : l.length ≤ c) (hm : l.length ≤ 9223372036854775807) : NatV k w (.slice (some ⟨g, 0, none⟩) l.length c) l := by
  have := h.part 0 l.length c (by omega) hc hm
  simpa using this
end
theorem madeCells_int (k : IntKind) (n : Nat) : madeCells #[.int k 0] n = ((List.replicate n (0 : Int)).map (Value.int k)).toArray := by
  apply Array.ext
  · simp [madeCells]
  · intro i h1 h2
    simp [madeCells, Nat.mod_one]
theorem Arr.made (k : IntKind) (t : TypeId) (w : World) (n : Nat) : Arr k t (w.alloc (.cells (madeCells #[.int k 0] n) t)) w.heap.size (List.replicate n 0) := by
  refine ⟨[], ?_⟩
  rw [madeCells_int]
  show (w.heap.push _)[w.heap.size]? = _
  simp
theorem run_makeN (n : Nat) (hn : n ≤ 70000000000) (W : World) : (Instr.makeSlice 45 (.int .i64 (n : Int)) (.int .i64 (n : Int))).run Tryz.prog W = .ok (.slice (some ⟨W.heap.size, 0, none⟩) n n) (W.alloc (.cells (madeCells #[.int .u32 0] n) 106)) := by
  obtain ⟨i, hi, hz0, hz1, hz2⟩ := info_parts info106
  have h := run_make (P := Tryz.prog) W 45 106 i (.int .u32 0) Tryz.underlying45 hi hz0 .i64 .i64 n n (by omega) (by omega) (by rw [hz2]; omega) (by omega)
  simp only [Int.toNat_natCast, hz1, Nat.mul_one] at h
  exact h

theorem trim_calls (l : List Int) (hl : Lim l) (hn : l.length ≤ 1000000000000000) (v : Value) (w : World) (hV : NatV .u32 w v l) :
    Calls Tryz.prog 112 #[v] w fun e w' => ∃ v', e = .returned v' ∧ IsU w' v' (val l).toNat ∧ Drawn0 w w' := by
  obtain ⟨A, c, rfl, hc⟩ := hV.form
  have HV := Lib.hid hV
  clear hV
  go_enter Tryz.func112, Tryz.ntmps112
  go_wp2_with fail
  go_loopw [3] (fun v3 wr => ∃ i : Nat, i ≤ l.length ∧ v3 = .int .i64 i ∧ Hid (val (l.take i) = val l) ∧ Drawn0 w wr) (fun v3 _ => (intOf v3).toNat)
  case atStart => exact ⟨l.length, Nat.le_refl _, rfl, by rw [List.take_length]; rfl, Drawn0.refl _⟩
  case round =>
    obtain ⟨i, hi, rfl, hv, ⟨m, rfl⟩⟩ := hrel
    cases i with
    | zero =>
      go_wp2_with fail
      go_ret
      refine ⟨_, rfl, ?_, ⟨m, rfl⟩⟩
      have : val l = 0 := hv.out.symm
      unfold IsU
      rw [this, show (0 : Int).toNat = 0 from rfl, limbs_zero]
      exact NatV.nil _ _ _ _
    | succ i =>
      obtain ⟨ad, rfl, hcx⟩ := HV.out.cell i (by omega)
      have hs := Lib.hid (val_take_succ l i (by omega))
      by_cases c0 : rd l i = 0
      · have b0 : (rd l i == 0) = true := beq_iff_eq.2 c0
        have HC := Lib.hid c0
        clear c0
        go_wp2_with fail
        go_roundw
        case rel => exact ⟨i, by omega, rfl, (by have := hs.out; have h2 := hv.out; rw [HC.out] at this; show val (l.take i) = val l; omega), ⟨m, rfl⟩⟩
        case measure => simp [intOf]
      · have b0 : (rd l i == 0) = false := beq_eq_false_iff_ne.2 c0
        have HC := Lib.hid c0
        clear c0
        go_wp2_with fail
        go_ret
        refine ⟨_, rfl, ?_, ⟨m, rfl⟩⟩
        have e : l.take (i + 1) = limbs (val l).toNat := by
          rw [← hv.out]
          refine limbs_of (lim_take hl _) (.inr ?_)
          rw [List.length_take, Nat.min_eq_left hi, Nat.add_sub_cancel, rd_take _ _ _ (by omega)]
          exact HC.out
        unfold IsU
        rw [← e]
        exact (HV.out.take_ (i + 1) hi).below (Drawn0.below ⟨m, rfl⟩)

end Go.Proofs.YtjeamchaibialaaGreatDoor.Arrs

/- big's minus: the walk. -/
namespace Go.Proofs.YtjeamchaibialaaGreatDoor.MinusWalk
open Go.RowKit Go.Proofs.YtjeamchaibialaaGreatDoorW.PrintWords Go.Proofs.YtjeamchaibialaaGreatDoorW.PrintLast Go.Proofs.YtjeamchaibialaaGreatDoorW.PrintMore Fns Limbs Pure1 Nats Arrs

def Rel (w : World) (x y : List Int) (v6 v15 : Value) (wr : World) : Prop :=
  ∃ (i : Nat) (L : List Int) (b : Int), i ≤ x.length ∧ v15 = .int .i64 i ∧ v6 = .int .u32 b ∧ 0 ≤ b ∧ b ≤ 1 ∧ L.length = x.length ∧ Lim L ∧ (∀ p : Nat, i ≤ p → rd L p = 0) ∧ val L + val (y.take i) = val (x.take i) + b * pw i ∧
    Arr .u32 106 wr w.heap.size L ∧ Below w.heap.size w wr
theorem rel_start (w : World) (x y : List Int) : Rel w x y (.int .u32 0) (.int .i64 0) (w.alloc (.cells (madeCells #[.int .u32 0] x.length) 106)) :=
  ⟨0, List.replicate x.length 0, 0, Nat.zero_le _, rfl, rfl, by omega, by omega, by simp, lim_replicate _, fun p _ => rd_replicate _ _, by rw [val_replicate]; simp [val], Arr.made _ _ _ _, (Below.refl _ _).alloc (Nat.le_refl _) _⟩
theorem rel_step {w wr : World} {x y : List Int} {i : Nat} {L : List Int} {b : Int} (hi : i < x.length) (ho : L.length = x.length) (hl : Lim L) (hz : ∀ p : Nat, i ≤ p → rd L p = 0) (hv : val L + val (y.take i) = val (x.take i) + b * pw i)
    (hA : Arr .u32 106 wr w.heap.size L) (hb : Below w.heap.size w wr) (d b' : Int) (hd0 : 0 ≤ d) (hd1 : d < 1000000000) (hb' : 0 ≤ b' ∧ b' ≤ 1) (he : d = rd x i - (b + rd y i) + 1000000000 * b') :
    Rel w x y (.int .u32 b') (.int .i64 ((i : Int) + 1)) (wr.setCell ⟨w.heap.size, i, none⟩ (.int .u32 d)) := by
  refine ⟨i + 1, L.set i d, b', by omega, by rfl, rfl, hb'.1, hb'.2, by rw [List.length_set]; exact ho, lim_set hl _ hd0 hd1, fun p hp => by rw [rd_set_ne _ _ _ _ (by omega)]; exact hz p (by omega), ?_, hA.set i d (by omega), hb.setCell (Nat.le_refl _) _⟩
  rw [val_set _ _ _ (by omega), hz i (Nat.le_refl _), val_take_next, val_take_next, pw_succ, he]
  clear he
  generalize val L = a at *
  generalize val (x.take i) = s at *
  generalize val (y.take i) = t at *
  generalize pw i = p at *
  generalize rd y i = z at *
  generalize rd x i = u at *
  grind

set_option maxRecDepth 100000 in
set_option maxHeartbeats 400000 in
theorem walk (x y : List Int) (hx : Lim x) (hy : Lim y) (hyx : y.length ≤ x.length) (hle : val y ≤ val x) (hn : x.length ≤ 60000000000) (A B : Option Addr) (c d : Nat) (w : World) (hX : Hid (NatV .u32 w (.slice A x.length c) x)) (hY : Hid (NatV .u32 w (.slice B y.length d) y)) :
    Calls Tryz.prog 143 #[.slice A x.length c, .slice B y.length d] w fun e w' => ∃ v, e = .returned v ∧ IsU w' v (val x - val y).toNat ∧ Below w.heap.size w w' := by
  have HLE := Lib.hid hle
  clear hle
  have hmk : ∀ W : World, (Instr.makeSlice 45 (.int .i64 (x.length : Int)) (.int .i64 (x.length : Int))).run Tryz.prog W = .ok (.slice (some ⟨W.heap.size, 0, none⟩) x.length x.length) (W.alloc (.cells (madeCells #[.int .u32 0] x.length) 106)) := fun W => run_makeN x.length (by omega) W
  go_enter Tryz.func143, Tryz.ntmps143
  go_wp2_with fail
  clear hmk
  go_loopw [6, 15] (fun v6 v15 wr => Rel w x y v6 v15 wr) (fun _ v15 _ => x.length - (intOf v15).toNat)
  case atStart => exact rel_start w x y
  case round =>
    obtain ⟨i, L, b, hi, rfl, rfl, hb0, hb1, ho, hl, hz, hv, hA, hbel⟩ := hrel
    have HA := Lib.hid hA
    have HB := Lib.hid hbel
    have HV := Lib.hid hv
    have HO := Lib.hid ho
    have HZ := Lib.hid hz
    clear hA hbel hv ho hz
    by_cases hlt : i < x.length
    · have hxi := lim_rd hx i
      have hyi := lim_rd hy i
      obtain ⟨ad, rfl, hcx⟩ := (hX.out.below HB.out).cell i hlt
      have hcl := HA.out.cell i (by rw [HO.out]; exact hlt)
      have hfr := HA.out.frozen i
      by_cases hly : i < y.length
      · obtain ⟨bd, rfl, hcy⟩ := (hY.out.below HB.out).cell i hly
        by_cases hs : rd x i < b + rd y i
        · go_wp2_with fail
          go_roundw
          case rel => exact rel_step hlt HO.out hl HZ.out HV.out HA.out HB.out (rd x i + 1000000000 - (b + rd y i)) (1) (by omega) (by omega) (by omega) (by omega)
          case measure => simp [intOf]; omega
        · go_wp2_with fail
          go_roundw
          case rel => exact rel_step hlt HO.out hl HZ.out HV.out HA.out HB.out (rd x i - (b + rd y i)) (0) (by omega) (by omega) (by omega) (by omega)
          case measure => simp [intOf]; omega
      · have hy0 : rd y i = 0 := by simp [rd, List.getD, hly]
        have HY0 := Lib.hid hy0
        clear hy0 hyi
        by_cases hs : rd x i < b
        · go_wp2_with fail
          go_roundw
          case rel => exact rel_step hlt HO.out hl HZ.out HV.out HA.out HB.out (rd x i + 1000000000 - b) (1) (by omega) (by omega) (by omega) (by have := HY0.out; omega)
          case measure => simp [intOf]; omega
        · go_wp2_with fail
          go_roundw
          case rel => exact rel_step hlt HO.out hl HZ.out HV.out HA.out HB.out (rd x i - b) (0) (by omega) (by omega) (by omega) (by have := HY0.out; omega)
          case measure => simp [intOf]; omega
    · have HE := Lib.hid (show i = x.length by omega)
      have e : val L = val x - val y := by
        have h1 := HV.out
        have h2 := (val_range hl).2
        rw [HO.out] at h2
        rw [HE.out, List.take_length, List.take_of_length_le hyx] at h1
        have h3 := HLE.out
        have h4 := pw_pos x.length
        rcases (show b = 0 ∨ b = 1 by omega) with h | h
        · rw [h] at h1; omega
        · rw [h] at h1; omega
      have HEV := Lib.hid e
      clear e
      go_wp2_with fail
      refine (trim_calls L hl (by have := HO.out; omega) _ _ (by have := HA.out.whole x.length (by have := HO.out; omega) (by have := HO.out; omega); rw [HO.out] at this; exact this)).mono ?_
      rintro e w' ⟨v, rfl, hN, hD⟩
      have hN := Lib.hid hN
      have hD := Lib.hid hD
      go_wp2_with fail
      go_ret
      have hN := hN.out
      rw [HEV.out] at hN
      exact ⟨_, rfl, hN, below_then HB.out HB.out.size hD.out.below⟩

theorem calls (a b : Nat) (hba : b ≤ a) (ha : (limbs a).length ≤ 60000000000) (va vb : Value) (w : World) (hA : IsU w va a) (hB : IsU w vb b) :
    Calls Tryz.prog 143 #[va, vb] w fun e w' => ∃ v, e = .returned v ∧ IsU w' v (a - b) ∧ Below w.heap.size w w' := by
  obtain ⟨A, c, rfl, _⟩ := hA.form
  obtain ⟨B, d, rfl, _⟩ := hB.form
  have h := walk (limbs a) (limbs b) (limbs_lim a) (limbs_lim b) (limbs_len_mono hba) (by rw [val_limbs, val_limbs]; omega) ha A B c d w hA hB
  rw [val_limbs, val_limbs, show ((a : Int) - b).toNat = a - b from by omega] at h
  exact h

end Go.Proofs.YtjeamchaibialaaGreatDoor.MinusWalk

/- big's takes and gives: the walks, in a window of an array. -/
namespace Go.Proofs.YtjeamchaibialaaGreatDoor.TakesWalk
open Go.RowKit Go.Proofs.YtjeamchaibialaaGreatDoorW.PrintWords Go.Proofs.YtjeamchaibialaaGreatDoorW.PrintLast Go.Proofs.YtjeamchaibialaaGreatDoorW.PrintMore Fns Limbs Pure1 Nats Arrs

theorem grown_set {w wr : World} {g : Nat} (h : w.grownBy wr (some g)) (i : Nat) (u : Value) : w.grownBy (wr.setCell ⟨g, i, none⟩ u) (some g) :=
  ⟨h.os, h.tape, h.output, by simpa [World.setCell] using h.size, fun k hk hne => (Below.heap_setCell wr ⟨g, i, none⟩ u k (by rintro rfl; exact hne rfl)).trans (h.block k hk hne)⟩
theorem grown_refl (w : World) (g : Nat) : w.grownBy w (some g) := ⟨rfl, rfl, rfl, Nat.le_refl _, fun _ _ _ => rfl⟩

def Rel (w : World) (g j : Nat) (L y : List Int) (k : Int) (v7 v8 v15 : Value) (wr : World) : Prop :=
  ∃ (i : Nat) (M : List Int) (c b : Int), i ≤ y.length + 1 ∧ v15 = .int .i64 i ∧ v7 = .int .u64 c ∧ v8 = .int .i64 b ∧ 0 ≤ c ∧ c ≤ k ∧ c * pw i ≤ k * val (y.take i) ∧ 0 ≤ b ∧ b ≤ 1 ∧ M.length = L.length ∧ Lim M ∧ (∀ p : Nat, p < j ∨ j + i ≤ p → rd M p = rd L p) ∧
    val M = val L - k * val (y.take i) * pw j + (c + b) * (pw j * pw i) ∧ Arr .u32 106 wr g M ∧ w.grownBy wr (some g)
theorem rel_start {w : World} {g j : Nat} {L : List Int} (y : List Int) {k : Int} (hk : 0 ≤ k) (hl : Lim L) (hA : Arr .u32 106 w g L) : Rel w g j L y k (.int .u64 0) (.int .i64 0) (.int .i64 0) w :=
  ⟨0, L, 0, 0, Nat.zero_le _, rfl, rfl, rfl, by omega, hk, by simp [val], by omega, by omega, rfl, hl, fun _ _ => rfl, by simp [val], hA, grown_refl _ _⟩
theorem carry_le {k c v : Int} (hk0 : 0 ≤ k) (hc : c ≤ k) (hv : v < 1000000000) : (c + k * v) / 1000000000 ≤ k := by
  have : k * v ≤ k * 999999999 := Int.mul_le_mul_of_nonneg_left (by omega) hk0
  omega
theorem rel_step {w wr : World} {g j : Nat} {L y : List Int} {k : Int} {i : Nat} {M : List Int} {c b : Int} (hi : i < y.length + 1) (hy : Lim y) (hk0 : 0 ≤ k) (hc0 : 0 ≤ c) (hck : c ≤ k) (hcv : c * pw i ≤ k * val (y.take i)) (hlen : M.length = L.length) (hL : j + y.length < L.length) (hl : Lim M) (hsame : ∀ p : Nat, p < j ∨ j + i ≤ p → rd M p = rd L p)
    (hv : val M = val L - k * val (y.take i) * pw j + (c + b) * (pw j * pw i)) (hA : Arr .u32 106 wr g M) (hg : w.grownBy wr (some g)) (q d b' : Int) (hq : q = c + k * rd y i) (hd0 : 0 ≤ d) (hd1 : d < 1000000000) (hb' : 0 ≤ b' ∧ b' ≤ 1) (he : d = rd M ((j + i : Nat) : Int) - b - q % 1000000000 + 1000000000 * b') :
    Rel w g j L y k (.int .u64 (q / 1000000000)) (.int .i64 b') (.int .i64 ((i : Int) + 1)) (wr.setCell ⟨g, j + i, none⟩ (.int .u32 d)) := by
  have hyi := lim_rd hy i
  have hkm : 0 ≤ k * rd y i := Int.mul_nonneg hk0 hyi.1
  have hp := pw_pos i
  have e0 : q = 1000000000 * (q / 1000000000) + q % 1000000000 := (Int.mul_ediv_add_emod q 1000000000).symm
  have hc' : q / 1000000000 * pw (i + 1) ≤ k * val (y.take (i + 1)) := by
    rw [pw_succ, val_take_next]
    have h1 : (q / 1000000000 * 1000000000) * pw i ≤ q * pw i := Int.mul_le_mul_of_nonneg_right (by omega) (Int.le_of_lt hp)
    have e1 : q * pw i = c * pw i + k * (pw i * rd y i) := by rw [hq]; grind
    have e2 : q / 1000000000 * (1000000000 * pw i) = (q / 1000000000 * 1000000000) * pw i := by grind
    have e3 : k * (val (y.take i) + pw i * rd y i) = k * val (y.take i) + k * (pw i * rd y i) := Int.mul_add _ _ _
    rw [e2, e3]
    rw [e1] at h1
    clear e1 e2 e3 hv he hq e0 hkm
    generalize q / 1000000000 * 1000000000 * pw i = s1 at *
    generalize k * (pw i * rd y i) = s2 at *
    generalize c * pw i = s3 at *
    generalize k * val (y.take i) = s4 at *
    omega
  refine ⟨i + 1, M.set (j + i) d, q / 1000000000, b', by omega, by rfl, rfl, rfl, by omega, by rw [hq]; exact carry_le hk0 hck hyi.2, hc', hb'.1, hb'.2, by rw [List.length_set]; exact hlen, lim_set hl _ hd0 hd1, fun p hp => by rw [rd_set_ne _ _ _ _ (by omega)]; exact hsame p (by omega), ?_, hA.set _ d (by omega), grown_set hg _ _⟩
  rw [val_set _ _ _ (by omega), hv, val_take_next, pw_succ, pw_add, he]
  have er : q % 1000000000 = c + k * rd y i - 1000000000 * (q / 1000000000) := by omega
  rw [er]
  clear er e0 he hv hc' hcv hq
  generalize q / 1000000000 = u at *
  generalize val L = a at *
  generalize val (y.take i) = t at *
  generalize pw i = p at *
  generalize pw j = r at *
  generalize rd y i = z at *
  generalize rd M ((j + i : Nat) : Int) = s at *
  grind

set_option maxRecDepth 100000 in
set_option maxHeartbeats 400000 in
theorem takes_calls (g j : Nat) (L y : List Int) (k : Int) (hl : Lim L) (hy : Lim y) (hk0 : 0 ≤ k) (hk1 : k ≤ 1000000000) (hL : j + y.length < L.length) (hn : L.length ≤ 70000000000) (n c d : Nat) (hjn : j + n = L.length) (_hnc : n ≤ c) (B : Option Addr) (w : World)
    (hA : Hid (Arr .u32 106 w g L)) (hY : Hid (∀ W : World, w.grownBy W (some g) → NatV .u32 W (.slice B y.length d) y)) :
    Calls Tryz.prog 149 #[.slice (some ⟨g, j, none⟩) n c, .slice B y.length d, .int .u64 k] w fun e w' => ∃ (r : Bool) (M : List Int), e = .returned (.bool r) ∧ M.length = L.length ∧ Lim M ∧ (∀ p : Nat, p < j ∨ j + y.length + 1 ≤ p → rd M p = rd L p) ∧
      val M = val L - k * val y * pw j + (if r then pw (j + y.length + 1) else 0) ∧ Arr .u32 106 w' g M ∧ w.grownBy w' (some g) := by
  go_enter Tryz.func149, Tryz.ntmps149
  go_wp2_with fail
  go_loopw [7, 8, 15] (fun v7 v8 v15 wr => Rel w g j L y k v7 v8 v15 wr) (fun _ _ v15 _ => y.length + 1 - (intOf v15).toNat)
  case atStart => exact rel_start y hk0 hl hA.out
  case round =>
    obtain ⟨i, M, cc, b, hi, rfl, rfl, rfl, hc0, hck, hcv, hb0, hb1, hlen, hlm, hsame, hv, hAr, hg⟩ := hrel
    have HA := Lib.hid hAr
    have HG := Lib.hid hg
    have HV := Lib.hid hv
    have HO := Lib.hid hlen
    have HZ := Lib.hid hsame
    have HC := Lib.hid hcv
    clear hAr hg hv hlen hsame hcv
    by_cases hlt : i < y.length + 1
    · have hyi := lim_rd hy i
      have hmi := lim_rd hlm (j + i)
      have hcl := HA.out.cell (j + i) (by have := HO.out; omega)
      have hfr := HA.out.frozen (j + i)
      obtain ⟨z, hz⟩ : ∃ z, z = rd M ((j + i : Nat) : Int) := ⟨_, rfl⟩
      rw [← hz] at hmi hcl
      have HM := Lib.hid hz
      clear hz
      by_cases hly : i < y.length
      · obtain ⟨bd, rfl, hcy⟩ := (hY.out wr HG.out).cell i hly
        have hk2 : 0 ≤ k * rd y i := Int.mul_nonneg hk0 hyi.1
        have hk3 : k * rd y i ≤ 1000000000 * 999999999 := Int.le_trans (Int.mul_le_mul_of_nonneg_right hk1 hyi.1) (Int.mul_le_mul_of_nonneg_left (by omega) (by omega))
        by_cases hs : z - b - (cc + k * rd y i) % 1000000000 < 0
        · go_wp2_with fail
          go_roundw
          case rel => exact rel_step hlt hy hk0 hc0 hck HC.out HO.out hL hlm HZ.out HV.out HA.out HG.out (cc + k * rd y i) (z - b - (cc + k * rd y i) % 1000000000 + 1000000000) (1) (by omega) (by omega) (by omega) (by omega) (by have := HM.out; omega)
          case measure => simp [intOf]; omega
        · go_wp2_with fail
          go_roundw
          case rel => exact rel_step hlt hy hk0 hc0 hck HC.out HO.out hL hlm HZ.out HV.out HA.out HG.out (cc + k * rd y i) (z - b - (cc + k * rd y i) % 1000000000) (0) (by omega) (by omega) (by omega) (by omega) (by have := HM.out; omega)
          case measure => simp [intOf]; omega
      · have hy0 : rd y i = 0 := by simp [rd, List.getD, hly]
        have hky : k * rd y i = 0 := by rw [hy0, Int.mul_zero]
        have HY0 := Lib.hid hky
        clear hy0 hky hyi
        by_cases hs : z - b - cc % 1000000000 < 0
        · go_wp2_with fail
          go_roundw
          case rel => exact rel_step hlt hy hk0 hc0 hck HC.out HO.out hL hlm HZ.out HV.out HA.out HG.out (cc) (z - b - cc % 1000000000 + 1000000000) (1) (by have := HY0.out; omega) (by omega) (by omega) (by omega) (by have := HM.out; omega)
          case measure => simp [intOf]; omega
        · go_wp2_with fail
          go_roundw
          case rel => exact rel_step hlt hy hk0 hc0 hck HC.out HO.out hL hlm HZ.out HV.out HA.out HG.out (cc) (z - b - cc % 1000000000) (0) (by have := HY0.out; omega) (by omega) (by omega) (by omega) (by have := HM.out; omega)
          case measure => simp [intOf]; omega
    · have HE := Lib.hid (show i = y.length + 1 by omega)
      have hfin : M.length = L.length ∧ Lim M ∧ (∀ p : Nat, p < j ∨ j + y.length + 1 ≤ p → rd M p = rd L p) ∧ val M = val L - k * val y * pw j + (if decide (0 < b) then pw (j + y.length + 1) else 0) := by
        have h1 := HV.out
        have h2 := HC.out
        have h3 := HZ.out
        rw [HE.out, List.take_of_length_le (by omega)] at h1 h2
        rw [HE.out] at h3
        have hvr := val_range hy
        have hc : cc = 0 := by
          have h4 : k * val y ≤ 1000000000 * val y := Int.mul_le_mul_of_nonneg_right hk1 hvr.1
          have h5 := pw_pos (y.length + 1)
          have h6 : k * val y < pw (y.length + 1) := by rw [pw_succ]; omega
          rcases Int.lt_or_eq_of_le hc0 with h | h
          · have : 1 * pw (y.length + 1) ≤ cc * pw (y.length + 1) := Int.mul_le_mul_of_nonneg_right (by omega) (by omega)
            omega
          · exact h.symm
        refine ⟨HO.out, hlm, fun p hp => h3 p (by omega), ?_⟩
        rw [h1, hc, Int.zero_add, ← pw_add, show j + (y.length + 1) = j + y.length + 1 from by omega]
        rcases (show b = 0 ∨ b = 1 by omega) with h | h
        · rw [h]; simp
        · rw [h]; simp
      have HF := Lib.hid hfin
      clear hfin
      go_wp2_with fail
      go_ret
      exact ⟨_, M, rfl, HF.out.1, HF.out.2.1, HF.out.2.2.1, HF.out.2.2.2, HA.out, HG.out⟩

end Go.Proofs.YtjeamchaibialaaGreatDoor.TakesWalk

/- big's gives: the walk, in a window of an array. -/
namespace Go.Proofs.YtjeamchaibialaaGreatDoor.GivesWalk
open Go.RowKit Go.Proofs.YtjeamchaibialaaGreatDoorW.PrintWords Go.Proofs.YtjeamchaibialaaGreatDoorW.PrintLast Go.Proofs.YtjeamchaibialaaGreatDoorW.PrintMore Fns Limbs Pure1 Nats Arrs
open Go.Proofs.YtjeamchaibialaaGreatDoor.TakesWalk (grown_set grown_refl)

def Rel (w : World) (g j : Nat) (L y : List Int) (v4 v10 : Value) (wr : World) : Prop :=
  ∃ (i : Nat) (M : List Int) (c : Int), i ≤ y.length + 1 ∧ v10 = .int .i64 i ∧ v4 = .int .u32 c ∧ 0 ≤ c ∧ c ≤ 1 ∧ M.length = L.length ∧ Lim M ∧ (∀ p : Nat, p < j ∨ j + i ≤ p → rd M p = rd L p) ∧
    val M = val L + val (y.take i) * pw j - c * (pw j * pw i) ∧ Arr .u32 106 wr g M ∧ w.grownBy wr (some g)
theorem rel_start {w : World} {g j : Nat} {L : List Int} (y : List Int) (hl : Lim L) (hA : Arr .u32 106 w g L) : Rel w g j L y (.int .u32 0) (.int .i64 0) w :=
  ⟨0, L, 0, Nat.zero_le _, rfl, rfl, by omega, by omega, rfl, hl, fun _ _ => rfl, by simp [val], hA, grown_refl _ _⟩
theorem rel_step {w wr : World} {g j : Nat} {L y : List Int} {i : Nat} {M : List Int} {c : Int} (hi : i < y.length + 1) (hlen : M.length = L.length) (hL : j + y.length < L.length) (hl : Lim M) (hsame : ∀ p : Nat, p < j ∨ j + i ≤ p → rd M p = rd L p)
    (hv : val M = val L + val (y.take i) * pw j - c * (pw j * pw i)) (hA : Arr .u32 106 wr g M) (hg : w.grownBy wr (some g)) (d c' : Int) (hd0 : 0 ≤ d) (hd1 : d < 1000000000) (hc' : 0 ≤ c' ∧ c' ≤ 1) (he : d = rd M ((j + i : Nat) : Int) + c + rd y i - 1000000000 * c') :
    Rel w g j L y (.int .u32 c') (.int .i64 ((i : Int) + 1)) (wr.setCell ⟨g, j + i, none⟩ (.int .u32 d)) := by
  refine ⟨i + 1, M.set (j + i) d, c', by omega, by rfl, rfl, hc'.1, hc'.2, by rw [List.length_set]; exact hlen, lim_set hl _ hd0 hd1, fun p hp => by rw [rd_set_ne _ _ _ _ (by omega)]; exact hsame p (by omega), ?_, hA.set _ d (by omega), grown_set hg _ _⟩
  rw [val_set _ _ _ (by omega), hv, val_take_next, pw_succ, pw_add, he]
  clear he hv
  generalize val L = a at *
  generalize val (y.take i) = t at *
  generalize pw i = p at *
  generalize pw j = r at *
  generalize rd y i = z at *
  generalize rd M ((j + i : Nat) : Int) = s at *
  grind

set_option maxRecDepth 100000 in
set_option maxHeartbeats 400000 in
theorem gives_calls (g j : Nat) (L y : List Int) (hl : Lim L) (hy : Lim y) (hL : j + y.length < L.length) (hn : L.length ≤ 70000000000) (n c d : Nat) (hjn : j + n = L.length) (B : Option Addr) (w : World)
    (hA : Hid (Arr .u32 106 w g L)) (hY : Hid (∀ W : World, w.grownBy W (some g) → NatV .u32 W (.slice B y.length d) y)) :
    Calls Tryz.prog 150 #[.slice (some ⟨g, j, none⟩) n c, .slice B y.length d] w fun e w' => ∃ (b : Int) (M : List Int), e = .returned (.tuple #[]) ∧ 0 ≤ b ∧ b ≤ 1 ∧ M.length = L.length ∧ Lim M ∧ (∀ p : Nat, p < j ∨ j + y.length + 1 ≤ p → rd M p = rd L p) ∧
      val M = val L + val y * pw j - b * pw (j + y.length + 1) ∧ Arr .u32 106 w' g M ∧ w.grownBy w' (some g) := by
  go_enter Tryz.func150, Tryz.ntmps150
  go_wp2_with fail
  go_loopw [4, 10] (fun v4 v10 wr => Rel w g j L y v4 v10 wr) (fun _ v10 _ => y.length + 1 - (intOf v10).toNat)
  case atStart => exact rel_start y hl hA.out
  case round =>
    obtain ⟨i, M, cc, hi, rfl, rfl, hc0, hc1, hlen, hlm, hsame, hv, hAr, hg⟩ := hrel
    have HA := Lib.hid hAr
    have HG := Lib.hid hg
    have HV := Lib.hid hv
    have HO := Lib.hid hlen
    have HZ := Lib.hid hsame
    clear hAr hg hv hlen hsame
    by_cases hlt : i < y.length + 1
    · have hyi := lim_rd hy i
      have hmi := lim_rd hlm (j + i)
      have hcl := HA.out.cell (j + i) (by have := HO.out; omega)
      have hfr := HA.out.frozen (j + i)
      obtain ⟨z, hz⟩ : ∃ z, z = rd M ((j + i : Nat) : Int) := ⟨_, rfl⟩
      rw [← hz] at hmi hcl
      have HM := Lib.hid hz
      clear hz
      by_cases hly : i < y.length
      · obtain ⟨bd, rfl, hcy⟩ := (hY.out wr HG.out).cell i hly
        by_cases hs : z + cc + rd y i < 1000000000
        · go_wp2_with fail
          go_roundw
          case rel => exact rel_step hlt HO.out hL hlm HZ.out HV.out HA.out HG.out (z + cc + rd y i) 0 (by omega) (by omega) (by omega) (by have := HM.out; omega)
          case measure => simp [intOf]; omega
        · go_wp2_with fail
          go_roundw
          case rel => exact rel_step hlt HO.out hL hlm HZ.out HV.out HA.out HG.out (z + cc + rd y i - 1000000000) 1 (by omega) (by omega) (by omega) (by have := HM.out; omega)
          case measure => simp [intOf]; omega
      · have hy0 : rd y i = 0 := by simp [rd, List.getD, hly]
        have HY0 := Lib.hid hy0
        clear hy0 hyi
        by_cases hs : z + cc < 1000000000
        · go_wp2_with fail
          go_roundw
          case rel => exact rel_step hlt HO.out hL hlm HZ.out HV.out HA.out HG.out (z + cc) 0 (by omega) (by omega) (by omega) (by have := HM.out; have := HY0.out; omega)
          case measure => simp [intOf]; omega
        · go_wp2_with fail
          go_roundw
          case rel => exact rel_step hlt HO.out hL hlm HZ.out HV.out HA.out HG.out (z + cc - 1000000000) 1 (by omega) (by omega) (by omega) (by have := HM.out; have := HY0.out; omega)
          case measure => simp [intOf]; omega
    · have HE := Lib.hid (show i = y.length + 1 by omega)
      have hfin : M.length = L.length ∧ Lim M ∧ (∀ p : Nat, p < j ∨ j + y.length + 1 ≤ p → rd M p = rd L p) ∧ val M = val L + val y * pw j - cc * pw (j + y.length + 1) := by
        have h1 := HV.out
        have h3 := HZ.out
        rw [HE.out, List.take_of_length_le (by omega)] at h1
        rw [HE.out] at h3
        refine ⟨HO.out, hlm, fun p hp => h3 p (by omega), ?_⟩
        rw [h1, ← pw_add, show j + (y.length + 1) = j + y.length + 1 from by omega]
      have HF := Lib.hid hfin
      clear hfin
      go_wp2_with fail
      go_end0
      exact ⟨cc, M, rfl, hc0, hc1, HF.out.1, HF.out.2.1, HF.out.2.2.1, HF.out.2.2.2, HA.out, HG.out⟩

end Go.Proofs.YtjeamchaibialaaGreatDoor.GivesWalk

/- The digit of a quotient: what the guess comes to. -/
namespace Go.Proofs.YtjeamchaibialaaGreatDoor.Knuth

theorem start {U V P top v1 v2 u2 Vl Ul k : Int} (hP : 0 < P) (hV : V = v1 * (1000000000 * P) + v2 * P + Vl) (hU : U = top * (1000000000 * P) + u2 * P + Ul) (hu2 : 0 ≤ u2 ∧ u2 < 1000000000) (hUl : 0 ≤ Ul ∧ Ul < P) (hv2 : 0 ≤ v2) (hVl : 0 ≤ Vl) (hk0 : 0 ≤ k) (hk : top + 1 ≤ (k + 1) * v1) : U < (k + 1) * V := by
  have h1 : u2 * P ≤ 999999999 * P := Int.mul_le_mul_of_nonneg_right (by omega) (by omega)
  have h2 : (top + 1) * (1000000000 * P) ≤ (k + 1) * v1 * (1000000000 * P) := Int.mul_le_mul_of_nonneg_right hk (by omega)
  have h3 : 0 ≤ (k + 1) * (v2 * P + Vl) := Int.mul_nonneg (by omega) (by have := Int.mul_nonneg hv2 (Int.le_of_lt hP); omega)
  have e1 : (k + 1) * V = (k + 1) * v1 * (1000000000 * P) + (k + 1) * (v2 * P + Vl) := by rw [hV]; grind
  have e2 : (top + 1) * (1000000000 * P) = top * (1000000000 * P) + 1000000000 * P := by grind
  rw [e1]
  rw [e2] at h2
  clear e1 e2 hV hk
  generalize (k + 1) * v1 * (1000000000 * P) = a at *
  generalize (k + 1) * (v2 * P + Vl) = b at *
  generalize top * (1000000000 * P) = c at *
  generalize u2 * P = d at *
  omega
theorem dec {U V P top v1 v2 u2 Vl Ul k rest : Int} (hP : 0 < P) (hV : V = v1 * (1000000000 * P) + v2 * P + Vl) (hU : U = top * (1000000000 * P) + u2 * P + Ul) (hUl : 0 ≤ Ul ∧ Ul < P) (hVl : 0 ≤ Vl) (hk0 : 0 ≤ k) (ht : top = k * v1 + rest) (hc : rest * 1000000000 + u2 < k * v2) : U < k * V := by
  have h1 : (rest * 1000000000 + u2 + 1) * P ≤ k * v2 * P := Int.mul_le_mul_of_nonneg_right (by omega) (by omega)
  have h2 : 0 ≤ k * Vl := Int.mul_nonneg hk0 hVl
  have e1 : k * V = k * v1 * (1000000000 * P) + k * v2 * P + k * Vl := by rw [hV]; grind
  have e2 : U = k * v1 * (1000000000 * P) + (rest * 1000000000 + u2 + 1) * P - P + Ul := by rw [hU, ht]; grind
  rw [e1, e2]
  clear e1 e2 hV hU ht hc
  generalize k * v1 * (1000000000 * P) = a at *
  generalize k * v2 * P = b at *
  generalize k * Vl = c at *
  generalize (rest * 1000000000 + u2 + 1) * P = d at *
  omega
theorem exit1 {U V P top v1 v2 u2 Vl Ul k rest : Int} (hP : 0 < P) (hV : V = v1 * (1000000000 * P) + v2 * P + Vl) (hU : U = top * (1000000000 * P) + u2 * P + Ul) (hUl : 0 ≤ Ul) (hVl : 0 ≤ Vl ∧ Vl < P) (hv1 : 1 ≤ v1) (hv2 : 0 ≤ v2) (hk0 : 0 ≤ k) (hk1 : k < 1000000000) (ht : top = k * v1 + rest) (hc : k * v2 ≤ rest * 1000000000 + u2) : (k - 1) * V ≤ U := by
  have h1 : k * v2 * P ≤ (rest * 1000000000 + u2) * P := Int.mul_le_mul_of_nonneg_right hc (by omega)
  have h2 : k * Vl ≤ k * P := Int.mul_le_mul_of_nonneg_left (by omega) hk0
  have h3 : k * P ≤ 1000000000 * P := Int.mul_le_mul_of_nonneg_right (by omega) (by omega)
  have h4 : 1 * (1000000000 * P) ≤ v1 * (1000000000 * P) := Int.mul_le_mul_of_nonneg_right hv1 (by omega)
  have h5 : 0 ≤ v2 * P := Int.mul_nonneg hv2 (by omega)
  have e1 : (k - 1) * V = k * v1 * (1000000000 * P) + k * v2 * P + k * Vl - (v1 * (1000000000 * P) + v2 * P + Vl) := by rw [hV]; grind
  have e2 : U = k * v1 * (1000000000 * P) + (rest * 1000000000 + u2) * P + Ul := by rw [hU, ht]; grind
  rw [e1, e2]
  clear e1 e2 hV hU ht hc
  generalize k * v1 * (1000000000 * P) = a at *
  generalize k * v2 * P = b at *
  generalize k * Vl = c at *
  generalize (rest * 1000000000 + u2) * P = d at *
  generalize v1 * (1000000000 * P) = e at *
  generalize v2 * P = f at *
  generalize k * P = g at *
  omega
theorem exit2 {U V P top v1 v2 u2 Vl Ul k rest : Int} (hP : 0 < P) (hV : V = v1 * (1000000000 * P) + v2 * P + Vl) (hU : U = top * (1000000000 * P) + u2 * P + Ul) (hUl : 0 ≤ Ul) (hu2 : 0 ≤ u2) (hVl : 0 ≤ Vl ∧ Vl < P) (hv1 : 1 ≤ v1) (hv2 : 0 ≤ v2 ∧ v2 < 1000000000) (hk0 : 0 ≤ k) (hk1 : k ≤ 1000000000) (ht : top = k * v1 + rest) (hr : 1000000000 ≤ rest) : (k - 1) * V ≤ U := by
  have h1 : k * v2 ≤ k * 999999999 := Int.mul_le_mul_of_nonneg_left (by omega) hk0
  have h1' : k * v2 * P ≤ k * 999999999 * P := Int.mul_le_mul_of_nonneg_right h1 (by omega)
  have h2 : k * Vl ≤ k * P := Int.mul_le_mul_of_nonneg_left (by omega) hk0
  have h3 : k * P ≤ 1000000000 * P := Int.mul_le_mul_of_nonneg_right hk1 (by omega)
  have h4 : 1000000000 * (1000000000 * P) ≤ rest * (1000000000 * P) := Int.mul_le_mul_of_nonneg_right hr (by omega)
  have h5 : 0 ≤ v1 * (1000000000 * P) := Int.mul_nonneg (by omega) (by omega)
  have h7 : 0 ≤ v2 * P := Int.mul_nonneg hv2.1 (by omega)
  have h6 : 0 ≤ u2 * P := Int.mul_nonneg hu2 (by omega)
  have e0 : k * 999999999 * P = 999999999 * (k * P) := by grind
  have e1 : (k - 1) * V = k * v1 * (1000000000 * P) + k * v2 * P + k * Vl - (v1 * (1000000000 * P) + v2 * P + Vl) := by rw [hV]; grind
  have e2 : U = k * v1 * (1000000000 * P) + rest * (1000000000 * P) + u2 * P + Ul := by rw [hU, ht]; grind
  rw [e0] at h1'
  rw [e1, e2]
  clear e0 e1 e2 hV hU ht h1
  generalize k * v1 * (1000000000 * P) = a at *
  generalize k * v2 * P = b at *
  generalize k * Vl = c at *
  generalize rest * (1000000000 * P) = d at *
  generalize v1 * (1000000000 * P) = e at *
  generalize v2 * P = f at *
  generalize k * P = g at *
  generalize u2 * P = h at *
  omega
theorem first_le {U V P top v1 v2 u2 Vl Ul k : Int} (hP : 0 < P) (hV : V = v1 * (1000000000 * P) + v2 * P + Vl) (hU : U = top * (1000000000 * P) + u2 * P + Ul) (hUl : 0 ≤ Ul) (hu2 : 0 ≤ u2) (hVl : Vl < P) (hv1 : 500000000 ≤ v1) (hv2 : v2 < 1000000000) (hUV : U < 1000000000 * V) (hk : k * v1 ≤ top) : k ≤ 1000000001 := by
  by_cases h : 1000000001 < k
  · exfalso
    have h1 : 1000000002 * v1 ≤ k * v1 := Int.mul_le_mul_of_nonneg_right (by omega) (by omega)
    have h2 : (1000000000 * v1 + 1000000000) * (1000000000 * P) ≤ top * (1000000000 * P) := Int.mul_le_mul_of_nonneg_right (by omega) (by omega)
    have h3 : v2 * P ≤ 999999999 * P := Int.mul_le_mul_of_nonneg_right (by omega) (by omega)
    have h6 : 0 ≤ u2 * P := Int.mul_nonneg hu2 (by omega)
    have e1 : (1000000000 * v1 + 1000000000) * (1000000000 * P) = 1000000000 * (v1 * (1000000000 * P)) + 1000000000000000000 * P := by grind
    rw [e1] at h2
    rw [hU, hV] at hUV
    clear e1 hV hU h1 hk h
    generalize v1 * (1000000000 * P) = a at *
    generalize top * (1000000000 * P) = b at *
    generalize v2 * P = c at *
    generalize u2 * P = d at *
    omega
  · omega
theorem digit {U V k : Nat} (hV : 0 < V) (h1 : (U : Int) < ((k : Int) + 1) * V) (h2 : ((k : Int) - 1) * V ≤ U) : k = U / V ∨ k = U / V + 1 := by
  have a1 : U / V < k + 1 := by
    rw [Nat.div_lt_iff_lt_mul hV]
    have : ((U : Nat) : Int) < (((k + 1) * V : Nat) : Int) := by rw [Int.natCast_mul]; exact h1
    omega
  have a2 : k ≤ U / V + 1 := by
    rcases Nat.eq_zero_or_pos k with h | h
    · rw [h]; exact Nat.zero_le _
    · have : k - 1 ≤ U / V := by
        rw [Nat.le_div_iff_mul_le hV]
        have e : ((k - 1 : Nat) : Int) = (k : Int) - 1 := by omega
        have : (((k - 1) * V : Nat) : Int) ≤ ((U : Nat) : Int) := by rw [Int.natCast_mul, e]; exact h2
        omega
      clear h1 h2 a1
      omega
  clear h1 h2
  omega

end Go.Proofs.YtjeamchaibialaaGreatDoor.Knuth

/- big's guess: the walk. -/
namespace Go.Proofs.YtjeamchaibialaaGreatDoor.GuessWalk
open Go.RowKit Go.Proofs.YtjeamchaibialaaGreatDoorW.PrintWords Go.Proofs.YtjeamchaibialaaGreatDoorW.PrintLast Go.Proofs.YtjeamchaibialaaGreatDoorW.PrintMore Fns Limbs Pure1 Nats Arrs

def Rel (U V v1 top : Int) (v7 v8 : Value) : Prop := ∃ (k r : Int), v7 = .int .u64 k ∧ v8 = .int .u64 r ∧ 0 ≤ k ∧ k ≤ 1000000001 ∧ 0 ≤ r ∧ r < 1000000000 ∧ top = k * v1 + r ∧ U < (k + 1) * V

theorem back_one {t k v1 r : Int} (h : t = k * v1 + r) : t = (k - 1) * v1 + (r + v1) := by
  rw [Int.sub_mul, Int.one_mul]; omega
theorem up_one {U V k : Int} (h : U < k * V) : U < (k - 1 + 1) * V := by rw [Int.sub_add_cancel]; exact h

theorem vpos {V P v1 v0 Vl : Int} (hP : 0 < P) (hV : V = v1 * (1000000000 * P) + v0 * P + Vl) (h1 : 0 ≤ v1) (h0 : 0 ≤ v0) (hl : 0 ≤ Vl) : 0 ≤ V := by
  have := Int.mul_nonneg h0 (Int.le_of_lt hP)
  have := Int.mul_nonneg h1 (show 0 ≤ 1000000000 * P by omega)
  omega
theorem kpos {k v : Int} (hk : 0 ≤ k) (h : 0 < k * v) : 1 ≤ k := by
  rcases Int.lt_or_eq_of_le hk with h1 | h1
  · omega
  · rw [← h1, Int.zero_mul] at h; omega
set_option maxRecDepth 100000 in
set_option maxHeartbeats 400000 in
theorem walk (n nx cx cy : Nat) (hn0 : 2 ≤ n) (hm : n ≤ 60000000000) (hnx : n < nx) (a2 a1 a0 v1 v0 : Int) (h2 : 0 ≤ a2 ∧ a2 < 1000000000) (h1 : 0 ≤ a1 ∧ a1 < 1000000000) (h0 : 0 ≤ a0 ∧ a0 < 1000000000) (g1 : 500000000 ≤ v1 ∧ v1 < 1000000000) (g0 : 0 ≤ v0 ∧ v0 < 1000000000)
    (U V P Vl Ul t : Int) (HT : Hid (t = a2 * 1000000000 + a1)) (hP : Hid (0 < P)) (hV : Hid (V = v1 * (1000000000 * P) + v0 * P + Vl)) (hU : Hid (U = t * (1000000000 * P) + a0 * P + Ul)) (hUl : Hid (0 ≤ Ul ∧ Ul < P)) (hVl : Hid (0 ≤ Vl ∧ Vl < P)) (hUV : Hid (U < 1000000000 * V))
    (ad bd : Addr) (w : World) (c2 : w.cell? (ad.add n) = some (.int .u32 a2)) (c1 : w.cell? (ad.add (n - 1)) = some (.int .u32 a1)) (c0 : w.cell? (ad.add (n - 2)) = some (.int .u32 a0)) (d1 : w.cell? (bd.add (n - 1)) = some (.int .u32 v1)) (d0 : w.cell? (bd.add (n - 2)) = some (.int .u32 v0)) :
    Calls Tryz.prog 148 #[.slice (some ad) nx cx, .slice (some bd) n cy] w fun e w' => ∃ k : Int, e = .returned (.int .u64 k) ∧ 0 ≤ k ∧ k ≤ 1000000001 ∧ U < (k + 1) * V ∧ (k - 1) * V ≤ U ∧ Drawn0 w w' := by
  have i1 : (n : Int) < nx := by omega
  have i2 : (n : Int) - 1 < nx := by omega
  have i3 : (n : Int) - 1 < n := by omega
  have W1 : IntKind.i64.wrap ((n : Int) - 1) = (n : Int) - 1 := IntWalk.i64_in _ (by omega)
  have L1 : 0 ≤ (n : Int) - 1 := by omega
  have T1 : ((n : Int) - 1).toNat = n - 1 := by omega
  have X1 : IntKind.u64.wrap a2 = a2 := u64w (by omega) (by omega)
  have X2 : IntKind.u64.wrap a1 = a1 := u64w (by omega) (by omega)
  have X3 : IntKind.u64.wrap (a2 * 1000000000) = a2 * 1000000000 := u64w (by omega) (by omega)
  have ht := HT.out
  have ht0 : 0 ≤ t ∧ t < 1000000000000000000 := by omega
  have X4 : IntKind.u64.wrap (a2 * 1000000000 + a1) = t := by rw [u64w (by omega) (by omega)]; exact ht.symm
  have X5 : IntKind.u64.wrap v1 = v1 := u64w (by omega) (by omega)
  have hv0 : v1 ≠ 0 := by omega
  have hv0' : (v1 == 0) = false := beq_eq_false_iff_ne.2 hv0
  have hK0 : 0 ≤ t / v1 := Int.ediv_nonneg ht0.1 (by omega)
  have hK1 : t / v1 ≤ t := Int.ediv_le_self _ ht0.1
  have hR0 : 0 ≤ t % v1 := Int.emod_nonneg _ hv0
  have hR1 : t % v1 < v1 := Int.emod_lt_of_pos _ (by omega)
  have hKR : t = t / v1 * v1 + t % v1 := by have := Int.mul_ediv_add_emod t v1; rw [Int.mul_comm] at this; exact this.symm
  have Y1 : IntKind.u64.wrap (Int.tdiv t v1) = t / v1 := by rw [Int.tdiv_eq_ediv_of_nonneg ht0.1, u64w hK0 (by omega)]
  have Y2 : IntKind.u64.wrap (Int.tmod t v1) = t % v1 := by rw [Int.tmod_eq_emod_of_nonneg ht0.1, u64w hR0 (by omega)]
  have Y3 : Int.tmod t v1 = t % v1 := Int.tmod_eq_emod_of_nonneg ht0.1
  obtain ⟨K, hK⟩ : ∃ K, K = t / v1 := ⟨_, rfl⟩
  obtain ⟨R, hR⟩ : ∃ R, R = t % v1 := ⟨_, rfl⟩
  rw [← hK] at hK0 hK1 hKR Y1
  rw [← hR] at hR0 hR1 hKR Y2 Y3
  have HKR := Lib.hid hKR
  clear hKR ht hK hR
  go_enter Tryz.func148, Tryz.ntmps148
  go_wp2_with fail
  go_quiet (fail)
  go_wp2_with fail
  go_quiet (fail)
  go_wp2_with fail
  clear X1 X2 X3 X4 X5 Y1 Y2 Y3 T1 L1 hv0' c2 c1
  have hK9 : K ≤ 1000000001 := Knuth.first_le hP.out hV.out hU.out hUl.out.1 h0.1 hVl.out.2 g1.1 g0.2 hUV.out (by have := HKR.out; omega)
  have hK8 : t + 1 ≤ (K + 1) * v1 := by
    have h5 := HKR.out
    have h6 : (K + 1) * v1 = K * v1 + v1 := by rw [Int.add_mul, Int.one_mul]
    omega
  have hKs : U < (K + 1) * V := Knuth.start hP.out hV.out hU.out h0 hUl.out g0.1 hVl.out.1 hK0 hK8
  clear hK8
  have HKS := Lib.hid hKs
  clear hKs
  go_loopw [7, 8] (fun v7 v8 wr => ∃ (k r : Int), v7 = .int .u64 k ∧ v8 = .int .u64 r ∧ 0 ≤ k ∧ k ≤ 1000000001 ∧ 0 ≤ r ∧ r < 1000000000 ∧ Hid (t = k * v1 + r) ∧ Hid (U < (k + 1) * V) ∧ Drawn0 w wr) (fun v7 _ _ => (intOf v7).toNat)
  case atStart => exact ⟨K, R, rfl, rfl, hK0, hK9, hR0, by omega, HKR, HKS, ⟨_, by rw [World.drewN_drewN]⟩⟩
  case round =>
    clear HKR HKS hK0 hK1 hR0 hR1 hK9
    obtain ⟨k, r, rfl, rfl, hk0, hk1, hr0, hr1, hkr, hks, ⟨dn, rfl⟩⟩ := hrel
    have i4 : (n : Int) - 2 < nx := by omega
    have i5 : (n : Int) - 2 < n := by omega
    have W2 : IntKind.i64.wrap ((n : Int) - 2) = (n : Int) - 2 := IntWalk.i64_in _ (by omega)
    have L2 : 0 ≤ (n : Int) - 2 := by omega
    have T2 : ((n : Int) - 2).toNat = n - 2 := by omega
    have hm0 : 0 ≤ k * v0 := Int.mul_nonneg hk0 g0.1
    have hm1 : k * v0 ≤ 1000000001 * 999999999 := Int.le_trans (Int.mul_le_mul_of_nonneg_right hk1 g0.1) (Int.mul_le_mul_of_nonneg_left (by omega) (by omega))
    have X1 : IntKind.u64.wrap v0 = v0 := u64w (by omega) (by omega)
    have X2 : IntKind.u64.wrap (k * v0) = k * v0 := u64w (by omega) (by omega)
    have X3 : IntKind.u64.wrap (r * 1000000000) = r * 1000000000 := u64w (by omega) (by omega)
    have X4 : IntKind.u64.wrap a0 = a0 := u64w (by omega) (by omega)
    have X5 : IntKind.u64.wrap (r * 1000000000 + a0) = r * 1000000000 + a0 := u64w (by omega) (by omega)
    by_cases hk9 : 1000000000 ≤ k
    · have hd : decide (1000000000 ≤ k) = true := decide_eq_true hk9
      have HUK : Hid (U < k * V) := Int.lt_of_lt_of_le hUV.out (Int.mul_le_mul_of_nonneg_right hk9 (vpos hP.out hV.out (by omega) g0.1 hVl.out.1))
      go_wp2_with fail
      go_quiet (fail)
      clear X1 X2 X3 X4 X5 W2 L2 T2
      go_wp2_with fail
      · go_ret
        exact ⟨k - 1, rfl, by omega, by omega, up_one HUK.out, Knuth.exit2 hP.out hV.out hU.out hUl.out.1 h0.1 hVl.out (by omega) g0 (by omega) (by omega) (back_one hkr.out) (by omega), ⟨_, rfl⟩⟩
      · go_roundw
        case rel => exact ⟨k - 1, r + v1, rfl, rfl, by omega, by omega, by omega, by omega, back_one hkr.out, up_one HUK.out, ⟨_, rfl⟩⟩
        case measure => simp [intOf]; omega
    · have hd : decide (1000000000 ≤ k) = false := decide_eq_false hk9
      by_cases hgt : r * 1000000000 + a0 < k * v0
      · have hd2 : decide (r * 1000000000 + a0 < k * v0) = true := decide_eq_true hgt
        have HUK : Hid (U < k * V) := Knuth.dec hP.out hV.out hU.out hUl.out hVl.out.1 hk0 hkr.out hgt
        have hkp : 1 ≤ k := kpos hk0 (by omega : 0 < k * v0)
        go_wp2_with fail
        go_quiet (fail)
        clear X1 X2 X3 X4 X5 W2 L2 T2
        go_wp2_with fail
        · go_ret
          exact ⟨k - 1, rfl, by omega, by omega, up_one HUK.out, Knuth.exit2 hP.out hV.out hU.out hUl.out.1 h0.1 hVl.out (by omega) g0 (by omega) (by omega) (back_one hkr.out) (by omega), ⟨_, rfl⟩⟩
        · go_roundw
          case rel => exact ⟨k - 1, r + v1, rfl, rfl, by omega, by omega, by omega, by omega, back_one hkr.out, up_one HUK.out, ⟨_, rfl⟩⟩
          case measure => simp [intOf]; omega
      · have hd2 : decide (r * 1000000000 + a0 < k * v0) = false := decide_eq_false hgt
        go_wp2_with fail
        go_quiet (fail)
        clear X1 X2 X3 X4 X5 W2 L2 T2
        go_wp2_with fail
        go_ret
        exact ⟨k, rfl, hk0, hk1, hks.out, Knuth.exit1 hP.out hV.out hU.out hUl.out.1 hVl.out (by omega) g0.1 hk0 (by omega) hkr.out (by omega), ⟨_, by rw [World.drewN_drewN]⟩⟩

theorem calls (x y : List Int) (hx : Lim x) (hy : Lim y) (hn : 2 ≤ y.length) (hm : y.length ≤ 60000000000) (hxy : y.length < x.length) (htop : 500000000 ≤ rd y ((y.length - 1 : Nat) : Int)) (hUV : val (x.take (y.length + 1)) < 1000000000 * val y) (vx vy : Value) (w : World) (hX : NatV .u32 w vx x) (hY : NatV .u32 w vy y) :
    Calls Tryz.prog 148 #[vx, vy] w fun e w' => ∃ k : Int, e = .returned (.int .u64 k) ∧ 0 ≤ k ∧ k ≤ 1000000001 ∧ val (x.take (y.length + 1)) < (k + 1) * val y ∧ (k - 1) * val y ≤ val (x.take (y.length + 1)) ∧ Drawn0 w w' := by
  obtain ⟨A, c, rfl, _⟩ := hX.form
  obtain ⟨B, d, rfl, _⟩ := hY.form
  obtain ⟨ad, rfl, x2⟩ := hX.cell y.length hxy
  obtain ⟨ad1, e1, x1⟩ := hX.cell (y.length - 1) (by omega)
  obtain ⟨ad0, e0, x0⟩ := hX.cell (y.length - 2) (by omega)
  obtain ⟨bd, rfl, y1⟩ := hY.cell (y.length - 1) (by omega)
  obtain ⟨bd0, f0, y0⟩ := hY.cell (y.length - 2) (by omega)
  injection e1 with e1
  injection e0 with e0
  injection f0 with f0
  subst e1 e0 f0
  have hv : val y = rd y ((y.length - 1 : Nat) : Int) * (1000000000 * pw (y.length - 2)) + rd y ((y.length - 2 : Nat) : Int) * pw (y.length - 2) + val (y.take (y.length - 2)) := by
    have s1 := val_take_next y (y.length - 1)
    have s0 := val_take_next y (y.length - 2)
    have p1 := pw_succ (y.length - 2)
    rw [show y.length - 1 + 1 = y.length from by omega, List.take_length] at s1
    rw [show y.length - 2 + 1 = y.length - 1 from by omega] at s0 p1
    rw [s1, s0, p1]; grind
  have hu : val (x.take (y.length + 1)) = (rd x (y.length : Int) * 1000000000 + rd x ((y.length - 1 : Nat) : Int)) * (1000000000 * pw (y.length - 2)) + rd x ((y.length - 2 : Nat) : Int) * pw (y.length - 2) + val (x.take (y.length - 2)) := by
    have s2 := val_take_next x y.length
    have s1 := val_take_next x (y.length - 1)
    have s0 := val_take_next x (y.length - 2)
    have p1 := pw_succ (y.length - 2)
    have p2 := pw_succ (y.length - 1)
    rw [show y.length - 1 + 1 = y.length from by omega] at s1 p2
    rw [show y.length - 2 + 1 = y.length - 1 from by omega] at s0 p1
    rw [s2, s1, s0, p2, p1]; grind
  have r1 := val_range (lim_take hx (y.length - 2))
  have r2 := val_range (lim_take hy (y.length - 2))
  rw [List.length_take, Nat.min_eq_left (by omega)] at r1 r2
  exact walk y.length x.length c d hn hm hxy _ _ _ _ _ (lim_rd hx _) (lim_rd hx _) (lim_rd hx _) ⟨htop, (lim_rd hy _).2⟩ (lim_rd hy _) _ _ (pw (y.length - 2)) _ _ _ rfl (pw_pos _) hv hu r1 r2 hUV ad bd w x2 x1 x0 y1 y0

end Go.Proofs.YtjeamchaibialaaGreatDoor.GuessWalk
