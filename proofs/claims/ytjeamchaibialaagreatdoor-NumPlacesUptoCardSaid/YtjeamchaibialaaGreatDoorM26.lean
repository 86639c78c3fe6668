/- Joined: Deci Rep Prec FloatS Decimal -/
import Derived.Test.YtjeamchaibialaaGreatDoorM2
import Derived.Test.YtjeamchaibialaaGreatDoorM3
import Derived.Test.YtjeamchaibialaaGreatDoorProg
import Derived.WalkKit
import Derived.Test.YtjeamchaibialaaGreatDoorShelf
import Derived.Shelf.Strings.Repeat
import Derived.Below
import Derived.Test.YtjeamchaibialaaGreatDoorM4
import Derived.RegionTactic
import Derived.BigRegion
import Derived.Deep.RegionHeld3
import Derived.Test.YtjeamchaibialaaGreatDoorM6
set_option linter.unusedVariables false
set_option linter.unusedSimpArgs false
/- Decimals: plain facts. -/
namespace Go.Proofs.YtjeamchaibialaaGreatDoor.Decis
open ReadWalk Texts Rats Limbs Go.Proofs.YtjeamchaibialaaGreatDoor.CommonWalk

def pad (k : Nat) (l : List UInt8) : List UInt8 := List.replicate (k + 1 - l.length) 48 ++ l
def point (k : Nat) (l : List UInt8) : List UInt8 := l.take (l.length - k) ++ 46 :: l.drop (l.length - k)
def dtxt (q : Rat) (k : Nat) : List UInt8 := (if q.num < 0 then [45] else []) ++ point k (pad k (txt (q.num.natAbs * 10 ^ k / q.den)))
def Least (d p : Nat) : Prop := d ∣ 10 ^ p ∧ ∀ j, d ∣ 10 ^ j → p ≤ j
theorem Least.uniq {d p p' : Nat} (h : Least d p) (h' : Least d p') : p = p' := Nat.le_antisymm (h.2 _ h'.1) (h'.2 _ h.1)
theorem ten_pow (j : Nat) : 10 ^ j = 2 ^ j * 5 ^ j := by rw [← Nat.mul_pow]
theorem least_of {d e f : Nat} (h : d = 2 ^ e * 5 ^ f) : Least d (max e f) := by
  subst h
  refine ⟨?_, fun j hj => ?_⟩
  · rw [ten_pow]
    exact Nat.mul_dvd_mul (Nat.pow_dvd_pow 2 (Nat.le_max_left _ _)) (Nat.pow_dvd_pow 5 (Nat.le_max_right _ _))
  · rw [ten_pow] at hj
    have h1 : 2 ^ e ∣ 2 ^ j := Nat.Coprime.dvd_of_dvd_mul_right (Nat.Coprime.pow e j (by decide : Nat.Coprime 2 5)) (Nat.dvd_trans (Nat.dvd_mul_right _ _) hj)
    have h2 : 5 ^ f ∣ 5 ^ j := Nat.Coprime.dvd_of_dvd_mul_left (Nat.Coprime.pow f j (by decide : Nat.Coprime 5 2)) (Nat.dvd_trans (Nat.dvd_mul_left _ _) hj)
    have h3 := (Nat.pow_dvd_pow_iff_le_right (by omega : 1 < 2)).1 h1
    have h4 := (Nat.pow_dvd_pow_iff_le_right (by omega : 1 < 5)).1 h2
    omega
theorem none_of {d e f q : Nat} (h : d = 2 ^ e * (5 ^ f * q)) (h2 : ¬ 2 ∣ 5 ^ f * q) (h5 : ¬ 5 ∣ q) (h1 : q ≠ 1) (j : Nat) : ¬ d ∣ 10 ^ j := by
  intro hj
  have hq : q ∣ 10 ^ j := Nat.dvd_trans (by rw [h, ← Nat.mul_assoc]; exact Nat.dvd_mul_left _ _) hj
  have hq2 : ¬ 2 ∣ q := fun e => h2 (Nat.dvd_trans e (Nat.dvd_mul_left _ _))
  rw [ten_pow] at hq
  have h6 : q ∣ 5 ^ j := Nat.Coprime.dvd_of_dvd_mul_left ((cop2 hq2).pow_right j) hq
  have h7 : Nat.Coprime q (5 ^ j) := (cop5 h5).pow_right j
  exact h1 (Nat.eq_one_of_dvd_one (by have := Nat.Coprime.dvd_of_dvd_mul_left h7 (n := 1) (by rwa [Nat.mul_one]); exact this))
theorem pow_small {e q a L : Nat} (p : Nat) (hp : 2 ≤ p) (h : a = p ^ e * q) (ha : a ≠ 0) (hl : (limbs a).length ≤ L) : e < 30 * L + 1 := by
  have h1 := limbs_lt (n := a)
  rw [Pure3.pw_ten] at h1
  have h2 : a < 10 ^ (9 * (limbs a).length) := by exact_mod_cast h1
  have hq : 1 ≤ q := Nat.pos_of_ne_zero (fun e => ha (by rw [h, e, Nat.mul_zero]))
  have h3 : p ^ e ≤ a := by rw [h]; exact Nat.le_mul_of_pos_right _ hq
  have h4 : 2 ^ e ≤ p ^ e := Nat.pow_le_pow_left hp e
  have h5 : (10 : Nat) ^ (9 * (limbs a).length) ≤ 2 ^ (30 * (limbs a).length) := by
    rw [Nat.pow_mul, Nat.pow_mul]
    exact Nat.pow_le_pow_left (by decide) _
  have h6 := (Nat.pow_lt_pow_iff_right (by omega : 1 < 2)).1 (Nat.lt_of_le_of_lt h4 (Nat.lt_of_le_of_lt h3 (Nat.lt_of_lt_of_le h2 h5)))
  have h7 : 30 * (limbs a).length ≤ 30 * L := Nat.mul_le_mul_left _ hl
  omega
theorem pow_less {e q a : Nat} (p : Nat) (hp : 2 ≤ p) (h : a = p ^ e * q) (ha : a ≠ 0) : e < 30 * (limbs a).length := by
  have h1 := limbs_lt (n := a)
  rw [Pure3.pw_ten] at h1
  have h2 : a < 10 ^ (9 * (limbs a).length) := by exact_mod_cast h1
  have hq : 1 ≤ q := Nat.pos_of_ne_zero (fun e => ha (by rw [h, e, Nat.mul_zero]))
  have h3 : p ^ e ≤ a := by rw [h]; exact Nat.le_mul_of_pos_right _ hq
  have h4 : 2 ^ e ≤ p ^ e := Nat.pow_le_pow_left hp e
  have h5 : (10 : Nat) ^ (9 * (limbs a).length) ≤ 2 ^ (30 * (limbs a).length) := by
    rw [Nat.pow_mul, Nat.pow_mul]
    exact Nat.pow_le_pow_left (by decide) _
  exact (Nat.pow_lt_pow_iff_right (by omega : 1 < 2)).1 (Nat.lt_of_le_of_lt h4 (Nat.lt_of_le_of_lt h3 (Nat.lt_of_lt_of_le h2 h5)))
theorem pad_len (k : Nat) (l : List UInt8) : (pad k l).length = max l.length (k + 1) := by
  unfold pad
  rw [List.length_append, List.length_replicate]
  omega
theorem point_len (k : Nat) (l : List UInt8) : (point k l).length = l.length + 1 := by
  unfold point
  rw [List.length_append, List.length_cons, List.length_take, List.length_drop]
  omega
theorem txt_ten {n : Nat} (h : n ≠ 0) : txt (n * 10) = txt n ++ [48] := by
  rw [txt_big (by omega), show n * 10 / 10 = n from by omega, show n * 10 % 10 = 0 from by omega]
  rfl
theorem dtxt_whole {q : Rat} (h : q.den = 1) : dtxt q 1 = (if q.num < 0 then [45] else []) ++ (txt q.num.natAbs ++ [46, 48]) := by
  unfold dtxt
  rw [h, Nat.pow_one, Nat.div_one]
  congr 1
  by_cases h0 : q.num.natAbs = 0
  · rw [h0, Nat.zero_mul]
    rw [show txt 0 = [48] from txt_small (by omega)]
    rfl
  · rw [txt_ten h0]
    have h1 : 1 ≤ (txt q.num.natAbs).length := List.length_pos_iff.2 (txt_ne _)
    generalize txt q.num.natAbs = l at *
    unfold pad point
    have hz : 1 + 1 - (l ++ [(48 : UInt8)]).length = 0 := by rw [List.length_append, List.length_singleton]; omega
    rw [hz]
    simp
end Go.Proofs.YtjeamchaibialaaGreatDoor.Decis

/- strings.Repeat of a zero, laid at this program. -/
namespace Go.Proofs.YtjeamchaibialaaGreatDoor.Trims
open Go.RowKit Go.Shelf Go.Lib
theorem extra : Builder.Extra Tryz.prog Tryz.lays105_ren := {
  sizeBuilder := by kernel_rfl
  liesBuilder := by kernel_rfl
  t5 := Tryz.underlying5
  a5 := Tryz.isAgg5
  z5 := Tryz.sizeOf5
  v5 := Tryz.zeroValue5
  infoByte := by kernel_rfl
  cellsByte := by kernel_rfl
  sizeByte := by kernel_rfl
  neB5 := by decide }
theorem repeat_zeros (c : Nat) (h1 : 1 ≤ c) (hc : c ≤ 100000000000) (w : World) :
    Calls Tryz.prog 93 #[.string ⟨#[48]⟩, .int .i64 c] w fun e w' => e = .returned (.string ⟨(List.replicate c (48 : UInt8)).toArray⟩) ∧ Below w.heap.size w w' := by
  have h := Any.strings_Repeat Tryz.lays105 extra ⟨#[48]⟩ c w (by omega) (by show 1 * c ≤ _; omega)
  rw [show (⟨#[48]⟩ : ByteArray).data.toList = List.replicate 1 48 from rfl, repeatL_replicate, Nat.mul_one] at h
  exact h
end Go.Proofs.YtjeamchaibialaaGreatDoor.Trims

/- big's FloatPrec: the walk. -/
namespace Go.Proofs.YtjeamchaibialaaGreatDoor.PrecWalk
open Go.RowKit Go.Proofs.YtjeamchaibialaaGreatDoorW.PrintWords Go.Proofs.YtjeamchaibialaaGreatDoorW.PrintLast Go.Proofs.YtjeamchaibialaaGreatDoorW.PrintMore Fns Limbs Pure1 Nats Go.Proofs.YtjeamchaibialaaGreatDoor.Told ReadWalk Texts Rats Parses Heaps Go.Proofs.YtjeamchaibialaaGreatDoor.Ints Go.Proofs.YtjeamchaibialaaGreatDoor.RatTell Go.Proofs.YtjeamchaibialaaGreatDoor.Decis

def OutP (d : Nat) (w : World) (e : Ending) (W : World) : Prop :=
  Below w.heap.size w W ∧ ∃ p : Nat, p ≤ 30 * (limbs d).length ∧ ((Least d p ∧ e = .returned (.tuple #[.int .i64 p, .bool true])) ∨ ((∀ j, ¬ d ∣ 10 ^ j) ∧ e = .returned (.tuple #[.int .i64 p, .bool false])))

theorem limbs_is_one {q : Nat} (h : (limbs q).length = 1) : rd (limbs q) 0 = (q : Int) := by
  have hv := val_limbs q
  match hl : limbs q, h with
  | [x], _ =>
    rw [hl] at hv
    simp [val] at hv
    simp [rd, hv]

theorem addr_add_zero (a : Addr) : a.add 0 = a := by cases a; rfl
set_option maxRecDepth 100000 in
set_option maxHeartbeats 400000 in
theorem calls (q : Rat) (hz : (limbs q.den).length ≤ 100000000) (g : Nat) (w : World) (h : RatAt w g q) :
    Calls Tryz.prog 44 #[.pointer (some ⟨g, 0, none⟩)] w (OutP q.den w) := by
  go_enter Tryz.func44, Tryz.ntmps44
  go_wp2_with fail
  refine (low_calls q g _ h).mono ?_
  rintro e w1 ⟨v, rfl, hv, hb⟩
  obtain ⟨A, c, rfl, _⟩ := hv.form
  obtain ⟨L, hL⟩ : ∃ L, L = (limbs q.den).length := ⟨_, rfl⟩
  rw [← hL] at hv
  simp only [← hL]
  have hLn : L ≤ 100000000 := by rw [hL]; exact hz
  have H1 := Lib.hid (And.intro hv (And.intro hb hL))
  obtain ⟨T, hT⟩ : ∃ T, T = 30 * L := ⟨_, rfl⟩
  have m1 : IntKind.i64.wrap ((L : Int) * 30) = (T : Int) := by rw [IntWalk.i64_in _ (by omega)]; omega
  have m2 : (L : Int) * 30 = (T : Int) := by omega
  have hTn : T ≤ 3000000000 := by omega
  have HT := Lib.hid hT
  clear hv hb hL h hz hT
  go_wp2_with fail
  refine (strip_calls q.den 2 T (by omega) (by omega) (by omega) q.den_nz (by rw [← H1.out.2.2]; omega) _ _ H1.out.1).mono ?_
  rintro x w2 ⟨e, r, v2, rfl, h21, h22, h23, hv2, hb2⟩
  have he : e < T := by rw [HT.out, H1.out.2.2]; exact pow_less 2 (by omega) h21 q.den_nz
  have hr0 : r ≠ 0 := fun e0 => q.den_nz (by rw [h21, e0, Nat.mul_zero])
  have h2d : ¬ 2 ∣ r := by rcases h23 with h | h; omega; exact h
  have hrl : (limbs r).length ≤ L := by
    rw [H1.out.2.2]
    exact limbs_len_mono (by rw [h21]; exact Nat.le_mul_of_pos_left _ (Nat.pow_pos (by omega)))
  have H2 := Lib.hid (And.intro hv2 (And.intro (below_step H1.out.2.1 hb2) (And.intro h21 h2d)))
  clear h21 h22 h23 hv2 hb2 h2d
  go_wp2_with fail
  refine (strip_calls r 5 T (by omega) (by omega) (by omega) hr0 (by omega) _ _ H2.out.1).mono ?_
  rintro x w3 ⟨f, t, v3, rfl, h31, h32, h33, hv3, hb3⟩
  have hf : f < T := by
    have := pow_less 5 (by omega) h31 hr0
    rw [HT.out]; omega
  have h5d : ¬ 5 ∣ t := by rcases h33 with h | h; omega; exact h
  obtain ⟨B, c3, rfl, _⟩ := hv3.form
  obtain ⟨k, hk⟩ : ∃ k, k = (limbs t).length := ⟨_, rfl⟩
  rw [← hk] at hv3
  simp only [← hk]
  have htl : k ≤ L := by
    rw [hk]
    refine Nat.le_trans (limbs_len_mono ?_) hrl
    rw [h31]; exact Nat.le_mul_of_pos_left _ (Nat.pow_pos (by omega))
  have H3 := Lib.hid (And.intro hv3 (And.intro (below_step H2.out.2.1 hb3) (And.intro h31 (And.intro h5d hk))))
  have HH := Lib.hid H2.out.2.2
  obtain ⟨p, hp⟩ : ∃ p, p = max e f := ⟨_, rfl⟩
  have hmx : max (e : Int) (f : Int) = (p : Int) := by omega
  have hpt : p < T := by omega
  have HP := Lib.hid hp
  clear h31 h32 h33 hv3 hb3 h5d H2 hrl hr0 he hf hp m1 m2 hk
  have hfin : ∀ W, Below w3.heap.size w3 W → Below w.heap.size w W := fun W h => below_step H3.out.2.1 h
  have HF := Lib.hid hfin
  have hd1 : Below w3.heap.size w3 w3.drew := Drawn0.below ⟨1, rfl⟩
  have HD := Lib.hid hd1
  clear hfin hd1
  have HB : Hid (p ≤ 30 * (limbs q.den).length) := Lib.hid (by rw [← H1.out.2.2, ← HT.out]; omega)
  have HY : Hid (t = 1 → Least q.den p) := Lib.hid (fun ht => by
    rw [HP.out]
    refine least_of ?_
    have := H3.out.2.2.1
    rw [ht, Nat.mul_one] at this
    rw [← this]; exact HH.out.1)
  have HN : Hid (t ≠ 1 → ∀ j, ¬ q.den ∣ 10 ^ j) := Lib.hid (fun ht => by
    have h1 := H3.out.2.2.1
    have h2 := HH.out
    rw [h1] at h2
    exact none_of h2.1 h2.2 H3.out.2.2.2.1 ht)
  clear HH HP HT
  by_cases h1 : k = 1
  · subst h1
    obtain ⟨ad, rfl, hc⟩ := H3.out.1.cell 0 (by omega)
    rw [show ((0 : Nat) : Int) = 0 from rfl, limbs_is_one H3.out.2.2.2.2.symm, addr_add_zero] at hc
    by_cases ht : t = 1
    · subst ht
      go_wp2_with fail
      go_region
      all_goals
        go_wp2_with fail
        go_ret2
        exact ⟨HF.out _ HD.out, p, HB.out, .inl ⟨HY.out (by trivial), rfl⟩⟩
    · have ht' : ((t : Int) == 1) = false := beq_eq_false_iff_ne.2 (by omega)
      have HT := Lib.hid ht
      clear ht
      go_wp2_with fail
      go_region
      all_goals
        go_wp2_with fail
        go_ret2
        exact ⟨HF.out _ HD.out, p, HB.out, .inr ⟨HN.out HT.out, rfl⟩⟩
  · have hk1 : ((k : Int) == 1) = false := beq_eq_false_iff_ne.2 (by omega)
    have HT : Hid (t ≠ 1) := Lib.hid (fun ht => h1 (by rw [H3.out.2.2.2.2, ht, Sizes.limbs_one]))
    clear h1
    go_wp2_with fail
    go_region
    all_goals
      go_wp2_with fail
      go_ret2
      exact ⟨HF.out _ HD.out, p, HB.out, .inr ⟨HN.out HT.out, rfl⟩⟩
end Go.Proofs.YtjeamchaibialaaGreatDoor.PrecWalk

/- big's FloatString: the walk. -/
namespace Go.Proofs.YtjeamchaibialaaGreatDoor.FloatWalk
open Go.RowKit Go.Proofs.YtjeamchaibialaaGreatDoorW.PrintWords Go.Proofs.YtjeamchaibialaaGreatDoorW.PrintLast Go.Proofs.YtjeamchaibialaaGreatDoorW.PrintMore Fns Limbs Pure1 Nats Go.Proofs.YtjeamchaibialaaGreatDoor.Told ReadWalk Texts Rats Parses Heaps Go.Proofs.YtjeamchaibialaaGreatDoor.Ints Go.Proofs.YtjeamchaibialaaGreatDoor.RatTell Go.Proofs.YtjeamchaibialaaGreatDoor.Decis Go.Proofs.YtjeamchaibialaaGreatDoor.Ops

def Held (w : World) (g : Nat) (q : Rat) (v : Value) (W : World) : Prop := W.cell? ⟨g, 1, none⟩ = some v ∧ RatAt W g q ∧ IsU W v q.num.natAbs ∧ Below w.heap.size w W
theorem Held.below {w : World} {g : Nat} {q : Rat} {v : Value} {W W' : World} (h : W.cell? ⟨g, 1, none⟩ = some v ∧ RatAt W g q ∧ IsU W v q.num.natAbs ∧ Below w.heap.size w W) (hb : Below W.heap.size W W') : W'.cell? ⟨g, 1, none⟩ = some v ∧ RatAt W' g q ∧ IsU W' v q.num.natAbs ∧ Below w.heap.size w W' :=
  ⟨cell_below h.1 hb, h.2.1.below hb, isU_below h.2.2.1 hb, below_step h.2.2.2 hb⟩
theorem Held.u {w : World} {g : Nat} {q : Rat} {v : Value} {W : World} (h : W.cell? ⟨g, 1, none⟩ = some v ∧ RatAt W g q ∧ IsU W v q.num.natAbs ∧ Below w.heap.size w W) : IsU W v q.num.natAbs := h.2.2.1
theorem Held.r {w : World} {g : Nat} {q : Rat} {v : Value} {W : World} (h : W.cell? ⟨g, 1, none⟩ = some v ∧ RatAt W g q ∧ IsU W v q.num.natAbs ∧ Below w.heap.size w W) : RatAt W g q ∧ Below w.heap.size w W := ⟨h.2.1, h.2.2.2⟩
theorem str_size (l : List UInt8) : (⟨l.toArray⟩ : ByteArray).size = l.length := by
  show l.toArray.size = _
  rw [List.size_toArray]

set_option maxRecDepth 100000 in
set_option maxHeartbeats 1000000 in
theorem calls (q : Rat) (hz : Sizes.Sz q 1000000) (k : Nat) (hk1 : 1 ≤ k) (hk : k ≤ 100000000) (g : Nat) (w : World) (h : RatAt w g q) :
    Calls Tryz.prog 45 #[.pointer (some ⟨g, 0, none⟩), .int .i64 k] w fun e W => e = .returned (.string ⟨(dtxt q k).toArray⟩) ∧ Below w.heap.size w W := by
  have hh := h
  obtain ⟨A, B, c, d, hB, hn, hd⟩ := hh
  obtain ⟨v, hv⟩ : ∃ v, v = Value.slice A (limbs q.num.natAbs).length c := ⟨_, rfl⟩
  have hS : w.cell? ⟨g, 1, none⟩ = some v ∧ RatAt w g q ∧ IsU w v q.num.natAbs ∧ Below w.heap.size w w := ⟨by rw [hv]; exact hB.cell 1, h, by rw [hv]; exact hn, Below.refl _ _⟩
  have m0 : (limbs (10 ^ k)).length ≤ 20000000 := Nat.le_trans (lt_ten_limbs (Nat.pow_lt_pow_right (by omega) (show k < k + 1 by omega))) (by omega)
  have m1 := limbs_len_mul q.num.natAbs (10 ^ k)
  have m2 : (limbs (q.num.natAbs * 10 ^ k)).length ≤ 30000000 := by have := hz.1; omega
  have m3 : (limbs q.den).length ≤ 30000000 := by have := hz.2; omega
  have m4 : (limbs q.num.natAbs).length ≤ 30000000 := by have := hz.1; omega
  clear hB hn hd hv m1 hz h
  go_enter Tryz.func45, Tryz.ntmps45
  go_upto_region 1 with fail
  go_cut [5] (fun v5 wx => ∃ v', v5 = v' ∧ Hid (IsU wx v' (q.num.natAbs * 10 ^ k / q.den) ∧ RatAt wx g q ∧ Below w.heap.size w wx))
  case first =>
    go_region_held3 (fun W => W.cell? ⟨g, 1, none⟩ = some v ∧ RatAt W g q ∧ IsU W v q.num.natAbs ∧ Below w.heap.size w W)
      (first | exact Held.below hS (Drawn0.below ⟨1, rfl⟩) | exact Held.below (by assumption) (by assumption))
      (first
        | (go_at_call 91; (with_reducible refine (TenWalk.calls k (by omega) _).mono ?_); rintro e w' ⟨u, rfl, hu, hb⟩)
        | (go_at_call 67; (with_reducible refine (RatTell.low_calls q g _ (And.left (And.right (by assumption)))).mono ?_); rintro e w' ⟨u, rfl, hu, hb⟩)
        | (go_at_call 66; (with_reducible refine (times_calls q.num.natAbs (10 ^ k) (by omega) (by omega) v _ _ (Held.u (by assumption)) ?_).mono ?_); (first | assumption | exact isU_below (by assumption) (by assumption) | exact isU_below (isU_below (by assumption) (by assumption)) (by assumption)); rintro e w' ⟨u, rfl, hu, hb⟩)
        | (go_at_call 92; (with_reducible refine (OverWalk.calls (q.num.natAbs * 10 ^ k) q.den q.den_nz (by omega) (by omega) _ _ _ (Lib.hid ?_) (Lib.hid ?_)).mono ?_); (first | assumption | exact isU_below (by assumption) (by assumption) | exact isU_below (isU_below (by assumption) (by assumption)) (by assumption)); (first | assumption | exact isU_below (by assumption) (by assumption) | exact isU_below (isU_below (by assumption) (by assumption)) (by assumption)); rintro e w' ⟨u, u2, rfl, hu, _, hb⟩))
    all_goals
      go_wp2_with fail
      go_meet
      case rel => exact ⟨u, rfl, Lib.hid ⟨hu, Held.r (by assumption)⟩⟩
  case rest =>
    obtain ⟨v', rfl, HC⟩ := hcut
    obtain ⟨N, hN⟩ : ∃ N, N = q.num.natAbs * 10 ^ k / q.den := ⟨_, rfl⟩
    rw [← hN] at HC
    have hNl : (limbs N).length ≤ 30000000 := by rw [hN]; exact Nat.le_trans (limbs_len_mono (Nat.div_le_self _ _)) m2
    have HN := Lib.hid hN
    clear hS m0 m2 m3 m4 hN
    go_wp2_with fail
    refine (DigitsWalk.calls N (by omega) _ _ (Lib.hid HC.out.1)).mono ?_
    rintro e w2 ⟨rfl, hb⟩
    have H2 := Lib.hid (And.intro (HC.out.2.1.below hb) (below_step HC.out.2.2 hb))
    clear hb HC
    obtain ⟨t, ht⟩ : ∃ t : ByteArray, t = ⟨(txt N).toArray⟩ := ⟨_, rfl⟩
    rw [← ht]
    have hts : t.size ≤ 300000000 := by rw [ht, str_size]; have := Sizes.txt_len N; omega
    have HT : Hid (t.data.toList = txt N) := Lib.hid (by rw [ht])
    clear ht hNl
    go_upto_if 26 with fail
    go_cut [7] (fun v7 wx => ∃ u : ByteArray, v7 = .string u ∧ Hid (u.data.toList = pad k (txt N)) ∧ u.size ≤ 400000000 ∧ k + 1 ≤ u.size ∧ Hid (RatAt wx g q ∧ Below w.heap.size w wx))
    case first =>
      by_cases hle : t.size ≤ k
      · obtain ⟨r, hr⟩ : ∃ r : Nat, r = k + 1 - t.size := ⟨_, rfl⟩
        have s1 : IntKind.i64.wrap ((k : Int) + 1) = (k : Int) + 1 := IntWalk.i64_in _ (by omega)
        have s2 : (k : Int) + 1 - (t.size : Int) = (r : Int) := by omega
        have hr1 : 1 ≤ r := by omega
        have hr2 : r ≤ 100000001 := by omega
        have HR : Hid (r + t.size = k + 1) := Lib.hid (by omega)
        clear hr
        go_wp2_with fail
        refine (Trims.repeat_zeros r hr1 (by omega) _).mono ?_
        rintro e w3 ⟨rfl, hb⟩
        have H3 := Lib.hid (And.intro (H2.out.1.below hb) (below_step H2.out.2 hb))
        clear hb H2
        obtain ⟨z, hz⟩ : ∃ z : ByteArray, z = ⟨(List.replicate r (48 : UInt8)).toArray⟩ := ⟨_, rfl⟩
        rw [← hz]
        have hzs : z.size = r := by rw [hz, str_size, List.length_replicate]
        have HZ : Hid (z.data.toList = List.replicate r 48) := Lib.hid (by rw [hz])
        have hzt : (z ++ t).size ≤ 400000000 := by rw [ByteArray.size_append]; omega
        have HZT : Hid (k + 1 ≤ (z ++ t).size) := Lib.hid (by rw [ByteArray.size_append, hzs, HR.out]; exact Nat.le_refl _)
        have hz9 : z.size ≤ 100000001 := by omega
        clear hz hzs
        go_wp2_with fail
        go_meet
        case rel =>
          refine ⟨_, rfl, Lib.hid ?_, hzt, HZT.out, H3⟩
          rw [ByteArray.data_append, Array.toList_append, HZ.out, HT.out]
          unfold pad
          rw [show k + 1 - (txt N).length = r from by rw [← HT.out, ← Lib.size_eq, ← HR.out]; omega]
      · have hgt : k < t.size := by omega
        go_wp2_with fail
        go_meet
        case rel =>
          refine ⟨t, rfl, Lib.hid ?_, by omega, by omega, H2⟩
          rw [HT.out]
          unfold pad
          rw [show k + 1 - (txt N).length = 0 from by rw [← HT.out, ← Lib.size_eq]; omega]
          rfl
    case rest =>
      obtain ⟨u, rfl, HU, hu1, hu2, HC⟩ := hcut
      have hk0 : decide ((0 : Int) < (k : Int)) = true := decide_eq_true (by omega)
      have b1 : (k : Int) ≤ (u.size : Int) := by omega
      have b2 : (0 : Int) ≤ (u.size : Int) - (k : Int) := by omega
      have b3 : (u.size : Int) - (k : Int) ≤ (u.size : Int) := by omega
      have t2 : ((u.size : Int) - (k : Int)).toNat = u.size - k := by omega
      have w2 : IntKind.i64.wrap ((u.size : Int) - (k : Int)) = (u.size : Int) - (k : Int) := IntWalk.i64_in _ (by omega)
      have hc0 : ∃ b, wc.cell? ⟨g, 0, none⟩ = some (.bool b) ∧ b = decide (q.num < 0) := by
        obtain ⟨A, B, c, d, hB, _, _⟩ := HC.out.1
        exact ⟨_, hB.cell 0, rfl⟩
      obtain ⟨b, hb, hbq⟩ := hc0
      have HBQ := Lib.hid hbq
      have hd : (wc.drew).cell? ⟨g, 0, none⟩ = some (.bool b) := hb
      have HD := Lib.hid (below_step HC.out.2 (Drawn0.below (w := wc) (w' := wc.drew) ⟨1, rfl⟩))
      clear hbq
      go_wp2_with fail
      go_region
      all_goals
        obtain ⟨Z, hZ⟩ : ∃ Z : ByteArray, Z = u.extract 0 (u.size - k) ++ ⟨#[46]⟩ ++ u.extract (u.size - k) u.size := ⟨_, rfl⟩
        simp only [← hZ]
        have hZl : Z.data.toList = point k (pad k (txt N)) := by
          rw [hZ, ByteArray.data_append, ByteArray.data_append, Array.toList_append, Array.toList_append, ByteArray.data_extract, ByteArray.data_extract, Array.toList_extract, Array.toList_extract, List.extract_eq_take_drop, List.extract_eq_take_drop, Lib.size_eq, HU.out]
          unfold point
          rw [Nat.sub_zero, List.drop_zero, List.append_assoc, List.take_of_length_le (l := List.drop _ _) (by rw [List.length_drop]; exact Nat.le_refl _)]
          rfl
        have hZs : Z.size ≤ 400000001 := by
          rw [Lib.size_eq, hZl, point_len, ← HU.out, ← Lib.size_eq]; omega
        have HZ := Lib.hid hZl
        clear hZ hZl b1 b2 b3 t2 w2 hb hk0
        cases b
        · have hq := Lib.hid (of_decide_eq_false HBQ.out.symm)
          go_wp2_with fail
          go_ret
          refine ⟨?_, HD.out⟩
          have e : dtxt q k = Z.data.toList := by
            unfold dtxt
            rw [if_neg (by have := hq.out; omega), HZ.out, ← HN.out]; rfl
          rw [e]; rfl
        · have hq := Lib.hid (of_decide_eq_true HBQ.out.symm)
          go_wp2_with fail
          go_ret
          refine ⟨?_, HD.out⟩
          have e : dtxt q k = [45] ++ Z.data.toList := by
            unfold dtxt
            rw [if_pos hq.out, HZ.out, ← HN.out]
          rw [e, ← str_app]; rfl
end Go.Proofs.YtjeamchaibialaaGreatDoor.FloatWalk

/- num's Decimal: the walk. -/
namespace Go.Proofs.YtjeamchaibialaaGreatDoor.DecimalWalk
open Go.RowKit Go.Proofs.YtjeamchaibialaaGreatDoorW.PrintWords Go.Proofs.YtjeamchaibialaaGreatDoorW.PrintLast Go.Proofs.YtjeamchaibialaaGreatDoorW.PrintMore Fns Limbs Pure1 Nats Go.Proofs.YtjeamchaibialaaGreatDoor.Told ReadWalk Texts Rats Parses Heaps Go.Proofs.YtjeamchaibialaaGreatDoor.Ints Go.Proofs.YtjeamchaibialaaGreatDoor.Splits Go.Proofs.YtjeamchaibialaaGreatDoor.Decis

def OutDc (l : List UInt8) (w : World) (e : Ending) (W : World) : Prop :=
  Below w.heap.size w W ∧ ((∃ q p, l = rtxt q ∧ Least q.den p ∧ p ≤ 30000000 ∧ e = .returned (.tuple #[.string ⟨(dtxt q (max p 1)).toArray⟩, .int .i64 0])) ∨
    ((∃ q, l = rtxt q ∧ ∀ j, ¬ q.den ∣ 10 ^ j) ∧ e = .returned (.tuple #[.string ⟨#[]⟩, .int .i64 1])) ∨ ((∀ q, l ≠ rtxt q) ∧ e = .returned (.tuple #[.string ⟨#[]⟩, .int .i64 1])))
set_option maxRecDepth 100000 in
set_option maxHeartbeats 400000 in
theorem calls (s : ByteArray) (hs : s.size ≤ 100000000) (hz : ∀ q, s.data.toList = rtxt q → Sizes.Sz q 1000000) (w : World) (hok : Ok w) :
    Calls Tryz.prog 12 #[.string s] w (OutDc s.data.toList w) := by
  go_enter Tryz.func12, Tryz.ntmps12
  go_wp2_with fail
  refine (ParseWalk.calls s hs _ hok).mono ?_
  rintro e w2 ⟨⟨q, g, h1, rfl, h2, h3⟩ | ⟨h1, rfl⟩, hb⟩
  · have H := Lib.hid (And.intro h1 (And.intro h2 (And.intro (hz q h1) hb)))
    clear h1 h2 h3 hz hb
    go_wp2_with fail
    refine (PrecWalk.calls q (by have := H.out.2.2.1.2; omega) g _ H.out.2.1).mono ?_
    rintro e w3 ⟨hb, p, hp, ⟨hl, rfl⟩ | ⟨hl, rfl⟩⟩
    · have hp9 : p ≤ 30000000 := by have := H.out.2.2.1.2; omega
      obtain ⟨k, hk⟩ : ∃ k, k = max p 1 := ⟨_, rfl⟩
      have hk1 : 1 ≤ k := by omega
      have hk9 : k ≤ 100000000 := by omega
      have hmx : max (p : Int) 1 = (k : Int) := by omega
      have H3 := Lib.hid (And.intro (H.out.2.1.below hb) (And.intro (below_step H.out.2.2.2 hb) (And.intro hl hk)))
      clear hb hl hk hp
      go_wp2_with fail
      refine (FloatWalk.calls q H.out.2.2.1 k hk1 hk9 g _ H3.out.1).mono ?_
      rintro e w4 ⟨rfl, hb⟩
      have HB := Lib.hid (below_step H3.out.2.1 hb)
      clear hb
      go_wp2_with fail
      go_ret2
      exact ⟨HB.out, .inl ⟨q, p, H.out.1, H3.out.2.2.1, hp9, by rw [← H3.out.2.2.2]; rfl⟩⟩
    · have HB := Lib.hid (And.intro (below_step H.out.2.2.2 hb) hl)
      clear hb hl hp
      go_wp2_with fail
      go_ret2
      exact ⟨HB.out.1, .inr (.inl ⟨⟨q, H.out.1, HB.out.2⟩, rfl⟩)⟩
  · have H := Lib.hid (And.intro h1 hb)
    clear h1 hz hb
    go_wp2_with fail
    go_ret2
    exact ⟨H.out.2, .inr (.inr ⟨H.out.1, rfl⟩)⟩
end Go.Proofs.YtjeamchaibialaaGreatDoor.DecimalWalk
