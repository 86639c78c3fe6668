/- Joined: Calls Longs Long Over Common Ten -/
import Derived.Test.YtjeamchaibialaaGreatDoorM1
import Derived.Deep.RegionLaw
import Derived.Deep.RegionWith
set_option linter.unusedVariables false
set_option linter.unusedSimpArgs false
/- What the kit's print has told of big's small functions, as contracts about whole numbers. -/
namespace Go.Proofs.YtjeamchaibialaaGreatDoor.Told
open Go.RowKit Go.Proofs.YtjeamchaibialaaGreatDoorW.PrintWords Go.Proofs.YtjeamchaibialaaGreatDoorW.PrintLast Go.Proofs.YtjeamchaibialaaGreatDoorW.PrintMore Fns Limbs Pure1 Go.Proofs.YtjeamchaibialaaGreatDoor.Pure2 Pure3 Nats Arrs

theorem _root_.Go.Proofs.YtjeamchaibialaaGreatDoor.Nats.NatV.blocks {k : IntKind} {w w' : World} {v : Value} {l : List Int} (h : NatV k w v l) (hb : ∀ i, i < w.heap.size → w'.heap[i]? = w.heap[i]?) : NatV k w' v l := by
  obtain ⟨A, c, h1, h2, h3, h4, h5⟩ := h
  refine ⟨A, c, h1, h2, h3, h4, fun hp => ?_⟩
  obtain ⟨ad, e, hc⟩ := h5 hp
  refine ⟨ad, e, fun j hj => ?_⟩
  have hj' := hc j hj
  exact (World.cell?_of_block (hb _ (World.block_lt_of_cell? w _ hj'))).trans hj'
theorem _root_.Go.Proofs.YtjeamchaibialaaGreatDoor.Nats.NatV.other {k : IntKind} {w w' : World} {A : Option Addr} {n c g : Nat} {l : List Int} (h : NatV k w (.slice A n c) l) (hg : ∀ ad, A = some ad → ad.block ≠ g) (hb : w.grownBy w' (some g)) : NatV k w' (.slice A n c) l := by
  obtain ⟨A', c', h1, h2, h3, h4, h5⟩ := h
  injection h1 with e1 e2 e3
  subst e1
  refine ⟨A, c', by rw [e2, e3], h2, h3, h4, fun hp => ?_⟩
  obtain ⟨ad, e, hc⟩ := h5 hp
  refine ⟨ad, e, fun j hj => ?_⟩
  have hj' := hc j hj
  refine (World.cell?_of_block (hb.block _ (World.block_lt_of_cell? w _ hj') ?_)).trans hj'
  intro e2
  have e3 : (ad.add j).block = g := Option.some.inj e2
  have e4 : (ad.add j).block = ad.block := by unfold Addr.add; split <;> rfl
  exact hg ad e (e4.symm.trans e3)
theorem _root_.Go.Proofs.YtjeamchaibialaaGreatDoor.Nats.NatV.toV {k : IntKind} {w : World} {v : Value} {l : List Int} (h : NatV k w v l) (t base : Nat) : Kd.V (Kd.int k) t w base (fun _ => True) v l := by
  obtain ⟨A, c, rfl, hc⟩ := h.form
  refine ⟨A, c, rfl, hc, fun W' hW => ?_⟩
  obtain ⟨A', c', e, _, hC⟩ := (h.blocks (fun i hi => hW i trivial hi)).toC
  injection e with e1 e2 e3
  subst e1
  exact hC
theorem _root_.Go.Proofs.YtjeamchaibialaaGreatDoor.Nats.NatV.ofV {k : IntKind} {w : World} {v : Value} {l : List Int} {t base : Nat} {ok : Nat → Prop} (h : Kd.V (Kd.int k) t w base ok v l) : NatV k w v l := by
  obtain ⟨A, c, rfl, hc, hf⟩ := h
  exact NatV.ofC (Kd.F_now hf) hc

theorem isU_box (w : World) (n : Nat) (h0 : 0 < n) (h1 : n < 1000000000) : IsU (w.alloc (.cells #[.int .u32 n] 106)) (.slice (some ⟨w.heap.size, 0, none⟩) 1 1) n := by
  unfold IsU
  rw [limbs_unit h0 h1]
  refine ⟨_, 1, rfl, Nat.le_refl _, rfl, by simp, fun _ => ⟨_, rfl, fun j hj => ?_⟩⟩
  have : j = 0 := by simp at hj; omega
  subst this
  unfold World.cell? World.alloc Addr.add
  simp [List.getD]
theorem isU_nil (w : World) (c : Nat) (A : Option Addr) : IsU w (.slice A 0 c) 0 := by
  unfold IsU
  rw [limbs_zero]
  exact NatV.nil _ _ _ _

theorem one_calls (w : World) : Calls Tryz.prog 106 #[] w fun e w' => ∃ v, e = .returned v ∧ IsU w' v 1 ∧ Below w.heap.size w w' := by
  refine (big_one.calls [1] w (by rfl)).mono ?_
  rintro e w' ⟨v, he, hR, hb⟩
  refine ⟨v, he, ?_, hb⟩
  unfold IsU
  rw [limbs_unit (by omega) (by omega)]
  exact NatV.ofR hR
theorem small_calls (a : Nat) (v : Value) (w : World) (h : IsU w v a) :
    Calls Tryz.prog 105 #[v] w fun e w' => e = .returned (.tuple #[.int .u64 (if (limbs a).length ≤ 2 then (a : Int) else 0), .bool (decide ((limbs a).length ≤ 2))]) ∧ Drawn0 w w' := by
  obtain ⟨A, c, rfl, hc, hC⟩ := h.toC
  refine big_nat_small.calls A c (limbs a) _ _ w hC hc ?_
  by_cases h2 : (limbs a).length ≤ 2
  · rw [if_pos h2, decide_eq_true h2]; exact small_some a h2
  · rw [if_neg h2, decide_eq_false h2]; exact small_none _ (by omega)
theorem natOf_calls (n : Nat) (hn : n < 18446744073709551616) (w : World) :
    Calls Tryz.prog 107 #[.int .u64 n] w fun e w' => ∃ v, e = .returned v ∧ IsU w' v n ∧ Below w.heap.size w w' := by
  obtain ⟨k, hk⟩ := (natOf_ev n hn).rounds
  refine (big_natOf.calls k n _ w hk).mono ?_
  rintro e w' ⟨v, he, hR, hb⟩
  exact ⟨v, he, NatV.ofR hR, hb⟩
theorem cmp_calls (a b : Nat) (ha : (limbs a).length ≤ 1000000000000000) (hb : (limbs b).length ≤ 1000000000000000) (va vb : Value) (w : World) (hA : IsU w va a) (hB : IsU w vb b) :
    Calls Tryz.prog 68 #[va, vb] w fun e w' => e = .returned (.int .i64 (sgn a b)) ∧ Drawn0 w w' := by
  obtain ⟨A, c, rfl, hc, hC⟩ := hA.toC
  obtain ⟨B, d, rfl, hd, hD⟩ := hB.toC
  obtain ⟨k, hk⟩ := (cmp_ev a b ha hb).rounds
  exact big_nat_cmp.calls k A c _ B d _ _ w hC hc hD hd hk
theorem times_calls (a b : Nat) (ha : (limbs a).length ≤ 30000000000) (hb : (limbs b).length ≤ 30000000000) (va vb : Value) (w : World) (hA : IsU w va a) (hB : IsU w vb b) :
    Calls Tryz.prog 66 #[va, vb] w fun e w' => ∃ v, e = .returned v ∧ IsU w' v (a * b) ∧ Below w.heap.size w w' := by
  obtain ⟨A, c, rfl, hc, hC⟩ := hA.toC
  obtain ⟨B, d, rfl, hd, hD⟩ := hB.toC
  obtain ⟨k, hk⟩ := (times_ev a b ha hb).rounds
  refine (big_nat_times.calls k A c _ B d _ _ w hC hc hD hd hk).mono ?_
  rintro e w' ⟨v, he, hR, hb⟩
  exact ⟨v, he, NatV.ofR hR, hb⟩
theorem times_own (a b : Nat) (ha : (limbs a).length ≤ 30000000000) (hb : (limbs b).length ≤ 30000000000) (va vb : Value) (w : World) (hA : IsU w va a) (hB : IsU w vb b) :
    Calls Tryz.prog 66 #[va, vb] w fun e w' => ∃ v, e = .returned v ∧ Kd.R (Kd.int .u32) 106 w' w.heap.size (fun _ => True) v (limbs (a * b)) ∧ Below w.heap.size w w' := by
  obtain ⟨A, c, rfl, hc, hC⟩ := hA.toC
  obtain ⟨B, d, rfl, hd, hD⟩ := hB.toC
  obtain ⟨k, hk⟩ := (times_ev a b ha hb).rounds
  exact big_nat_times.calls k A c _ B d _ _ w hC hc hD hd hk
theorem fresh_of_R {k : IntKind} {t base : Nat} {w : World} {ok : Nat → Prop} {v : Value} {l : List Int} (h : Kd.R (Kd.int k) t w base ok v l) (ad : Addr) (n c : Nat) (e : v = .slice (some ad) n c) : base ≤ ad.block := by
  have := own_base (Kd.own_of_R (enc := Value.int k) (h1 := fun _ => rfl) h) ad.block (by rw [e]; rfl)
  exact this
theorem arr_of_R {k : IntKind} {t base : Nat} {w : World} {ok : Nat → Prop} {v : Value} {l : List Int} (h : Kd.R (Kd.int k) t w base ok v l) (hp : 0 < l.length) : ∃ g c, v = .slice (some ⟨g, 0, none⟩) l.length c ∧ base ≤ g ∧ l.length ≤ c ∧ Arr k t w g l := by
  have ho := Kd.own_of_R (enc := Value.int k) (h1 := fun _ => rfl) h
  obtain ⟨_, ⟨rfl, hz⟩ | ⟨g, cap, cur, rfl, hg, hh, hc, _, hs, ht⟩⟩ := ho
  · omega
  · refine ⟨g, cap, rfl, hg, hc, cur.toList.drop l.length, ?_⟩
    rw [hh]
    have e : cur = (l.map (Value.int k) ++ cur.toList.drop l.length).toArray := by
      rw [Nat.mul_one] at ht
      have e1 : l.map (Value.int k) = cur.toList.take l.length := by rw [ht]; rfl
      rw [e1, List.take_append_drop]
    rw [← e]
theorem limbed_calls (a d : Nat) (hd0 : 0 < d) (hd1 : d < 1000000001) (ha : (limbs a).length ≤ 30000000000) (va : Value) (w : World) (hA : IsU w va a) :
    Calls Tryz.prog 122 #[va, .int .u32 d] w fun e w' => ∃ v, e = .returned (.tuple #[v, .int .u32 ((a % d : Nat) : Int)]) ∧ IsU w' v (a / d) ∧ Below w.heap.size w w' := by
  obtain ⟨A, c, rfl, hc, hC⟩ := hA.toC
  obtain ⟨k, hk⟩ := (limbed_ev a d hd0 hd1 ha).rounds
  refine (big_nat_limbed.calls k A c _ d _ _ w hC hc hk).mono ?_
  rintro e w' ⟨v, he, hR, hb⟩
  exact ⟨v, he, NatV.ofR hR, hb⟩
theorem exponent_calls (n : Nat) (h0 : n ≠ 0) (hn : (limbs n).length ≤ 10000000000000) (v : Value) (w : World) (h : IsU w v n) :
    Calls Tryz.prog 163 #[v] w fun e w' => ∃ r : Int × Bool, e = .returned (.tuple #[.int .i64 r.1, .bool r.2]) ∧ (r.2 = true → ∃ e : Nat, r.1 = (e : Int) ∧ n = 10 ^ e) ∧ Drawn0 w w' := by
  obtain ⟨A, c, rfl, hc, hC⟩ := h.toC
  obtain ⟨r, hr, hs⟩ := exponent_ev n h0 hn
  obtain ⟨k, hk⟩ := hr.rounds
  refine (big_nat_exponent.calls k A c _ r.1 r.2 w hC hc hk).mono ?_
  rintro e w' ⟨he, hd⟩
  exact ⟨r, he, hs, hd⟩
theorem strip_calls (a d most : Nat) (hd0 : 1 < d) (hd1 : d < 1000000000) (hm : most ≤ 1000000000000000) (ha : a ≠ 0) (hl : (limbs a).length ≤ 30000000000) (v : Value) (w : World) (h : IsU w v a) :
    Calls Tryz.prog 90 #[v, .int .u32 d, .int .i64 most] w fun x w' => ∃ (e q : Nat) (v' : Value), x = .returned (.tuple #[.int .i64 e, v']) ∧ a = d ^ e * q ∧ e ≤ most ∧ (e = most ∨ ¬ d ∣ q) ∧ IsU w' v' q ∧ Below w.heap.size w w' := by
  obtain ⟨A, c, rfl, hc⟩ := h.form
  obtain ⟨e, q, h1, h2, h3, h4⟩ := strip_ev a d most hd0 hd1 hm ha hl
  obtain ⟨k, hk⟩ := h1.rounds
  refine (big_nat_strip.calls k (fun _ => True) A c _ d most _ _ w (h.toV _ _) hk).mono ?_
  rintro x w' ⟨v', he, hV, hb⟩
  exact ⟨e, q, v', he, h2, h3, h4, NatV.ofV hV, hb⟩
theorem power_calls (d k : Nat) (hd0 : 0 < d) (hd1 : d < 1000000000) (hk : k ≤ 1000000000) (w : World) :
    Calls Tryz.prog 164 #[.int .u32 d, .int .i64 k] w fun e w' => ∃ v, e = .returned v ∧ IsU w' v (d ^ k) ∧ Below w.heap.size w w' := by
  obtain ⟨n, hn⟩ := (power_ev d k hd0 hd1 hk).rounds
  refine (big_power.calls n d k _ w hn).mono ?_
  rintro e w' ⟨v, he, hR, hb⟩
  exact ⟨v, he, NatV.ofR hR, hb⟩

end Go.Proofs.YtjeamchaibialaaGreatDoor.Told

/- Long division: what a round does to the numbers. -/
namespace Go.Proofs.YtjeamchaibialaaGreatDoor.Longs
open Go.RowKit Go.Proofs.YtjeamchaibialaaGreatDoorW.PrintWords Limbs

theorem half {v q B : Int} (hv : 1 ≤ v) (hq : 1 ≤ q) (h : B < (v + 1) * (q + 1)) : B ≤ 2 * (v * q) + 1 := by
  have h1 : 0 ≤ (v - 1) * (q - 1) := Int.mul_nonneg (by omega) (by omega)
  have e1 : (v - 1) * (q - 1) = v * q - v - q + 1 := by grind
  have e2 : (v + 1) * (q + 1) = v * q + v + q + 1 := by grind
  rw [e1] at h1
  rw [e2] at h
  generalize v * q = t at *
  omega
theorem high_zero {l : List Int} (hl : Lim l) {n : Nat} (h : val l < pw n) : ∀ p : Nat, n ≤ p → rd l p = 0 := by
  intro p hp
  by_cases hpl : p < l.length
  · have s := val_split l p (by omega)
    have s2 := val_drop l p hpl
    have r1 := (val_range (lim_take hl p)).1
    have r2 := (val_range (lim_drop hl (p + 1))).1
    have r3 := lim_rd hl p
    have hm := pw_mono hp
    have hpp := pw_pos p
    by_cases hz : rd l p = 0
    · exact hz
    · exfalso
      have h5 : 1 ≤ val (l.drop p) := by omega
      have h6 : pw p * 1 ≤ pw p * val (l.drop p) := Int.mul_le_mul_of_nonneg_left h5 (by omega)
      generalize pw p * val (l.drop p) = t at *
      omega
  · simp [rd, List.getD, hpl]
theorem all_zero : ∀ {l : List Int}, (∀ p : Nat, rd l p = 0) → val l = 0
  | [], _ => rfl
  | x :: l, h => by
    have h0 := h 0
    have h1 : val l = 0 := all_zero (fun p => by have := h (p + 1); simpa [rd] using this)
    have h2 : x = 0 := by simpa [rd] using h0
    rw [val_cons, h1, h2]; rfl
theorem high_lt {l : List Int} (hl : Lim l) {n : Nat} (h : ∀ p : Nat, n ≤ p → rd l p = 0) : val l < pw n := by
  by_cases hn : n ≤ l.length
  · have s := val_split l n hn
    have z : val (l.drop n) = 0 := all_zero (fun p => by rw [rd_drop]; exact h _ (by omega))
    have r := (val_range (lim_take hl n)).2
    rw [List.length_take, Nat.min_eq_left hn] at r
    rw [z, Int.mul_zero] at s
    omega
  · have r := (val_range hl).2
    exact Int.lt_of_lt_of_le r (pw_mono (by omega))
theorem take_high {l : List Int} {n : Nat} (h : ∀ p : Nat, n ≤ p → rd l p = 0) : val (l.take n) = val l := by
  by_cases hn : n ≤ l.length
  · have s := val_split l n hn
    have z : val (l.drop n) = 0 := all_zero (fun p => by rw [rd_drop]; exact h _ (by omega))
    rw [z, Int.mul_zero] at s
    omega
  · rw [List.take_of_length_le (by omega)]
theorem low_same {L M : List Int} {j : Nat} (hlen : M.length = L.length) (hs : ∀ p : Nat, p < j → rd M p = rd L p) : M.take j = L.take j := by
  apply List.ext_getElem
  · rw [List.length_take, List.length_take, hlen]
  · intro i h1 h2
    rw [List.length_take] at h1
    rw [List.getElem_take, List.getElem_take]
    have := hs i (by omega)
    rw [rd_getElem _ _ (by omega), rd_getElem _ _ (by omega)] at this
    exact this

theorem window {L M : List Int} {j n : Nat} (hm : Lim M) (hlen : M.length = L.length) (hj : j + n < L.length) (hz : ∀ p : Nat, j + n + 1 ≤ p → rd L p = 0) (hs : ∀ p : Nat, p < j ∨ j + n + 1 ≤ p → rd M p = rd L p) {e : Int} (hv : val M = val L + e * pw j) :
    val (M.drop j) = val (L.drop j) + e ∧ 0 ≤ val (M.drop j) ∧ val (M.drop j) < pw (n + 1) ∧ ∀ p : Nat, j + n + 1 ≤ p → rd M p = 0 := by
  have hz' : ∀ p : Nat, j + n + 1 ≤ p → rd M p = 0 := fun p hp => (hs p (.inr hp)).trans (hz p hp)
  have s1 := val_split L j (by omega)
  have s2 := val_split M j (by omega)
  rw [low_same hlen (fun p hp => hs p (.inl hp))] at s2
  have hpp := pw_pos j
  have e0 : pw j * val (M.drop j) = pw j * (val (L.drop j) + e) := by
    have e1 : pw j * (val (L.drop j) + e) = pw j * val (L.drop j) + e * pw j := by grind
    rw [e1]
    generalize pw j * val (M.drop j) = a at *
    generalize pw j * val (L.drop j) = b at *
    generalize e * pw j = c at *
    omega
  have e2 : val (M.drop j) = val (L.drop j) + e := Int.eq_of_mul_eq_mul_left (by omega) e0
  refine ⟨e2, (val_range (lim_drop hm j)).1, high_lt (lim_drop hm j) (fun p hp => by rw [rd_drop]; exact hz' _ (by omega)), hz'⟩

theorem window_lt {L : List Int} {j : Nat} {V : Int} (hl : Lim L) (hj : j ≤ L.length) (h : val L < V * pw (j + 1)) : val (L.drop j) < 1000000000 * V := by
  have s := val_split L j hj
  have r := (val_range (lim_take hl j)).1
  have hpp := pw_pos j
  rw [pw_succ] at h
  have h1 : pw j * val (L.drop j) < pw j * (1000000000 * V) := by
    have e : V * (1000000000 * pw j) = pw j * (1000000000 * V) := by grind
    rw [e] at h
    generalize pw j * val (L.drop j) = a at *
    generalize pw j * (1000000000 * V) = b at *
    omega
  exact Int.lt_of_mul_lt_mul_left h1 (by omega)
theorem window_back {L : List Int} {j : Nat} {V : Int} (hl : Lim L) (hj : j ≤ L.length) (h : val (L.drop j) < V) : val L < V * pw j := by
  have s := val_split L j hj
  have r := (val_range (lim_take hl j)).2
  rw [List.length_take, Nat.min_eq_left hj] at r
  have hpp := pw_pos j
  have h1 : pw j * (val (L.drop j) + 1) ≤ pw j * V := Int.mul_le_mul_of_nonneg_left (by omega) (by omega)
  have e : pw j * (val (L.drop j) + 1) = pw j * val (L.drop j) + pw j := by grind
  rw [e] at h1
  rw [Int.mul_comm V]
  generalize pw j * val (L.drop j) = a at *
  generalize pw j * V = b at *
  omega

structure St (A V : Int) (n m : Nat) (t : Nat) (L Qs : List Int) : Prop where
  lenL : L.length = m + 1
  limL : Lim L
  lenQ : Qs.length = m + 1 - n
  limQ : Lim Qs
  zero : ∀ p : Nat, p < t → rd Qs p = 0
  sum : A = val Qs * V + val L
  below : val L < V * pw t

theorem St.digit {A V : Int} {n m j : Nat} {L Qs : List Int} (S : St A V n m (j + 1) L Qs) (hV : 0 < V) (hVn : V < pw n) (hn : n ≤ m) (hj : j < m + 1 - n) {k : Int} (hk0 : 0 ≤ k) (hk1 : val (L.drop j) < (k + 1) * V) {M : List Int} (hm : Lim M) (hlen : M.length = L.length)
    (hs : ∀ p : Nat, p < j ∨ j + n + 1 ≤ p → rd M p = rd L p) (hv : val M = val L - k * V * pw j) : St A V n m j M (Qs.set j k) ∧ k < 1000000000 := by
  have hx := window_lt S.limL (by have := S.lenL; omega) S.below
  have hx2 : val (L.drop j) < pw (n + 1) := by rw [pw_succ]; omega
  have hz : ∀ p : Nat, j + n + 1 ≤ p → rd L p = 0 := fun p hp => by
    have := high_zero (lim_drop S.limL j) hx2 (p - j) (by omega)
    rw [rd_drop, show j + (p - j) = p from by omega] at this
    exact this
  obtain ⟨w1, w2, w3, w4⟩ := window hm hlen (by have := S.lenL; omega) hz hs (e := -(k * V)) (by rw [hv]; grind)
  have hkV : k * V < 1000000000 * V := by omega
  have hk9 : k < 1000000000 := Int.lt_of_mul_lt_mul_right hkV (by omega)
  refine ⟨⟨hlen.trans S.lenL, hm, by rw [List.length_set]; exact S.lenQ, lim_set S.limQ _ hk0 hk9, fun p hp => by rw [rd_set_ne _ _ _ _ (by omega)]; exact S.zero p (by omega), ?_, window_back hm (by rw [hlen, S.lenL]; omega) ?_⟩, hk9⟩
  · rw [val_set _ _ _ (by rw [S.lenQ]; exact hj), S.zero j (by omega), hv, S.sum]
    grind
  · rw [w1]
    have : (k + 1) * V = k * V + V := by grind
    omega

theorem St.high {A V : Int} {n m j : Nat} {L Qs : List Int} (S : St A V n m (j + 1) L Qs) (hVn : V < pw n) (hn : n ≤ m) (hj : j < m + 1 - n) : val (L.drop j) < 1000000000 * V ∧ (∀ p : Nat, n + 1 ≤ p → rd (L.drop j) p = 0) ∧ (∀ p : Nat, j + n + 1 ≤ p → rd L p = 0) := by
  have hx := window_lt S.limL (by have := S.lenL; omega) S.below
  have hx2 : val (L.drop j) < pw (n + 1) := by rw [pw_succ]; omega
  have h2 := high_zero (lim_drop S.limL j) hx2
  refine ⟨hx, h2, fun p hp => ?_⟩
  have := h2 (p - j) (by omega)
  rw [rd_drop, show j + (p - j) = p from by omega] at this
  exact this
theorem guess_le {X V k : Int} (hV : 0 < V) (hx : X < 1000000000 * V) (h : (k - 1) * V ≤ X) : k ≤ 1000000000 := by
  have : (k - 1) * V < 1000000000 * V := by omega
  have := Int.lt_of_mul_lt_mul_right this (by omega)
  omega
theorem St.back {A V : Int} {n m j : Nat} {L Qs : List Int} (S : St A V n m (j + 1) L Qs) (hV : 0 < V) (hVn : V < pw n) (hn : n ≤ m) (hj : j < m + 1 - n) {k : Int} (hk0 : 0 ≤ k) (hk2 : (k - 1) * V ≤ val (L.drop j)) {M : List Int} (hm : Lim M) (hlen : M.length = L.length)
    (hs : ∀ p : Nat, p < j ∨ j + n + 1 ≤ p → rd M p = rd L p) (hv : val M = val L - k * V * pw j + pw (j + n + 1)) {b : Int} (hb : 0 ≤ b ∧ b ≤ 1) {M' : List Int} (hm' : Lim M') (hlen' : M'.length = M.length)
    (hs' : ∀ p : Nat, p < j ∨ j + n + 1 ≤ p → rd M' p = rd M p) (hv' : val M' = val M + V * pw j - b * pw (j + n + 1)) : St A V n m j M' (Qs.set j (k - 1)) ∧ 1 ≤ k ∧ k - 1 < 1000000000 := by
  obtain ⟨hx, _, hz⟩ := S.high hVn hn hj
  have ep : pw (j + n + 1) = pw (n + 1) * pw j := by rw [show j + n + 1 = (n + 1) + j from by omega, pw_add]
  obtain ⟨w1, w2, w3, w4⟩ := window hm hlen (by have := S.lenL; omega) hz hs (e := pw (n + 1) - k * V) (by rw [hv, ep]; grind)
  obtain ⟨u1, u2, u3, u4⟩ := window hm' hlen' (by have := S.lenL; omega) w4 hs' (e := V - b * pw (n + 1)) (by rw [hv', ep]; grind)
  have hX0 := (val_range (lim_drop S.limL j)).1
  have e1 : (k - 1) * V = k * V - V := by grind
  have hb1 : b = 1 := by
    rcases (show b = 0 ∨ b = 1 by omega) with h | h
    · exfalso
      rw [h] at u1
      rw [e1] at hk2
      omega
    · exact h
  have hkV : val (L.drop j) < k * V := by omega
  have hk1 : 1 ≤ k := by
    rcases Int.lt_or_eq_of_le hk0 with h | h
    · omega
    · exfalso
      rw [← h, Int.zero_mul] at hkV
      omega
  have := S.digit hV hVn hn hj (k := k - 1) (by omega) (by rw [show k - 1 + 1 = k from by omega]; exact hkV) (M := M') hm' (hlen'.trans hlen) (fun p hp => (hs' p hp).trans (hs p hp)) (by rw [hv', hv, hb1, Int.one_mul]; grind)
  exact ⟨this.1, hk1, this.2⟩

theorem St.ge1 {A V : Int} {n m j : Nat} {L Qs : List Int} (S : St A V n m (j + 1) L Qs) (hVn : V < pw n) (hn : n ≤ m) (hj : j < m + 1 - n) {k : Int} (hk0 : 0 ≤ k) {M : List Int} (hm : Lim M) (hlen : M.length = L.length)
    (hs : ∀ p : Nat, p < j ∨ j + n + 1 ≤ p → rd M p = rd L p) (hv : val M = val L - k * V * pw j + pw (j + n + 1)) : 1 ≤ k := by
  obtain ⟨hx, _, hz⟩ := S.high hVn hn hj
  have ep : pw (j + n + 1) = pw (n + 1) * pw j := by rw [show j + n + 1 = (n + 1) + j from by omega, pw_add]
  obtain ⟨w1, w2, w3, w4⟩ := window hm hlen (by have := S.lenL; omega) hz hs (e := pw (n + 1) - k * V) (by rw [hv, ep]; grind)
  have hX0 := (val_range (lim_drop S.limL j)).1
  have hkV : val (L.drop j) < k * V := by omega
  rcases Int.lt_or_eq_of_le hk0 with h | h
  · omega
  · exfalso
    rw [← h, Int.zero_mul] at hkV
    omega

theorem norm {b : Nat} (hb : b ≠ 0) {v : Int} (hv : v = rd (limbs b) (((limbs b).length - 1 : Nat) : Int)) {D : Nat} (hD : (D : Int) = 1000000000 / (v + 1)) :
    1 ≤ v ∧ 1 ≤ D ∧ D ≤ 500000000 ∧ (limbs (b * D)).length = (limbs b).length ∧ 500000000 ≤ rd (limbs (b * D)) (((limbs (b * D)).length - 1 : Nat) : Int) := by
  have hlp := limbs_len_pos hb
  have hl := limbs_lim b
  have ht := limbs_top hb
  have hr := lim_rd hl ((limbs b).length - 1)
  rw [← hv] at ht hr
  have h1 : 1 ≤ v := by omega
  have hD1 : 1 ≤ (D : Int) := by
    rw [hD]
    exact (Int.le_ediv_iff_mul_le (by omega)).2 (by omega)
  have hD2 : (D : Int) ≤ 500000000 := by
    rw [hD]
    have : 1000000000 / (v + 1) < 500000001 := (Int.ediv_lt_iff_lt_mul (by omega)).2 (by omega)
    omega
  have hD3 : (v + 1) * (D : Int) ≤ 1000000000 := by
    rw [hD]; exact Int.mul_ediv_self_le (by omega)
  have hD4 : 1000000000 < (v + 1) * ((D : Int) + 1) := by
    rw [hD]
    have h := Int.lt_mul_ediv_self_add (x := 1000000000) (show 0 < v + 1 by omega)
    rw [Int.mul_add, Int.mul_one]; exact h
  have s := val_take_succ (limbs b) ((limbs b).length - 1) (by omega)
  rw [Nat.sub_add_cancel hlp, List.take_length, val_limbs, ← hv] at s
  have r := val_range (lim_take hl ((limbs b).length - 1))
  rw [List.length_take, Nat.min_eq_left (by omega)] at r
  have hpp := pw_pos ((limbs b).length - 1)
  have hps : pw (limbs b).length = 1000000000 * pw ((limbs b).length - 1) := by
    rw [← pw_succ, Nat.sub_add_cancel hlp]
  have hc : ((b * D : Nat) : Int) = (b : Int) * D := Int.natCast_mul _ _
  have hlt : ((b * D : Nat) : Int) < pw (limbs b).length := by
    rw [hc, hps]
    have q1 : (b : Int) * D < (pw ((limbs b).length - 1) * (v + 1)) * D := Int.mul_lt_mul_of_pos_right (by rw [s]; have : pw ((limbs b).length - 1) * (v + 1) = pw ((limbs b).length - 1) * v + pw ((limbs b).length - 1) := by grind
                                                                                                           omega) (by omega)
    have q2 : (pw ((limbs b).length - 1) * (v + 1)) * D = ((v + 1) * D) * pw ((limbs b).length - 1) := by grind
    have q3 : ((v + 1) * D) * pw ((limbs b).length - 1) ≤ 1000000000 * pw ((limbs b).length - 1) := Int.mul_le_mul_of_nonneg_right hD3 (by omega)
    omega
  have hlen : (limbs (b * D)).length = (limbs b).length := by
    have a1 := limbs_len_le hlt
    have a2 : (limbs b).length ≤ (limbs (b * D)).length := limbs_len_mono (Nat.le_mul_of_pos_right _ (by omega))
    omega
  refine ⟨h1, by omega, by omega, hlen, ?_⟩
  have hbD : b * D ≠ 0 := Nat.mul_ne_zero hb (by omega)
  have s' := val_take_succ (limbs (b * D)) ((limbs (b * D)).length - 1) (by have := limbs_len_pos hbD; omega)
  rw [Nat.sub_add_cancel (limbs_len_pos hbD), List.take_length, val_limbs, hlen] at s'
  have r' := val_range (lim_take (limbs_lim (b * D)) ((limbs b).length - 1))
  rw [List.length_take, Nat.min_eq_left (by omega)] at r'
  rw [hlen]
  generalize rd (limbs (b * D)) (((limbs b).length - 1 : Nat) : Int) = z at *
  have hh := half h1 hD1 hD4
  have q1 : (pw ((limbs b).length - 1) * v) * D ≤ (b : Int) * D := Int.mul_le_mul_of_nonneg_right (by omega) (by omega)
  have q2 : (pw ((limbs b).length - 1) * v) * D = pw ((limbs b).length - 1) * (v * D) := by grind
  have q3 : pw ((limbs b).length - 1) * (v * D) < pw ((limbs b).length - 1) * (z + 1) := by
    have e : pw ((limbs b).length - 1) * (z + 1) = pw ((limbs b).length - 1) * z + pw ((limbs b).length - 1) := by grind
    rw [e, ← q2]
    omega
  have q4 := Int.lt_of_mul_lt_mul_left q3 (by omega)
  omega

theorem St.start {a b D n m : Nat} (hab : b ≤ a) (hb : b ≠ 0) (hD0 : 1 ≤ D) (hD1 : D < 1000000000) (hn : (limbs b).length = n) (hm : (limbs a).length = m) {L : List Int} (hl : Lim L) (hL : L.length = m + 1) (hv : val L = ((a * D : Nat) : Int)) : St ((a * D : Nat) : Int) ((b * D : Nat) : Int) n m (m + 1 - n) L (List.replicate (m + 1 - n) 0) where
  lenL := hL
  limL := hl
  lenQ := List.length_replicate
  limQ := lim_replicate _
  zero := fun p _ => rd_replicate _ _
  sum := by rw [val_replicate, Int.zero_mul, Int.zero_add, hv]
  below := by
    have hnm : n ≤ m := by rw [← hn, ← hm]; exact limbs_len_mono hab
    have hn0 : 0 < n := by rw [← hn]; exact limbs_len_pos hb
    have h1 : (a : Int) < pw m := by rw [← hm]; exact limbs_lt
    have h2 : pw (n - 1) ≤ (b : Int) := by rw [← hn]; exact limbs_ge hb
    rw [hv, Int.natCast_mul, Int.natCast_mul]
    have e : pw m = pw (n - 1) * pw (m + 1 - n) := by rw [← pw_add]; congr 1; omega
    have h3 : (a : Int) * D < pw m * D := Int.mul_lt_mul_of_pos_right h1 (by omega)
    have h4 : pw (n - 1) * (D * pw (m + 1 - n)) ≤ (b : Int) * (D * pw (m + 1 - n)) := Int.mul_le_mul_of_nonneg_right h2 (Int.mul_nonneg (by omega) (Int.le_of_lt (pw_pos _)))
    have e2 : pw m * D = pw (n - 1) * (D * pw (m + 1 - n)) := by rw [e]; grind
    have e3 : (b : Int) * D * pw (m + 1 - n) = (b : Int) * (D * pw (m + 1 - n)) := by grind
    rw [e3]; rw [e2] at h3
    exact Int.lt_of_lt_of_le h3 h4
theorem St.done {a b D n m : Nat} (hb : b ≠ 0) (hD0 : 1 ≤ D) {L Qs : List Int} (S : St ((a * D : Nat) : Int) ((b * D : Nat) : Int) n m 0 L Qs) (hVn : ((b * D : Nat) : Int) < pw n) : (val Qs).toNat = a / b ∧ (val (L.take n)).toNat / D = a % b := by
  have hlow := S.below
  rw [pw_zero, Int.mul_one] at hlow
  have r := (val_range S.limL).1
  have rq := (val_range S.limQ).1
  rw [take_high (high_zero S.limL (by omega))]
  obtain ⟨q, hq⟩ := Int.eq_ofNat_of_zero_le rq
  obtain ⟨x, hx⟩ := Int.eq_ofNat_of_zero_le r
  have s := S.sum
  rw [hq, hx] at s
  rw [hx] at hlow
  rw [hq, hx]
  simp only [Int.toNat_natCast]
  have s' : a * D = q * (b * D) + x := by exact_mod_cast s
  have l' : x < b * D := by exact_mod_cast hlow
  have hD : 0 < D := by omega
  have hbD : 0 < b * D := Nat.mul_pos (Nat.pos_of_ne_zero hb) hD
  have e1 : a * D / (b * D) = q := by
    rw [s', Nat.mul_comm q, Nat.mul_add_div hbD, Nat.div_eq_of_lt l', Nat.add_zero]
  have e2 : a * D % (b * D) = x := by
    rw [s', Nat.mul_comm q, Nat.mul_add_mod, Nat.mod_eq_of_lt l']
  rw [Nat.mul_div_mul_right _ _ hD] at e1
  rw [Nat.mul_mod_mul_right] at e2
  exact ⟨e1.symm, by rw [← e2, Nat.mul_div_cancel _ hD]⟩
end Go.Proofs.YtjeamchaibialaaGreatDoor.Longs

/- big's long: the walk. -/
namespace Go.Proofs.YtjeamchaibialaaGreatDoor.LongWalk
open Go.RowKit Go.Proofs.YtjeamchaibialaaGreatDoorW.PrintWords Go.Proofs.YtjeamchaibialaaGreatDoorW.PrintLast Go.Proofs.YtjeamchaibialaaGreatDoorW.PrintMore Fns Limbs Pure1 Nats Arrs Go.Proofs.YtjeamchaibialaaGreatDoor.Told Go.Proofs.YtjeamchaibialaaGreatDoor.Longs

def sliceLen : Value → Nat
  | .slice _ n _ => n
  | _ => 0
theorem belowA {w w1 : World} (h : Below w.heap.size w w1) (o : Obj) : Below w.heap.size w (w1.alloc o) := h.alloc h.size o
theorem isU_at {W : World} {g n : Nat} (h0 : 0 < n) (h1 : n < 1000000000) (h : W.heap[g]? = some (.cells #[.int .u32 n] 106 (0, 0))) : IsU W (.slice (some ⟨g, 0, none⟩) 1 1) n := by
  unfold IsU
  rw [limbs_unit h0 h1]
  refine ⟨_, 1, rfl, Nat.le_refl _, rfl, by simp, fun _ => ⟨_, rfl, fun j hj => ?_⟩⟩
  have : j = 0 := by simp at hj; omega
  subst this
  unfold World.cell? Addr.add
  simp [h, List.getD]
theorem made0_at (w0 W : World) (n g : Nat) (hn : n ≤ 40000000000) (h : W.heap[g]? = some (.cells (madeCells #[.int .u32 0] n) 106 (0, 0))) (hb : w0.heap.size ≤ g) : (Kd.int .u32).R 106 W w0.heap.size (fun _ => True) (.slice (some ⟨g, 0, none⟩) 0 n) [] :=
  Kd.R_of_own (enc := Value.int .u32) (h1 := fun _ => rfl) ⟨by simp [encs], .inr ⟨g, n, _, rfl, hb, h, Nat.zero_le _, by simp only [maxLen]; omega, by simp [madeCells], by simp [encs]⟩⟩ (fun _ _ => trivial)
theorem sz_alloc (w : World) (o : Obj) : (w.alloc o).heap.size = w.heap.size + 1 := by show (w.heap.push o).size = _; simp
theorem sz_drew (w : World) : w.drew.heap.size = w.heap.size := rfl
theorem at_drew {w : World} {g : Nat} {x : Option Obj} (h : w.heap[g]? = x) : w.drew.heap[g]? = x := h
theorem at_new {w : World} {g : Nat} {o : Obj} (h : g = w.heap.size) : (w.alloc o).heap[g]? = some o := by subst h; exact heap_alloc_new w o
theorem at_old {w : World} {g : Nat} {o : Obj} {x : Option Obj} (h : g < w.heap.size) (hx : w.heap[g]? = x) : (w.alloc o).heap[g]? = x := (Below.heap_alloc w o g h).trans hx
theorem at_below {w w1 : World} {g : Nat} {x : Option Obj} (hb : Below w.heap.size w w1) (h : g < w.heap.size) (hx : w.heap[g]? = x) : w1.heap[g]? = x := (hb.block g h).trans hx
set_option maxRecDepth 100000 in
set_option maxHeartbeats 400000 in
theorem walk (a b n m D : Nat) (z : Int) (hab : b ≤ a) (hb0 : b ≠ 0) (hn : (limbs b).length = n) (hm : (limbs a).length = m) (hn2 : 2 ≤ n) (hnm : n ≤ m) (hsz : m ≤ 10000000000) (hz : Hid (z = rd (limbs b) ((n - 1 : Nat) : Int))) (hz1 : 1 ≤ z) (hz9 : z < 1000000000) (hD : Hid ((D : Int) = 1000000000 / (z + 1))) (hD1 : 1 ≤ D) (hD9 : D ≤ 500000000)
    (hvn : Hid ((limbs (b * D)).length = n)) (hvt : Hid (500000000 ≤ rd (limbs (b * D)) ((n - 1 : Nat) : Int))) (bd : Addr) (A : Option Addr) (c d : Nat) (w : World) (hA : Hid (IsU w (.slice A m c) a)) (hB : Hid (IsU w (.slice (some bd) n d) b)) (hcell : w.cell? (bd.add (n - 1)) = some (.int .u32 z)) :
    Calls Tryz.prog 123 #[.slice A m c, .slice (some bd) n d] w fun e w' => ∃ v1 v2, e = .returned (.tuple #[v1, v2]) ∧ IsU w' v1 (a / b) ∧ IsU w' v2 (a % b) ∧ Below w.heap.size w w' := by
  have W1 : IntKind.i64.wrap ((n : Int) - 1) = (n : Int) - 1 := IntWalk.i64_in _ (by omega)
  have L1 : 0 ≤ (n : Int) - 1 := by omega
  have I1 : (n : Int) - 1 < n := by omega
  have T1 : ((n : Int) - 1).toNat = n - 1 := by omega
  have X1 : IntKind.u64.wrap z = z := u64w (by omega) (by omega)
  have X2 : IntKind.u64.wrap (z + 1) = z + 1 := u64w (by omega) (by omega)
  have X3 : IntKind.u64.wrap (Int.tdiv 1000000000 (z + 1)) = D := by
    rw [Int.tdiv_eq_ediv_of_nonneg (by omega), ← hD.out]; exact u64w (by omega) (by omega)
  have X3' : Int.tdiv 1000000000 (z + 1) = D := by
    rw [Int.tdiv_eq_ediv_of_nonneg (by omega), ← hD.out]
  have X4 : IntKind.u32.wrap (D : Int) = D := by rw [IntWalk.u32_in _ (by omega)]
  have hz0 : (z + 1 == 0) = false := beq_eq_false_iff_ne.2 (by omega)
  have hla : (limbs a).length ≤ 30000000000 := by omega
  have hlaD : (limbs (a * D)).length ≤ m + 1 := by
    have := limbs_len_mul a D
    rw [limbs_unit (n := D) (by omega) (by omega), List.length_singleton, hm] at this
    exact this
  have hlb : (limbs b).length ≤ 30000000000 := by omega
  have hD9' : D < 1000000000 := by omega
  have hlD : (limbs D).length ≤ 30000000000 := by rw [limbs_unit (by omega) (by omega)]; simp
  have hmk : ∀ W : World, (Instr.makeSlice 45 (.int .i64 0) (.int .i64 ((m : Int) + 2))).run Tryz.prog W = .ok (.slice (some ⟨W.heap.size, 0, none⟩) 0 (m + 2)) (W.alloc (.cells (madeCells #[.int .u32 0] (m + 2)) 106)) := fun W => run_make0 (m + 2) (by omega) W
  have W2 : IntKind.i64.wrap ((m : Int) + 2) = (m : Int) + 2 := IntWalk.i64_in _ (by omega)
  go_enter Tryz.func123, Tryz.ntmps123
  go_upto_region 2 with (fail)
  clear X1 X2 X3 X3' X4 hz0 hcell
  go_cut [7] (fun v7 wx => Hid (Kd.R (Kd.int .u32) 106 wx w.heap.size (fun _ => True) v7 (limbs (a * D))) ∧ Hid (Below w.heap.size w wx))
  case first =>
    go_region_law (first
      | (refine Kd.R_append_rows_step (Kd.int .u32) (Rr := (Kd.int .u32).K w3) (w0 := w) w.heap.size rfl (.tmp 28) (.tmp 32) 45 106 (.int .u32 0) 4 rfl Tryz.underlying45 info106 rfl (by decide) (by omega) (.slice (some ⟨w.heap.size, 0, none⟩) 0 (m + 2)) [] (limbs (a * D)) At (limbs (a * D)).length ct (fun _ => True) (fun _ => False) rfl rfl ?aO ?aR ?aM (fun _ hk => hk.elim) (fun _ _ => trivial) ?aB ?aS ?aL ?_; (case aO => refine made0_at w _ (m + 2) _ (by omega) ?_ (by (first | ((try simp only [sz_alloc, sz_drew]) <;> omega) | (have zz := HB3.out.size; (try simp only [sz_alloc, sz_drew] at zz ⊢); omega))); (repeat (first | (with_reducible refine at_new ?_; (first | ((try simp only [sz_alloc, sz_drew]) <;> omega) | (have zz := HB3.out.size; (try simp only [sz_alloc, sz_drew] at zz ⊢); omega))) | (with_reducible refine at_drew ?_) | (with_reducible refine at_old ?_ ?_; (first | ((try simp only [sz_alloc, sz_drew]) <;> omega) | (have zz := HB3.out.size; (try simp only [sz_alloc, sz_drew] at zz ⊢); omega))) | (with_reducible refine at_below HB3.out ?_ ?_; (first | ((try simp only [sz_alloc, sz_drew]) <;> omega) | (have zz := HB3.out.size; (try simp only [sz_alloc, sz_drew] at zz ⊢); omega)))))); (case aR => first | (with_reducible exact HCt.out) | exact ReadsRow.imp_ HCt.out (by (repeat (first | (with_reducible exact Below.refl _ _) | (with_reducible refine Below.drew ?_) | (with_reducible refine belowA ?_ _) | (with_reducible refine below_step ?_ HB3.out)))) (fun _ _ h => h)); (case aM => exact (fun _ _ h => h)); (case aB => (repeat (first | (with_reducible exact Below.refl _ _) | (with_reducible refine Below.drew ?_) | (with_reducible refine belowA ?_ _) | (with_reducible refine below_step ?_ HB3.out)))); (case aS => (first | ((try simp only [sz_alloc, sz_drew]) <;> omega) | (have zz := HB3.out.size; (try simp only [sz_alloc, sz_drew] at zz ⊢); omega))); (case aL => have := hlaD; simp; omega); intro v1 w1 h1 h2 _ _; have H1 := Lib.hid h1; have H2 := Lib.hid h2; clear h1 h2)
      | (refine Kd.R_append_rows_step (Kd.int .u32) (Rr := (Kd.int .u32).K w3) (w0 := w) w.heap.size rfl (.tmp 28) (.tmp 32) 45 106 (.int .u32 0) 4 rfl Tryz.underlying45 info106 rfl (by decide) (by omega) (.slice (some ⟨(w.heap.size + 1), 0, none⟩) 0 (m + 2)) [] (limbs (a * D)) At (limbs (a * D)).length ct (fun _ => True) (fun _ => False) rfl rfl ?aO ?aR ?aM (fun _ hk => hk.elim) (fun _ _ => trivial) ?aB ?aS ?aL ?_; (case aO => refine made0_at w _ (m + 2) _ (by omega) ?_ (by (first | ((try simp only [sz_alloc, sz_drew]) <;> omega) | (have zz := HB3.out.size; (try simp only [sz_alloc, sz_drew] at zz ⊢); omega))); (repeat (first | (with_reducible refine at_new ?_; (first | ((try simp only [sz_alloc, sz_drew]) <;> omega) | (have zz := HB3.out.size; (try simp only [sz_alloc, sz_drew] at zz ⊢); omega))) | (with_reducible refine at_drew ?_) | (with_reducible refine at_old ?_ ?_; (first | ((try simp only [sz_alloc, sz_drew]) <;> omega) | (have zz := HB3.out.size; (try simp only [sz_alloc, sz_drew] at zz ⊢); omega))) | (with_reducible refine at_below HB3.out ?_ ?_; (first | ((try simp only [sz_alloc, sz_drew]) <;> omega) | (have zz := HB3.out.size; (try simp only [sz_alloc, sz_drew] at zz ⊢); omega)))))); (case aR => first | (with_reducible exact HCt.out) | exact ReadsRow.imp_ HCt.out (by (repeat (first | (with_reducible exact Below.refl _ _) | (with_reducible refine Below.drew ?_) | (with_reducible refine belowA ?_ _) | (with_reducible refine below_step ?_ HB3.out)))) (fun _ _ h => h)); (case aM => exact (fun _ _ h => h)); (case aB => (repeat (first | (with_reducible exact Below.refl _ _) | (with_reducible refine Below.drew ?_) | (with_reducible refine belowA ?_ _) | (with_reducible refine below_step ?_ HB3.out)))); (case aS => (first | ((try simp only [sz_alloc, sz_drew]) <;> omega) | (have zz := HB3.out.size; (try simp only [sz_alloc, sz_drew] at zz ⊢); omega))); (case aL => have := hlaD; simp; omega); intro v1 w1 h1 h2 _ _; have H1 := Lib.hid h1; have H2 := Lib.hid h2; clear h1 h2)
      | (go_simp; go_at_call 66; refine (times_own a D hla hlD _ _ _ ?bA ?bD).mono ?_; (case bA => exact NatV.below hA.out (by (repeat (first | (with_reducible exact Below.refl _ _) | (with_reducible refine Below.drew ?_) | (with_reducible refine belowA ?_ _) | (with_reducible refine below_step ?_ HB3.out))))); (case bD => exact isU_at hD1 hD9' (by (repeat (first | (with_reducible refine at_new ?_; (first | ((try simp only [sz_alloc, sz_drew]) <;> omega) | (have zz := HB3.out.size; (try simp only [sz_alloc, sz_drew] at zz ⊢); omega))) | (with_reducible refine at_drew ?_) | (with_reducible refine at_old ?_ ?_; (first | ((try simp only [sz_alloc, sz_drew]) <;> omega) | (have zz := HB3.out.size; (try simp only [sz_alloc, sz_drew] at zz ⊢); omega))) | (with_reducible refine at_below HB3.out ?_ ?_; (first | ((try simp only [sz_alloc, sz_drew]) <;> omega) | (have zz := HB3.out.size; (try simp only [sz_alloc, sz_drew] at zz ⊢); omega))))))); rintro e w3 ⟨vt, rfl, hR3, hB3⟩; obtain ⟨At, ct, rfl, hct, hCt⟩ := Kd.R_reads hR3; have HR3 := Lib.hid hR3; have HB3 := Lib.hid hB3; have HCt : Hid (ReadsRow ((Kd.int .u32).K w3) (Kd.int .u32).sz w3 At (limbs (a * D)).length (limbs (a * D))) := Lib.hid hCt; clear hR3 hB3 hCt)
      | (refine Kd.R_append_rows_step (Kd.int .u32) (Rr := (Kd.int .u32).K w3) (w0 := w) w.heap.size rfl (.tmp 28) (.tmp 32) 45 106 (.int .u32 0) 4 rfl Tryz.underlying45 info106 rfl (by decide) (by omega) (.slice (some ⟨w3.heap.size, 0, none⟩) 0 (m + 2)) [] (limbs (a * D)) At (limbs (a * D)).length ct (fun _ => True) (fun _ => False) rfl rfl ?aO ?aR ?aM (fun _ hk => hk.elim) (fun _ _ => trivial) ?aB ?aS ?aL ?_; (case aO => refine made0_at w _ (m + 2) _ (by omega) ?_ (by (first | ((try simp only [sz_alloc, sz_drew]) <;> omega) | (have zz := HB3.out.size; (try simp only [sz_alloc, sz_drew] at zz ⊢); omega))); (repeat (first | (with_reducible refine at_new ?_; (first | ((try simp only [sz_alloc, sz_drew]) <;> omega) | (have zz := HB3.out.size; (try simp only [sz_alloc, sz_drew] at zz ⊢); omega))) | (with_reducible refine at_drew ?_) | (with_reducible refine at_old ?_ ?_; (first | ((try simp only [sz_alloc, sz_drew]) <;> omega) | (have zz := HB3.out.size; (try simp only [sz_alloc, sz_drew] at zz ⊢); omega))) | (with_reducible refine at_below HB3.out ?_ ?_; (first | ((try simp only [sz_alloc, sz_drew]) <;> omega) | (have zz := HB3.out.size; (try simp only [sz_alloc, sz_drew] at zz ⊢); omega)))))); (case aR => first | (with_reducible exact HCt.out) | exact ReadsRow.imp_ HCt.out (by (repeat (first | (with_reducible exact Below.refl _ _) | (with_reducible refine Below.drew ?_) | (with_reducible refine belowA ?_ _) | (with_reducible refine below_step ?_ HB3.out)))) (fun _ _ h => h)); (case aM => exact (fun _ _ h => h)); (case aB => (repeat (first | (with_reducible exact Below.refl _ _) | (with_reducible refine Below.drew ?_) | (with_reducible refine belowA ?_ _) | (with_reducible refine below_step ?_ HB3.out)))); (case aS => (first | ((try simp only [sz_alloc, sz_drew]) <;> omega) | (have zz := HB3.out.size; (try simp only [sz_alloc, sz_drew] at zz ⊢); omega))); (case aL => have := hlaD; simp; omega); intro v1 w1 h1 h2 _ _; have H1 := Lib.hid h1; have H2 := Lib.hid h2; clear h1 h2))
    all_goals (go_wp2_with fail; go_meet; exact ⟨H1, H2⟩)
  case rest =>
    obtain ⟨HR, HB⟩ := hcut
    clear hmk W2 T1 L1 I1
    have W2 : IntKind.i64.wrap ((m : Int) + 1) = (m : Int) + 1 := IntWalk.i64_in _ (by omega)
    go_wp2_with fail
    go_loopw [7] (fun v7 wr => ∃ l : List Int, Kd.R (Kd.int .u32) 106 wr w.heap.size (fun _ => True) v7 l ∧ Lim l ∧ val l = ((a * D : Nat) : Int) ∧ l.length ≤ m + 1 ∧ Below w.heap.size w wr) (fun v7 _ => m + 1 - (sliceLen v7))
    case atStart => exact ⟨limbs (a * D), HR.out, limbs_lim _, val_limbs _, hlaD, HB.out⟩
    case round =>
      clear HR HB
      obtain ⟨l, hR, hl, hv, hle, hB1⟩ := hrel
      have HR := Lib.hid hR
      have HBB := Lib.hid hB1
      have HV := Lib.hid hv
      have HO := Lib.hid hle
      have HL := Lib.hid hl
      obtain ⟨A7, c7, rfl, hc7, _⟩ := Kd.R_reads hR
      clear hR hB1 hv hle
      by_cases hlt : l.length < m + 1
      · go_wp2_with ((at_builtin; refine Kd.R_append (Kd.int .u32) (w0 := w) w.heap.size rfl (.tmp 40) (.tmp 41) 45 106 (.int .u32 0) 4 rfl Tryz.underlying45 info106 rfl (by decide) (by omega) (.slice A7 l.length c7) l 0 [.int .u32 0] (fun _ => True) (fun _ => False) rfl rfl ?aP (fun _ hk => hk.elim) ?aF ?aO ?aB ?aS ?aL ?_; (case aP => exact rfl); (case aF => exact (fun _ _ => trivial)); (case aO => exact HR.out); (case aB => exact HBB.out); (case aS => exact HBB.out.size); (case aL => omega); intro v1 w1 h1 h2 _ _; have H1 := Lib.hid h1; have H2 := Lib.hid h2; clear h1 h2))
        go_roundw
        case rel => exact ⟨l ++ [0], H1.out, lim_append.2 ⟨hl, lim_cons.2 ⟨⟨by omega, by omega⟩, lim_nil⟩⟩, by rw [val_snoc, Int.mul_zero, Int.add_zero]; exact HV.out, by simp; omega, H2.out⟩
        case measure => 
          obtain ⟨A8, c8, e8, _, _⟩ := Kd.R_reads H1.out
          rw [e8]
          simp [sliceLen]; omega
      · have HE := Lib.hid (show l.length = m + 1 by have := HO.out; omega)
        go_wp2_with fail
        refine (times_own b D hlb hlD _ _ _ (hB.out.below (belowA HBB.out _)) (isU_at hD1 hD9' (at_new rfl))).mono ?_
        rintro e w4 ⟨vv, rfl, hR4, hB4⟩
        obtain ⟨Av, cv, e4, hcv, _⟩ := Kd.R_reads hR4
        rw [hvn.out] at e4 hcv
        subst e4
        have hfr : ∀ ad, Av = some ad → wr.heap.size < ad.block := fun ad e => by
          have := fresh_of_R hR4 ad _ _ (by rw [e])
          rw [sz_alloc] at this
          omega
        have HY := Lib.hid (NatV.ofR hR4)
        have HB4 := Lib.hid (below_step (belowA HBB.out _) hB4)
        obtain ⟨g, cu, eu, hg, hcu, hArr⟩ := arr_of_R HR.out (by have := HE.out; omega)
        injection eu with e1 _ e3
        subst e1 e3
        have hgl := hArr.lt
        have HArr := Lib.hid ((hArr.alloc _).below hB4)
        rw [HE.out]
        obtain ⟨K, hK⟩ : ∃ K, K + n = m + 1 := ⟨m + 1 - n, by omega⟩
        have W3 : IntKind.i64.wrap ((m : Int) + 1 - n) = (K : Int) := by rw [IntWalk.i64_in _ (by omega)]; omega
        have W4 : IntKind.i64.wrap ((K : Int) - 1) = (K : Int) - 1 := IntWalk.i64_in _ (by omega)
        have hmk : ∀ W : World, (Instr.makeSlice 45 (.int .i64 (K : Int)) (.int .i64 (K : Int))).run Tryz.prog W = .ok (.slice (some ⟨W.heap.size, 0, none⟩) K K) (W.alloc (.cells (madeCells #[.int .u32 0] K) 106)) := fun W => run_makeN K (by omega) W
        have hgl4 : g < w4.heap.size := HArr.out.lt
        have hw4 : wr.heap.size < w4.heap.size := by have := hB4.size; rw [sz_alloc] at this; omega
        have hav4 : ∀ ad, Av = some ad → ad.block < w4.heap.size := fun ad e => by
          obtain ⟨ad', e', hc⟩ := HY.out.cell 0 (by omega)
          rw [e] at e'
          injection e' with e'
          subst e'
          have := World.block_lt_of_cell? w4 _ hc
          exact this
        go_wp2_with fail
        clear hmk W3 W4 W2 hlt hlaD hlD hlb hla
        have hVn : ((b * D : Nat) : Int) < pw n := by
          have := limbs_lt (n := b * D)
          rw [hvn.out] at this
          exact this
        have hVp : (0 : Int) < ((b * D : Nat) : Int) := by
          have := Nat.mul_pos (Nat.pos_of_ne_zero hb0) (show 0 < D by omega)
          omega
        have HS0 := Lib.hid (St.start hab hb0 hD1 hD9' hn hm HL.out HE.out HV.out)
        have hKe : m + 1 - n = K := by omega
        rw [hKe] at HS0
        have hne : ∀ ad, Av = some ad → ad.block ≠ g ∧ ad.block ≠ w4.heap.size := fun ad e => ⟨by have := hfr ad e; omega, by have := hav4 ad e; omega⟩
        have HQ := Lib.hid (Arr.made .u32 106 w4 K)
        have HArr5 := Lib.hid (HArr.out.alloc (.cells (madeCells #[.int .u32 0] K) 106))
        have HB5 := Lib.hid (belowA HB4.out (.cells (madeCells #[.int .u32 0] K) 106))
        have HY5 := Lib.hid (HY.out.below ((Below.refl _ _).alloc (Nat.le_refl _) (.cells (madeCells #[.int .u32 0] K) 106)))
        have hggq : g ≠ w4.heap.size := by omega
        have hgq : w.heap.size ≤ w4.heap.size := HB4.out.size
        clear hfr hav4 hgl4 hw4 HY HB4 HArr hArr hgl hB4 hR4 HR HBB HV HO HL
        generalize w4.heap.size = gq at *
        generalize w4.alloc (.cells (madeCells #[.int .u32 0] K) 106) = w5 at *
        go_loopw [11, 12] (fun v11 v12 wr => ∃ (t : Nat) (L Qs : List Int), t ≤ K ∧ v11 = .int .i64 ((t : Int) - 1) ∧ St ((a * D : Nat) : Int) ((b * D : Nat) : Int) n m t L Qs ∧ Arr .u32 106 wr g L ∧ Arr .u32 106 wr gq Qs ∧ NatV .u32 wr (.slice Av n cv) (limbs (b * D)) ∧ Below w.heap.size w wr) (fun v11 _ _ => (intOf v11 + 1).toNat)
        case atStart => exact ⟨K, l, _, Nat.le_refl _, rfl, HS0.out, HArr5.out, HQ.out, HY5.out, HB5.out⟩
        case round =>
          clear HS0 HArr5 HQ HY5 HB5
          obtain ⟨t, L, Qs, htK, rfl, hS, hAL, hAQ, hYr, hBr⟩ := hrel
          have HS := Lib.hid hS
          have HAL := Lib.hid hAL
          have HAQ := Lib.hid hAQ
          have HYR := Lib.hid hYr
          have HBR := Lib.hid hBr
          clear hS hAL hAQ hYr hBr
          cases t with
          | zero =>
            rw [show ((0 : Nat) : Int) - 1 = -1 from rfl]
            go_wp2_with fail
            have hfin := St.done hb0 hD1 HS.out hVn
            refine (trim_calls (L.take n) (lim_take HS.out.limL n) (by rw [List.length_take]; omega) _ _ ?_).mono ?_
            · have hp := HAL.out.part 0 n c7 (by have := HS.out.lenL; omega) (by omega) (by omega)
              rw [List.drop_zero] at hp
              exact hp
            · rintro e w6 ⟨v6, rfl, h6, ⟨dn, rfl⟩⟩
              have H6 := Lib.hid h6
              clear h6
              go_wp2_with fail
              refine (limbed_calls (val (L.take n)).toNat D (by omega) (by omega) (Nat.le_trans (limbs_len_le (k := n) ?_) (by omega)) _ _ H6.out).mono ?_
              · have r := val_range (lim_take HS.out.limL n)
                rw [List.length_take, Nat.min_eq_left (by have := HS.out.lenL; omega)] at r
                omega
              · rintro e w7 ⟨v7, rfl, h7, hb7⟩
                rw [hfin.2] at h7
                have H7 := Lib.hid h7
                have HB7 := Lib.hid hb7
                clear h7 hb7
                go_wp2_with fail
                refine (trim_calls Qs HS.out.limQ (by rw [HS.out.lenQ]; omega) _ _ ?_).mono ?_
                · have hlq : Qs.length = K := by rw [HS.out.lenQ]; omega
                  have := ((HAQ.out.drewN dn).below HB7.out).whole K (by omega) (by omega)
                  rw [hlq] at this
                  exact this
                · rintro e w8 ⟨v8, rfl, h8, ⟨dn8, rfl⟩⟩
                  rw [hfin.1] at h8
                  have H8 := Lib.hid h8
                  clear h8
                  go_wp2_with fail
                  go_ret2
                  exact ⟨_, _, rfl, H8.out, NatV.below H7.out (Drawn0.below ⟨dn8, rfl⟩), below_step (below_step HBR.out (Drawn0.below ⟨dn, rfl⟩)) (below_step HB7.out (Drawn0.below ⟨dn8, rfl⟩))⟩
          | succ j =>
            rw [show ((j + 1 : Nat) : Int) - 1 = (j : Int) from by omega]
            have hjm : j + n < m + 1 := by omega
            have hjl : j ≤ m + 1 := by omega
            have hHi := Lib.hid (HS.out.high hVn hnm (j := j) (by omega))
            go_wp2_with fail
            refine (GuessWalk.calls (L.drop j) (limbs (b * D)) (lim_drop HS.out.limL j) (limbs_lim _) (by rw [hvn.out]; omega) (by rw [hvn.out]; omega) (by rw [hvn.out, List.length_drop, HS.out.lenL]; omega) (by rw [hvn.out]; exact hvt.out) ?_ _ _ _ ?_ HYR.out).mono ?_
            · rw [hvn.out, val_limbs, take_high hHi.out.2.1]
              exact hHi.out.1
            · have hp := HAL.out.part j (m + 1 - j) (c7 - j) (by have := HS.out.lenL; omega) (by omega) (by omega)
              rw [List.take_of_length_le (by rw [List.length_drop, HS.out.lenL]; omega)] at hp
              exact hp
            · rintro e w6 ⟨k, rfl, hk0, _, hu1, hu2, ⟨dn, rfl⟩⟩
              rw [hvn.out, val_limbs, take_high hHi.out.2.1] at hu1 hu2
              have hk9 : k ≤ 1000000000 := guess_le hVp hHi.out.1 hu2
              have HU1 := Lib.hid hu1
              have HU2 := Lib.hid hu2
              clear hu1 hu2
              go_wp2_with fail
              have hTK := TakesWalk.takes_calls g j L (limbs (b * D)) k HS.out.limL (limbs_lim _) hk0 hk9 (by rw [hvn.out, HS.out.lenL]; omega) (by rw [HS.out.lenL]; omega) (m + 1 - j) (c7 - j) cv (by rw [HS.out.lenL]; omega) (by omega) Av (wr.drewN dn) (Lib.hid (HAL.out.drewN dn)) (Lib.hid (fun W hW => by
                rw [hvn.out]
                exact (HYR.out.below (Drawn0.below ⟨dn, rfl⟩)).other (fun ad e => (hne ad e).1) hW))
              rw [hvn.out] at hTK
              refine hTK.mono ?_
              clear hTK
              rintro e w7 ⟨r, M, rfl, hM1, hM2, hM3, hM4, hM5, hM6⟩
              rw [val_limbs] at hM4
              have HM := Lib.hid (And.intro hM1 (And.intro hM2 hM3))
              have HM4 := Lib.hid hM4
              have hq7 : Arr .u32 106 w7 gq Qs := (HAQ.out.drewN dn).block (hM6.block gq (HAQ.out.drewN dn).lt (by intro e; injection e with e; exact hggq e.symm))
              have hy7 := ((HYR.out.below (Drawn0.below ⟨dn, rfl⟩)).other (fun ad e => (hne ad e).1) hM6)
              have hb7 : Below w.heap.size w w7 := (below_step HBR.out (Drawn0.below ⟨dn, rfl⟩)).grown hM6 HBR.out.size (fun i e => by injection e with e; omega)
              have HA7 := Lib.hid hM5
              have HQ7 := Lib.hid hq7
              have HY7 := Lib.hid hy7
              have HB7 := Lib.hid hb7
              have HG7 := Lib.hid hM6
              clear hM1 hM2 hM3 hM4 hM5 hM6 hq7 hy7 hb7
              have hlq : Qs.length = K := by rw [HS.out.lenQ]; omega
              cases r with
              | false =>
                have hst := HS.out.digit hVp hVn hnm (j := j) (by omega) hk0 HU1.out (M := M) HM.out.2.1 HM.out.1 HM.out.2.2 (by rw [HM4.out]; simp)
                have hk9' := hst.2
                have HST := Lib.hid hst.1
                clear hst
                have X5 : IntKind.u32.wrap k = k := by rw [IntWalk.u32_in _ (by omega)]
                have hfr := HQ7.out.frozen j
                have hce := HQ7.out.cell j (by omega)
                have hjK : j < K := by omega
                go_wp2_with fail
                go_roundw
                case rel => exact ⟨j, M, Qs.set j k, by omega, rfl, HST.out, HA7.out.far hggq _, HQ7.out.set j k (by omega), HY7.out.other (fun ad e => (hne ad e).2) (TakesWalk.grown_set (TakesWalk.grown_refl _ _) _ _), HB7.out.setCell hgq _⟩
                case measure => simp [intOf]
              | true =>
                have hv1 : val M = val L - k * ((b * D : Nat) : Int) * pw j + pw (j + n + 1) := by rw [HM4.out]; simp
                have hk1 := HS.out.ge1 hVn hnm (j := j) (by omega) hk0 HM.out.2.1 HM.out.1 HM.out.2.2 hv1
                have HV1 := Lib.hid hv1
                clear hv1
                have X6 : IntKind.u64.wrap (k - 1) = k - 1 := u64w (by omega) (by omega)
                go_wp2_with fail
                have hGV := GivesWalk.gives_calls g j M (limbs (b * D)) HM.out.2.1 (limbs_lim _) (by rw [hvn.out, HM.out.1, HS.out.lenL]; omega) (by rw [HM.out.1, HS.out.lenL]; omega) (m + 1 - j) (c7 - j) cv (by rw [HM.out.1, HS.out.lenL]; omega) Av w7 (Lib.hid HA7.out) (Lib.hid (fun W hW => by
                  rw [hvn.out]
                  exact HY7.out.other (fun ad e => (hne ad e).1) hW))
                rw [hvn.out, val_limbs] at hGV
                refine hGV.mono ?_
                clear hGV
                rintro e w8 ⟨bb, M', rfl, hb0', hb1', hN1, hN2, hN3, hN4, hN5, hN6⟩
                have hst := HS.out.back hVp hVn hnm (j := j) (by omega) hk0 HU2.out (M := M) HM.out.2.1 HM.out.1 HM.out.2.2 HV1.out ⟨hb0', hb1'⟩ hN2 hN1 hN3 hN4
                have hk9' := hst.2.2
                have HST := Lib.hid hst.1
                have HA8 := Lib.hid hN5
                have HQ8 := Lib.hid (HQ7.out.block (hN6.block gq HQ7.out.lt (by intro e; injection e with e; exact hggq e.symm)))
                have HY8 := Lib.hid (HY7.out.other (fun ad e => (hne ad e).1) hN6)
                have HB8 := Lib.hid (HB7.out.grown hN6 HB7.out.size (fun i e => by injection e with e; omega))
                clear hst hN1 hN2 hN3 hN4 hN5 hN6
                have X5 : IntKind.u32.wrap (k - 1) = k - 1 := by rw [IntWalk.u32_in _ (by omega)]
                have hfr := HQ8.out.frozen j
                have hce := HQ8.out.cell j (by omega)
                have hjK : j < K := by omega
                go_wp2_with fail
                go_roundw
                case rel => exact ⟨j, M', Qs.set j (k - 1), by omega, rfl, HST.out, HA8.out.far hggq _, HQ8.out.set j (k - 1) (by omega), HY8.out.other (fun ad e => (hne ad e).2) (TakesWalk.grown_set (TakesWalk.grown_refl _ _) _ _), HB8.out.setCell hgq _⟩
                case measure => simp [intOf]

theorem calls (a b : Nat) (hab : b ≤ a) (hb2 : 2 ≤ (limbs b).length) (hsz : (limbs a).length ≤ 10000000000) (va vb : Value) (w : World) (hA : IsU w va a) (hB : IsU w vb b) :
    Calls Tryz.prog 123 #[va, vb] w fun e w' => ∃ v1 v2, e = .returned (.tuple #[v1, v2]) ∧ IsU w' v1 (a / b) ∧ IsU w' v2 (a % b) ∧ Below w.heap.size w w' := by
  have hb0 : b ≠ 0 := by
    rintro rfl
    rw [limbs_zero] at hb2
    simp at hb2
  obtain ⟨A, c, rfl, _⟩ := hA.form
  obtain ⟨B, d, rfl, _⟩ := hB.form
  obtain ⟨bd, rfl, hc⟩ := NatV.cell hB ((limbs b).length - 1) (by omega)
  have hzl := lim_rd (limbs_lim b) ((limbs b).length - 1)
  have h0 := limbs_top hb0
  obtain ⟨D, hD⟩ := Int.eq_ofNat_of_zero_le (a := 1000000000 / (rd (limbs b) (((limbs b).length - 1 : Nat) : Int) + 1)) (Int.ediv_nonneg (by omega) (by omega))
  obtain ⟨h1, h2, h3, h4, h5⟩ := norm hb0 rfl hD.symm
  rw [h4] at h5
  exact walk a b (limbs b).length (limbs a).length D _ hab hb0 rfl rfl hb2 (limbs_len_mono hab) hsz rfl h1 hzl.2 hD.symm h2 h3 h4 h5 bd A c d w hA hB hc

end Go.Proofs.YtjeamchaibialaaGreatDoor.LongWalk

/- big's over, ten, common: the walks. -/
namespace Go.Proofs.YtjeamchaibialaaGreatDoor.OverWalk
open Go.RowKit Go.Proofs.YtjeamchaibialaaGreatDoorW.PrintWords Go.Proofs.YtjeamchaibialaaGreatDoorW.PrintLast Go.Proofs.YtjeamchaibialaaGreatDoorW.PrintMore Fns Limbs Pure1 Nats Arrs Go.Proofs.YtjeamchaibialaaGreatDoor.Told

def Post (w : World) (a b : Nat) (e : Ending) (w' : World) : Prop := ∃ v1 v2, e = .returned (.tuple #[v1, v2]) ∧ IsU w' v1 (a / b) ∧ IsU w' v2 (a % b) ∧ Below w.heap.size w w'

theorem len1 {b : Nat} (h : (limbs b).length = 1) : 0 < b ∧ b < 1000000000 ∧ rd (limbs b) 0 = b := by
  have hb : b ≠ 0 := by rintro rfl; rw [limbs_zero] at h; simp at h
  have h1 := limbs_lt (n := b)
  rw [h, pw_succ, pw_zero] at h1
  refine ⟨by omega, by omega, ?_⟩
  rw [limbs_unit (by omega) (by omega)]; rfl
theorem len2 {b : Nat} (h : (limbs b).length ≤ 2) : b < 1000000000000000000 := by
  have h1 := limbs_lt (n := b)
  have h2 := pw_mono h
  rw [pw_succ, pw_succ, pw_zero] at h2
  omega

set_option maxRecDepth 100000 in
set_option maxHeartbeats 400000 in
theorem calls (a b : Nat) (hb0 : b ≠ 0) (hla : (limbs a).length ≤ 10000000000) (hlb : (limbs b).length ≤ 10000000000) (va vb : Value) (w : World) (hA : Hid (IsU w va a)) (hB : Hid (IsU w vb b)) :
    Calls Tryz.prog 92 #[va, vb] w (Post w a b) := by
  obtain ⟨A, c, rfl, hc⟩ := hA.out.form
  obtain ⟨B, d, rfl, hd⟩ := hB.out.form
  obtain ⟨n, hn⟩ : ∃ n, n = (limbs b).length := ⟨_, rfl⟩
  go_enter Tryz.func92, Tryz.ntmps92
  go_wp2_with fail
  refine (cmp_calls a b (by omega) (by omega) _ _ _ hA.out hB.out).mono ?_
  rintro e w1 ⟨rfl, ⟨dn, rfl⟩⟩
  by_cases hab : a < b
  · rw [show sgn a b = -1 from by simp [sgn, hab]]
    have H1 := Lib.hid (Nat.div_eq_of_lt hab)
    have H2 := Lib.hid (Nat.mod_eq_of_lt hab)
    go_wp2_with fail
    go_ret2
    exact ⟨_, _, rfl, by rw [H1.out]; exact isU_nil _ _ _, by rw [H2.out]; exact hA.out.below (Drawn0.below ⟨dn, rfl⟩), Drawn0.below ⟨dn, rfl⟩⟩
  · have hs : ¬ sgn a b < 0 := by unfold sgn; split <;> (try split) <;> omega
    generalize sgn a b = s at *
    have HA := Lib.hid (hA.out.below (Drawn0.below (w := w) ⟨dn, rfl⟩))
    have HB := Lib.hid (hB.out.below (Drawn0.below (w := w) ⟨dn, rfl⟩))
    have HD := Lib.hid (Drawn0.below (w := w) (w' := w.drewN dn) ⟨dn, rfl⟩)
    have HAB := Lib.hid hab
    clear hab
    generalize w.drewN dn = w1 at *
    by_cases h1 : (limbs b).length = 1
    · obtain ⟨hb1, hb2, hb3⟩ := len1 h1
      obtain ⟨bd, rfl, hcell⟩ := NatV.cell HB.out 0 (by omega)
      have hcell0 : w1.cell? bd = some (.int .u32 b) := by
        have e : bd.add 0 = bd := by unfold Addr.add; split <;> simp_all
        rw [e] at hcell
        rw [hcell]
        exact congrArg (fun x => some (Value.int .u32 x)) hb3
      clear hcell
      rw [h1]
      go_wp2_with fail
      refine (limbed_calls a b (by omega) (by omega) (by omega) _ _ HA.out).mono ?_
      rintro e w2 ⟨v1, rfl, h1, hb1'⟩
      have H1 := Lib.hid h1
      have HB1 := Lib.hid hb1'
      clear h1 hb1'
      have hr9 : a % b < 1000000000 := Nat.lt_trans (Nat.mod_lt _ hb1) hb2
      obtain ⟨r, hr⟩ : ∃ r, r = a % b := ⟨_, rfl⟩
      rw [← hr] at hr9 ⊢
      have HR := Lib.hid hr
      clear hr
      have hr64 : r < 18446744073709551616 := Nat.lt_trans hr9 (by decide)
      have X1 : IntKind.u64.wrap (r : Int) = r := u64w (by omega) (by omega)
      go_wp2_with fail
      refine (natOf_calls r hr64 _).mono ?_
      rintro e w3 ⟨v2, rfl, h2, hb2'⟩
      have H2 := Lib.hid h2
      have HB2 := Lib.hid hb2'
      clear h2 hb2'
      go_wp2_with fail
      go_ret2
      exact ⟨_, _, rfl, H1.out.below HB2.out, by rw [← HR.out]; exact H2.out, below_step (below_step HD.out HB1.out) HB2.out⟩
    · go_wp2_with fail
      refine (small_calls a _ _ HA.out).mono ?_
      rintro e w2 ⟨rfl, ⟨dn, rfl⟩⟩
      have HA2 := Lib.hid (HA.out.below (Drawn0.below (w := w1) ⟨dn, rfl⟩))
      have HB2 := Lib.hid (HB.out.below (Drawn0.below (w := w1) ⟨dn, rfl⟩))
      have HD2 := Lib.hid (below_step HD.out (Drawn0.below (w := w1) (w' := w1.drewN dn) ⟨dn, rfl⟩))
      clear HA HB HD
      generalize w1.drewN dn = w2 at *
      by_cases h2 : (limbs a).length ≤ 2
      · rw [if_pos h2, decide_eq_true h2]
        have hmo : (limbs b).length ≤ (limbs a).length := limbs_len_mono (by have := HAB.out; omega)
        go_wp2_with fail
        refine (small_calls b _ _ HB2.out).mono ?_
        rintro e w3 ⟨rfl, ⟨dn, rfl⟩⟩
        rw [if_pos (by omega), decide_eq_true (show (limbs b).length ≤ 2 by omega)]
        have ha9 := len2 h2
        have HD3 := Lib.hid (below_step HD2.out (Drawn0.below (w := w2) (w' := w2.drewN dn) ⟨dn, rfl⟩))
        clear HD2
        generalize w2.drewN dn = w3 at *
        obtain ⟨q, hq⟩ : ∃ q, q = a / b := ⟨_, rfl⟩
        obtain ⟨r, hr⟩ : ∃ r, r = a % b := ⟨_, rfl⟩
        have hq9 : q ≤ a := by rw [hq]; exact Nat.div_le_self _ _
        have hr9 : r ≤ a := by rw [hr]; exact Nat.mod_le _ _
        have Y1 : IntKind.u64.wrap (Int.tdiv (a : Int) b) = q := by
          rw [Int.tdiv_eq_ediv_of_nonneg (by omega), ← Int.natCast_ediv, ← hq]; exact u64w (by omega) (by omega)
        have Y1' : IntKind.u64.wrap ((a : Int) / b) = q := by
          rw [← Int.natCast_ediv, ← hq]; exact u64w (by omega) (by omega)
        have Y3' : IntKind.u64.wrap ((a : Int) % b) = r := by
          rw [← Int.natCast_emod, ← hr]; exact u64w (by omega) (by omega)
        have Y2 : Int.tmod (a : Int) b = r := by
          rw [Int.tmod_eq_emod_of_nonneg (by omega), ← Int.natCast_emod, ← hr]
        have Y3 : IntKind.u64.wrap (Int.tmod (a : Int) b) = r := by rw [Y2]; exact u64w (by omega) (by omega)
        have hq64 : q < 18446744073709551616 := by omega
        have hr64 : r < 18446744073709551616 := by omega
        have HQ := Lib.hid hq
        have HR := Lib.hid hr
        clear hq hr hq9 hr9
        have hz : ((b : Int) == 0) = false := beq_eq_false_iff_ne.2 (by omega)
        have hz' : (b : Int) ≠ 0 := by omega
        go_wp2_with fail
        go_region_with (go_at_call 107; first
          | (with_reducible refine (natOf_calls q hq64 _).mono ?_; rintro e wq ⟨vq, rfl, hq1, hq2⟩; have HQ1 := Lib.hid hq1; have HQ2 := Lib.hid hq2; clear hq1 hq2)
          | (with_reducible refine (natOf_calls r hr64 _).mono ?_; rintro e wr ⟨vr, rfl, hr1, hr2⟩; have HR1 := Lib.hid hr1; have HR2 := Lib.hid hr2; clear hr1 hr2))
        all_goals go_wp2_with fail
        all_goals go_ret2
        exact ⟨_, _, rfl, by rw [← HQ.out]; exact HQ1.out.below HR2.out, by rw [← HR.out]; exact HR1.out, below_step (below_step HD3.out.drew HQ2.out) HR2.out⟩
      · rw [if_neg h2, decide_eq_false h2]
        have hb2 : 2 ≤ (limbs b).length := by have := limbs_len_pos hb0; omega
        have hba : b ≤ a := by have := HAB.out; omega
        go_wp2_with fail
        refine (LongWalk.calls a b hba hb2 hla _ _ _ HA2.out HB2.out).mono ?_
        rintro e w3 ⟨v1, v2, rfl, g1, g2, g3⟩
        have G1 := Lib.hid g1
        have G2 := Lib.hid g2
        have G3 := Lib.hid g3
        clear g1 g2 g3
        go_wp2_with fail
        go_ret2
        exact ⟨_, _, rfl, G1.out, G2.out, below_step HD2.out G3.out⟩

end Go.Proofs.YtjeamchaibialaaGreatDoor.OverWalk

/- big's common: the walk. -/
namespace Go.Proofs.YtjeamchaibialaaGreatDoor.CommonWalk
open Go.RowKit Go.Proofs.YtjeamchaibialaaGreatDoorW.PrintWords Go.Proofs.YtjeamchaibialaaGreatDoorW.PrintLast Go.Proofs.YtjeamchaibialaaGreatDoorW.PrintMore Fns Limbs Pure1 Pure3 Nats Arrs Go.Proofs.YtjeamchaibialaaGreatDoor.Told Go.Proofs.YtjeamchaibialaaGreatDoor.OverWalk

theorem cop2 {q : Nat} (h : ¬ 2 ∣ q) : Nat.Coprime q 2 := by
  have h1 : Nat.gcd q 2 ∣ 2 := Nat.gcd_dvd_right _ _
  have h2 : Nat.gcd q 2 ∣ q := Nat.gcd_dvd_left _ _
  have h3 := Nat.le_of_dvd (by omega) h1
  have h4 : Nat.gcd q 2 ≠ 2 := fun e => h (e ▸ h2)
  have h5 : Nat.gcd q 2 ≠ 0 := fun e => by rw [e] at h1; omega
  show Nat.gcd q 2 = 1
  omega
theorem cop5 {q : Nat} (h : ¬ 5 ∣ q) : Nat.Coprime q 5 := by
  have h1 : Nat.gcd q 5 ∣ 5 := Nat.gcd_dvd_right _ _
  have h2 : Nat.gcd q 5 ∣ q := Nat.gcd_dvd_left _ _
  have h3 := Nat.le_of_dvd (by omega) h1
  have h4 : Nat.gcd q 5 ≠ 5 := fun e => h (e ▸ h2)
  have h5 : Nat.gcd q 5 ≠ 0 := fun e => by rw [e] at h1; omega
  show Nat.gcd q 5 = 1
  generalize Nat.gcd q 5 = g at *
  rcases (show g = 1 ∨ g = 2 ∨ g = 3 ∨ g = 4 by omega) with rfl | rfl | rfl | rfl
  · rfl
  all_goals omega
theorem gcd_pow {x d k e q : Nat} (hc : ¬ d ∣ q → Nat.Coprime q d) (hx : x = d ^ e * q) (he : e ≤ k) (h : e = k ∨ ¬ d ∣ q) : Nat.gcd x (d ^ k) = d ^ e := by
  obtain ⟨j, rfl⟩ : ∃ j, k = e + j := ⟨k - e, by omega⟩
  rw [hx, Nat.pow_add, Nat.gcd_mul_left]
  rcases h with h | h
  · rw [show j = 0 from by omega, Nat.pow_zero, Nat.gcd_one_right, Nat.mul_one]
  · rw [show Nat.gcd q (d ^ j) = 1 from (hc h).pow_right j, Nat.mul_one]
theorem gcd_ten {x k e q f p : Nat} (h2 : x = 2 ^ e * q) (e2 : e ≤ k) (c2 : e = k ∨ ¬ 2 ∣ q) (h5 : x = 5 ^ f * p) (e5 : f ≤ k) (c5 : f = k ∨ ¬ 5 ∣ p) : Nat.gcd x (10 ^ k) = 2 ^ e * 5 ^ f := by
  rw [show (10 : Nat) = 2 * 5 from rfl, Nat.mul_pow, Nat.Coprime.gcd_mul x (Nat.Coprime.pow k k (by decide)), gcd_pow cop2 h2 e2 c2, gcd_pow cop5 h5 e5 c5]
theorem exp_le {n e : Nat} (h : n = 10 ^ e) : e ≤ 9 * (limbs n).length := by
  have h1 := limbs_lt (n := n)
  rw [pw_ten, h] at h1
  have h2 : (10 : Nat) ^ e < 10 ^ (9 * (limbs (10 ^ e)).length) := by exact_mod_cast h1
  have h3 := (Nat.pow_lt_pow_iff_right (by omega : 1 < 10)).1 h2
  rw [h]; omega

theorem NatV.uniq {k : IntKind} {w : World} {v : Value} {l m : List Int} (h : NatV k w v l) (h' : NatV k w v m) : l = m := by
  obtain ⟨A, c, rfl, _, h1, _, h2⟩ := h
  obtain ⟨A', c', e, _, h3, _, h4⟩ := h'
  injection e with e1 e2 e3
  subst e1
  refine List.ext_getElem e2 (fun i hi hj => ?_)
  obtain ⟨ad, ea, ha⟩ := h2 (by omega)
  obtain ⟨ad', eb, hb⟩ := h4 (by omega)
  rw [ea] at eb
  injection eb with eb
  subst eb
  have := (ha i hi).symm.trans (hb i hj)
  injection this with this
  injection this with _ this
  simpa [List.getD, hi, hj] using this
open Classical in
noncomputable def numOf (w : World) (v : Value) : Nat := if h : ∃ b, IsU w v b then Classical.choose h else 0
theorem numOf_eq {w : World} {v : Value} {b : Nat} (h : IsU w v b) : numOf w v = b := by
  have hx : ∃ b, IsU w v b := ⟨b, h⟩
  unfold numOf
  rw [dif_pos hx]
  have e := NatV.uniq (Classical.choose_spec hx) h
  have := congrArg val e
  rw [val_limbs, val_limbs] at this
  omega

set_option maxRecDepth 100000 in
set_option maxHeartbeats 400000 in
theorem calls (a b : Nat) (ha0 : a ≠ 0) (hb0 : b ≠ 0) (hla : (limbs a).length ≤ 100000000) (hlb : (limbs b).length ≤ 100000000) (va vb : Value) (w : World) (hA : Hid (IsU w va a)) (hB : Hid (IsU w vb b)) :
    Calls Tryz.prog 141 #[va, vb] w fun e w' => ∃ v, e = .returned v ∧ IsU w' v (Nat.gcd a b) ∧ Below w.heap.size w w' := by
  obtain ⟨A, c, rfl, hc⟩ := hA.out.form
  obtain ⟨B, d, rfl, hd⟩ := hB.out.form
  go_enter Tryz.func141, Tryz.ntmps141
  go_wp2_with fail
  refine (exponent_calls b hb0 (by omega) _ _ hB.out).mono ?_
  rintro e w1 ⟨⟨r1, r2⟩, rfl, hr, ⟨dn, rfl⟩⟩
  have HA := Lib.hid (hA.out.below (Drawn0.below (w := w) ⟨dn, rfl⟩))
  have HB := Lib.hid (hB.out.below (Drawn0.below (w := w) ⟨dn, rfl⟩))
  have HD := Lib.hid (Drawn0.below (w := w) (w' := w.drewN dn) ⟨dn, rfl⟩)
  generalize w.drewN dn = w1 at *
  by_cases hf : r2 = true ∧ 2 < (limbs b).length
  · obtain ⟨rfl, hl2⟩ := hf
    obtain ⟨k, hk, hbk⟩ := hr rfl
    have hk : r1 = (k : Int) := hk
    subst hk
    have hk9 : k ≤ 1000000000 := by have := exp_le hbk; omega
    have HK := Lib.hid hbk
    clear hbk hr
    go_wp2_with fail
    refine (strip_calls a 2 k (by omega) (by omega) (by omega) ha0 (by omega) _ _ HA.out).mono ?_
    rintro x w2 ⟨e, q, v2, rfl, h21, h22, h23, _, hb2⟩
    have H2 := Lib.hid (And.intro h21 (And.intro h22 h23))
    have HA2 := Lib.hid (HA.out.below hb2)
    have HD2 := Lib.hid (below_step HD.out hb2)
    clear h21 h23 hb2
    go_wp2_with fail
    refine (strip_calls a 5 k (by omega) (by omega) (by omega) ha0 (by omega) _ _ HA2.out).mono ?_
    rintro x w3 ⟨f, p, v3, rfl, h31, h32, h33, _, hb3⟩
    have H3 := Lib.hid (And.intro h31 (And.intro h32 h33))
    have HD3 := Lib.hid (below_step HD2.out hb3)
    clear h31 h33 hb3
    go_wp2_with fail
    refine (power_calls 2 e (by omega) (by omega) (by omega) _).mono ?_
    rintro x w4 ⟨v4, rfl, h4, hb4⟩
    have H4 := Lib.hid h4
    have HD4 := Lib.hid (below_step HD3.out hb4)
    clear h4 hb4
    go_wp2_with fail
    refine (power_calls 5 f (by omega) (by omega) (by omega) _).mono ?_
    rintro x w5 ⟨v5, rfl, h5, hb5⟩
    have H5 := Lib.hid h5
    have H45 := Lib.hid (H4.out.below hb5)
    have HD5 := Lib.hid (below_step HD4.out hb5)
    clear h5 hb5
    go_wp2_with fail
    refine (times_calls (2 ^ e) (5 ^ f) (Nat.le_trans (len_pow 2 e (by omega)) (by omega)) (Nat.le_trans (len_pow 5 f (by omega)) (by omega)) _ _ _ H45.out H5.out).mono ?_
    rintro x w6 ⟨v6, rfl, h6, hb6⟩
    have H6 := Lib.hid h6
    have HB6 := Lib.hid hb6
    clear h6 hb6
    go_wp2_with fail
    go_ret
    exact ⟨_, rfl, by rw [HK.out, gcd_ten H2.out.1 H2.out.2.1 H2.out.2.2 H3.out.1 H3.out.2.1 H3.out.2.2]; exact H6.out, below_step HD5.out HB6.out⟩
  · have hnf : r2 = false ∨ r2 = true ∧ ¬ 2 < (limbs b).length := by cases r2 <;> simp_all
    have HSZ : Hid (Nat.gcd a b = Nat.gcd a b) := rfl
    have hgo : ∀ K : Prop, (r2 = false → K) → (r2 = true → ¬ 2 < (limbs b).length → K) → K := fun K h1 h2 => by
      rcases hnf with h | ⟨h, h'⟩
      · exact h1 h
      · exact h2 h h'
    clear hf hr hnf
    refine hgo _ (fun hr2 => ?_) (fun hr2 hl2 => ?_)
    all_goals
      subst hr2
      go_wp2_with fail
      go_loopw [0, 1] (fun v0 v1 wr => ∃ x y : Nat, IsU wr v0 x ∧ IsU wr v1 y ∧ x ≠ 0 ∧ Nat.gcd x y = Nat.gcd a b ∧ (limbs x).length ≤ 100000000 ∧ (limbs y).length ≤ 100000000 ∧ Below w.heap.size w wr) (fun _ v1 wr => numOf wr v1)
      case atStart => exact ⟨a, b, HA.out, HB.out, ha0, rfl, hla, hlb, HD.out⟩
      case round =>
        clear HA HB HD hgo
        obtain ⟨x, y, hX, hY, hx0, hg, hlx, hly, hbr⟩ := hrel
        obtain ⟨X, cx, rfl, _⟩ := hX.form
        obtain ⟨Y, cy, rfl, _⟩ := hY.form
        have HX := Lib.hid hX
        have HY := Lib.hid hY
        have HG := Lib.hid hg
        have HBR := Lib.hid hbr
        have HN := Lib.hid (numOf_eq hY)
        clear hX hY hg hbr
        by_cases hy0 : y = 0
        · subst hy0
          have e0 : (limbs 0).length = 0 := by rw [limbs_zero]; rfl
          rw [e0]
          have HE : Hid (Nat.gcd x 0 = x) := Nat.gcd_zero_right x
          go_wp2_with fail
          go_ret
          exact ⟨_, rfl, by rw [← HG.out, HE.out]; exact HX.out, HBR.out⟩
        · have hyp := limbs_len_pos hy0
          go_wp2_with fail
          refine (small_calls x _ _ HX.out).mono ?_
          rintro e w2 ⟨rfl, ⟨d2, rfl⟩⟩
          have HX2 := Lib.hid (HX.out.below (Drawn0.below (w := wr) ⟨d2, rfl⟩))
          have HY2 := Lib.hid (HY.out.below (Drawn0.below (w := wr) ⟨d2, rfl⟩))
          have HB2 := Lib.hid (below_step HBR.out (Drawn0.below (w := wr) (w' := wr.drewN d2) ⟨d2, rfl⟩))
          clear HX HY HBR
          obtain ⟨w2, hw2⟩ : ∃ w2, w2 = wr.drewN d2 := ⟨_, rfl⟩
          rw [← hw2] at HX2 HY2 HB2 ⊢
          clear hw2
          by_cases hx2 : (limbs x).length ≤ 2
          · by_cases hy2 : (limbs y).length ≤ 2
            · rw [if_pos hx2, decide_eq_true hx2]
              go_wp2_with fail
              refine (small_calls y _ _ HY2.out).mono ?_
              rintro e w3 ⟨rfl, ⟨d3, rfl⟩⟩
              have HX3 := Lib.hid (HX2.out.below (Drawn0.below (w := w2) ⟨d3, rfl⟩))
              have HY3 := Lib.hid (HY2.out.below (Drawn0.below (w := w2) ⟨d3, rfl⟩))
              have HB3 := Lib.hid (below_step HB2.out (Drawn0.below (w := w2) (w' := w2.drewN d3) ⟨d3, rfl⟩))
              clear HX2 HY2 HB2
              generalize w2.drewN d3 = w3 at *
              rw [if_pos hy2, decide_eq_true hy2]
              have hx9 := len2 hx2
              have hy9 := len2 hy2
              go_wp2_with fail
              go_loopw [11, 13] (fun v11 v13 ws => ∃ p q : Nat, v11 = .int .u64 p ∧ v13 = .int .u64 q ∧ p < 1000000000000000000 ∧ q < 1000000000000000000 ∧ Hid (Nat.gcd p q = Nat.gcd a b) ∧ Below w.heap.size w ws) (fun _ v13 _ => (intOf v13).toNat)
              case atStart => exact ⟨x, y, rfl, rfl, hx9, hy9, HG, HB3.out⟩
              case round =>
                obtain ⟨p, q, rfl, rfl, hp, hq, hpq, hbs⟩ := hrel
                have HBS := Lib.hid hbs
                clear hbs
                by_cases hq0 : q = 0
                · subst hq0
                  have HE : Hid (Nat.gcd p 0 = p) := Nat.gcd_zero_right p
                  have hp64 : p < 18446744073709551616 := by omega
                  go_wp2_with fail
                  refine (natOf_calls p hp64 _).mono ?_
                  rintro e w4 ⟨v4, rfl, h4, hb4⟩
                  have H4 := Lib.hid h4
                  have HB4 := Lib.hid hb4
                  clear h4 hb4
                  go_wp2_with fail
                  go_ret
                  exact ⟨_, rfl, by rw [← hpq.out, HE.out]; exact H4.out, below_step HBS.out HB4.out⟩
                · have hqp : 0 < q := by omega
                  obtain ⟨r, hr⟩ : ∃ r, r = p % q := ⟨_, rfl⟩
                  have hrq : r < q := by rw [hr]; exact Nat.mod_lt _ hqp
                  have Y2 : Int.tmod (p : Int) q = r := by
                    rw [Int.tmod_eq_emod_of_nonneg (by omega), ← Int.natCast_emod, ← hr]
                  have Y1 : (p : Int) % q = r := by rw [← Int.natCast_emod, ← hr]
                  have Y4 : IntKind.u64.wrap (r : Int) = r := u64w (by omega) (by omega)
                  have Y3 : IntKind.u64.wrap (Int.tmod (p : Int) q) = r := by rw [Y2]; exact Y4
                  have Y5 : IntKind.u64.wrap ((p : Int) % q) = r := by rw [Y1]; exact Y4
                  have hz : ((q : Int) == 0) = false := beq_eq_false_iff_ne.2 (by omega)
                  have hz' : (q : Int) ≠ 0 := by omega
                  have HRR := Lib.hid hr
                  clear hr
                  go_wp2_with fail
                  go_quiet (fail)
                  go_wp2_with fail
                  go_roundw
                  case rel => exact ⟨q, r, rfl, rfl, hq, by omega, by show Nat.gcd q r = _; rw [HRR.out, Nat.gcd_comm, ← Nat.gcd_rec, Nat.gcd_comm]; exact hpq.out, below_step HBS.out (Drawn0.below ⟨_, rfl⟩)⟩
                  case measure => simp [intOf]; omega
            · rw [if_pos hx2, decide_eq_true hx2]
              go_wp2_with fail
              refine (small_calls y _ _ HY2.out).mono ?_
              rintro e w3 ⟨rfl, ⟨d3, rfl⟩⟩
              have HX3 := Lib.hid (HX2.out.below (Drawn0.below (w := w2) ⟨d3, rfl⟩))
              have HY3 := Lib.hid (HY2.out.below (Drawn0.below (w := w2) ⟨d3, rfl⟩))
              have HB3 := Lib.hid (below_step HB2.out (Drawn0.below (w := w2) (w' := w2.drewN d3) ⟨d3, rfl⟩))
              clear HX2 HY2 HB2
              generalize w2.drewN d3 = w3 at *
              rw [if_neg hy2, decide_eq_false hy2]
              go_wp2_with fail
              refine (OverWalk.calls x y hy0 (by omega) (by omega) _ _ _ HX3 HY3).mono ?_
              rintro e w4 ⟨v1, v2, rfl, g1, g2, g3⟩
              have G2 := Lib.hid g2
              have HB4 := Lib.hid (below_step HB3.out g3)
              have HY4 := Lib.hid (HY3.out.below g3)
              have hml : x % y < y := Nat.mod_lt _ (by omega)
              have hrl : (limbs (x % y)).length ≤ 100000000 := Nat.le_trans (limbs_len_mono (Nat.le_of_lt hml)) hly
              have HML := Lib.hid hml
              have HRL := Lib.hid hrl
              clear g1 g2 g3 hml hrl
              go_wp2_with fail
              go_roundw
              case rel => exact ⟨y, x % y, HY4.out, G2.out, hy0, by rw [Nat.gcd_comm, ← Nat.gcd_rec, Nat.gcd_comm]; exact HG.out, hly, HRL.out, HB4.out⟩
              case measure =>
                rw [HN.out, numOf_eq G2.out]
                exact HML.out
          · by_cases hy2 : (limbs y).length ≤ 2
            · rw [if_neg hx2, decide_eq_false hx2]
              go_wp2_with fail
              refine (small_calls y _ _ HY2.out).mono ?_
              rintro e w3 ⟨rfl, ⟨d3, rfl⟩⟩
              have HX3 := Lib.hid (HX2.out.below (Drawn0.below (w := w2) ⟨d3, rfl⟩))
              have HY3 := Lib.hid (HY2.out.below (Drawn0.below (w := w2) ⟨d3, rfl⟩))
              have HB3 := Lib.hid (below_step HB2.out (Drawn0.below (w := w2) (w' := w2.drewN d3) ⟨d3, rfl⟩))
              clear HX2 HY2 HB2
              generalize w2.drewN d3 = w3 at *
              rw [if_pos hy2, decide_eq_true hy2]
              go_wp2_with fail
              refine (OverWalk.calls x y hy0 (by omega) (by omega) _ _ _ HX3 HY3).mono ?_
              rintro e w4 ⟨v1, v2, rfl, g1, g2, g3⟩
              have G2 := Lib.hid g2
              have HB4 := Lib.hid (below_step HB3.out g3)
              have HY4 := Lib.hid (HY3.out.below g3)
              have hml : x % y < y := Nat.mod_lt _ (by omega)
              have hrl : (limbs (x % y)).length ≤ 100000000 := Nat.le_trans (limbs_len_mono (Nat.le_of_lt hml)) hly
              have HML := Lib.hid hml
              have HRL := Lib.hid hrl
              clear g1 g2 g3 hml hrl
              go_wp2_with fail
              go_roundw
              case rel => exact ⟨y, x % y, HY4.out, G2.out, hy0, by rw [Nat.gcd_comm, ← Nat.gcd_rec, Nat.gcd_comm]; exact HG.out, hly, HRL.out, HB4.out⟩
              case measure =>
                rw [HN.out, numOf_eq G2.out]
                exact HML.out
            · rw [if_neg hx2, decide_eq_false hx2]
              go_wp2_with fail
              refine (small_calls y _ _ HY2.out).mono ?_
              rintro e w3 ⟨rfl, ⟨d3, rfl⟩⟩
              have HX3 := Lib.hid (HX2.out.below (Drawn0.below (w := w2) ⟨d3, rfl⟩))
              have HY3 := Lib.hid (HY2.out.below (Drawn0.below (w := w2) ⟨d3, rfl⟩))
              have HB3 := Lib.hid (below_step HB2.out (Drawn0.below (w := w2) (w' := w2.drewN d3) ⟨d3, rfl⟩))
              clear HX2 HY2 HB2
              generalize w2.drewN d3 = w3 at *
              rw [if_neg hy2, decide_eq_false hy2]
              go_wp2_with fail
              refine (OverWalk.calls x y hy0 (by omega) (by omega) _ _ _ HX3 HY3).mono ?_
              rintro e w4 ⟨v1, v2, rfl, g1, g2, g3⟩
              have G2 := Lib.hid g2
              have HB4 := Lib.hid (below_step HB3.out g3)
              have HY4 := Lib.hid (HY3.out.below g3)
              have hml : x % y < y := Nat.mod_lt _ (by omega)
              have hrl : (limbs (x % y)).length ≤ 100000000 := Nat.le_trans (limbs_len_mono (Nat.le_of_lt hml)) hly
              have HML := Lib.hid hml
              have HRL := Lib.hid hrl
              clear g1 g2 g3 hml hrl
              go_wp2_with fail
              go_roundw
              case rel => exact ⟨y, x % y, HY4.out, G2.out, hy0, by rw [Nat.gcd_comm, ← Nat.gcd_rec, Nat.gcd_comm]; exact HG.out, hly, HRL.out, HB4.out⟩
              case measure =>
                rw [HN.out, numOf_eq G2.out]
                exact HML.out

end Go.Proofs.YtjeamchaibialaaGreatDoor.CommonWalk

/- big's ten: the walk. -/
namespace Go.Proofs.YtjeamchaibialaaGreatDoor.TenWalk
open Go.RowKit Go.Proofs.YtjeamchaibialaaGreatDoorW.PrintWords Go.Proofs.YtjeamchaibialaaGreatDoorW.PrintLast Go.Proofs.YtjeamchaibialaaGreatDoorW.PrintMore Fns Limbs Pure1 Pure3 Nats Arrs Go.Proofs.YtjeamchaibialaaGreatDoor.Told

theorem run_makeS (n : Nat) (hn : n ≤ 70000000000) (W : World) : (Instr.makeSlice 45 (.int .i64 (n : Int)) (.int .i64 ((n : Int) + 1))).run Tryz.prog W = .ok (.slice (some ⟨W.heap.size, 0, none⟩) n (n + 1)) (W.alloc (.cells (madeCells #[.int .u32 0] (n + 1)) 106)) := by
  obtain ⟨i, hi, hz0, hz1, hz2⟩ := info_parts info106
  have h := run_make (P := Tryz.prog) W 45 106 i (.int .u32 0) Tryz.underlying45 hi hz0 .i64 .i64 n ((n : Int) + 1) (by omega) (by omega) (by rw [hz2]; omega) (by omega)
  rw [show ((n : Int) + 1).toNat = n + 1 from by omega, Int.toNat_natCast, hz1, Nat.mul_one] at h
  exact h
theorem made_row (w0 W : World) (n c : Nat) (hnc : n ≤ c) (hn : c ≤ 80000000000) (hb : Below w0.heap.size w0 W) : (Kd.int .u32).R 106 (W.alloc (.cells (madeCells #[.int .u32 0] c) 106)) w0.heap.size (fun _ => True) (.slice (some ⟨W.heap.size, 0, none⟩) n c) (List.replicate n 0) := by
  refine Kd.R_of_own (enc := Value.int .u32) (h1 := fun _ => rfl) ⟨by simp [encs], .inr ⟨W.heap.size, c, _, by rw [List.length_replicate], hb.size, heap_alloc_new _ _, by simpa using hnc, by simp only [maxLen]; omega, by simp [madeCells], ?_⟩⟩ (fun _ _ => trivial)
  rw [madeCells_int]
  simp [encs, List.take_replicate, hnc]
theorem ten_limbs (n t k : Nat) (ht : t < 9) (hk : k = 9 * n + t) : List.replicate n (0 : Int) ++ [((10 ^ t : Nat) : Int)] = limbs (10 ^ k) := by
  have h9 : 10 ^ t < 1000000000 := Nat.pow_lt_pow_right (by omega) ht (a := 10)
  have h1 : 0 < 10 ^ t := Nat.pow_pos (by omega)
  have hl : Lim (List.replicate n (0 : Int) ++ [((10 ^ t : Nat) : Int)]) := lim_append.2 ⟨lim_replicate _, lim_cons.2 ⟨⟨by omega, by omega⟩, lim_nil⟩⟩
  have hv : val (List.replicate n (0 : Int) ++ [((10 ^ t : Nat) : Int)]) = ((10 ^ k : Nat) : Int) := by
    rw [val_snoc, val_replicate, List.length_replicate, pw_ten, ← Int.natCast_mul, ← Nat.pow_add, ← hk]
    omega
  have := limbs_of hl (.inr (by
    rw [List.length_append, List.length_replicate, List.length_singleton, Nat.add_sub_cancel]
    simp [rd, List.getD]
    exact_mod_cast Nat.ne_of_gt h1))
  rw [hv, Int.toNat_natCast] at this
  exact this

set_option maxRecDepth 100000 in
set_option maxHeartbeats 400000 in
theorem calls (k : Nat) (hk : k ≤ 100000000000) (w : World) :
    Calls Tryz.prog 91 #[.int .i64 k] w fun e w' => ∃ v, e = .returned v ∧ IsU w' v (10 ^ k) ∧ Below w.heap.size w w' := by
  obtain ⟨n, hn⟩ : ∃ n, n = k / 9 := ⟨_, rfl⟩
  obtain ⟨t, ht⟩ : ∃ t, t = k % 9 := ⟨_, rfl⟩
  have hkn : k = 9 * n + t := by omega
  have ht9 : t < 9 := by omega
  have Y1 : Int.tdiv (k : Int) 9 = n := by rw [Int.tdiv_eq_ediv_of_nonneg (by omega)]; omega
  have Y2 : Int.tmod (k : Int) 9 = t := by rw [Int.tmod_eq_emod_of_nonneg (by omega)]; omega
  have Y1' : (k : Int) / 9 = n := by omega
  have Y2' : (k : Int) % 9 = t := by omega
  have W1 : IntKind.i64.wrap ((n : Int)) = (n : Int) := IntWalk.i64_in _ (by omega)
  have W2 : IntKind.i64.wrap ((n : Int) + 1) = (n : Int) + 1 := IntWalk.i64_in _ (by omega)
  have hmk : ∀ W : World, (Instr.makeSlice 45 (.int .i64 (n : Int)) (.int .i64 ((n : Int) + 1))).run Tryz.prog W = .ok (.slice (some ⟨W.heap.size, 0, none⟩) n (n + 1)) (W.alloc (.cells (madeCells #[.int .u32 0] (n + 1)) 106)) := fun W => run_makeS n (by omega) W
  have hn9 : n ≤ 20000000000 := by omega
  have HKN := Lib.hid hkn
  clear hn ht hkn
  go_enter Tryz.func91, Tryz.ntmps91
  go_wp2_with fail
  clear hmk Y1 Y1' W1 W2
  go_loopw [4, 13] (fun v4 v13 wr => ∃ (i l : Nat), i ≤ t ∧ v13 = .int .i64 i ∧ v4 = .int .u32 l ∧ Hid (l = 10 ^ i) ∧ l ≤ 100000000 ∧ Hid (Kd.R (Kd.int .u32) 106 wr w.heap.size (fun _ => True) (.slice (some ⟨w.heap.size, 0, none⟩) n (n + 1)) (List.replicate n 0)) ∧ Hid (Below w.heap.size w wr)) (fun _ v13 _ => t - (intOf v13).toNat)
  case atStart => exact ⟨0, 1, Nat.zero_le _, rfl, rfl, rfl, by omega, made_row w w n (n + 1) (by omega) (by omega) (Below.refl _ _), (Below.refl _ _).alloc (Nat.le_refl _) _⟩
  case round =>
    obtain ⟨i, l, hi, rfl, rfl, hl, hl9, HR, HB⟩ := hrel
    by_cases hit : i < t
    · have hp : 10 ^ (i + 1) ≤ 100000000 := Nat.pow_le_pow_right (n := 10) (by omega) (show i + 1 ≤ 8 by omega)
      have hl10 : l * 10 ≤ 100000000 := by rw [Nat.pow_succ, ← hl.out] at hp; exact hp
      have X1 : IntKind.u32.wrap ((l : Int) * 10) = ((l * 10 : Nat) : Int) := by rw [IntWalk.u32_in _ (by omega)]; omega
      have X2 : IntKind.u32.wrap ((l : Int) * 10) = (l : Int) * 10 := by rw [IntWalk.u32_in _ (by omega)]
      have HL := Lib.hid hl10
      clear hp hl10 X1
      go_wp2_with fail
      go_roundw
      case rel => exact ⟨i + 1, l * 10, by omega, by rfl, by simp, by show l * 10 = 10 ^ (i + 1); rw [hl.out, Nat.pow_succ], HL.out, HR, HB⟩
      case measure => simp [intOf]; omega
    · have hie : i = t := by omega
      subst hie
      have hlen : (List.replicate n (0 : Int)).length = n := List.length_replicate
      go_wp2_with ((at_builtin; go_loud (refine Kd.R_append (Kd.int .u32) (w0 := w) w.heap.size rfl (.tmp 18) (.tmp 20) 45 106 (.int .u32 0) 4 rfl Tryz.underlying45 info106 rfl (by decide) (by omega) (.slice (some ⟨w.heap.size, 0, none⟩) n (n + 1)) (List.replicate n 0) (l : Int) [.int .u32 (l : Int)] (fun _ => True) (fun _ => False) rfl rfl ?aP (fun _ hk => hk.elim) ?aF ?aO ?aB ?aS ?aL ?_; (case aP => exact rfl); (case aF => exact (fun _ _ => trivial)); (case aO => exact HR.out); (case aB => exact HB.out); (case aS => exact HB.out.size); (case aL => rw [hlen]; omega); intro v1 w1 h1 h2 _ _; have H1 := Lib.hid h1; have H2 := Lib.hid h2; clear h1 h2)))
      go_ret
      refine ⟨_, rfl, ?_, H2.out⟩
      have := H1.out
      rw [hl.out, ten_limbs n i k ht9 HKN.out] at this
      exact NatV.ofR this

end Go.Proofs.YtjeamchaibialaaGreatDoor.TenWalk
