/- Joined: Near TopNearest -/
import Derived.Test.YtjeamchaibialaaGreatDoorM11
import Derived.Test.YtjeamchaibialaaGreatDoorM31
import Derived.Test.YtjeamchaibialaaGreatDoorM24
set_option linter.unusedVariables false
set_option linter.unusedSimpArgs false
/- The law's slash, under and size: the walks. -/
namespace Go.Proofs.YtjeamchaibialaaGreatDoor.Nears
open Go.RowKit Go.Proofs.YtjeamchaibialaaGreatDoorW.PrintWords Go.Proofs.YtjeamchaibialaaGreatDoorW.PrintLast Go.Proofs.YtjeamchaibialaaGreatDoorW.PrintMore Fns Limbs Nats Go.Proofs.YtjeamchaibialaaGreatDoor.Told ReadWalk Texts Rats Parses Heaps Go.Proofs.YtjeamchaibialaaGreatDoor.Splits Go.Proofs.YtjeamchaibialaaGreatDoor.Laws Go.Proofs.YtjeamchaibialaaGreatDoor.CanonWalk

def sl (l : List UInt8) : Int := if (Lib.cut l [47]).2.2 = true then ((Lib.cut l [47]).1.length : Int) else -1
set_option maxRecDepth 100000 in
set_option maxHeartbeats 400000 in
theorem slash_calls (s : ByteArray) (hs : s.size ≤ 1000000000) (w : World) :
    Calls Tryz.prog 55 #[.string s] w fun e w' => e = .returned (.int .i64 (sl s.data.toList)) ∧ w' = w := by
  obtain ⟨l, hl⟩ : ∃ l, l = s.data.toList := ⟨_, rfl⟩
  have hsl : s.size = l.length := by rw [hl, Lib.size_eq]
  have hx : ∀ k (hk : k < s.size), l.take (k + 1) = l.take k ++ [s[k]] ∧ l = l.take k ++ s[k] :: l.drop (k + 1) := fun k hk => by
    have h1 : k < l.length := by omega
    have h2 : s[k] = l[k] := by simp only [hl]; rfl
    exact ⟨by rw [h2, List.take_succ_eq_append_getElem h1], by rw [h2, ← List.drop_eq_getElem_cons h1, List.take_append_drop]⟩
  have HX := Lib.hid hx
  have HSL := Lib.hid hsl
  rw [← hl]
  clear hl hsl hx
  go_enter Tryz.func55, Tryz.ntmps55
  go_wp2_with fail
  go_loopw [3] (fun v3 wr => ∃ k : Nat, k ≤ s.size ∧ v3 = .int .i64 k ∧ Hid (∀ b ∈ l.take k, b ≠ 47) ∧ wr = w) (fun v3 _ => s.size - (intOf v3).toNat)
  case atStart => exact ⟨0, Nat.zero_le _, rfl, Lib.hid (by rw [List.take_zero]; exact fun b hb => by cases hb), rfl⟩
  case round =>
    obtain ⟨k, hk, rfl, hd, rfl⟩ := hrel
    by_cases hks : k < s.size
    · have hki : (k : Int) < s.size := by omega
      by_cases h46 : s[k].toNat = 47
      · have h46' : ((s[k].toNat : Int) == 47) = true := beq_iff_eq.2 (by omega)
        have hp : Hid (sl l = k) := Lib.hid (by
          have e : s[k] = 47 := UInt8.toNat_inj.1 h46
          have h2 := (HX.out k hks).2
          rw [e] at h2
          have hc := cut_one (l.take k) (l.drop (k + 1)) 47 hd.out
          rw [← h2] at hc
          unfold sl
          rw [hc, if_pos rfl, List.length_take, Nat.min_eq_left (by have := HSL.out; omega)])
        go_wp2_with fail
        go_ret
        exact ⟨by rw [hp.out]; rfl, rfl⟩
      · have h46' : ((s[k].toNat : Int) == 47) = false := beq_eq_false_iff_ne.2 (by omega)
        have hn2 : Hid (∀ b ∈ l.take (k + 1), b ≠ 47) := Lib.hid (fun b hb => by
          rw [(HX.out k hks).1, List.mem_append] at hb
          rcases hb with hb | hb
          · exact hd.out b hb
          · rw [List.mem_singleton] at hb
            rw [hb]
            exact fun e => h46 (by rw [e]; rfl))
        go_wp2_with fail
        go_roundw
        case rel => exact ⟨k + 1, by omega, rfl, hn2, trivial⟩
        case measure => simp [intOf]; omega
    · have hki : ¬ (k : Int) < s.size := by omega
      have hp : Hid (sl l = -1) := Lib.hid (by
        have h2 := hd.out
        rw [show k = l.length by have := HSL.out; omega, List.take_length] at h2
        unfold sl
        rw [cut_no l 47 h2]
        rfl)
      go_wp2_with fail
      go_ret
      exact ⟨by rw [hp.out]; rfl, rfl⟩

theorem rtxt_nat (n : Nat) : rtxt (n : Rat) = txt n := by
  unfold rtxt
  rw [show ((n : Rat)) = ((n : Int) : Rat) from rfl, Rat.num_intCast, Rat.den_intCast, if_neg (by omega), if_pos rfl, Int.natAbs_natCast, List.nil_append, List.append_nil]
theorem front_no (q : Rat) : ∀ b ∈ (if q.num < 0 then [45] else []) ++ txt q.num.natAbs, b ≠ 47 := by
  intro b hb
  rcases List.mem_append.1 hb with h | h
  · split at h
    · rw [List.mem_singleton] at h; rw [h]; decide
    · cases h
  · exact (txt_no _ b h).2
theorem sz_den {q : Rat} {N : Nat} (h : Sizes.Sz q N) (hN : 1 ≤ N) : Sizes.Sz ((q.den : Nat) : Rat) N := by
  refine ⟨?_, ?_⟩
  · rw [show ((q.den : Nat) : Rat) = ((q.den : Int) : Rat) from rfl, Rat.num_intCast, Int.natAbs_natCast]; exact h.2
  · rw [show ((q.den : Nat) : Rat) = ((q.den : Int) : Rat) from rfl, Rat.den_intCast, Sizes.limbs_one]; exact hN
theorem sz_pos {q : Rat} {N : Nat} (h : Sizes.Sz q N) : 1 ≤ N := Nat.le_trans (limbs_len_pos q.den_nz) h.2
set_option maxRecDepth 100000 in
set_option maxHeartbeats 400000 in
theorem under_calls (N : Nat) (hN : N ≤ 1600000) (s : ByteArray) (q : Rat) (hq : Is N s q) (w : World) :
    Calls Tryz.prog 18 #[.string s] w fun e w' => ∃ v, e = .returned (.string v) ∧ Is N v ((q.den : Nat) : Rat) ∧ w' = w := by
  have hlong := hq.long
  have hz := sz_den hq.sz (sz_pos hq.sz)
  go_enter Tryz.func18, Tryz.ntmps18
  go_wp2_with fail
  refine (slash_calls s (by omega) _).mono ?_
  rintro e w1 ⟨rfl, rfl⟩
  by_cases h1 : q.den = 1
  · have hp : sl s.data.toList = -1 := by
      rw [hq.txt]
      have : rtxt q = (if q.num < 0 then [45] else []) ++ txt q.num.natAbs := by unfold rtxt; rw [if_pos h1, List.append_nil]
      rw [this]
      unfold sl
      rw [cut_no _ 47 (front_no q)]
      rfl
    have HR : Hid (Is N ⟨#[49]⟩ ((q.den : Nat) : Rat)) := Lib.hid ⟨by rw [h1, rtxt_nat, txt_small (by omega)]; rfl, hz⟩
    rw [hp]
    clear hp hq hz h1
    go_wp2_with fail
    go_ret
    exact ⟨_, rfl, HR.out, rfl⟩
  · obtain ⟨f, hf⟩ : ∃ f, f = (if q.num < 0 then [45] else []) ++ txt q.num.natAbs := ⟨_, rfl⟩
    have hr : rtxt q = f ++ 47 :: txt q.den := by rw [hf]; unfold rtxt; rw [if_neg h1, List.append_assoc]
    have hp : sl s.data.toList = f.length := by
      rw [hq.txt, hr]
      unfold sl
      rw [cut_one f (txt q.den) 47 (by rw [hf]; exact front_no q), if_pos rfl]
    have hsz : s.size = f.length + 1 + (txt q.den).length := by rw [Lib.size_eq, hq.txt, hr, List.length_append, List.length_cons]; omega
    have hv : (s.extract (f.length + 1) s.size).data.toList = txt q.den := by
      rw [ByteArray.data_extract, Array.toList_extract, List.extract_eq_take_drop, hq.txt, hr, hsz]
      rw [show f.length + 1 = (f ++ [47]).length by rw [List.length_append]; rfl, show f ++ 47 :: txt q.den = (f ++ [47]) ++ txt q.den by rw [List.append_assoc]; rfl, List.drop_left]
      exact List.take_of_length_le (by omega)
    have HR : Hid (Is N (s.extract (f.length + 1) s.size) ((q.den : Nat) : Rat)) := Lib.hid ⟨by rw [hv, rtxt_nat], hz⟩
    obtain ⟨k, hk⟩ : ∃ k, k = f.length := ⟨_, rfl⟩
    rw [← hk] at hp hsz HR
    rw [hp]
    have hk1 : k + 1 ≤ s.size := by omega
    have hk2 : ((k : Int) + 1).toNat = k + 1 := by omega
    have hk3 : ¬ (k : Int) < 0 := by omega
    have hk4 : (k : Int) + 1 ≤ s.size := by omega
    have hk5 : (0 : Int) ≤ (k : Int) + 1 := by omega
    clear hp hq hz h1 hr hv hf hsz hk
    go_wp2_with fail
    go_ret
    exact ⟨_, rfl, HR.out, rfl⟩
def abv (q : Rat) : Rat := if q.num < 0 then -q else q
theorem rtxt_head (q : Rat) : ∃ b l, rtxt q = b :: l ∧ (q.num < 0 → b = 45 ∧ l = rtxt (-q)) ∧ (¬ q.num < 0 → b ≠ 45) := by
  obtain ⟨b, l, hbl⟩ : ∃ b l, txt q.num.natAbs = b :: l := by
    cases h : txt q.num.natAbs with
    | nil => exact absurd h (txt_ne _)
    | cons b l => exact ⟨b, l, rfl⟩
  have hb := (txt_no q.num.natAbs b (by rw [hbl]; exact List.mem_cons_self)).1
  by_cases h0 : q.num < 0
  · refine ⟨45, rtxt (-q), ?_, fun _ => ⟨rfl, rfl⟩, fun h => absurd h0 h⟩
    unfold rtxt
    rw [if_pos h0, Rat.neg_num, Rat.neg_den, if_neg (show ¬ (-q.num < 0) by omega), Int.natAbs_neg]
    rfl
  · refine ⟨b, l ++ (if q.den = 1 then [] else 47 :: txt q.den), ?_, fun h => absurd h h0, fun _ => hb⟩
    unfold rtxt
    rw [if_neg h0, hbl]
    rfl
set_option maxRecDepth 100000 in
set_option maxHeartbeats 400000 in
theorem size_calls (N : Nat) (hN : N ≤ 1600000) (s : ByteArray) (q : Rat) (hq : Is N s q) (w : World) :
    Calls Tryz.prog 19 #[.string s] w fun e w' => ∃ v, e = .returned (.string v) ∧ Is N v (abv q) ∧ w' = w := by
  have hlong := hq.long
  obtain ⟨b, l, h1, h2, h3⟩ := rtxt_head q
  have hl : s.data.toList = b :: l := by rw [hq.txt, h1]
  have hsz : s.size = l.length + 1 := by rw [Lib.size_eq, hl]; rfl
  have hpos : 0 < s.size := by omega
  have hposi : (0 : Int) < s.size := by omega
  have h0 : s[0] = b := by
    have e : s[0] = s.data.toList[0]'(by rw [hl]; simp) := rfl
    rw [e]
    simp only [hl]
    rfl
  by_cases hn : q.num < 0
  · have hc : ((s[0].toNat : Int) == 45) = true := by rw [h0, (h2 hn).1]; rfl
    have hv : (s.extract 1 s.size).data.toList = rtxt (-q) := by
      rw [ByteArray.data_extract, Array.toList_extract, List.extract_eq_take_drop, hl, hsz, (h2 hn).2]
      simp
    have HR : Hid (Is N (s.extract 1 s.size) (abv q)) := Lib.hid (by unfold abv; rw [if_pos hn]; exact ⟨hv, Sizes.sz_opp hq.sz⟩)
    have h1s : (1 : Int) ≤ s.size := by omega
    have h1n : 1 ≤ s.size := by omega
    go_enter Tryz.func19, Tryz.ntmps19
    clear hq h1 h2 h3 hl hsz h0 hn hv
    go_wp2_with fail
    go_ret
    exact ⟨_, rfl, HR.out, rfl⟩
  · have hc : ((s[0].toNat : Int) == 45) = false := beq_eq_false_iff_ne.2 (by
      rw [h0]
      intro e
      exact h3 hn (UInt8.toNat_inj.1 (by have : b.toNat = 45 := by omega
                                         rw [this]; rfl)))
    have HR : Hid (Is N s (abv q)) := Lib.hid (by unfold abv; rw [if_neg hn]; exact hq)
    go_enter Tryz.func19, Tryz.ntmps19
    clear hq h1 h2 h3 hl hsz h0 hn
    go_wp2_with fail
    go_ret
    exact ⟨_, rfl, HR.out, rfl⟩
end Go.Proofs.YtjeamchaibialaaGreatDoor.Nears

/- NumNearest: the walk. Written by gen_near.py. -/
namespace Go.Proofs.YtjeamchaibialaaGreatDoor.TopNearest
open Go.RowKit Go.Proofs.YtjeamchaibialaaGreatDoorW.PrintWords Go.Proofs.YtjeamchaibialaaGreatDoorW.PrintLast Go.Proofs.YtjeamchaibialaaGreatDoorW.PrintMore Fns Limbs Nats Go.Proofs.YtjeamchaibialaaGreatDoor.Told ReadWalk Texts Rats Parses Heaps Go.Proofs.YtjeamchaibialaaGreatDoor.Splits Go.Proofs.YtjeamchaibialaaGreatDoor.Laws Go.Proofs.YtjeamchaibialaaGreatDoor.BoundWalk Go.Proofs.YtjeamchaibialaaGreatDoor.SimpWalk Go.Proofs.YtjeamchaibialaaGreatDoor.Chains Go.Proofs.YtjeamchaibialaaGreatDoor.Nears Go.Proofs.YtjeamchaibialaaGreatDoor.SimF

def lowB : Option Rat → Rat → Bool
  | none, _ => true
  | some l, q => decide (l < q)
def highB : Option Rat → Rat → Bool
  | none, _ => true
  | some h, q => decide (q < h)
def In (x y : Option Rat) (q : Rat) : Prop := (∀ l, x = some l → l < q) ∧ (∀ h, y = some h → q < h)
theorem in_iff (x y : Option Rat) (q : Rat) : (lowB x q && highB y q) = true ↔ In x y q := by
  rw [Bool.and_eq_true]
  refine and_congr ?_ ?_
  · cases x with
    | none => exact ⟨fun _ => (fun _ e => by cases e), fun _ => rfl⟩
    | some l => exact ⟨fun h _ e => by injection e with e; subst e; exact of_decide_eq_true h, fun h => decide_eq_true (h l rfl)⟩
  · cases y with
    | none => exact ⟨fun _ => (fun _ e => by cases e), fun _ => rfl⟩
    | some l => exact ⟨fun h _ e => by injection e with e; subst e; exact of_decide_eq_true h, fun h => decide_eq_true (h l rfl)⟩
theorem under_neg {x : Option Rat} {h : Rat} (ho : ∀ l, x = some l → l < h) : Under (-h) (x.map fun l => -l) := fun q e => by
  cases x with
  | none => cases e
  | some l =>
    injection e with e
    subst e
    have := ho l rfl
    grind
theorem sim_in {x y : Option Rat} {r : Rat} (hr : Sim x y r) (ho : Ord x y) : In x y r := by
  rcases hr with ⟨h1, h2, rfl⟩ | ⟨l, rfl, h2, h3⟩ | ⟨h, rfl, h2, h3, h4⟩
  · exact ⟨h1, h2⟩
  · obtain ⟨k1, k2, _⟩ := h3.best h2
    exact ⟨fun _ e => by injection e with e; subst e; exact k1, k2⟩
  · obtain ⟨k1, k2, _⟩ := h4.best (neg_le h2)
    refine ⟨fun l e => ?_, fun _ e => by injection e with e; subst e; grind⟩
    subst e
    have := k2 (-l) rfl
    grind
theorem abv_pos {q : Rat} (h : 0 ≤ q) : Nears.abv q = q := by
  unfold Nears.abv
  have := Rat.num_nonneg.2 h
  rw [if_neg (by omega)]
theorem abv_neg (q : Rat) : Nears.abv (-q) = Nears.abv q := by
  unfold Nears.abv
  rw [Rat.neg_num]
  by_cases h1 : q.num < 0
  · rw [if_pos h1, if_neg (by omega)]
  · rw [if_neg h1]
    by_cases h2 : q.num = 0
    · rw [if_neg (by omega), show q = 0 from (Rat.num_eq_zero.1 h2)]; rfl
    · rw [if_pos (by omega), Rat.neg_neg]
theorem lt_same_den {p q : Rat} (hd : p.den = q.den) (hn : p.num < q.num) : p < q := by
  rw [Rat.lt_iff, hd]
  exact Int.mul_lt_mul_of_pos_right hn (by have := q.den_nz; omega)
theorem eq_same {p q : Rat} (hd : p.den = q.den) (hn : p.num = q.num) : p = q := Rat.ext hn hd
theorem near_pos {p q : Rat} (hp : 0 ≤ p) (hq : 0 ≤ q) (hne : q ≠ p) (h1 : p.den ≤ q.den) (h2 : p.num ≤ q.num) : p.den < q.den ∨ (p.den = q.den ∧ Nears.abv p < Nears.abv q) := by
  rw [abv_pos hp, abv_pos hq]
  by_cases hd : p.den = q.den
  · refine .inr ⟨hd, lt_same_den hd ?_⟩
    have : p.num ≠ q.num := fun e => hne (eq_same hd e).symm
    omega
  · exact .inl (by omega)
theorem under_neg_in {x y : Option Rat} {q : Rat} (hq : In x y q) : Under (-q) (x.map fun l => -l) := under_neg hq.1
theorem sim_near {x y : Option Rat} {r q : Rat} (hr : Sim x y r) (ho : Ord x y) (hq : In x y q) (hne : q ≠ r) : r.den < q.den ∨ (r.den = q.den ∧ Nears.abv r < Nears.abv q) := by
  rcases hr with ⟨h1, h2, rfl⟩ | ⟨l, rfl, h2, h3⟩ | ⟨h, rfl, h2, h3, h4⟩
  · by_cases hd : (0 : Rat).den = q.den
    · refine .inr ⟨hd, ?_⟩
      rw [abv_pos Rat.le_refl]
      unfold Nears.abv
      split
      · rename_i hn
        have : q < 0 := by rw [Rat.lt_iff]; simpa using hn
        grind
      · rename_i hn
        have : 0 ≤ q := Rat.num_nonneg.1 (by omega)
        grind
    · exact .inl (by have := q.den_nz; have e : (0 : Rat).den = 1 := rfl; omega)
  · obtain ⟨k1, k2, k3⟩ := h3.best h2
    obtain ⟨j1, j2⟩ := k3 q (hq.1 l rfl) hq.2
    exact near_pos (Rat.le_trans h2 (Rat.le_of_lt k1)) (Rat.le_trans h2 (Rat.le_of_lt (hq.1 l rfl))) hne j1 j2
  · obtain ⟨k1, k2, k3⟩ := h4.best (neg_le h2)
    have hqh := hq.2 h rfl
    obtain ⟨j1, j2⟩ := k3 (-q) (by grind) (under_neg_in hq)
    have := near_pos (p := -r) (q := -q) (by grind) (by grind) (fun e => hne (by grind)) j1 j2
    rw [abv_neg, abv_neg, Rat.neg_den, Rat.neg_den] at this
    exact this

theorem sim_szN {lo hi : Option Rat} {r : Rat} {N : Nat} (hN : 1 ≤ N) (hr : Sim lo hi r) (ho : Ord lo hi) (hzl : ∀ l, lo = some l → Sizes.Sz l N) (hzh : ∀ h, hi = some h → Sizes.Sz h N) : Sizes.Sz r (4 * N + 2) := by
  rcases hr with ⟨h1, h2, rfl⟩ | ⟨l, rfl, h2, h3⟩ | ⟨h, rfl, h2, h3, h4⟩
  · exact (sz_small (N := 1) 0 (by rw [limbs_zero]; simp) (by omega)).mono (by omega)
  · exact pl_sz h3 h2 (fun q e => ho l q rfl e) hN (hzl l rfl) hzh
  · have := pl_sz h4 (neg_le h2) (under_neg (fun l e => ho l h e rfl)) hN (Sizes.sz_opp (hzh h rfl)) (fun q e => by
      cases lo with
      | none => cases e
      | some l =>
        injection e with e
        subst e
        exact Sizes.sz_opp (hzl l rfl))
    have h5 := Sizes.sz_opp this
    rwa [Rat.neg_neg] at h5
theorem cmp3 (p q : Rat) : (p < q ∧ CmpWalk.cmpQ p q = -1) ∨ (¬ p < q ∧ p = q ∧ CmpWalk.cmpQ p q = 0) ∨ (¬ p < q ∧ CmpWalk.cmpQ p q = 1) := by
  unfold CmpWalk.cmpQ
  by_cases h : p < q
  · exact .inl ⟨h, if_pos h⟩
  · rw [if_neg h]
    by_cases h2 : q < p
    · exact .inr (.inr ⟨h, if_pos h2⟩)
    · exact .inr (.inl ⟨h, Rat.le_antisymm (Rat.not_lt.1 h2) (Rat.not_lt.1 h), if_neg h2⟩)
theorem bd_none {a : ByteArray} (h : Bd a.data.toList none) : a.toList = [] := by rw [Lib.toList_data]; exact h
theorem bd_some {a : ByteArray} {p : Rat} (h : Bd a.data.toList (some p)) : a.toList.isEmpty = false := List.isEmpty_eq_false_iff.2 (by rw [Lib.toList_data, show a.data.toList = rtxt p from h]; exact rtxt_ne p)
theorem bd_is {a : ByteArray} {p : Rat} (h : Bd a.data.toList (some p)) (hs : a.size ≤ 1048576) : Is 1600000 a p := (Is.of h hs).mono (by omega)
theorem tri (a : ByteArray) : Bd a.data.toList none ∨ (∃ p, Bd a.data.toList (some p)) ∨ (a.toList.isEmpty = false ∧ No a ∧ ∀ x, ¬ Bd a.data.toList x) := by
  by_cases h0 : a.data.toList = []
  · exact .inl h0
  · by_cases h1 : ∃ p, a.data.toList = rtxt p
    · exact .inr (.inl h1)
    · refine .inr (.inr ⟨List.isEmpty_eq_false_iff.2 (by rw [Lib.toList_data]; exact h0), fun p e => h1 ⟨p, e⟩, fun x hx => ?_⟩)
      cases x with
      | none => exact h0 hx
      | some p => exact h1 ⟨p, hx⟩
set_option maxRecDepth 100000 in
set_option maxHeartbeats 2000000 in
theorem within_calls (a b c : ByteArray) (x y : Option Rat) (q : Rat) (hx : Bd a.data.toList x) (hy : Bd b.data.toList y) (ha : a.size ≤ 1048576) (hb : b.size ≤ 1048576) (hc : Is 1600000 c q) (w : World) (hok : Ok w) :
    Calls Tryz.prog 17 #[.string a, .string c, .string b] w (Says (lowB x q && highB y q) w) := by
  have HOK := Lib.hid (And.intro hok (Below.refl w.heap.size w))
  have HC := Lib.hid hc
  have HAB := Lib.hid (And.intro ha hb)
  have HX := Lib.hid hx
  have HY := Lib.hid hy
  clear hok hc ha hb hx hy
  go_enter Tryz.func17, Tryz.ntmps17
  cases x with
  | none =>
    have h0 := bd_none HX.out
    have HLOW := Lib.hid (show lowB none q = true from rfl)
    cases y with
    | none =>
      have h1 := bd_none HY.out
      go_wp2_with fail
      go_ret
      exact ⟨by rw [HLOW.out]; rfl, HOK.out.2⟩
    | some h =>
      have h1 := bd_some HY.out
      go_wp2_with fail
      refine (cmp_yes 1600000 (by omega) c b q h HC.out (bd_is HY.out HAB.out.2) _ HOK.out.1).mono ?_
      rintro e w2 ⟨rfl, hb2⟩
      have HB := Lib.hid (below_step HOK.out.2 hb2)
      clear hb2
      rcases cmp3 q h with k | k | k
      · have HHI := Lib.hid (show highB (some h) q = true from decide_eq_true k.1)
        rw [k.2]
        clear k
        go_wp2_with fail
        go_ret
        exact ⟨by rw [HLOW.out, HHI.out]; rfl, HB.out⟩
      · have HHI := Lib.hid (show highB (some h) q = false from decide_eq_false k.1)
        rw [k.2.2]
        clear k
        go_wp2_with fail
        go_ret
        exact ⟨by rw [HLOW.out, HHI.out]; rfl, HB.out⟩
      · have HHI := Lib.hid (show highB (some h) q = false from decide_eq_false k.1)
        rw [k.2]
        clear k
        go_wp2_with fail
        go_ret
        exact ⟨by rw [HLOW.out, HHI.out]; rfl, HB.out⟩
  | some l =>
    have h0 := bd_some HX.out
    go_wp2_with fail
    refine (cmp_yes 1600000 (by omega) a c l q (bd_is HX.out HAB.out.1) HC.out _ HOK.out.1).mono ?_
    rintro e w1 ⟨rfl, hb1⟩
    have HOK1 := Lib.hid (And.intro (HOK.out.1.below hb1) (below_step HOK.out.2 hb1))
    clear hb1
    clear HOK
    have HOK := Lib.hid HOK1.out
    clear HOK1
    rcases cmp3 l q with k | k | k
    · have HLOW := Lib.hid (show lowB (some l) q = true from decide_eq_true k.1)
      rw [k.2]
      clear k
      cases y with
      | none =>
        have h1 := bd_none HY.out
        go_wp2_with fail
        go_ret
        exact ⟨by rw [HLOW.out]; rfl, HOK.out.2⟩
      | some h =>
        have h1 := bd_some HY.out
        go_wp2_with fail
        refine (cmp_yes 1600000 (by omega) c b q h HC.out (bd_is HY.out HAB.out.2) _ HOK.out.1).mono ?_
        rintro e w2 ⟨rfl, hb2⟩
        have HB := Lib.hid (below_step HOK.out.2 hb2)
        clear hb2
        rcases cmp3 q h with k | k | k
        · have HHI := Lib.hid (show highB (some h) q = true from decide_eq_true k.1)
          rw [k.2]
          clear k
          go_wp2_with fail
          go_ret
          exact ⟨by rw [HLOW.out, HHI.out]; rfl, HB.out⟩
        · have HHI := Lib.hid (show highB (some h) q = false from decide_eq_false k.1)
          rw [k.2.2]
          clear k
          go_wp2_with fail
          go_ret
          exact ⟨by rw [HLOW.out, HHI.out]; rfl, HB.out⟩
        · have HHI := Lib.hid (show highB (some h) q = false from decide_eq_false k.1)
          rw [k.2]
          clear k
          go_wp2_with fail
          go_ret
          exact ⟨by rw [HLOW.out, HHI.out]; rfl, HB.out⟩
    · have HLOW := Lib.hid (show lowB (some l) q = false from decide_eq_false k.1)
      rw [k.2.2]
      clear k
      go_wp2_with fail
      go_ret
      exact ⟨by rw [HLOW.out]; rfl, HOK.out.2⟩
    · have HLOW := Lib.hid (show lowB (some l) q = false from decide_eq_false k.1)
      rw [k.2]
      clear k
      go_wp2_with fail
      go_ret
      exact ⟨by rw [HLOW.out]; rfl, HOK.out.2⟩
open Classical in
noncomputable def okB (l : List UInt8) : Bool := decide (∃ x, Bd l x)
open Classical in
theorem okB_yes {l : List UInt8} {x : Option Rat} (h : Bd l x) : okB l = true := decide_eq_true ⟨x, h⟩
open Classical in
theorem okB_no {l : List UInt8} (h : ∀ x, ¬ Bd l x) : okB l = false := decide_eq_false (fun ⟨x, hx⟩ => h x hx)
theorem out_form {l m : List UInt8} {w W : World} {e : Ending} (h : OutS l m w e W) : ∃ (s : ByteArray) (z : Int), e = .returned (.tuple #[.string s, .int .i64 z]) ∧ Below w.heap.size w W ∧
    ((∃ x y r, Bd l x ∧ Bd m y ∧ Ord x y ∧ Sim x y r ∧ s = ⟨(rtxt r).toArray⟩ ∧ z = 0) ∨ (∃ x y, Bd l x ∧ Bd m y ∧ ¬ Ord x y ∧ s = ⟨#[]⟩ ∧ z = 3) ∨ ((okB l = false ∨ okB m = false) ∧ s = ⟨#[]⟩ ∧ z = 1)) := by
  rcases h.2 with ⟨x, y, r, h1, h2, h3, h4, _, rfl⟩ | ⟨x, y, h1, h2, h3, rfl⟩ | ⟨h1, rfl⟩
  · exact ⟨_, _, rfl, h.1, .inl ⟨x, y, r, h1, h2, h3, h4, rfl, rfl⟩⟩
  · exact ⟨_, _, rfl, h.1, .inr (.inl ⟨x, y, h1, h2, h3, rfl, rfl⟩)⟩
  · refine ⟨_, _, rfl, h.1, .inr (.inr ⟨?_, rfl, rfl⟩)⟩
    rcases h1 with h1 | h1
    · exact .inl (okB_no h1)
    · exact .inr (okB_no h1)
theorem nat_lt {a b : Nat} : (a : Rat) < (b : Rat) ↔ a < b := Rat.natCast_lt_natCast
set_option maxRecDepth 100000 in
set_option maxHeartbeats 4000000 in
theorem law (a b c : ByteArray) (ha : a.size ≤ 1048576) (hb : b.size ≤ 1048576) (hc : c.size ≤ 1048576) (w : World) (hok : Ok w) :
    Calls Tryz.prog 5 #[.string a, .string b, .string c] w (Says true w) := by
  have HS := Lib.hid (And.intro ha (And.intro hb hc))
  have HOK := Lib.hid hok
  clear ha hb hc hok
  go_enter Tryz.func5, Tryz.ntmps5
  go_wp2_with fail
  refine (Sums.heads_yes _ HOK.out).mono ?_
  rintro e w1 ⟨rfl, hb1⟩
  have H1 := Lib.hid (And.intro (HOK.out.below hb1) hb1)
  clear hb1 HOK
  go_wp2_with fail
  refine (SimpWalk.calls a b HS.out.1 HS.out.2.1 _ H1.out.1).mono ?_
  rintro e w2 h2
  obtain ⟨s, z, rfl, hb2, hout⟩ := out_form h2
  have HOUT := Lib.hid hout
  have H2 := Lib.hid (And.intro (H1.out.1.below hb2) (below_step H1.out.2 hb2))
  clear h2 hb2 hout H1
  go_upto_region 4 with fail
  go_cut [9] (fun v wx => v = .bool (okB a.data.toList) ∧ Hid (Below w2.heap.size w2 wx))
  case first =>
    rcases tri a with h | ⟨p, h⟩ | ⟨h0, h1, h2⟩
    · have HD := Lib.hid (okB_yes h)
      have h0 := bd_none h
      clear h
      go_wp2_with fail
      go_meet
      case rel => exact ⟨by rw [HD.out], Lib.hid (Below.refl _ _)⟩
    · have HD := Lib.hid (okB_yes h)
      have h0 := bd_some h
      have HI := Lib.hid (bd_is h HS.out.1)
      clear h
      go_wp2_with fail
      refine (canon_yes 1600000 (by omega) a p HI.out _ H2.out.1).mono ?_
      rintro e w3 ⟨rfl, hb3⟩
      have HB3 := Lib.hid hb3
      clear hb3
      go_wp2_with fail
      go_meet
      case rel => exact ⟨by rw [HD.out], HB3⟩
    · have HD := Lib.hid (okB_no h2)
      have HN := Lib.hid h1
      clear h1 h2
      go_wp2_with fail
      refine (canon_no a (by have := HS.out.1; omega) HN.out _ H2.out.1).mono ?_
      rintro e w3 ⟨rfl, hb3⟩
      have HB3 := Lib.hid hb3
      clear hb3
      go_wp2_with fail
      go_meet
      case rel => exact ⟨by rw [HD.out], HB3⟩
  case rest =>
    obtain ⟨rfl, HC⟩ := hcut
    obtain ⟨w4, hw4⟩ : ∃ u, u = wc := ⟨_, rfl⟩
    rw [← hw4] at HC ⊢
    have H4 := Lib.hid (And.intro (H2.out.1.below HC.out) (below_step H2.out.2 HC.out))
    clear hw4 HC H2
    go_upto_region 5 with fail
    go_cut [10] (fun v wx => v = .bool (okB b.data.toList) ∧ Hid (Below w4.heap.size w4 wx))
    case first =>
      rcases tri b with h | ⟨p, h⟩ | ⟨h0, h1, h2⟩
      · have HD := Lib.hid (okB_yes h)
        have h0 := bd_none h
        clear h
        go_wp2_with fail
        go_meet
        case rel => exact ⟨by rw [HD.out], Lib.hid (Below.refl _ _)⟩
      · have HD := Lib.hid (okB_yes h)
        have h0 := bd_some h
        have HI := Lib.hid (bd_is h HS.out.2.1)
        clear h
        go_wp2_with fail
        refine (canon_yes 1600000 (by omega) b p HI.out _ H4.out.1).mono ?_
        rintro e w3 ⟨rfl, hb3⟩
        have HB3 := Lib.hid hb3
        clear hb3
        go_wp2_with fail
        go_meet
        case rel => exact ⟨by rw [HD.out], HB3⟩
      · have HD := Lib.hid (okB_no h2)
        have HN := Lib.hid h1
        clear h1 h2
        go_wp2_with fail
        refine (canon_no b (by have := HS.out.2.1; omega) HN.out _ H4.out.1).mono ?_
        rintro e w3 ⟨rfl, hb3⟩
        have HB3 := Lib.hid hb3
        clear hb3
        go_wp2_with fail
        go_meet
        case rel => exact ⟨by rw [HD.out], HB3⟩
    case rest =>
      obtain ⟨rfl, HC⟩ := hcut
      obtain ⟨w5, hw5⟩ : ∃ u, u = wc := ⟨_, rfl⟩
      rw [← hw5] at HC ⊢
      have H5 := Lib.hid (And.intro (H4.out.1.below HC.out) (below_step H4.out.2 HC.out))
      clear hw5 HC H4
      rcases HOUT.out with ⟨x, y, r, hx, hy, ho, hr, rfl, rfl⟩ | ⟨x, y, hx, hy, ho, rfl, rfl⟩ | ⟨hn, rfl, rfl⟩
      · rw [okB_yes hx, okB_yes hy]
        have HXY := Lib.hid (And.intro hx (And.intro hy (And.intro ho hr)))
        have hzr := sim_szN (N := 120000) (by omega) hr ho (fun l e => (Is.of (show a.data.toList = rtxt l by subst e; exact hx) HS.out.1).sz) (fun l e => (Is.of (show b.data.toList = rtxt l by subst e; exact hy) HS.out.2.1).sz)
        obtain ⟨X, hX⟩ : ∃ X : ByteArray, X = ⟨(rtxt r).toArray⟩ := ⟨_, rfl⟩
        have hXI : Is 1600000 X r := ⟨by rw [hX], hzr.mono (by omega)⟩
        have HXI := Lib.hid hXI
        rw [← hX]
        clear hx hy ho hr hzr hX hXI HOUT
        go_upto_region 8 with fail
        go_cut [56] (fun v wx => v = .bool false ∧ Hid (Below w5.heap.size w5 wx))
        case first =>
          cases x with
          | none =>
            have h0 := bd_none HXY.out.1
            go_wp2_with fail
            go_meet
            case rel => exact ⟨rfl, Lib.hid (Below.refl _ _)⟩
          | some l =>
            have h0 := bd_some HXY.out.1
            cases y with
            | none =>
              have h1 := bd_none HXY.out.2.1
              go_wp2_with fail
              go_meet
              case rel => exact ⟨rfl, Lib.hid (Below.refl _ _)⟩
            | some h =>
              have h1 := bd_some HXY.out.2.1
              go_wp2_with fail
              refine (cmp_yes 1600000 (by omega) a b l h (bd_is HXY.out.1 HS.out.1) (bd_is HXY.out.2.1 HS.out.2.1) _ H5.out.1).mono ?_
              rintro e w6 ⟨rfl, hb6⟩
              have HB6 := Lib.hid hb6
              have hs : CmpWalk.cmpQ l h = -1 := if_pos (HXY.out.2.2.1 l h rfl rfl)
              rw [hs]
              clear hb6 hs
              go_wp2_with fail
              go_meet
              case rel => exact ⟨rfl, HB6⟩
        case rest =>
          obtain ⟨rfl, HC⟩ := hcut
          obtain ⟨w6, hw6⟩ : ∃ u, u = wc := ⟨_, rfl⟩
          rw [← hw6] at HC ⊢
          have H6 := Lib.hid (And.intro (H5.out.1.below HC.out) (below_step H5.out.2 HC.out))
          have HIN := Lib.hid ((in_iff x y r).2 (sim_in HXY.out.2.2.2 HXY.out.2.2.1))
          clear hw6 HC H5
          go_wp2_with fail
          refine (no_calls 0 (by omega) (by omega) _).mono ?_
          rintro e w7 ⟨rfl, hw7⟩
          rw [hw7]
          clear hw7
          go_wp2_with fail
          refine (canon_yes 1600000 (by omega) X r HXI.out _ H6.out.1).mono ?_
          rintro e w8 ⟨rfl, hb8⟩
          have H8 := Lib.hid (And.intro (H6.out.1.below hb8) (below_step H6.out.2 hb8))
          clear hb8 H6
          go_wp2_with fail
          refine (within_calls a b X x y r HXY.out.1 HXY.out.2.1 HS.out.1 HS.out.2.1 HXI.out _ H8.out.1).mono ?_
          rintro e w9 ⟨rfl, hb9⟩
          rw [HIN.out]
          have H9 := Lib.hid (And.intro (H8.out.1.below hb9) (below_step H8.out.2 hb9))
          clear hb9 H8
          have tc : (∃ q, Is 1600000 c q) ∨ No c := by
            by_cases h : ∃ p, c.data.toList = rtxt p
            · obtain ⟨p, h⟩ := h
              exact .inl ⟨p, (Is.of h HS.out.2.2).mono (by omega)⟩
            · exact .inr fun p e => h ⟨p, e⟩
          rcases tc with ⟨q, hq⟩ | hn
          · have HQ := Lib.hid hq
            clear hq
            go_wp2_with fail
            refine (canon_yes 1600000 (by omega) c q HQ.out _ H9.out.1).mono ?_
            rintro e w10 ⟨rfl, hb10⟩
            have H10 := Lib.hid (And.intro (H9.out.1.below hb10) (below_step H9.out.2 hb10))
            clear hb10 H9
            by_cases hqr : q = r
            · have hcx : X = c := HQ.out.same HXI.out hqr.symm
              have hee : (c.toList == X.toList) = true := by rw [hcx]; exact beq_self_eq_true _
              clear hcx hqr
              go_wp2_with fail
              go_ret
              exact ⟨rfl, H10.out.2⟩
            · have hee : (c.toList == X.toList) = false := beq_eq_false_iff_ne.2 (HQ.out.ne HXI.out hqr)
              have HNE := Lib.hid hqr
              clear hqr
              go_wp2_with fail
              refine (within_calls a b c x y q HXY.out.1 HXY.out.2.1 HS.out.1 HS.out.2.1 HQ.out _ H10.out.1).mono ?_
              rintro e w11 ⟨rfl, hb11⟩
              have H11 := Lib.hid (And.intro (H10.out.1.below hb11) (below_step H10.out.2 hb11))
              clear hb11 H10
              by_cases hin : (lowB x q && highB y q) = true
              · have HNR := Lib.hid (sim_near HXY.out.2.2.2 HXY.out.2.2.1 ((in_iff x y q).1 hin) HNE.out)
                rw [hin]
                clear hin
                go_wp2_with fail
                refine (under_calls 1600000 (by omega) X r HXI.out _).mono ?_
                rintro e w12 ⟨u1, rfl, hu1, hw⟩
                rw [hw]
                have HU1 := Lib.hid hu1
                clear hu1 hw
                go_wp2_with fail
                refine (under_calls 1600000 (by omega) c q HQ.out _).mono ?_
                rintro e w13 ⟨u2, rfl, hu2, hw⟩
                rw [hw]
                have HU2 := Lib.hid hu2
                clear hu2 hw
                go_wp2_with fail
                refine (cmp_yes 1600000 (by omega) u1 u2 _ _ HU1.out HU2.out _ H11.out.1).mono ?_
                rintro e w14 ⟨rfl, hb14⟩
                have H14 := Lib.hid (And.intro (H11.out.1.below hb14) (below_step H11.out.2 hb14))
                clear hb14 H11
                rcases HNR.out with hd | ⟨hd, hab⟩
                · have hs : CmpWalk.cmpQ ((r.den : Nat) : Rat) ((q.den : Nat) : Rat) = -1 := if_pos (nat_lt.2 hd)
                  rw [hs]
                  clear hs hd
                  go_wp2_with fail
                  go_ret
                  exact ⟨rfl, H14.out.2⟩
                · have hs : CmpWalk.cmpQ ((r.den : Nat) : Rat) ((q.den : Nat) : Rat) = 0 := by
                    unfold CmpWalk.cmpQ
                    rw [hd, if_neg Rat.lt_irrefl, if_neg Rat.lt_irrefl]
                  have hs2 : CmpWalk.cmpQ (Nears.abv r) (Nears.abv q) = -1 := if_pos hab
                  have HS2 := Lib.hid hs2
                  rw [hs]
                  clear hs hs2 hd hab
                  go_wp2_with fail
                  refine (size_calls 1600000 (by omega) X r HXI.out _).mono ?_
                  rintro e w15 ⟨v1, rfl, hv1, hw⟩
                  rw [hw]
                  have HV1 := Lib.hid hv1
                  clear hv1 hw
                  go_wp2_with fail
                  refine (size_calls 1600000 (by omega) c q HQ.out _).mono ?_
                  rintro e w16 ⟨v2, rfl, hv2, hw⟩
                  rw [hw]
                  have HV2 := Lib.hid hv2
                  clear hv2 hw
                  go_wp2_with fail
                  refine (cmp_yes 1600000 (by omega) v1 v2 _ _ HV1.out HV2.out _ H14.out.1).mono ?_
                  rintro e w17 ⟨rfl, hb17⟩
                  have HB17 := Lib.hid (below_step H14.out.2 hb17)
                  rw [HS2.out]
                  clear hb17
                  go_wp2_with fail
                  go_ret
                  exact ⟨rfl, HB17.out⟩
              · rw [Bool.not_eq_true] at hin
                rw [hin]
                clear hin
                go_wp2_with fail
                go_ret
                exact ⟨rfl, H11.out.2⟩
          · have HN := Lib.hid hn
            clear hn
            go_wp2_with fail
            refine (canon_no c (by have := HS.out.2.2; omega) HN.out _ H9.out.1).mono ?_
            rintro e w10 ⟨rfl, hb10⟩
            have HB := Lib.hid (below_step H9.out.2 hb10)
            clear hb10
            go_wp2_with fail
            go_ret
            exact ⟨rfl, HB.out⟩
      · rw [okB_yes hx, okB_yes hy]
        obtain ⟨l, h, rfl, rfl, hlt⟩ : ∃ l h, x = some l ∧ y = some h ∧ ¬ l < h := by
          cases x with
          | none => exact absurd (fun _ _ e => by cases e) ho
          | some l =>
            cases y with
            | none => exact absurd (fun _ _ _ e => by cases e) ho
            | some h => exact ⟨l, h, rfl, rfl, fun k => ho (fun _ _ e f => by injection e with e; injection f with f; subst e f; exact k)⟩
        have h0 := bd_some hx
        have h1 := bd_some hy
        have HXY := Lib.hid (And.intro hx hy)
        have HLT := Lib.hid hlt
        clear hx hy ho hlt HOUT
        go_wp2_with fail
        refine (cmp_yes 1600000 (by omega) a b l h (bd_is HXY.out.1 HS.out.1) (bd_is HXY.out.2 HS.out.2.1) _ H5.out.1).mono ?_
        rintro e w6 ⟨rfl, hb6⟩
        have HB6 := Lib.hid (below_step H5.out.2 hb6)
        clear hb6
        rcases cmp3 l h with k | k | k
        · exact absurd k.1 HLT.out
        · rw [k.2.2]
          clear k
          go_wp2_with fail
          refine (no_calls 3 (by omega) (by omega) _).mono ?_
          rintro e w7 ⟨rfl, hw7⟩
          rw [hw7]
          clear hw7
          go_wp2_with fail
          go_ret
          exact ⟨rfl, HB6.out⟩
        · rw [k.2]
          clear k
          go_wp2_with fail
          refine (no_calls 3 (by omega) (by omega) _).mono ?_
          rintro e w7 ⟨rfl, hw7⟩
          rw [hw7]
          clear hw7
          go_wp2_with fail
          go_ret
          exact ⟨rfl, HB6.out⟩
      · have HB5 := Lib.hid H5.out.2
        obtain ⟨oa, hoa⟩ : ∃ o, o = okB a.data.toList := ⟨_, rfl⟩
        obtain ⟨ob, hob⟩ : ∃ o, o = okB b.data.toList := ⟨_, rfl⟩
        rw [← hoa, ← hob] at hn ⊢
        clear hoa hob HOUT H5
        cases oa with
        | false =>
          clear hn
          go_wp2_with fail
          refine (no_calls 1 (by omega) (by omega) _).mono ?_
          rintro e w7 ⟨rfl, hw7⟩
          rw [hw7]
          clear hw7
          go_wp2_with fail
          go_ret
          exact ⟨rfl, HB5.out⟩
        | true =>
          obtain rfl : ob = false := by rcases hn with h | h; cases h; exact h
          clear hn
          go_wp2_with fail
          refine (no_calls 1 (by omega) (by omega) _).mono ?_
          rintro e w7 ⟨rfl, hw7⟩
          rw [hw7]
          clear hw7
          go_wp2_with fail
          go_ret
          exact ⟨rfl, HB5.out⟩
end Go.Proofs.YtjeamchaibialaaGreatDoor.TopNearest
