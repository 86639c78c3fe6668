/- Joined: Plac Bare -/
import Derived.Test.YtjeamchaibialaaGreatDoorM26
import Derived.Test.YtjeamchaibialaaGreatDoorM17
import Derived.Test.YtjeamchaibialaaGreatDoorM11
set_option linter.unusedVariables false
set_option linter.unusedSimpArgs false
/- The places of a decimal: plain facts. -/
namespace Go.Proofs.YtjeamchaibialaaGreatDoor.Placs
open ReadWalk Texts Rats Limbs Go.Proofs.YtjeamchaibialaaGreatDoor.Decis Parses Go.Proofs.YtjeamchaibialaaGreatDoor.Reads2

theorem dig_inj {x y : UInt8} (hx : 48 ≤ x.toNat ∧ x.toNat ≤ 57) (hy : 48 ≤ y.toNat ∧ y.toNat ≤ 57) (h : dig x = dig y) : x = y := by
  unfold dig at h
  apply UInt8.toNat_inj.1
  omega
theorem dec_inj : ∀ {a b : List UInt8}, Dig a → Dig b → a.length = b.length → dec a = dec b → a = b
  | [], [], _, _, _, _ => rfl
  | x :: a, y :: b, ha, hb, hl, h => by
    have hl' : a.length = b.length := by simpa using hl
    rw [dec_cons, dec_cons, hl'] at h
    have h1 := dec_lt (l := a) (fun z hz => ha z (List.mem_cons_of_mem _ hz))
    have h2 := dec_lt (l := b) (fun z hz => hb z (List.mem_cons_of_mem _ hz))
    rw [hl'] at h1
    have hp : 0 < 10 ^ b.length := Nat.pow_pos (by omega)
    generalize 10 ^ b.length = P at *
    have e1 : (dig x * P + dec a) / P = dig x := by rw [Nat.mul_comm, Nat.mul_add_div hp, Nat.div_eq_of_lt h1, Nat.add_zero]
    have e2 : (dig y * P + dec b) / P = dig y := by rw [Nat.mul_comm, Nat.mul_add_div hp, Nat.div_eq_of_lt h2, Nat.add_zero]
    have e3 : dig x = dig y := by rw [← e1, ← e2, h]
    have e4 : dec a = dec b := by rw [e3] at h; omega
    rw [dig_inj (ha x List.mem_cons_self) (hb y List.mem_cons_self) e3, dec_inj (fun z hz => ha z (List.mem_cons_of_mem _ hz)) (fun z hz => hb z (List.mem_cons_of_mem _ hz)) hl' e4]
  | [], _ :: _, _, _, hl, _ => by simp at hl
  | _ :: _, [], _, _, hl, _ => by simp at hl
theorem dec_rep (k : Nat) : dec (List.replicate k 48) = 0 := by
  induction k with
  | zero => rfl
  | succ k ih => rw [List.replicate_succ, dec_cons, ih, show dig 48 = 0 from rfl, Nat.zero_mul]
theorem dig_rep (k : Nat) : Dig (List.replicate k 48) := fun b hb => by rw [List.eq_of_mem_replicate hb]; decide
theorem dig_app {a b : List UInt8} : Dig (a ++ b) ↔ Dig a ∧ Dig b := by
  constructor
  · exact fun h => ⟨fun x hx => h x (List.mem_append_left _ hx), fun x hx => h x (List.mem_append_right _ hx)⟩
  · rintro ⟨h1, h2⟩ x hx
    rcases List.mem_append.1 hx with h | h
    · exact h1 x h
    · exact h2 x h
theorem txt_short {n k : Nat} (h : n < 10 ^ k) (hk : 1 ≤ k) : (txt n).length ≤ k := by
  by_cases h0 : n = 0
  · subst h0; rw [txt_small (by omega)]; exact hk
  · have h1 := Sizes.dec_ge (txt_dig n) (txt_ne n) (txt_head h0)
    rw [dec_txt] at h1
    have := (Nat.pow_lt_pow_iff_right (by omega : 1 < 10)).1 (Nat.lt_of_le_of_lt h1 h)
    omega
theorem pad_txt {l : List UInt8} {k : Nat} (hd : Dig l) (hl : l.length = k + 1) : pad k (txt (dec l)) = l := by
  refine dec_inj ?_ hd ?_ ?_
  · unfold pad
    exact dig_app.2 ⟨dig_rep _, txt_dig _⟩
  · rw [pad_len]
    have := txt_short (n := dec l) (k := k + 1) (by rw [← hl]; exact dec_lt hd) (by omega)
    omega
  · unfold pad
    rw [dec_append, dec_rep, Nat.zero_mul, Nat.zero_add, dec_txt]
theorem txt_pow (k : Nat) : txt (10 ^ k) = 49 :: List.replicate k 48 := by
  induction k with
  | zero => rw [Nat.pow_zero, txt_small (by omega)]; rfl
  | succ k ih =>
    rw [Nat.pow_succ, txt_ten (Nat.pos_iff_ne_zero.1 (Nat.pow_pos (by omega))), ih]
    rw [List.cons_append]
    congr 1
    exact List.replicate_succ'.symm
theorem no_point {l : List UInt8} (h : Dig l) : ∀ b ∈ l, b ≠ 46 := fun b hb e => by
  have := h b hb
  rw [e] at this
  exact absurd this (by decide)
theorem lit_iff (h t : List UInt8) : Reads2.Lit (h ++ 46 :: t) ↔ Num h ∧ Figs t := by
  rcases cut_cases h 46 with ⟨a, x, e, hno, _⟩ | ⟨hno, _⟩
  · have hc : Lib.cut (h ++ 46 :: t) [46] = (a, x ++ 46 :: t, true) := by
      rw [e, List.append_assoc]
      exact cut_one a (x ++ 46 :: t) 46 hno
    unfold Reads2.Lit
    rw [hc]
    constructor
    · rintro ⟨_, h2⟩
      exact absurd ((h2 rfl).2 46 (List.mem_append_right _ List.mem_cons_self)) (by decide)
    · rintro ⟨h1, _⟩
      exact absurd (h1.1 46 (by rw [e]; exact List.mem_append_right _ List.mem_cons_self)) (by decide)
  · unfold Reads2.Lit
    rw [cut_one h t 46 hno]
    exact ⟨fun ⟨h1, h2⟩ => ⟨h1, h2 rfl⟩, fun ⟨h1, h2⟩ => ⟨h1, fun _ => h2⟩⟩
theorem lit_val {h t : List UInt8} (hh : Num h) : litOf (h ++ 46 :: t) = mkRat (dec (h ++ t) : Nat) (10 ^ t.length) := by
  unfold litOf
  rw [cut_one h t 46 (no_point hh.1)]
  rfl
theorem lit_num {h : List UInt8} (hh : Num h) : Reads2.Lit h ∧ litOf h = ((dec h : Int) : Rat) := by
  have hc := cut_no h 46 (no_point hh.1)
  unfold Reads2.Lit litOf
  rw [hc]
  refine ⟨⟨hh, fun e => by cases e⟩, ?_⟩
  show frac false (dec (h ++ [])) (10 ^ 0) = _
  rw [List.append_nil]
  unfold frac
  rw [sg_false, Nat.pow_zero, Rat.mkRat_one]
theorem mk_more (a k j : Nat) : mkRat (a * 10 ^ j : Nat) (10 ^ (k + j)) = mkRat (a : Int) (10 ^ k) := by
  rw [Nat.pow_add, Int.natCast_mul, Rat.mkRat_mul_right (Nat.pos_iff_ne_zero.1 (Nat.pow_pos (by omega)))]
theorem lit_zeros {h t : List UInt8} (hh : Num h) (j : Nat) : litOf (h ++ 46 :: (t ++ List.replicate j 48)) = litOf (h ++ 46 :: t) := by
  rw [lit_val hh, lit_val hh, ← List.append_assoc, dec_append, dec_rep, Nat.add_zero, List.length_append, List.length_replicate, mk_more]
theorem lit_sum {h t : List UInt8} (hh : Num h) : ((dec h : Int) : Rat) + ((dec t : Int) : Rat) / (((10 ^ t.length : Nat) : Int) : Rat) = litOf (h ++ 46 :: t) := by
  rw [lit_val hh, Rat.mkRat_eq_div, dec_append]
  have hp : (((10 ^ t.length : Nat) : Int) : Rat) ≠ 0 := by
    intro e
    rw [show (0 : Rat) = ((0 : Int) : Rat) from rfl, Rat.intCast_inj] at e
    have : 0 < 10 ^ t.length := Nat.pow_pos (by omega)
    omega
  have e1 : (((dec h * 10 ^ t.length + dec t : Nat) : Int) : Rat) = ((dec h : Int) : Rat) * (((10 ^ t.length : Nat) : Int) : Rat) + ((dec t : Int) : Rat) := by
    rw [Int.natCast_add, Int.natCast_mul, Rat.intCast_add, Rat.intCast_mul]
  have e2 : ((10 ^ t.length : Nat) : Rat) = (((10 ^ t.length : Nat) : Int) : Rat) := rfl
  rw [e1, e2]
  generalize (((10 ^ t.length : Nat) : Int) : Rat) = P at *
  grind
theorem places {h s : List UInt8} {j p : Nat} (hh : Num h) (hs : Dig s) (h1 : s ≠ []) (hl : s.length = 1 ∨ s.getLast? ≠ some 48) (hp : Least (litOf (h ++ 46 :: (s ++ List.replicate j 48))).den p) :
    dtxt (litOf (h ++ 46 :: (s ++ List.replicate j 48))) (max p 1) = h ++ 46 :: s := by
  rw [lit_zeros hh, lit_val hh] at *
  obtain ⟨M, hM⟩ : ∃ M, M = dec (h ++ s) := ⟨_, rfl⟩
  obtain ⟨S, hS⟩ : ∃ S, S = s.length := ⟨_, rfl⟩
  have hS1 : 1 ≤ S := by rw [hS]; exact List.length_pos_iff.2 h1
  have hP0 : ∀ k, 10 ^ k ≠ 0 := fun k => Nat.pos_iff_ne_zero.1 (Nat.pow_pos (by omega))
  rw [← hM, ← hS] at hp ⊢
  have hf : mkRat (M : Int) (10 ^ S) = frac false M (10 ^ S) := rfl
  obtain ⟨q, hq⟩ : ∃ q, q = mkRat (M : Int) (10 ^ S) := ⟨_, rfl⟩
  have hden : q.den = 10 ^ S / Nat.gcd M (10 ^ S) := by rw [hq, hf, frac_den (hP0 S)]
  have hnum : q.num = ((M / Nat.gcd M (10 ^ S) : Nat) : Int) := by rw [hq, hf, frac_num (hP0 S), sg_false]
  rw [← hq] at hp ⊢
  obtain ⟨g, hg⟩ : ∃ g, g = Nat.gcd M (10 ^ S) := ⟨_, rfl⟩
  rw [← hg] at hden hnum
  have hg1 : g ∣ M := hg ▸ Nat.gcd_dvd_left _ _
  have hg2 : g ∣ 10 ^ S := hg ▸ Nat.gcd_dvd_right _ _
  have hg0 : 0 < g := by rw [hg]; exact Nat.gcd_pos_of_pos_right _ (Nat.pow_pos (by omega))
  obtain ⟨a, ha⟩ := hg1
  obtain ⟨b, hb⟩ := hg2
  have hda : q.num = (a : Int) := by rw [hnum, ha, Nat.mul_div_cancel_left _ hg0]
  have hdb : q.den = b := by rw [hden, hb, Nat.mul_div_cancel_left _ hg0]
  have hbd : b ∣ 10 ^ S := ⟨g, by rw [hb, Nat.mul_comm]⟩
  have hb0 : 0 < b := hdb ▸ Nat.pos_of_ne_zero q.den_nz
  have hpS : p ≤ S := hp.2 S (by rw [hdb]; exact hbd)
  have hmax : max p 1 = S := by
    rcases hl with h | h
    · omega
    · rcases Nat.lt_or_ge p S with hlt | hge
      · exfalso
        obtain ⟨k, hk⟩ : ∃ k, S = k + 1 := ⟨S - 1, by omega⟩
        have h10 : b ∣ 10 ^ k := Nat.dvd_trans (by rw [← hdb]; exact hp.1) (Nat.pow_dvd_pow 10 (by omega))
        obtain ⟨c, hc⟩ := h10
        have h10g : g = 10 * c := by
          have : g * b = (10 * c) * b := by rw [← hb, hk, Nat.pow_succ, hc]; grind
          exact Nat.eq_of_mul_eq_mul_right hb0 this
        obtain ⟨s', x, rfl⟩ : ∃ s' x, s = s' ++ [x] := ⟨s.dropLast, s.getLast h1, (List.dropLast_concat_getLast h1).symm⟩
        rw [List.getLast?_append] at h
        have hx := (dig_app.1 hs).2 x List.mem_cons_self
        rw [← List.append_assoc, dec_snoc] at hM
        have hMg : M = 10 * (c * a) := by rw [ha, h10g, Nat.mul_assoc]
        have h0 : dig x = 0 := by
          unfold dig at *
          omega
        have : x = 48 := dig_inj hx (by decide) (by rw [h0]; rfl)
        exact h (by rw [this]; rfl)
      · omega
  rw [hmax]
  have hval : q.num.natAbs * 10 ^ S / q.den = M := by
    rw [hda, hdb, Int.natAbs_natCast, hb, ha, ← Nat.mul_assoc, Nat.mul_div_cancel _ hb0, Nat.mul_comm]
  unfold dtxt
  rw [hval, if_neg (by omega), List.nil_append]
  have hdig : Dig (h ++ s) := dig_app.2 ⟨hh.1, hs⟩
  have hpad : pad S (txt M) = h ++ s := by
    rw [hM]
    rcases hh.2 with e | ⟨e1, e2⟩
    · exact pad_txt hdig (by rw [e, List.length_append, hS]; simp; omega)
    · have hne : h ++ s ≠ [] := fun e => e1 (List.append_eq_nil_iff.1 e).1
      have hu := txt_uniq _ (h ++ s) rfl hdig hne (by rw [head_app e1]; exact e2)
      rw [← hu]
      unfold pad
      have : 1 ≤ h.length := List.length_pos_iff.2 e1
      rw [show S + 1 - (h ++ s).length = 0 from by rw [List.length_append, hS]; omega]
      rfl
  rw [hpad]
  unfold point
  have hll : (h ++ s).length - S = h.length := by rw [List.length_append, hS]; omega
  rw [hll, List.take_left', List.drop_left']
  · rfl
  · rfl
end Go.Proofs.YtjeamchaibialaaGreatDoor.Placs

/- The law's decimal and bare: the walks. -/
namespace Go.Proofs.YtjeamchaibialaaGreatDoor.Bares
open Go.RowKit Go.Proofs.YtjeamchaibialaaGreatDoorW.PrintWords Go.Proofs.YtjeamchaibialaaGreatDoorW.PrintLast Go.Proofs.YtjeamchaibialaaGreatDoorW.PrintMore Fns Limbs Nats Go.Proofs.YtjeamchaibialaaGreatDoor.Told ReadWalk Texts Rats Parses Heaps Go.Proofs.YtjeamchaibialaaGreatDoor.Placs

open Classical in
set_option maxRecDepth 100000 in
set_option maxHeartbeats 400000 in
theorem decimal_calls (s : ByteArray) (hs : s.size ≤ 1000000000) (w : World) :
    Calls Tryz.prog 22 #[.string s] w fun e w' => e = .returned (.bool (decide (Figs s.data.toList))) ∧ w' = w := by
  obtain ⟨l, hl⟩ : ∃ l, l = s.data.toList := ⟨_, rfl⟩
  have hsl : s.size = l.length := by rw [hl, Lib.size_eq]
  have hx : ∀ k (hk : k < s.size), s[k] ∈ l ∧ l.take (k + 1) = l.take k ++ [s[k]] ∧ l[k]? = some s[k] := fun k hk => by
    have h1 : k < l.length := by omega
    have h2 : s[k] = l[k] := by simp only [hl]; rfl
    exact ⟨by rw [h2]; exact List.getElem_mem h1, by rw [h2, List.take_succ_eq_append_getElem h1], by rw [h2, List.getElem?_eq_getElem h1]⟩
  have HX := Lib.hid hx
  have HSL := Lib.hid hsl
  rw [← hl]
  clear hl hsl hx
  go_enter Tryz.func22, Tryz.ntmps22
  go_wp2_with fail
  go_loopw [3] (fun v3 wr => ∃ k : Nat, k ≤ s.size ∧ v3 = .int .i64 k ∧ Hid (Dig (l.take k)) ∧ wr = w) (fun v3 _ => s.size - (intOf v3).toNat)
  case atStart => exact ⟨0, Nat.zero_le _, rfl, Lib.hid (by rw [List.take_zero]; exact fun b hb => by cases hb), rfl⟩
  case round =>
    obtain ⟨k, hk, rfl, hd, rfl⟩ := hrel
    by_cases hks : k < s.size
    · have hki : (k : Int) < s.size := by omega
      have hno : ¬ (48 ≤ (s[k]).toNat ∧ (s[k]).toNat ≤ 57) → decide (Figs l) = false := fun h => decide_eq_false (fun h2 => h (h2.2 _ (HX.out k hks).1))
      have HNO := Lib.hid hno
      have hgo : (48 ≤ (s[k]).toNat ∧ (s[k]).toNat ≤ 57) → Dig (l.take (k + 1)) := fun h b hb => by
        rw [(HX.out k hks).2.1, List.mem_append] at hb
        rcases hb with hb | hb
        · exact hd.out b hb
        · rw [List.mem_singleton] at hb; rw [hb]; exact h
      have HGO := Lib.hid hgo
      clear hno hgo
      by_cases h1 : (s[k]).toNat < 48
      · have h1' : ((s[k]).toNat : Int) < 48 := by omega
        go_wp2_with fail
        go_ret
        exact ⟨by rw [HNO.out (by omega)]; rfl, rfl⟩
      · have h1' : ¬ ((s[k]).toNat : Int) < 48 := by omega
        by_cases h2 : 57 < (s[k]).toNat
        · have h2' : (57 : Int) < (s[k]).toNat := by omega
          go_wp2_with fail
          go_ret
          exact ⟨by rw [HNO.out (by omega)]; rfl, rfl⟩
        · have h2' : ¬ (57 : Int) < (s[k]).toNat := by omega
          go_wp2_with fail
          go_roundw
          case rel => exact ⟨k + 1, by omega, rfl, Lib.hid (HGO.out (by omega)), trivial⟩
          case measure => simp [intOf]; omega
    · have hke : k = l.length := by have := HSL.out; omega
      have hD : Dig l := by have := hd.out; rw [hke, List.take_length] at this; exact this
      have HD := Lib.hid hD
      have hks' : ¬ (k : Int) < s.size := by omega
      clear hD
      by_cases h0 : s.toList = []
      · have hr : decide (Figs l) = false := decide_eq_false (fun h => h.1 (List.eq_nil_of_length_eq_zero (by rw [← HSL.out, Lib.size_eq, ← Lib.toList_data, h0]; rfl)))
        have HR := Lib.hid hr
        clear hr
        go_wp2_with fail
        go_ret
        exact ⟨by rw [HR.out]; rfl, rfl⟩
      · have hr : decide (Figs l) = true := decide_eq_true ⟨fun e => h0 (by
          have h9 := HSL.out
          rw [e, List.length_nil] at h9
          exact List.eq_nil_of_length_eq_zero (by rw [Lib.toList_data, ← Lib.size_eq, h9])), HD.out⟩
        have HR := Lib.hid hr
        have h0' : (s.toList == []) = false := beq_eq_false_iff_ne.2 h0
        have h0'' : (!s.toList.isEmpty) = true := by rw [List.isEmpty_eq_false_iff.2 h0]; rfl
        clear hr
        go_wp2_with fail
        go_ret
        exact ⟨by rw [HR.out, ← h0'']; rfl, rfl⟩

theorem txt_bare {l : List UInt8} (hd : Dig l) (h1 : l ≠ []) (h : l.length = 1 ∨ l.head? ≠ some 48) : txt (dec l) = l := by
  rcases h with h | h
  · match l, h with
    | [x], _ =>
      have hx := hd x List.mem_cons_self
      have hdx : dec [x] = dig x := by simp [dec]
      have h9 : dig x < 10 := by unfold dig; omega
      rw [hdx, txt_small h9, chr_dig hx]
  · exact (txt_uniq _ l rfl hd h1 h).symm
theorem dec_drop {x : UInt8} {l : List UInt8} (h : x = 48) : dec (x :: l) = dec l := by
  rw [dec_cons, h, show dig 48 = 0 from rfl, Nat.zero_mul, Nat.zero_add]
set_option maxRecDepth 100000 in
set_option maxHeartbeats 400000 in
theorem bare_calls (s : ByteArray) (hs : s.size ≤ 1000000000) (hf : Figs s.data.toList) (w : World) :
    Calls Tryz.prog 23 #[.string s] w fun e w' => e = .returned (.string ⟨(txt (dec s.data.toList)).toArray⟩) ∧ w' = w := by
  obtain ⟨n, hn⟩ : ∃ n, n = dec s.data.toList := ⟨_, rfl⟩
  rw [← hn]
  have HF := Lib.hid (And.intro hf hn)
  clear hf hn
  go_enter Tryz.func23, Tryz.ntmps23
  go_wp2_with fail
  go_loop [0] (fun v0 => ∃ t : ByteArray, v0 = .string t ∧ 1 ≤ t.size ∧ t.size ≤ 1000000000 ∧ Hid (Dig t.data.toList ∧ n = dec t.data.toList)) (fun v0 => match v0 with | .string t => t.size | _ => 0)
  case atStart => exact ⟨s, rfl, by rw [Lib.size_eq]; exact List.length_pos_iff.2 HF.out.1.1, hs, HF.out.1.2, HF.out.2⟩
  case round =>
    obtain ⟨t, rfl, ht1, ht9, HT⟩ := hrel
    have hget : ∀ h : 0 < t.size, t.data.toList = t[0] :: (t.extract 1 t.size).data.toList := fun h => by
      rw [ByteArray.data_extract, Array.toList_extract, List.extract_eq_take_drop, Lib.size_eq]
      have : 0 < t.data.toList.length := by rw [← Lib.size_eq]; exact h
      cases hl : t.data.toList with
      | nil => rw [hl] at this; cases this
      | cons x l =>
        have hx : t[0] = x := by
          have : t[0] = t.data.toList[0]'(by rw [← Lib.size_eq]; exact h) := rfl
          rw [this]
          simp only [hl]
          rfl
        rw [hx]
        simp
    by_cases h1 : 1 < t.size
    · have h1i : (1 : Int) < t.size := by omega
      have h1j : (0 : Int) < t.size := by omega
      by_cases h8 : t[0].toNat = 48
      · have hx : t[0] = 48 := UInt8.toNat_inj.1 h8
        have hg := hget (by omega)
        have hes : (t.extract 1 t.size).size = t.size - 1 := by rw [ByteArray.size_extract]; omega
        have HX : Hid (1 ≤ (t.extract 1 t.size).size ∧ (t.extract 1 t.size).size ≤ 1000000000 ∧ (t.extract 1 t.size).size < t.size ∧ Dig (t.extract 1 t.size).data.toList ∧ n = dec (t.extract 1 t.size).data.toList) := Lib.hid
          ⟨by omega, by omega, by omega, fun b hb => HT.out.1 b (by rw [hg]; exact List.mem_cons_of_mem _ hb), by rw [HT.out.2, hg, dec_drop hx]⟩
        have h8' : (((t[0].toNat : Nat) : Int) == 48) = true := beq_iff_eq.2 (by omega)
        have b1 : (1 : Int) ≤ (t.size : Int) := by omega
        clear hget hg hes hx h8
        go_wp2_with fail
        refine ⟨⟨_, rfl, HX.out.1, HX.out.2.1, Lib.hid ⟨HX.out.2.2.2.1, HX.out.2.2.2.2⟩⟩, HX.out.2.2.1⟩
      · have h8' : (((t[0].toNat : Nat) : Int) == 48) = false := beq_eq_false_iff_ne.2 (by omega)
        have HB : Hid (txt n = t.data.toList) := Lib.hid (by
          rw [HT.out.2]
          refine txt_bare HT.out.1 (fun e => by rw [Lib.size_eq, e] at ht1; simp at ht1) (.inr ?_)
          rw [hget (by omega)]
          exact fun e => h8 (by injection e with e; rw [e]; rfl))
        clear hget h8
        go_wp2_with fail
        go_ret
        exact ⟨by rw [HB.out]; rfl, rfl⟩
    · have h1i : ¬ (1 : Int) < t.size := by omega
      have HB : Hid (txt n = t.data.toList) := Lib.hid (by
        rw [HT.out.2]
        exact txt_bare HT.out.1 (fun e => by rw [Lib.size_eq, e] at ht1; simp at ht1) (.inl (by rw [← Lib.size_eq]; omega)))
      clear hget
      go_wp2_with fail
      go_ret
      exact ⟨by rw [HB.out]; rfl, rfl⟩
end Go.Proofs.YtjeamchaibialaaGreatDoor.Bares
