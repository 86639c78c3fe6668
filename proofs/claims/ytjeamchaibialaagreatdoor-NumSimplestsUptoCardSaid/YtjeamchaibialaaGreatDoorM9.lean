/- Joined: RefM RefN OfFlat -/
import Derived.Test.YtjeamchaibialaaGreatDoorM8
import Derived.Test.YtjeamchaibialaaGreatDoorM3
import Derived.Laws.IdiomStrings
import Derived.Deep.RegionHeld3
import Derived.Test.YtjeamchaibialaaGreatDoorM4
set_option linter.unusedVariables false
set_option linter.unusedSimpArgs false
/- The reference's reckoning with fractions, texts: the walks. -/
namespace Go.Proofs.YtjeamchaibialaaGreatDoor.RefM
open Go.RowKit Heaps Go.Proofs.YtjeamchaibialaaGreatDoorW.PrintWords Go.Proofs.YtjeamchaibialaaGreatDoorW.PrintLast Go.Proofs.YtjeamchaibialaaGreatDoorW.PrintMore Fns Limbs Pure1 Pure3 Nats Arrs Texts Rats RefA RefB RefC RefD RefE RefF RefG RefH RefI RefJ RefK RefL ReadWalk Parses

theorem figs_mem {l : List UInt8} (h : Figs l) : ∀ b ∈ l, 48 ≤ b.toNat ∧ b.toNat ≤ 57 := h.2
theorem num_mem {l : List UInt8} (h : Num l) : ∀ b ∈ l, 48 ≤ b.toNat ∧ b.toNat ≤ 57 := h.1
noncomputable instance (l : List UInt8) : Decidable (Figs l) := Classical.propDecidable _
noncomputable instance (l : List UInt8) : Decidable (Num l) := Classical.propDecidable _

set_option maxRecDepth 100000 in
set_option maxHeartbeats 400000 in
theorem digits_calls (s : ByteArray) (hs : s.size ≤ 1000000000) (w : World) :
    Calls Tryz.prog 87 #[.string s] w fun e w' => e = .returned (.bool (decide (Num s.data.toList))) ∧ w' = w := by
  obtain ⟨l, hl⟩ : ∃ l, l = s.data.toList := ⟨_, rfl⟩
  have hsl : s.size = l.length := by rw [hl, Lib.size_eq]
  have hx : ∀ k (hk : k < s.size), s[k] ∈ l ∧ l.take (k + 1) = l.take k ++ [s[k]] ∧ l[k]? = some s[k] := fun k hk => by
    have h1 : k < l.length := by omega
    have h2 : s[k] = l[k] := by simp only [hl]; rfl
    exact ⟨by rw [h2]; exact List.getElem_mem h1, by rw [h2, List.take_succ_eq_append_getElem h1], by rw [h2, List.getElem?_eq_getElem h1]⟩
  have HX := Lib.hid hx
  have HSL := Lib.hid hsl
  rw [← hl]
  clear hl hsl hx
  go_enter Tryz.func87, Tryz.ntmps87
  go_wp2_with fail
  go_loopw [3] (fun v3 wr => ∃ k : Nat, k ≤ s.size ∧ v3 = .int .i64 k ∧ Hid (Dig (l.take k)) ∧ wr = w) (fun v3 _ => s.size - (intOf v3).toNat)
  case atStart => exact ⟨0, Nat.zero_le _, rfl, Lib.hid (by rw [List.take_zero]; exact fun b hb => by cases hb), rfl⟩
  case round =>
    obtain ⟨k, hk, rfl, hd, rfl⟩ := hrel
    by_cases hks : k < s.size
    · have hki : (k : Int) < s.size := by omega
      have hno : ¬ (48 ≤ (s[k]).toNat ∧ (s[k]).toNat ≤ 57) → decide (Num l) = false := fun h => decide_eq_false (fun h2 => h (num_mem h2 _ (HX.out k hks).1))
      have HNO := Lib.hid hno
      have hgo : (48 ≤ (s[k]).toNat ∧ (s[k]).toNat ≤ 57) → Dig (l.take (k + 1)) := fun h b hb => by
        rw [(HX.out k hks).2.1, List.mem_append] at hb
        rcases hb with hb | hb
        · exact hd.out b hb
        · rw [List.mem_singleton] at hb; rw [hb]; exact h
      have HGO := Lib.hid hgo
      clear hno hgo
      by_cases h1 : (s[k]).toNat < 48
      · have h1' : ((s[k]).toNat : Int) < 48 := by omega
        go_wp2_with fail
        go_ret
        exact ⟨by rw [HNO.out (by omega)]; rfl, rfl⟩
      · have h1' : ¬ ((s[k]).toNat : Int) < 48 := by omega
        by_cases h2 : 57 < (s[k]).toNat
        · have h2' : (57 : Int) < (s[k]).toNat := by omega
          go_wp2_with fail
          go_ret
          exact ⟨by rw [HNO.out (by omega)]; rfl, rfl⟩
        · have h2' : ¬ (57 : Int) < (s[k]).toNat := by omega
          go_wp2_with fail
          go_roundw
          case rel => exact ⟨k + 1, by omega, rfl, Lib.hid (HGO.out (by omega)), trivial⟩
          case measure => simp [intOf]; omega
    · have hke : k = l.length := by have := HSL.out; omega
      have hD : Dig l := by have := hd.out; rw [hke, List.take_length] at this; exact this
      have HD := Lib.hid hD
      have hks' : ¬ (k : Int) < s.size := by omega
      clear hD
      by_cases h1 : s.size = 1
      · have hr : decide (Num l) = true := decide_eq_true ⟨HD.out, by
          have h9 := HSL.out
          rw [h1] at h9
          match l, h9 with
          | [a], _ =>
            by_cases ha : a = 48
            · exact .inl (by rw [ha])
            · exact .inr ⟨by simp, by simp [ha]⟩⟩
        have HR := Lib.hid hr
        have h1' : (s.size : Int) = 1 := by omega
        have h1b : ((s.size : Int) == 1) = true := beq_iff_eq.2 h1'
        clear hr
        go_wp2_with fail
        go_ret
        exact ⟨by rw [HR.out]; rfl, rfl⟩
      · have h1b : ((s.size : Int) == 1) = false := beq_eq_false_iff_ne.2 (by omega)
        by_cases h0 : 1 < s.size
        · have h0' : (1 : Int) < s.size := by omega
          have h00 : (0 : Int) < s.size := by omega
          have hp : 0 < s.size := by omega
          have hl0 := (HX.out 0 hp).2.2
          by_cases hz : (s[0]).toNat = 48
          · have hr : decide (Num l) = false := decide_eq_false (fun h => by
              have hs0 : s[0] = 48 := UInt8.toNat_inj.1 hz
              rw [hs0] at hl0
              rcases h.2 with h | ⟨_, h⟩
              · have h9 := HSL.out
                rw [h] at h9
                simp at h9
                omega
              · exact h (by rw [List.head?_eq_getElem?]; exact hl0))
            have HR := Lib.hid hr
            have hzb : (((s[0]).toNat : Int) != 48) = false := by rw [hz]; rfl
            clear hr hl0
            go_wp2_with fail
            go_ret
            exact ⟨by rw [HR.out]; rfl, rfl⟩
          · have hr : decide (Num l) = true := decide_eq_true ⟨HD.out, .inr ⟨fun e => by have h9 := HSL.out; rw [e, List.length_nil] at h9; omega, fun e => by
              rw [List.head?_eq_getElem?, hl0] at e
              injection e with e
              exact hz (by rw [e]; rfl)⟩⟩
            have HR := Lib.hid hr
            have hzb : (((s[0]).toNat : Int) != 48) = true := bne_iff_ne.2 (by omega)
            clear hr hl0
            go_wp2_with fail
            go_ret
            exact ⟨by rw [HR.out]; rfl, rfl⟩
        · have hr : decide (Num l) = false := decide_eq_false (fun h => by
            have h9 := HSL.out
            have : l = [] := List.eq_nil_of_length_eq_zero (by omega)
            rw [this] at h
            rcases h.2 with h | ⟨h, _⟩
            · exact absurd h (by simp)
            · exact h rfl)
          have HR := Lib.hid hr
          have h0' : ¬ (1 : Int) < s.size := by omega
          have h0d : decide ((1 : Int) < s.size) = false := decide_eq_false h0'
          clear hr
          go_wp2_with fail
          go_ret
          exact ⟨by rw [HR.out]; rfl, rfl⟩


end Go.Proofs.YtjeamchaibialaaGreatDoor.RefM

/- The reference's Of and Normal: the walks. -/
namespace Go.Proofs.YtjeamchaibialaaGreatDoor.RefN
open Go.RowKit Heaps Go.Proofs.YtjeamchaibialaaGreatDoorW.PrintWords Go.Proofs.YtjeamchaibialaaGreatDoorW.PrintLast Go.Proofs.YtjeamchaibialaaGreatDoorW.PrintMore Fns Limbs Pure1 Pure3 Nats Arrs Texts Rats RefA RefB RefC RefD RefE RefF RefG RefH RefI RefJ RefK RefL RefM ReadWalk Parses

def Parts (l : List UInt8) (u a b : ByteArray) : Prop :=
  u.data.toList = Lib.trimPrefix l [45] ∧ a.data.toList = (Lib.cut (Lib.trimPrefix l [45]) [47]).1 ∧ b.data.toList = if (Lib.cut (Lib.trimPrefix l [45]) [47]).2.2 then (Lib.cut (Lib.trimPrefix l [45]) [47]).2.1 else [49]

theorem txt_one : txt 1 = [49] := by rw [txt_small (by omega)]; rfl
theorem parts_rtxt {q : Rat} {u a b : ByteArray} (h : Parts (rtxt q) u a b) : u.data.toList = body q ∧ a.data.toList = txt q.num.natAbs ∧ b.data.toList = txt q.den := by
  obtain ⟨h1, h2, h3⟩ := h
  rw [rtxt_trim] at h1 h2 h3
  rw [body_cut] at h2 h3
  refine ⟨h1, h2, ?_⟩
  rw [h3]
  by_cases h : q.den = 1
  · simp [h, txt_one]
  · simp [h]
theorem parts_frac {q : Rat} {s u a b : ByteArray} (hs : s.data.toList = rtxt q) (h : Parts (rtxt q) u a b) : frac (decide ((u.size : Int) < s.size)) (dec a.data.toList) (dec b.data.toList) = q := by
  obtain ⟨h1, h2, h3⟩ := parts_rtxt h
  have e : decide ((u.size : Int) < s.size) = decide (q.num < 0) := by
    rw [← rtxt_len, ← h1, ← hs]
    exact decide_eq_decide.2 (by rw [Lib.size_eq, Lib.size_eq]; omega)
  rw [e, h2, h3, dec_txt, dec_txt, frac_self]
theorem parts_good {q : Rat} {u a b : ByteArray} (h : Parts (rtxt q) u a b) : Num a.data.toList ∧ Num b.data.toList ∧ (b.toList == [48]) = false := by
  obtain ⟨h1, h2, h3⟩ := parts_rtxt h
  refine ⟨by rw [h2]; exact num_txt _, by rw [h3]; exact num_txt _, ?_⟩
  rw [Lib.toList_data, h3]
  refine beq_eq_false_iff_ne.2 (fun e => q.den_nz ?_)
  have := dec_txt q.den
  rw [e] at this
  exact this.symm
theorem num_zero {l : List UInt8} (h : Num l) (h0 : (l == [48]) = false) : dec l ≠ 0 := by
  intro e
  have h1 := txt_num h
  rw [e, txt_small (by omega)] at h1
  rw [← h1] at h0
  exact absurd h0 (by decide)
theorem parts_frac' {q : Rat} {s u a b : ByteArray} (hs : s.data.toList = rtxt q) (h : Parts (rtxt q) u a b) : frac (decide (u.size < s.size)) (dec a.data.toList) (dec b.data.toList) = q := by
  rw [← parts_frac hs h]
  congr 1
  exact decide_eq_decide.2 (by omega)
theorem dec_len {l : List UInt8} {N : Nat} (h : Dig l) (hl : l.length ≤ N) : (limbs (dec l)).length ≤ N / 9 + 1 := by
  have := lt_ten_limbs (dec_lt h)
  exact Nat.le_trans this (by omega)
theorem new_store {w0 w : World} (hb : Below w0.heap.size w0 w) {q : Rat} {b : Bool} {A B : Option Addr} {n c m d : Nat} (hV : RatV w (.agg #[.bool b, .slice A n c, .slice B m d]) q) :
    ∃ w5 : World, w5 = w.alloc (.cells #[.bool b, .slice A n c, .slice B m d] 51) ∧
    Blk w5 w.heap.size #[.bool b, .slice A n c, .slice B m d] ∧ Below w0.heap.size w0 w5 ∧ RatV w5 (.agg #[.bool b, .slice A n c, .slice B m d]) q ∧ Below w.heap.size w w5 := by
  have hB := Blk.alloc w #[.bool b, .slice A n c, .slice B m d] 51
  have hw := (Below.refl w.heap.size w).alloc (Nat.le_refl _) (.cells #[.bool b, .slice A n c, .slice B m d] 51)
  exact ⟨_, rfl, hB, below_step hb hw, ratV_below hV hw, hw⟩

theorem ratV_set3 {w : World} {g : Nat} {b b' : Bool} {A B A' B' : Option Addr} {n c m d n' c' m' d' : Nat} (h : Blk w g #[.bool b, .slice A n c, .slice B m d]) {v : Value} {q : Rat} (hv : RatV w v q) :
    RatV (((w.setCell ⟨g, 0, none⟩ (.bool b')).setCell ⟨g, 1, none⟩ (.slice A' n' c')).setCell ⟨g, 2, none⟩ (.slice B' m' d')) v q := by
  obtain ⟨x, y, e, h1, h2⟩ := hv
  exact ⟨x, y, e, keeps_set3 h h1, keeps_set3 h h2⟩

def OutO (l : List UInt8) (w : World) (e : Ending) (W : World) : Prop :=
  Below w.heap.size w W ∧ ((∃ q v, l = rtxt q ∧ e = .returned (.tuple #[v, .bool true]) ∧ RatV W v q) ∨ ((∀ q, l ≠ rtxt q) ∧ e = .returned (.tuple #[.agg #[.bool false, .slice none 0 0, .slice none 0 0], .bool false])))

set_option maxRecDepth 100000 in
set_option maxHeartbeats 2000000 in
theorem of_walk (s : ByteArray) (hs : s.size ≤ 100000000) (w : World) :
    Calls Tryz.prog 42 #[.string s] w (OutO s.data.toList w) := by
  obtain ⟨l, hl⟩ : ∃ l, l = s.data.toList := ⟨_, rfl⟩
  have hsl : s.size = l.length := by rw [hl, Lib.size_eq]
  have HL := Lib.hid (And.intro hl hsl)
  clear hl hsl
  go_enter Tryz.func42, Tryz.ntmps42
  go_upto_region 2 with fail
  have hb0 : Below w.heap.size w (w.alloc (.cells #[.bool false, .slice none 0 0, .slice none 0 0] 51)) := (Below.refl w.heap.size w).alloc (Nat.le_refl _) _
  have hB0 := Blk.alloc w #[.bool false, .slice none 0 0, .slice none 0 0] 51
  have HB := Lib.hid (And.intro hb0 hB0)
  clear hb0 hB0
  generalize w.alloc (.cells #[.bool false, .slice none 0 0, .slice none 0 0] 51) = w1 at *
  obtain ⟨m, hm⟩ : ∃ m : Bool, m = decide (l.head? = some 45) := ⟨_, rfl⟩
  have h0 : ∀ h : 0 < s.size, l.head? = some s[0] := fun h => by
    rw [HL.out.1, List.head?_eq_getElem?, List.getElem?_eq_getElem (by rw [← Lib.size_eq]; exact h)]
    rfl
  have HM := Lib.hid (And.intro hm h0)
  clear hm h0
  go_cut [17] (fun v wx => v = .bool m ∧ wx = w1)
  case first =>
    by_cases hz : 0 < s.size
    · have hz' : (0 : Int) < s.size := by omega
      have hv : ((s[0].toNat : Int) == 45) = m := by
        rw [HM.out.1, HM.out.2 hz]
        by_cases h : s[0].toNat = 45
        · have e : s[0] = 45 := UInt8.toNat_inj.1 h
          rw [h, e]; rfl
        · have e : s[0] ≠ 45 := fun e => h (by rw [e]; rfl)
          rw [beq_eq_false_iff_ne.2 (by omega)]
          exact (decide_eq_false (fun h' => e (by injection h'))).symm
      go_wp2_with fail
      go_meet
      case rel => exact ⟨by rw [← hv], rfl⟩
    · have hz' : decide ((0 : Int) < s.size) = false := decide_eq_false (by omega)
      have hv : m = false := by
        rw [HM.out.1]
        have : l = [] := List.eq_nil_of_length_eq_zero (by have := HL.out.2; omega)
        rw [this]; rfl
      go_wp2_with fail
      go_meet
      case rel => exact ⟨by rw [hv], rfl⟩
  case rest =>
    obtain ⟨rfl, hw⟩ := hcut
    rw [hw]
    clear hw
    go_upto_if 17 with fail
    go_cut [4] (fun v wx => ∃ u : ByteArray, v = .string u ∧ Hid (u.data.toList = Lib.trimPrefix l [45]) ∧ u.size ≤ s.size ∧ wx = w1)
    case first =>
      have HMM := Lib.hid HM.out.1
      cases m
      · have ht : Hid (s.data.toList = Lib.trimPrefix l [45]) := Lib.hid (by rw [← HL.out.1, trim_plain (of_decide_eq_false HMM.out.symm)])
        go_wp2_with fail
        go_meet
        case rel => exact ⟨s, rfl, ht, Nat.le_refl _, rfl⟩
      · have hh := of_decide_eq_true HMM.out.symm
        have h1 : 1 ≤ s.size := by
          rw [HL.out.2]
          cases l with
          | nil => cases hh
          | cons => simp
        have h1' : (1 : Int) ≤ s.size := by omega
        have ht : Hid ((s.extract 1 s.size).data.toList = Lib.trimPrefix l [45]) := Lib.hid (by
          rw [ByteArray.data_extract, Array.toList_extract, ← HL.out.1, HL.out.2]
          cases l with
          | nil => cases hh
          | cons x t =>
            injection hh with hh
            rw [hh, trim_minus, List.extract_eq_take_drop]
            simp)
        have hz : (s.extract 1 s.size).size ≤ s.size := by rw [ByteArray.size_extract]; omega
        clear hh
        go_wp2_with fail
        go_meet
        case rel => exact ⟨s.extract 1 s.size, rfl, ht, hz, rfl⟩
    case rest =>
      obtain ⟨u, rfl, hu, hus, hw⟩ := hcut
      rw [hw]
      clear hw
      obtain ⟨t, ht⟩ : ∃ t, t = u.data.toList := ⟨_, rfl⟩
      have hus2 : u.size = t.length := by rw [ht, Lib.size_eq]
      have hx : ∀ k (hk : k < u.size), t.take (k + 1) = t.take k ++ [u[k]] ∧ t = t.take k ++ u[k] :: t.drop (k + 1) := fun k hk => by
        have h1 : k < t.length := by omega
        have h2 : u[k] = t[k] := by simp only [ht]; rfl
        exact ⟨by rw [h2, List.take_succ_eq_append_getElem h1], by rw [h2, ← List.drop_eq_getElem_cons h1, List.take_append_drop]⟩
      have HX := Lib.hid hx
      have HT := Lib.hid (And.intro ht hus2)
      clear ht hus2 hx
      go_wp2_with fail
      go_loopw [5, 6, 7] (fun v5 v6 v7 wr => ∃ k : Nat, k ≤ u.size ∧ v7 = .int .i64 k ∧ Hid (∀ b ∈ t.take k, b ≠ 47) ∧ wr = w1 ∧ v5 = .string u ∧ v6 = .string ⟨#[49]⟩) (fun _ _ v7 _ => u.size - (intOf v7).toNat)
      case atStart => exact ⟨0, Nat.zero_le _, rfl, Lib.hid (by rw [List.take_zero]; exact fun b hb => by cases hb), rfl, rfl, rfl⟩
      case round =>
        obtain ⟨k, hk, rfl, hno, hw, rfl, rfl⟩ := hrel
        rw [hw]
        by_cases hks : k < u.size
        · have hki : (k : Int) < u.size := by omega
          by_cases h47 : u[k].toNat = 47
          · have h47' : ((u[k].toNat : Int) == 47) = true := beq_iff_eq.2 (by omega)
            have hk1 : (k : Int) + 1 ≤ u.size := by omega
            have hk0 : (k : Int) ≤ u.size := by omega
            have W1 : IntKind.i64.wrap ((k : Int) + 1) = (k : Int) + 1 := IntWalk.i64_in _ (by omega)
            have hP : Hid (Parts l u (u.extract 0 k) (u.extract (k + 1) u.size)) := Lib.hid (by
              have e : u[k] = 47 := UInt8.toNat_inj.1 h47
              have h2 := (HX.out k hks).2
              rw [e] at h2
              have hc := cut_one (t.take k) (t.drop (k + 1)) 47 hno.out
              rw [← h2] at hc
              refine ⟨hu.out, ?_, ?_⟩
              · rw [← hu.out, ← HT.out.1, hc, ByteArray.data_extract, Array.toList_extract, ← HT.out.1, List.extract_eq_take_drop]; simp
              · rw [← hu.out, ← HT.out.1, hc, ByteArray.data_extract, Array.toList_extract, ← HT.out.1, HT.out.2, List.extract_eq_take_drop, if_pos rfl]
                rw [List.take_of_length_le (by rw [List.length_drop]; omega)])
            have hal : (u.extract 0 k).size ≤ s.size := by rw [ByteArray.size_extract]; omega
            have hbl : (u.extract (k + 1) u.size).size ≤ s.size := by rw [ByteArray.size_extract]; omega
            clear hno
            go_upto_region 12 with fail
            generalize u.extract 0 k = a at *
            generalize u.extract (k + 1) u.size = b at *
            clear HX HT W1 h47 h47' hk1 hk0 hks hki hu
            obtain ⟨na, hna⟩ : ∃ na : Bool, na = decide (Num a.data.toList) := ⟨_, rfl⟩
            obtain ⟨nb, hnb⟩ : ∃ nb : Bool, nb = decide (Num b.data.toList) := ⟨_, rfl⟩
            obtain ⟨nz, hnz⟩ : ∃ nz : Bool, nz = (b.toList == [48]) := ⟨_, rfl⟩
            have HN := Lib.hid (And.intro hna (And.intro hnb hnz))
            clear hna hnb hnz
            go_cut [49] (fun v wx => v = .bool (!na || (!nb || nz)) ∧ wx = w1)
            case first =>
              go_wp2_with fail
              refine (digits_calls a (by omega) _).mono ?_
              rintro e w2 ⟨rfl, hw2⟩
              rw [hw2, ← HN.out.1]
              clear hw2
              cases na
              · go_wp2_with fail
                go_meet
                case rel => exact ⟨rfl, rfl⟩
              · go_wp2_with fail
                refine (digits_calls b (by omega) _).mono ?_
                rintro e w2 ⟨rfl, hw2⟩
                rw [hw2, ← HN.out.2.1]
                clear hw2
                cases nb
                · go_wp2_with fail
                  go_meet
                  case rel => exact ⟨rfl, rfl⟩
                · go_wp2_with fail
                  go_meet
                  case rel => exact ⟨by rw [HN.out.2.2]; simp, rfl⟩
            case rest =>
              obtain ⟨rfl, hw⟩ := hcut
              rw [hw]
              clear hw
              by_cases hok : na = true ∧ nb = true ∧ nz = false
              · obtain ⟨rfl, rfl, rfl⟩ := hok
                have h1 := of_decide_eq_true HN.out.1.symm
                have h2 := of_decide_eq_true HN.out.2.1.symm
                have hz : dec b.data.toList ≠ 0 := num_zero h2 (by rw [← Lib.toList_data]; exact HN.out.2.2.symm)
                have HD := Lib.hid (And.intro h1.1 (And.intro h2.1 hz))
                clear h1 h2 hz HN
                go_wp2_with fail
                refine (of_calls a (by omega) (Lib.hid HD.out.1) _).mono ?_
                rintro e w2 ⟨va, rfl, hva, hb2⟩
                have H2 := Lib.hid (And.intro hva hb2)
                clear hva hb2
                go_wp2_with fail
                refine (of_calls b (by omega) (Lib.hid HD.out.2.1) _).mono ?_
                rintro e w3 ⟨vb, rfl, hvb, hb3⟩
                have H3 := Lib.hid (And.intro (isI_below H2.out.1 hb3) (And.intro hvb (below_step H2.out.2 hb3)))
                clear hvb hb3 H2
                go_wp2_with fail
                have hla := dec_len HD.out.1 (N := 100000000) (by rw [← Lib.size_eq]; omega)
                have hlb := dec_len HD.out.2.1 (N := 100000000) (by rw [← Lib.size_eq]; omega)
                refine (ratio_calls (decide (u.size < s.size)) (dec a.data.toList) (dec b.data.toList) HD.out.2.2 (by omega) (by omega) va vb _ (Lib.hid H3.out.1) (Lib.hid H3.out.2.1)).mono ?_
                rintro e w4 ⟨v, rfl, hv, hb4⟩
                have hsz := Sizes.sz_frac (b := decide (u.size < s.size)) HD.out.2.2 hla hlb
                obtain ⟨q, hq⟩ : ∃ q, q = frac (decide (u.size < s.size)) (dec a.data.toList) (dec b.data.toList) := ⟨_, rfl⟩
                rw [← hq] at hv hsz
                obtain ⟨b3, A3, k5, c3, B3, k6, d3, rfl⟩ := ratV_flat hv
                obtain ⟨w5, hw5, hB5, hb5, hv5, hb45⟩ := new_store (below_step H3.out.2.2 hb4) hv
                have hBr := HB.out.2.same (below_step H3.out.2.2 (below_step hb4 hb45) |>.block _ HB.out.2.lt)
                have H5 := Lib.hid (And.intro hB5 (And.intro hb5 (And.intro hv5 (And.intro hsz (And.intro hq hBr)))))
                clear hla hlb hv hsz hq hB5 hb5 hv5 hb4 H3 hb45 hBr HD
                go_upto_region 15 with fail
                rw [← hw5]
                clear hw5
                obtain ⟨l0, l1, l2⟩ := load3 H5.out.1
                go_wp2_with fail
                refine (text_calls q _ _ (Lib.hid H5.out.2.2.1) (by have := H5.out.2.2.2.1.1; omega) (by have := H5.out.2.2.2.1.2; omega)).mono ?_
                rintro e w6 ⟨rfl, hb6⟩
                have HS6 := Lib.hid (And.intro (H5.out.1.same (hb6.block _ H5.out.1.lt)) (And.intro (below_step HB.out.1 (below_step H5.out.2.1 hb6)) (And.intro (ratV_below H5.out.2.2.1 hb6) (And.intro H5.out.2.2.2.2.1 (H5.out.2.2.2.2.2.same (hb6.block _ H5.out.2.2.2.2.2.lt))))))
                clear l0 l1 l2 hb6 H5
                obtain ⟨l0, l1, l2⟩ := load3 HS6.out.1
                by_cases hql : rtxt q = s.data.toList
                · have he : ((⟨(rtxt q).toArray⟩ : ByteArray).toList == s.toList) = true := beq_iff_eq.2 (by rw [Lib.toList_data, Lib.toList_data]; simp [hql])
                  obtain ⟨⟨s0, t0⟩, ⟨s1, t1⟩, ⟨s2, t2⟩, hB3⟩ := store3 HS6.out.2.2.2.2 (.bool b3) (.slice A3 k5 c3) (.slice B3 k6 d3)
                  obtain ⟨m0, m1, m2⟩ := load3 hB3
                  have HQ := Lib.hid hql
                  clear hql hB3
                  generalize (⟨(rtxt q).toArray⟩ : ByteArray) = x at *
                  go_wp2_with fail
                  refine bodyPost_ret (v := .tuple #[.agg #[.bool b3, .slice A3 k5 c3, .slice B3 k6 d3], .bool true]) (by simp [results, Tryz.results42, go_sem, m0, m1, m2]) rfl ?_
                  exact ⟨below_set3 HS6.out.2.1 (Nat.le_refl _) _ _ _, .inl ⟨q, _, HQ.out.symm, rfl, ratV_set3 HS6.out.2.2.2.2 HS6.out.2.2.1⟩⟩
                · have he : ((⟨(rtxt q).toArray⟩ : ByteArray).toList == s.toList) = false := beq_eq_false_iff_ne.2 (by rw [Lib.toList_data, Lib.toList_data]; simpa using hql)
                  obtain ⟨⟨s0, t0⟩, ⟨s1, t1⟩, ⟨s2, t2⟩, hB3⟩ := store3 HS6.out.2.2.2.2 (.bool false) (.slice none 0 0) (.slice none 0 0)
                  obtain ⟨m0, m1, m2⟩ := load3 hB3
                  have HQ := Lib.hid hql
                  clear hql hB3
                  generalize (⟨(rtxt q).toArray⟩ : ByteArray) = x at *
                  go_wp2_with fail
                  refine bodyPost_ret (v := .tuple #[.agg #[.bool false, .slice none 0 0, .slice none 0 0], .bool false]) (by simp [results, Tryz.results42, go_sem, m0, m1, m2]) rfl ?_
                  refine ⟨below_set3 HS6.out.2.1 (Nat.le_refl _) _ _ _, .inr ⟨fun q' e => HQ.out ?_, rfl⟩⟩
                  have h := hP.out
                  rw [HL.out.1, e] at h
                  rw [HS6.out.2.2.2.1, parts_frac' e h, e]
              · have hbad : Hid (∀ q, s.data.toList ≠ rtxt q) := Lib.hid (fun q e => by
                  have h := hP.out
                  rw [HL.out.1, e] at h
                  have h2 := parts_good h
                  exact hok ⟨by rw [HN.out.1]; exact decide_eq_true h2.1, by rw [HN.out.2.1]; exact decide_eq_true h2.2.1, by rw [HN.out.2.2]; exact h2.2.2⟩)
                have hbv : (!na || (!nb || nz)) = true := by cases na <;> cases nb <;> cases nz <;> simp_all
                obtain ⟨⟨s0, t0⟩, ⟨s1, t1⟩, ⟨s2, t2⟩, hB3⟩ := store3 HB.out.2 (.bool false) (.slice none 0 0) (.slice none 0 0)
                obtain ⟨m0, m1, m2⟩ := load3 hB3
                rw [hbv]
                clear hok hbv hB3
                go_wp2_with fail
                refine bodyPost_ret (v := .tuple #[.agg #[.bool false, .slice none 0 0, .slice none 0 0], .bool false]) (by simp [results, Tryz.results42, go_sem, m0, m1, m2]) rfl ?_
                exact ⟨below_set3 HB.out.1 (Nat.le_refl _) _ _ _, .inr ⟨hbad.out, rfl⟩⟩
          · have h47' : ((u[k].toNat : Int) == 47) = false := beq_eq_false_iff_ne.2 (by omega)
            have hn2 : Hid (∀ b ∈ t.take (k + 1), b ≠ 47) := Lib.hid (fun b hb => by
              rw [(HX.out k hks).1, List.mem_append] at hb
              rcases hb with hb | hb
              · exact hno.out b hb
              · rw [List.mem_singleton] at hb
                rw [hb]
                exact fun e => h47 (by rw [e]; rfl))
            go_wp2_with fail
            go_roundw
            case rel => exact ⟨k + 1, by omega, rfl, hn2, trivial, rfl, rfl⟩
            case measure => simp [intOf]; omega
        · have hkl : k = u.size := by omega
          have hki : ¬ (k : Int) < u.size := by omega
          have hP : Hid (Parts l u u ⟨#[49]⟩) := Lib.hid (by
            have h2 := hno.out
            rw [hkl, HT.out.2, List.take_length] at h2
            have hc := cut_no t 47 h2
            refine ⟨hu.out, ?_, ?_⟩
            · rw [← hu.out, ← HT.out.1, hc]
            · rw [← hu.out, ← HT.out.1, hc]; rfl)
          have hal : u.size ≤ s.size := hus
          clear hno
          go_upto_region 12 with fail
          generalize hbb : (⟨#[49]⟩ : ByteArray) = b at *
          have hbl : b.size ≤ 1 := by rw [← hbb]; decide
          clear HX HT hkl hki hks hu hbb
          obtain ⟨na, hna⟩ : ∃ na : Bool, na = decide (Num u.data.toList) := ⟨_, rfl⟩
          obtain ⟨nb, hnb⟩ : ∃ nb : Bool, nb = decide (Num b.data.toList) := ⟨_, rfl⟩
          obtain ⟨nz, hnz⟩ : ∃ nz : Bool, nz = (b.toList == [48]) := ⟨_, rfl⟩
          have HN := Lib.hid (And.intro hna (And.intro hnb hnz))
          clear hna hnb hnz
          go_cut [49] (fun v wx => v = .bool (!na || (!nb || nz)) ∧ wx = w1)
          case first =>
            go_wp2_with fail
            refine (digits_calls u (by omega) _).mono ?_
            rintro e w2 ⟨rfl, hw2⟩
            rw [hw2, ← HN.out.1]
            clear hw2
            cases na
            · go_wp2_with fail
              go_meet
              case rel => exact ⟨rfl, rfl⟩
            · go_wp2_with fail
              refine (digits_calls b (by omega) _).mono ?_
              rintro e w2 ⟨rfl, hw2⟩
              rw [hw2, ← HN.out.2.1]
              clear hw2
              cases nb
              · go_wp2_with fail
                go_meet
                case rel => exact ⟨rfl, rfl⟩
              · go_wp2_with fail
                go_meet
                case rel => exact ⟨by rw [HN.out.2.2]; simp, rfl⟩
          case rest =>
            obtain ⟨rfl, hw⟩ := hcut
            rw [hw]
            clear hw
            by_cases hok : na = true ∧ nb = true ∧ nz = false
            · obtain ⟨rfl, rfl, rfl⟩ := hok
              have h1 := of_decide_eq_true HN.out.1.symm
              have h2 := of_decide_eq_true HN.out.2.1.symm
              have hz : dec b.data.toList ≠ 0 := num_zero h2 (by rw [← Lib.toList_data]; exact HN.out.2.2.symm)
              have HD := Lib.hid (And.intro h1.1 (And.intro h2.1 hz))
              clear h1 h2 hz HN
              go_wp2_with fail
              refine (of_calls u (by omega) (Lib.hid HD.out.1) _).mono ?_
              rintro e w2 ⟨va, rfl, hva, hb2⟩
              have H2 := Lib.hid (And.intro hva hb2)
              clear hva hb2
              go_wp2_with fail
              refine (of_calls b (by omega) (Lib.hid HD.out.2.1) _).mono ?_
              rintro e w3 ⟨vb, rfl, hvb, hb3⟩
              have H3 := Lib.hid (And.intro (isI_below H2.out.1 hb3) (And.intro hvb (below_step H2.out.2 hb3)))
              clear hvb hb3 H2
              go_wp2_with fail
              have hla := dec_len HD.out.1 (N := 100000000) (by rw [← Lib.size_eq]; omega)
              have hlb := dec_len HD.out.2.1 (N := 100000000) (by rw [← Lib.size_eq]; omega)
              refine (ratio_calls (decide (u.size < s.size)) (dec u.data.toList) (dec b.data.toList) HD.out.2.2 (by omega) (by omega) va vb _ (Lib.hid H3.out.1) (Lib.hid H3.out.2.1)).mono ?_
              rintro e w4 ⟨v, rfl, hv, hb4⟩
              have hsz := Sizes.sz_frac (b := decide (u.size < s.size)) HD.out.2.2 hla hlb
              obtain ⟨q, hq⟩ : ∃ q, q = frac (decide (u.size < s.size)) (dec u.data.toList) (dec b.data.toList) := ⟨_, rfl⟩
              rw [← hq] at hv hsz
              obtain ⟨b3, A3, k5, c3, B3, k6, d3, rfl⟩ := ratV_flat hv
              obtain ⟨w5, hw5, hB5, hb5, hv5, hb45⟩ := new_store (below_step H3.out.2.2 hb4) hv
              have hBr := HB.out.2.same (below_step H3.out.2.2 (below_step hb4 hb45) |>.block _ HB.out.2.lt)
              have H5 := Lib.hid (And.intro hB5 (And.intro hb5 (And.intro hv5 (And.intro hsz (And.intro hq hBr)))))
              clear hla hlb hv hsz hq hB5 hb5 hv5 hb4 H3 hb45 hBr HD
              go_upto_region 15 with fail
              rw [← hw5]
              clear hw5
              obtain ⟨l0, l1, l2⟩ := load3 H5.out.1
              go_wp2_with fail
              refine (text_calls q _ _ (Lib.hid H5.out.2.2.1) (by have := H5.out.2.2.2.1.1; omega) (by have := H5.out.2.2.2.1.2; omega)).mono ?_
              rintro e w6 ⟨rfl, hb6⟩
              have HS6 := Lib.hid (And.intro (H5.out.1.same (hb6.block _ H5.out.1.lt)) (And.intro (below_step HB.out.1 (below_step H5.out.2.1 hb6)) (And.intro (ratV_below H5.out.2.2.1 hb6) (And.intro H5.out.2.2.2.2.1 (H5.out.2.2.2.2.2.same (hb6.block _ H5.out.2.2.2.2.2.lt))))))
              clear l0 l1 l2 hb6 H5
              obtain ⟨l0, l1, l2⟩ := load3 HS6.out.1
              by_cases hql : rtxt q = s.data.toList
              · have he : ((⟨(rtxt q).toArray⟩ : ByteArray).toList == s.toList) = true := beq_iff_eq.2 (by rw [Lib.toList_data, Lib.toList_data]; simp [hql])
                obtain ⟨⟨s0, t0⟩, ⟨s1, t1⟩, ⟨s2, t2⟩, hB3⟩ := store3 HS6.out.2.2.2.2 (.bool b3) (.slice A3 k5 c3) (.slice B3 k6 d3)
                obtain ⟨m0, m1, m2⟩ := load3 hB3
                have HQ := Lib.hid hql
                clear hql hB3
                generalize (⟨(rtxt q).toArray⟩ : ByteArray) = x at *
                go_wp2_with fail
                refine bodyPost_ret (v := .tuple #[.agg #[.bool b3, .slice A3 k5 c3, .slice B3 k6 d3], .bool true]) (by simp [results, Tryz.results42, go_sem, m0, m1, m2]) rfl ?_
                exact ⟨below_set3 HS6.out.2.1 (Nat.le_refl _) _ _ _, .inl ⟨q, _, HQ.out.symm, rfl, ratV_set3 HS6.out.2.2.2.2 HS6.out.2.2.1⟩⟩
              · have he : ((⟨(rtxt q).toArray⟩ : ByteArray).toList == s.toList) = false := beq_eq_false_iff_ne.2 (by rw [Lib.toList_data, Lib.toList_data]; simpa using hql)
                obtain ⟨⟨s0, t0⟩, ⟨s1, t1⟩, ⟨s2, t2⟩, hB3⟩ := store3 HS6.out.2.2.2.2 (.bool false) (.slice none 0 0) (.slice none 0 0)
                obtain ⟨m0, m1, m2⟩ := load3 hB3
                have HQ := Lib.hid hql
                clear hql hB3
                generalize (⟨(rtxt q).toArray⟩ : ByteArray) = x at *
                go_wp2_with fail
                refine bodyPost_ret (v := .tuple #[.agg #[.bool false, .slice none 0 0, .slice none 0 0], .bool false]) (by simp [results, Tryz.results42, go_sem, m0, m1, m2]) rfl ?_
                refine ⟨below_set3 HS6.out.2.1 (Nat.le_refl _) _ _ _, .inr ⟨fun q' e => HQ.out ?_, rfl⟩⟩
                have h := hP.out
                rw [HL.out.1, e] at h
                rw [HS6.out.2.2.2.1, parts_frac' e h, e]
            · have hbad : Hid (∀ q, s.data.toList ≠ rtxt q) := Lib.hid (fun q e => by
                have h := hP.out
                rw [HL.out.1, e] at h
                have h2 := parts_good h
                exact hok ⟨by rw [HN.out.1]; exact decide_eq_true h2.1, by rw [HN.out.2.1]; exact decide_eq_true h2.2.1, by rw [HN.out.2.2]; exact h2.2.2⟩)
              have hbv : (!na || (!nb || nz)) = true := by cases na <;> cases nb <;> cases nz <;> simp_all
              obtain ⟨⟨s0, t0⟩, ⟨s1, t1⟩, ⟨s2, t2⟩, hB3⟩ := store3 HB.out.2 (.bool false) (.slice none 0 0) (.slice none 0 0)
              obtain ⟨m0, m1, m2⟩ := load3 hB3
              rw [hbv]
              clear hok hbv hB3
              go_wp2_with fail
              refine bodyPost_ret (v := .tuple #[.agg #[.bool false, .slice none 0 0, .slice none 0 0], .bool false]) (by simp [results, Tryz.results42, go_sem, m0, m1, m2]) rfl ?_
              exact ⟨below_set3 HB.out.1 (Nat.le_refl _) _ _ _, .inr ⟨hbad.out, rfl⟩⟩
end Go.Proofs.YtjeamchaibialaaGreatDoor.RefN

/- The reference's Of, in one row. -/
namespace Go.Proofs.YtjeamchaibialaaGreatDoor.RefP
open Go.RowKit Heaps Go.Proofs.YtjeamchaibialaaGreatDoorW.PrintWords Go.Proofs.YtjeamchaibialaaGreatDoorW.PrintLast Go.Proofs.YtjeamchaibialaaGreatDoorW.PrintMore Fns Limbs Pure1 Pure3 Nats Arrs Texts Rats RefA RefB RefC RefD RefE RefF RefG RefH RefI RefJ RefK RefL RefM RefN ReadWalk Parses

def Flat3 (v : Value) : Prop := ∃ b A n c B m d, v = .agg #[.bool b, .slice A n c, .slice B m d]
def OutF (l : List UInt8) (w : World) (e : Ending) (W : World) : Prop :=
  ∃ v ok, e = .returned (.tuple #[v, .bool ok]) ∧ Flat3 v ∧ Below w.heap.size w W ∧ (ok = true → ∃ q, l = rtxt q ∧ RatV W v q) ∧ (ok = false → ∀ q, l ≠ rtxt q)
theorem of_flat (s : ByteArray) (hs : s.size ≤ 100000000) (w : World) : Calls Tryz.prog 42 #[.string s] w (OutF s.data.toList w) := by
  refine (of_walk s hs w).mono ?_
  rintro e W ⟨hb, ⟨q, v, h1, rfl, h2⟩ | ⟨h1, rfl⟩⟩
  · exact ⟨v, true, rfl, ratV_flat h2, hb, fun _ => ⟨q, h1, h2⟩, fun e => absurd e (by decide)⟩
  · exact ⟨_, false, rfl, ⟨_, _, _, _, _, _, _, rfl⟩, hb, fun e => absurd e (by decide), fun _ => h1⟩
theorem new_flat {w0 w : World} (hb : Below w0.heap.size w0 w) (b : Bool) (A : Option Addr) (n c : Nat) (B : Option Addr) (m d : Nat) :
    ∃ w5 : World, w5 = w.alloc (.cells #[.bool b, .slice A n c, .slice B m d] 51) ∧
    Blk w5 w.heap.size #[.bool b, .slice A n c, .slice B m d] ∧ Below w0.heap.size w0 w5 ∧ Below w.heap.size w w5 := by
  have hB := Blk.alloc w #[.bool b, .slice A n c, .slice B m d] 51
  have hw := (Below.refl w.heap.size w).alloc (Nat.le_refl _) (.cells #[.bool b, .slice A n c, .slice B m d] 51)
  exact ⟨_, rfl, hB, below_step hb hw, hw⟩

end Go.Proofs.YtjeamchaibialaaGreatDoor.RefP
