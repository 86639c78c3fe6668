/- Joined: Reads Reads2 -/
import Derived.Test.YtjeamchaibialaaGreatDoorM4
import Derived.Deep.RegionHeld3
import Derived.Test.YtjeamchaibialaaGreatDoorM2
set_option linter.unusedVariables false
set_option linter.unusedSimpArgs false
/- num's literals: the walks. -/
namespace Go.Proofs.YtjeamchaibialaaGreatDoor.ReadsWalk
open Go.RowKit Go.Proofs.YtjeamchaibialaaGreatDoorW.PrintWords Go.Proofs.YtjeamchaibialaaGreatDoorW.PrintLast Go.Proofs.YtjeamchaibialaaGreatDoorW.PrintMore Fns Limbs Pure1 Nats Go.Proofs.YtjeamchaibialaaGreatDoor.Told ReadWalk Texts Rats Parses Heaps Go.Proofs.YtjeamchaibialaaGreatDoor.Ints Go.Proofs.YtjeamchaibialaaGreatDoor.Splits Go.Proofs.YtjeamchaibialaaGreatDoor.RatTell Go.Proofs.YtjeamchaibialaaGreatDoor.Ops

theorem bs_self (s : ByteArray) : (⟨(s.data.toList).toArray⟩ : ByteArray) = s := by
  apply ByteArray.ext
  simp
theorem figs_head {l : List UInt8} (h : Figs l) : l.head? ≠ some 45 := by
  intro e
  cases l with
  | nil => cases e
  | cons x t =>
    injection e with e
    have := h.2 x (by simp)
    rw [e] at this
    exact absurd this.1 (by decide)

set_option maxRecDepth 100000 in
set_option maxHeartbeats 400000 in
theorem setString_calls (s : ByteArray) (hs : s.size ≤ 100000000) (hf : Figs s.data.toList) (g : Nat) (w : World) (hB : Blk w g #[.bool false, .slice none 0 0]) :
    Calls Tryz.prog 60 #[.pointer (some ⟨g, 0, none⟩), .string s, .int .i64 10] w fun e w' => e = .returned (.tuple #[.pointer (some ⟨g, 0, none⟩), .bool true]) ∧ IntAt w' g (dec s.data.toList : Int) ∧ w.grownBy w' (some g) := by
  have HB := Lib.hid (And.intro hB hf)
  clear hB hf
  go_enter Tryz.func60, Tryz.ntmps60
  go_wp2_with fail
  refine (prefix_calls s _).mono ?_
  rintro e w1 ⟨rfl, hw1⟩
  rw [hw1, trim_plain (figs_head HB.out.2), bs_self]
  clear hw1
  go_wp2_with fail
  refine (figures_yes s (by omega) HB.out.2 _).mono ?_
  rintro e w2 ⟨rfl, hb2⟩
  have H2 := Lib.hid (And.intro (HB.out.1.same (hb2.block _ HB.out.1.lt)) hb2)
  clear hb2
  go_wp2_with fail
  refine (ReadWalk.calls s (by omega) (Lib.hid HB.out.2.2) _).mono ?_
  rintro e w3 ⟨v, rfl, hv, hb3⟩
  have H3 := Lib.hid (And.intro (H2.out.1.same (hb3.block _ H2.out.1.lt)) (And.intro hv (below_step H2.out.2 hb3)))
  clear hv hb3 H2
  go_wp2_with fail
  refine (set_calls false (dec s.data.toList) g false none 0 0 _ _ H3.out.1 (Lib.hid H3.out.2.1)).mono ?_
  rintro e w4 ⟨rfl, h1, h2, h3⟩
  have H4 := Lib.hid (And.intro h1 (grown_below H3.out.2.2 |>.trans h3))
  clear h1 h2 h3
  go_wp2_with fail
  go_ret2
  exact ⟨rfl, H4.out.1, H4.out.2⟩

set_option maxRecDepth 100000 in
set_option maxHeartbeats 400000 in
theorem newInt_calls (n : Nat) (hn : n < 9000000000000000000) (w : World) :
    Calls Tryz.prog 62 #[.int .i64 n] w fun e w' => ∃ k, e = .returned (.pointer (some ⟨k, 0, none⟩)) ∧ IntAt w' k (n : Int) ∧ w.heap.size ≤ k ∧ Below w.heap.size w w' := by
  have W1 : IntKind.u64.wrap (n : Int) = n := IntWalk.u64_in _ (by omega)
  have hneg : ¬ (n : Int) < 0 := by omega
  go_enter Tryz.func62, Tryz.ntmps62
  go_wp2_with fail
  refine (natOf_calls n (by omega) _).mono ?_
  rintro e w1 ⟨v, rfl, hv, hb⟩
  obtain ⟨A, c, rfl, _⟩ := hv.form
  have ha := (Below.refl w1.heap.size w1).alloc (Nat.le_refl _) (.cells #[.bool false, .slice A (limbs n).length c] 62)
  have H := Lib.hid (And.intro (hv.below ha) (And.intro (below_step hb ha) (And.intro (Blk.alloc w1 #[.bool false, .slice A (limbs n).length c] 62) hb.size)))
  clear hv hb ha
  go_wp2_with fail
  go_ret
  refine ⟨_, rfl, ⟨A, c, ?_, ?_⟩, H.out.2.2.2, H.out.2.1⟩
  · rw [Int.natAbs_natCast, decide_eq_false (by omega)]; exact H.out.2.2.1
  · rw [Int.natAbs_natCast]; exact H.out.1

theorem limbs_ten : limbs 10 = [10] := by rw [limbs_unit (by omega) (by omega)]; rfl

set_option maxRecDepth 100000 in
set_option maxHeartbeats 400000 in
theorem exp_calls (k : Nat) (hk : k ≤ 100000000) (g gx gy : Nat) (w : World) (hg : Blk w g #[.bool false, .slice none 0 0]) (hx : IntAt w gx (10 : Int)) (hy : IntAt w gy (k : Int)) :
    Calls Tryz.prog 61 #[.pointer (some ⟨g, 0, none⟩), .pointer (some ⟨gx, 0, none⟩), .pointer (some ⟨gy, 0, none⟩), .pointer none] w fun e w' => e = .returned (.pointer (some ⟨g, 0, none⟩)) ∧ IntAt w' g ((10 ^ k : Nat) : Int) ∧ w.grownBy w' (some g) ∧ Keeps w w' := by
  obtain ⟨A, c, hX, hn⟩ := hx
  obtain ⟨B, d, hY, hd⟩ := hy
  have e0 : ((k : Int)).natAbs = k := Int.natAbs_natCast _
  have e1 : ((10 : Int)).natAbs = 10 := rfl
  rw [e0] at hY hd
  rw [e1, limbs_ten] at hX hn
  obtain ⟨ad, rfl, hc⟩ := (show NatV .u32 w (.slice A 1 c) [10] by have h := hn; unfold IsU at h; rw [limbs_ten] at h; exact h).cell 0 (by omega)
  have hl2 : (limbs k).length ≤ 2 := limbs_len_le (by simp [pw]; omega)
  have y1 : w.cell? ⟨gy, 1, none⟩ = some (.slice B (limbs k).length d) := hY.cell 1
  have hsm := small_calls k _ _ hd
  rw [if_pos hl2, decide_eq_true hl2] at hsm
  have HSM := Lib.hid hsm
  have H := Lib.hid (And.intro hg (And.intro hX hc))
  have W1 : IntKind.i64.wrap (k : Int) = k := IntWalk.i64_in _ (by omega)
  clear hg hX hY hn hd e0 e1 hc hsm hl2
  go_enter Tryz.func61, Tryz.ntmps61
  go_wp2_with fail
  refine HSM.out.mono ?_
  rintro e w2 ⟨rfl, hD⟩
  have hb2 := Drawn0.below hD
  have H2 := Lib.hid (And.intro (H.out.1.same (hb2.block _ H.out.1.lt)) hb2)
  have x1 : w2.cell? ⟨gx, 1, none⟩ = some (.slice (some ad) 1 c) := (H.out.2.1.same (hb2.block _ H.out.2.1.lt)).cell 1
  have ea : ad.add 0 = ad := by cases ad; simp [Addr.add]
  have hc' : w2.cell? ad = some (.int .u32 10) := by
    rw [← ea]
    exact (World.cell?_of_block (hb2.block _ (World.block_lt_of_cell? w _ H.out.2.2))).trans H.out.2.2
  clear hD hb2 y1 HSM ea
  go_wp2_with fail
  refine (TenWalk.calls k (by omega) _).mono ?_
  rintro e w3 ⟨v, rfl, hv, hb3⟩
  have H3 := Lib.hid (And.intro hv (And.intro (H2.out.1.same (hb3.block _ H2.out.1.lt)) (below_step H2.out.2 hb3)))
  clear hv hb3 x1 hc'
  go_wp2_with fail
  refine (set_calls false (10 ^ k) g false none 0 0 _ _ H3.out.2.1 (Lib.hid H3.out.1)).mono ?_
  rintro e w4 ⟨rfl, h1, h2, h3⟩
  have H4 := Lib.hid (And.intro h1 (And.intro (grown_below H3.out.2.2 |>.trans h3) ((Keeps.below H3.out.2.2).trans h2)))
  clear h1 h2 h3
  go_wp2_with fail
  go_ret
  exact ⟨rfl, H4.out.1, H4.out.2⟩

structure Two2 (w : World) (g : Nat) (n d : Nat) (vn vd : Value) (W : World) : Prop where
  fit : Fit W g
  n : IsU W vn n
  d : IsU W vd d
  keeps : Keeps w W
  grown : w.grownBy W (some g)
theorem two2_below {w : World} {g gx gy n d : Nat} {bx by_ vn vd : Value} {W W' : World} (h : W.cell? ⟨gx, 0, none⟩ = some bx ∧ W.cell? ⟨gy, 0, none⟩ = some by_ ∧ W.cell? ⟨gx, 1, none⟩ = some vn ∧ W.cell? ⟨gy, 1, none⟩ = some vd ∧ Two2 w g n d vn vd W) (hb : Below W.heap.size W W') :
    W'.cell? ⟨gx, 0, none⟩ = some bx ∧ W'.cell? ⟨gy, 0, none⟩ = some by_ ∧ W'.cell? ⟨gx, 1, none⟩ = some vn ∧ W'.cell? ⟨gy, 1, none⟩ = some vd ∧ Two2 w g n d vn vd W' := by
  obtain ⟨b0, A0, n0, c0, B0, m0, d0, hg⟩ := h.2.2.2.2.fit
  exact ⟨cell_below h.1 hb, cell_below h.2.1 hb, cell_below h.2.2.1 hb, cell_below h.2.2.2.1 hb, ⟨b0, A0, n0, c0, B0, m0, d0, hg.same (hb.block _ hg.lt)⟩, h.2.2.2.2.n.below hb, h.2.2.2.2.d.below hb, h.2.2.2.2.keeps.trans (Keeps.below hb), h.2.2.2.2.grown.trans (grown_below hb)⟩
theorem two2_put {w : World} {g gx gy n d : Nat} {bx by_ vn vd : Value} {W W' : World} {r : Rat} (h : W.cell? ⟨gx, 0, none⟩ = some bx ∧ W.cell? ⟨gy, 0, none⟩ = some by_ ∧ W.cell? ⟨gx, 1, none⟩ = some vn ∧ W.cell? ⟨gy, 1, none⟩ = some vd ∧ Two2 w g n d vn vd W) (h1 : g ≠ gx) (h2 : g ≠ gy) (hr : RatAt W' g r) (hk : Keeps W W') (hg : W.grownBy W' (some g)) :
    W'.cell? ⟨gx, 0, none⟩ = some bx ∧ W'.cell? ⟨gy, 0, none⟩ = some by_ ∧ W'.cell? ⟨gx, 1, none⟩ = some vn ∧ W'.cell? ⟨gy, 1, none⟩ = some vd ∧ Two2 w g n d vn vd W' :=
  ⟨cell_grown h.1 hg h1, cell_grown h.2.1 hg h2, cell_grown h.2.2.1 hg h1, cell_grown h.2.2.2.1 hg h2, hr.fit, IsU.keeps h.2.2.2.2.n hk, IsU.keeps h.2.2.2.2.d hk, h.2.2.2.2.keeps.trans hk, h.2.2.2.2.grown.trans hg⟩
theorem two2_of {w : World} {g gx gy n d : Nat} {bx by_ vn vd : Value} {W : World} (h : W.cell? ⟨gx, 0, none⟩ = some bx ∧ W.cell? ⟨gy, 0, none⟩ = some by_ ∧ W.cell? ⟨gx, 1, none⟩ = some vn ∧ W.cell? ⟨gy, 1, none⟩ = some vd ∧ Two2 w g n d vn vd W) : Two2 w g n d vn vd W := h.2.2.2.2

set_option maxRecDepth 100000 in
set_option maxHeartbeats 1000000 in
theorem setFrac_calls (n d : Nat) (hd0 : d ≠ 0) (hln : (limbs n).length ≤ 100000000) (hld : (limbs d).length ≤ 100000000) (g gx gy : Nat) (h1 : g ≠ gx) (h2 : g ≠ gy) (w : World) (hg : Fit w g) (hx : IntAt w gx (n : Int)) (hy : IntAt w gy (d : Int)) :
    Calls Tryz.prog 63 #[.pointer (some ⟨g, 0, none⟩), .pointer (some ⟨gx, 0, none⟩), .pointer (some ⟨gy, 0, none⟩)] w (Out (frac false n d) g w) := by
  obtain ⟨A, c, hX, hn⟩ := hx
  obtain ⟨B, c', hY, hd⟩ := hy
  rw [decide_eq_false (by omega : ¬ (n : Int) < 0), Int.natAbs_natCast] at hX
  rw [decide_eq_false (by omega : ¬ (d : Int) < 0), Int.natAbs_natCast] at hY
  rw [Int.natAbs_natCast] at hn hd
  obtain ⟨k1, hk1⟩ : ∃ k, k = (limbs n).length := ⟨_, rfl⟩
  obtain ⟨k2, hk2⟩ : ∃ k, k = (limbs d).length := ⟨_, rfl⟩
  rw [← hk1] at hX hn
  rw [← hk2] at hY hd
  have hS : w.cell? ⟨gx, 0, none⟩ = some (.bool false) ∧ w.cell? ⟨gy, 0, none⟩ = some (.bool false) ∧ w.cell? ⟨gx, 1, none⟩ = some (.slice A k1 c) ∧ w.cell? ⟨gy, 1, none⟩ = some (.slice B k2 c') ∧ Two2 w g n d (.slice A k1 c) (.slice B k2 c') w :=
    ⟨hX.cell 0, hY.cell 0, hX.cell 1, hY.cell 1, hg, hn, hd, Keeps.refl w, grown_below (Below.refl _ _)⟩
  clear hX hY hn hd hg hk1 hk2
  go_enter Tryz.func63, Tryz.ntmps63
  go_upto_region 1 with fail
  go_region_held3 (fun (W : World) => W.cell? ⟨gx, 0, none⟩ = some (.bool false) ∧ W.cell? ⟨gy, 0, none⟩ = some (.bool false) ∧ W.cell? ⟨gx, 1, none⟩ = some (.slice A k1 c) ∧ W.cell? ⟨gy, 1, none⟩ = some (.slice B k2 c') ∧ Two2 w g n d (.slice A k1 c) (.slice B k2 c') W)
    (first | exact two2_below hS (Drawn0.below ⟨1, rfl⟩) | exact two2_put (by assumption) h1 h2 (by assumption) (by assumption) (by assumption))
    (first
      | (go_at_call 108; refine (put_fit false n d hd0 hln hld g _ _ _ (two2_of (by assumption)).fit (two2_of (by assumption)).n (two2_of (by assumption)).d).mono ?_; rintro e w2 ⟨rfl, hr, hk, hg⟩))
  all_goals
    go_wp2_with fail
    go_ret
    exact ⟨rfl, by assumption, (two2_of (by assumption)).keeps, (two2_of (by assumption)).grown⟩
end Go.Proofs.YtjeamchaibialaaGreatDoor.ReadsWalk

/- num's Read: the walk. -/
namespace Go.Proofs.YtjeamchaibialaaGreatDoor.Reads2
open Go.RowKit Go.Proofs.YtjeamchaibialaaGreatDoorW.PrintWords Go.Proofs.YtjeamchaibialaaGreatDoorW.PrintLast Go.Proofs.YtjeamchaibialaaGreatDoorW.PrintMore Fns Limbs Pure1 Nats Go.Proofs.YtjeamchaibialaaGreatDoor.Told ReadWalk Texts Rats Parses Heaps Go.Proofs.YtjeamchaibialaaGreatDoor.Ints Go.Proofs.YtjeamchaibialaaGreatDoor.Splits Go.Proofs.YtjeamchaibialaaGreatDoor.RatTell Go.Proofs.YtjeamchaibialaaGreatDoor.Ops Go.Proofs.YtjeamchaibialaaGreatDoor.ReadsWalk

def Lit (l : List UInt8) : Prop := Num (Lib.cut l [46]).1 ∧ ((Lib.cut l [46]).2.2 = true → Figs (Lib.cut l [46]).2.1)
def Tell (ok : Bool) (l : List UInt8) : Prop := (ok = true → Lit l) ∧ (ok = false → ¬ Lit l)
theorem tell_yes {l : List UInt8} (h : Lit l) : Tell true l := ⟨fun _ => h, fun e => absurd e (by decide)⟩
theorem tell_no {l : List UInt8} (h : ¬ Lit l) : Tell false l := ⟨fun e => absurd e (by decide), fun _ => h⟩
def litOf (l : List UInt8) : Rat := frac false (dec ((Lib.cut l [46]).1 ++ (Lib.cut l [46]).2.1)) (10 ^ (Lib.cut l [46]).2.1.length)
def Out (l : List UInt8) (w : World) (e : Ending) (W : World) : Prop :=
  Below w.heap.size w W ∧ ((Lit l ∧ e = .returned (.tuple #[.string ⟨(rtxt (litOf l)).toArray⟩, .int .i64 0])) ∨ (¬ Lit l ∧ e = .returned (.tuple #[.string ⟨#[]⟩, .int .i64 1])))

theorem ten_len (k : Nat) : (limbs (10 ^ k)).length ≤ (k + 1) / 9 + 1 := lt_ten_limbs (Nat.pow_lt_pow_right (by omega) (by omega))
theorem figs_both {x y : List UInt8} (hx : Num x) (hy : y = [] ∨ Figs y) : Figs (x ++ y) := by
  refine ⟨fun e => hx.figs.1 (List.append_eq_nil_iff.1 e).1, fun b hb => ?_⟩
  rcases List.mem_append.1 hb with h | h
  · exact hx.1 b h
  · rcases hy with e | e
    · rw [e] at h; cases h
    · exact e.2 b h
theorem cut_rest (l : List UInt8) (c : UInt8) (h : (Lib.cut l [c]).2.2 = false) : (Lib.cut l [c]).2.1 = [] := by
  rcases cut_cases l c with ⟨a, x, _, _, e⟩ | ⟨_, e⟩
  · rw [e] at h; cases h
  · rw [e]

set_option maxRecDepth 100000 in
set_option maxHeartbeats 2000000 in
theorem calls (s : ByteArray) (hs : s.size ≤ 30000000) (w : World) (hok : Ok w) :
    Calls Tryz.prog 21 #[.string s] w (Out s.data.toList w) := by
  obtain ⟨l, hl⟩ : ∃ l, l = s.data.toList := ⟨_, rfl⟩
  obtain ⟨x, hx⟩ : ∃ x : ByteArray, x = ⟨(Lib.cut l [46]).1.toArray⟩ := ⟨_, rfl⟩
  obtain ⟨y, hy⟩ : ∃ y : ByteArray, y = ⟨(Lib.cut l [46]).2.1.toArray⟩ := ⟨_, rfl⟩
  obtain ⟨sp, hsp⟩ : ∃ sp, sp = (Lib.cut l [46]).2.2 := ⟨_, rfl⟩
  have hle := RatSet.cut_le l 46
  have hll : l.length ≤ 30000000 := by rw [hl, ← Lib.size_eq]; exact hs
  have hxl : x.data.toList = (Lib.cut l [46]).1 := by rw [hx]
  have hyl : y.data.toList = (Lib.cut l [46]).2.1 := by rw [hy]
  have hxs : x.size ≤ 30000000 := by rw [Lib.size_eq, hxl]; exact Nat.le_trans hle.1 hll
  have hys : y.size ≤ 30000000 := by rw [Lib.size_eq, hyl]; exact Nat.le_trans hle.2 hll
  have hcut := cut_calls s 46 w (by omega) hok
  rw [← hl, ← hx, ← hy, ← hsp] at hcut
  have HC := Lib.hid hcut
  have HL := Lib.hid (And.intro hxl (And.intro hyl hsp))
  have hE : Hid (sp = false → y.data.toList = []) := Lib.hid (fun h => by rw [hyl]; exact cut_rest l 46 (by rw [← hsp]; exact h))
  rw [← hl]
  clear hx hy hsp hle hll hxl hyl hcut hl hok
  go_enter Tryz.func21, Tryz.ntmps21
  go_wp2_with fail
  refine HC.out.mono ?_
  rintro e w1 ⟨rfl, hb1⟩
  have HB1 := Lib.hid hb1
  clear hb1 HC
  go_upto_region 2 with fail
  go_cut [26] (fun v wx => ∃ ok : Bool, v = .bool (!ok) ∧ Hid (Tell ok l) ∧ Hid (Below w.heap.size w wx))
  case first =>
    go_wp2_with fail
    refine (NumeralWalk.calls x (by omega) _).mono ?_
    rintro e w2 ⟨b, rfl, hb, hb2⟩
    have H2 := Lib.hid (And.intro hb (below_step HB1.out hb2))
    clear hb hb2
    cases b
    · have hno : Hid (Tell false l) := Lib.hid (tell_no (fun h => absurd (H2.out.1.2 (by rw [HL.out.1]; exact h.1)) (by decide)))
      go_wp2_with fail
      go_meet
      case rel => exact ⟨false, rfl, hno, Lib.hid H2.out.2⟩
    · have hn := H2.out.1.1 rfl
      rw [HL.out.1] at hn
      have HN := Lib.hid hn
      clear hn
      cases sp
      · have hyes : Hid (Tell true l) := Lib.hid (tell_yes ⟨HN.out, fun h => by rw [← HL.out.2.2] at h; cases h⟩)
        go_wp2_with fail
        go_meet
        case rel => exact ⟨true, rfl, hyes, Lib.hid H2.out.2⟩
      · by_cases hf : Figs y.data.toList
        · have hyes : Hid (Tell true l) := Lib.hid (tell_yes ⟨HN.out, fun _ => by rw [← HL.out.2.1]; exact hf⟩)
          go_wp2_with fail
          refine (CanonWalk.figures_yes y (by omega) hf _).mono ?_
          rintro e w3 ⟨rfl, hb3⟩
          have HB3 := Lib.hid (below_step H2.out.2 hb3)
          clear hb3 hf
          go_wp2_with fail
          go_meet
          case rel => exact ⟨true, rfl, hyes, HB3⟩
        · have hno : Hid (Tell false l) := Lib.hid (tell_no (fun h => hf (by rw [HL.out.2.1]; exact h.2 HL.out.2.2.symm)))
          go_wp2_with fail
          refine (CanonWalk.figures_no y (by omega) hf _).mono ?_
          rintro e w3 ⟨rfl, hb3⟩
          have HB3 := Lib.hid (below_step H2.out.2 hb3)
          clear hb3 hf
          go_wp2_with fail
          go_meet
          case rel => exact ⟨false, rfl, hno, HB3⟩
  case rest =>
    obtain ⟨ok, rfl, hok, hb⟩ := hcut
    cases ok
    · have hn : Hid (¬ Lit l) := Lib.hid (hok.out.2 rfl)
      go_wp2_with fail
      go_ret2
      exact ⟨hb.out, .inr ⟨hn.out, rfl⟩⟩
    · have hlit := hok.out.1 rfl
      have hsz : (x ++ y).size ≤ 100000000 := by rw [ByteArray.size_append]; omega
      have hxy : (x ++ y).data.toList = x.data.toList ++ y.data.toList := by rw [ByteArray.data_append, Array.toList_append]
      have hfg : Figs (x ++ y).data.toList := by
        rw [hxy]
        refine figs_both (by rw [HL.out.1]; exact hlit.1) ?_
        cases sp
        · exact .inl (hE.out rfl)
        · exact .inr (by rw [HL.out.2.1]; exact hlit.2 HL.out.2.2.symm)
      obtain ⟨z, hz⟩ : ∃ z, z = x ++ y := ⟨_, rfl⟩
      rw [← hz] at hfg hxy
      have HZ := Lib.hid (And.intro hlit (And.intro hfg (And.intro hxy hz)))
      have hzl : z.size ≤ 100000000 := by rw [hz]; exact hsz
      clear hlit hfg hxy hE
      have ha := (Below.refl wc.heap.size wc).alloc (Nat.le_refl _) (.cells #[.bool false, .slice none 0 0] 62)
      have hB1 := Blk.alloc wc #[.bool false, .slice none 0 0] 62
      have HA := Lib.hid (And.intro hB1 (below_step hb.out ha))
      clear ha hB1
      go_wp2_with fail
      rw [← hz]
      clear hz hsz
      refine (setString_calls z hzl HZ.out.2.1 wc.heap.size _ HA.out.1).mono ?_
      rintro e w3 ⟨rfl, h1, h3⟩
      have H3 := Lib.hid (And.intro h1 (below_grown HA.out.2 h3 (hb.out.size)))
      clear h1 h3 HA
      go_wp2_with fail
      have ha := (Below.refl w3.heap.size w3).alloc (Nat.le_refl _) (.cells #[.bool false, .slice none 0 0] 62)
      have hB1 := Blk.alloc w3 #[.bool false, .slice none 0 0] 62
      have H4 := Lib.hid (And.intro hB1 (And.intro (below_step H3.out.2 ha) (And.intro (H3.out.1.below ha) (And.intro H3.out.1.lt H3.out.2.size))))
      clear ha hB1 H3
      generalize w3.alloc (.cells #[.bool false, .slice none 0 0] 62) = w4 at *
      generalize w3.heap.size = g2 at *
      generalize wc.heap.size = g1 at *
      refine (newInt_calls 10 (by omega) _).mono ?_
      rintro e w5 ⟨k1, rfl, h1, _, hb5⟩
      have H5 := Lib.hid (And.intro (H4.out.1.same (hb5.block _ H4.out.1.lt)) (And.intro (below_step H4.out.2.1 hb5) (And.intro (H4.out.2.2.1.below hb5) (And.intro H4.out.2.2.2 h1))))
      clear h1 hb5 H4
      go_wp2_with fail
      refine (newInt_calls y.size (by omega) _).mono ?_
      rintro e w6 ⟨k2, rfl, h1, _, hb6⟩
      have H6 := Lib.hid (And.intro (H5.out.1.same (hb6.block _ H5.out.1.lt)) (And.intro (below_step H5.out.2.1 hb6) (And.intro (H5.out.2.2.1.below hb6) (And.intro H5.out.2.2.2.1 (And.intro (H5.out.2.2.2.2.below hb6) h1)))))
      clear h1 hb6 H5
      go_wp2_with fail
      refine (exp_calls y.size (by omega) g2 k1 k2 _ H6.out.1 H6.out.2.2.2.2.1 H6.out.2.2.2.2.2).mono ?_
      rintro e w7 ⟨rfl, h1, h3, h2⟩
      have H7 := Lib.hid (And.intro (below_grown H6.out.2.1 h3 H6.out.2.2.2.1.2) (And.intro (H6.out.2.2.1.grown h2 h3 (by have := H6.out.2.2.2.1.1; omega)) (And.intro h1 H6.out.2.2.2.1.1)))
      clear h1 h2 h3 H6
      have ha := (Below.refl w7.heap.size w7).alloc (Nat.le_refl _) (.cells #[.bool false, .slice none 0 0, .slice none 0 0] 47)
      have hB1 := Blk.alloc w7 #[.bool false, .slice none 0 0, .slice none 0 0] 47
      have H8 := Lib.hid (And.intro (show Fit (w7.alloc (.cells #[.bool false, .slice none 0 0, .slice none 0 0] 47)) w7.heap.size from ⟨_, _, _, _, _, _, _, hB1⟩) (And.intro (below_step H7.out.1 ha) (And.intro (H7.out.2.1.below ha) (And.intro (H7.out.2.2.1.below ha) (And.intro H7.out.2.1.lt (And.intro H7.out.2.2.1.lt H7.out.1.size))))))
      clear ha hB1 H7
      go_wp2_with fail
      generalize w7.alloc (.cells #[.bool false, .slice none 0 0, .slice none 0 0] 47) = w8 at *
      generalize w7.heap.size = g3 at *
      have hl1 : (limbs (dec z.data.toList)).length ≤ 100000000 := Nat.le_trans (lt_ten_limbs (dec_lt HZ.out.2.1.2)) (by have : z.data.toList.length ≤ 100000000 := (by rw [← Lib.size_eq]; exact hzl); omega)
      have hl2 : (limbs (10 ^ y.size)).length ≤ 100000000 := Nat.le_trans (ten_len y.size) (by omega)
      have hp : 10 ^ y.size ≠ 0 := Nat.pos_iff_ne_zero.1 (Nat.pow_pos (by omega))
      have hsq := Sizes.sz_frac (b := false) hp hl1 hl2
      refine (setFrac_calls (dec z.data.toList) (10 ^ y.size) hp hl1 hl2 g3 g1 g2 (by have := H8.out.2.2.2.2.1; omega) (by have := H8.out.2.2.2.2.2.1; omega) _ H8.out.1 H8.out.2.2.1 H8.out.2.2.2.1).mono ?_
      rintro e w9 ⟨rfl, h1, h2, h3⟩
      have H9 := Lib.hid (And.intro h1 (And.intro hsq (below_grown H8.out.2.1 h3 H8.out.2.2.2.2.2.2)))
      have hq : litOf l = frac false (dec z.data.toList) (10 ^ y.size) := by
        unfold litOf
        rw [← HL.out.1, ← HL.out.2.1, ← HZ.out.2.2.1, Lib.size_eq y]
      rw [← hq] at H9
      clear h1 h2 h3 H8 hl1 hl2 hp hsq hq
      go_wp2_with fail
      refine (text_calls (litOf l) (H9.out.2.1.mono (by omega)) g3 _ H9.out.1).mono ?_
      rintro e w10 ⟨rfl, hb⟩
      have HB := Lib.hid (below_step H9.out.2.2 hb)
      clear hb
      go_wp2_with fail
      go_ret2
      exact ⟨HB.out, .inl ⟨HZ.out.1, rfl⟩⟩
end Go.Proofs.YtjeamchaibialaaGreatDoor.Reads2
