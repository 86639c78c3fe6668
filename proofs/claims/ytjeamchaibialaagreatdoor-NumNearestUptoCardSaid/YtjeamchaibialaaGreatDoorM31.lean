/- Joined: Positive Simp SimF -/
import Derived.Test.YtjeamchaibialaaGreatDoorM30
import Derived.Test.YtjeamchaibialaaGreatDoorM19
import Derived.Test.YtjeamchaibialaaGreatDoorM5
import Derived.Test.YtjeamchaibialaaGreatDoorM17
set_option linter.unusedVariables false
set_option linter.unusedSimpArgs false
/- num's positive: the walk. -/
namespace Go.Proofs.YtjeamchaibialaaGreatDoor.PosWalk
open Go.RowKit Go.Proofs.YtjeamchaibialaaGreatDoorW.PrintWords Go.Proofs.YtjeamchaibialaaGreatDoorW.PrintLast Go.Proofs.YtjeamchaibialaaGreatDoorW.PrintMore Fns Limbs Pure1 Nats Go.Proofs.YtjeamchaibialaaGreatDoor.Told ReadWalk Texts Rats Parses Heaps Go.Proofs.YtjeamchaibialaaGreatDoor.Ints Go.Proofs.YtjeamchaibialaaGreatDoor.PutWalk Go.Proofs.YtjeamchaibialaaGreatDoor.RatTell Go.Proofs.YtjeamchaibialaaGreatDoor.Ops Go.Proofs.YtjeamchaibialaaGreatDoor.IntOps Go.Proofs.YtjeamchaibialaaGreatDoor.StepWalk Go.Proofs.YtjeamchaibialaaGreatDoor.ReadsWalk Go.Proofs.YtjeamchaibialaaGreatDoor.Chains Go.Proofs.YtjeamchaibialaaGreatDoor.BoundWalk

theorem blk_uniq {w : World} {g : Nat} {x y : Array Value} (h : Blk w g x) (k : Blk w g y) : x = y := by
  obtain ⟨t, h⟩ := h
  obtain ⟨u, k⟩ := k
  rw [h] at k
  injection k with k
  injection k
theorem box_int {w : World} {b g x : Nat} {z : Int} (h : Box w b g) (k : IntAt w x z) : b ≠ x := by
  intro e
  subst e
  obtain ⟨A, c, k, _⟩ := k
  have := blk_uniq h k
  have := congrArg Array.size this
  simp at this
theorem box_rat {w : World} {b g x : Nat} {q : Rat} (h : Box w b g) (k : RatAt w x q) : b ≠ x := by
  intro e
  subst e
  obtain ⟨A, B, c, d, k, _⟩ := k
  have := blk_uniq h k
  have := congrArg Array.size this
  simp at this
theorem int_rat {w : World} {x g : Nat} {z : Int} {q : Rat} (h : IntAt w x z) (k : RatAt w g q) : x ≠ g := by
  intro e
  subst e
  obtain ⟨A, c, h, _⟩ := h
  obtain ⟨A, B, c, d, k, _⟩ := k
  have := blk_uniq h k
  have := congrArg Array.size this
  simp at this
theorem under_inj {a b : Nat} (ha : a ≠ 0) (hb : b ≠ 0) (h : under a = under b) : a = b := by
  unfold under at h
  by_cases h1 : a = 1
  · by_cases h2 : b = 1
    · rw [h1, h2]
    · rw [if_pos h1, if_neg h2] at h
      have := limbs_len_pos hb
      rw [← h] at this; simp at this
  · by_cases h2 : b = 1
    · rw [if_neg h1, if_pos h2] at h
      have := limbs_len_pos ha
      rw [h] at this; simp at this
    · rw [if_neg h1, if_neg h2] at h
      have := congrArg val h
      rw [val_limbs, val_limbs] at this
      omega
open Classical in
noncomputable def denOf (w : World) (v : Value) : Nat := if h : ∃ g q, v = .pointer (some ⟨g, 0, none⟩) ∧ RatAt w g q then (Classical.choose (Classical.choose_spec h)).den else 0
theorem denOf_eq {w : World} {g : Nat} {q : Rat} (h : RatAt w g q) : denOf w (.pointer (some ⟨g, 0, none⟩)) = q.den := by
  have hx : ∃ g' q', Value.pointer (some ⟨g, 0, none⟩) = .pointer (some ⟨g', 0, none⟩) ∧ RatAt w g' q' := ⟨g, q, rfl, h⟩
  unfold denOf
  rw [dif_pos hx]
  obtain ⟨e, k⟩ := Classical.choose_spec (Classical.choose_spec hx)
  generalize Classical.choose (Classical.choose_spec hx) = q' at *
  generalize Classical.choose hx = g' at *
  injection e with e
  injection e with e
  injection e with e _
  subst e
  obtain ⟨A, B, c, d, h1, _, h2⟩ := h
  obtain ⟨A', B', c', d', k1, _, k2⟩ := k
  have := blk_uniq h1 k1
  injection this with this
  injection this with _ this
  injection this with _ this
  injection this with this _
  injection this with e1 e2 e3
  subst e1 e3
  rw [e2] at h2
  exact under_inj q'.den_nz q.den_nz (CommonWalk.NatV.uniq k2 h2)
theorem denOf_none (w : World) : denOf w (.pointer none) = 0 := by
  unfold denOf
  rw [dif_neg]
  rintro ⟨g, q, e, _⟩
  injection e with e
  cases e
theorem denOf_hd {w : World} {v : Value} {hi : Option Rat} (h : BdAt w v hi) : denOf w v = hd hi := by
  cases hi with
  | none => rw [show v = .pointer none from h, denOf_none]; rfl
  | some q =>
    obtain ⟨g, rfl, h⟩ := h
    exact denOf_eq h
theorem below_touch {B : List Nat} {w0 w w' : World} (hb : Below w0.heap.size w0 w) (hB : ∀ b ∈ B, w0.heap.size ≤ b) (h : StepWalk.Touch B w w') : Below w0.heap.size w0 w' :=
  ⟨h.os.trans hb.os, h.tape.trans hb.tape, h.output.trans hb.output, Nat.le_trans hb.size h.size, fun k hk => (h.block k (Nat.lt_of_lt_of_le hk hb.size) (fun e => by have := hB k e; omega)).trans (hb.block k hk)⟩
theorem two_boxes {w0 w : World} (hb : Below w0.heap.size w0 w) (g1 g2 : Nat) : ∃ (W : World) (b1 b2 : Nat), W = (w.alloc (.cells #[.pointer (some ⟨g1, 0, none⟩)] 60)).alloc (.cells #[.pointer (some ⟨g2, 0, none⟩)] 60) ∧
    b1 = w.heap.size ∧ b2 = w.heap.size + 1 ∧ Box W b1 g1 ∧ Box W b2 g2 ∧ Below w0.heap.size w0 W ∧ Below w.heap.size w W ∧ w0.heap.size ≤ b1 ∧ b1 < b2 ∧ b2 < W.heap.size := by
  have h1 := new_below w (.cells #[.pointer (some ⟨g1, 0, none⟩)] 60)
  have h2 := new_below (w.alloc (.cells #[.pointer (some ⟨g1, 0, none⟩)] 60)) (.cells #[.pointer (some ⟨g2, 0, none⟩)] 60)
  have x1 : Box (w.alloc (.cells #[.pointer (some ⟨g1, 0, none⟩)] 60)) w.heap.size g1 := Blk.alloc w _ _
  have x2 : Box ((w.alloc (.cells #[.pointer (some ⟨g1, 0, none⟩)] 60)).alloc (.cells #[.pointer (some ⟨g2, 0, none⟩)] 60)) (w.alloc (.cells #[.pointer (some ⟨g1, 0, none⟩)] 60)).heap.size g2 := Blk.alloc _ _ _
  have e : (w.alloc (.cells #[.pointer (some ⟨g1, 0, none⟩)] 60)).heap.size = w.heap.size + 1 := by simp
  rw [e] at x2
  exact ⟨_, _, _, rfl, rfl, rfl, x1.below h2, x2, below_step (below_step hb h1) h2, below_step h1 h2, hb.size, by omega, x2.lt⟩

structure St (w : World) (lo0 : Rat) (hi0 : Option Rat) (M bn bm bd be : Nat) (lo : Rat) (hi : Option Rat) (n m d e gl gn gm gd ge : Nat) (vh : Value) (W : World) : Prop where
  ch : Chain lo0 hi0 M lo hi n m d e
  lo : RatAt W gl lo
  hi : BdAt W vh hi
  bn : Box W bn gn
  bm : Box W bm gm
  bd : Box W bd gd
  be : Box W be ge
  n : IntAt W gn n
  m : IntAt W gm m
  d : IntAt W gd d
  e : IntAt W ge e
  below : Below w.heap.size w W
section
variable {w : World} {lo0 : Rat} {hi0 : Option Rat} {M bn bm bd be : Nat} {lo : Rat} {hi : Option Rat} {n m d e gl gn gm gd ge : Nat} {vh : Value} {W W' : World}
theorem St.keep (h : St w lo0 hi0 M bn bm bd be lo hi n m d e gl gn gm gd ge vh W) (hb : Below W.heap.size W W') : St w lo0 hi0 M bn bm bd be lo hi n m d e gl gn gm gd ge vh W' :=
  ⟨h.ch, h.lo.below hb, h.hi.below hb, h.bn.below hb, h.bm.below hb, h.bd.below hb, h.be.below hb, h.n.below hb, h.m.below hb, h.d.below hb, h.e.below hb, below_step h.below hb⟩
theorem St.sz (h : St w lo0 hi0 M bn bm bd be lo hi n m d e gl gn gm gd ge vh W) (hM : (limbs M).length ≤ 1000000) : Sizes.Sz lo 1000000 := by
  have h1 := h.ch.b1
  have h2 := h.ch.b2
  have h3 : 0 ≤ lo.num := Rat.num_nonneg.2 h.ch.low
  exact ⟨Nat.le_trans (limbs_len_mono (show lo.num.natAbs ≤ M by omega)) hM, Nat.le_trans (limbs_len_mono h2) hM⟩
theorem St.small (h : St w lo0 hi0 M bn bm bd be lo hi n m d e gl gn gm gd ge vh W) (hM : (limbs M).length ≤ 1000000) : (limbs n).length ≤ 1000000 ∧ (limbs m).length ≤ 1000000 ∧ (limbs d).length ≤ 1000000 ∧ (limbs e).length ≤ 1000000 := by
  obtain ⟨h1, h2, h3, h4⟩ := h.ch.small
  exact ⟨Nat.le_trans (limbs_len_mono h1) hM, Nat.le_trans (limbs_len_mono h2) hM, Nat.le_trans (limbs_len_mono h3) hM, Nat.le_trans (limbs_len_mono h4) hM⟩
end
theorem fresh_rat (W : World) : Fit (W.alloc (.cells #[.bool false, .slice none 0 0, .slice none 0 0] 47)) W.heap.size := ⟨_, _, _, _, _, _, _, Blk.alloc W _ _⟩
theorem fresh_out {W W1 W2 : World} {g : Nat} {r : Rat} {e : Ending} (hb : Below W.heap.size W W1) (hg : W.heap.size ≤ g) (h : Ops.Out r g W1 e W2) : Below W.heap.size W W2 := below_grown hb h.2.2.2 hg
theorem fresh_int {W W1 W2 : World} {g : Nat} {z : Int} {e : Ending} (hb : Below W.heap.size W W1) (hg : W.heap.size ≤ g) (h : OutZ z g W1 e W2) : Below W.heap.size W W2 := below_grown hb h.2.2.2 hg
theorem floor_nat {q : Rat} (h : 0 ≤ q) : ∃ k : Nat, (k : Int) = q.floor ∧ (k : Int) ≤ q.num := by
  have h0 : 0 ≤ q.floor := Rat.le_floor_iff.2 h
  refine ⟨q.floor.toNat, by omega, ?_⟩
  have h3 := (Rat.le_iff _ _).1 (floor_fits q).1
  rw [Rat.num_intCast, Rat.den_intCast] at h3
  have h4 : (1 : Int) ≤ q.den := by have := q.den_nz; omega
  have h5 : q.floor * 1 ≤ q.floor * (q.den : Int) := Int.mul_le_mul_of_nonneg_left h4 h0
  omega

def OutPos (lo : Rat) (hi : Option Rat) (w : World) (e : Ending) (W : World) : Prop := ∃ g x, e = .returned (.pointer (some ⟨g, 0, none⟩)) ∧ RatAt W g x ∧ Pl lo hi x ∧ Sizes.Sz x 2000002 ∧ w.heap.size ≤ g ∧ Below w.heap.size w W
theorem chain_less {lo h : Rat} (hlt : lo < h) (hle : h ≤ ((lo.floor + 1 : Int) : Rat)) : (1 / (h - (lo.floor : Rat))).den + hd (turn lo) < lo.den + h.den := by
  have hf : (lo.floor : Rat) < h := Std.lt_of_le_of_lt (floor_fits lo).1 hlt
  obtain ⟨a1, a2, a3, a4⟩ := frac_pos hf
  have h1 : (1 / (h - (lo.floor : Rat))).den ≤ h.den := by
    have := (Rat.le_iff _ _).1 hle
    rw [Rat.num_intCast, Rat.den_intCast] at this
    have e : (lo.floor + 1) * (h.den : Int) = lo.floor * h.den + h.den := by rw [Int.add_mul, Int.one_mul]
    omega
  have h2 : hd (turn lo) < lo.den := by
    by_cases he : lo = (lo.floor : Rat)
    · rw [turn_none he]; exact Nat.pos_of_ne_zero lo.den_nz
    · rw [turn_some he]
      obtain ⟨b1, b2, b3, b4⟩ := frac_pos (q := lo) (k := lo.floor) (by have := left_pos he; generalize (lo.floor : Rat) = f at *; grind)
      have := (Rat.lt_iff _ _).1 (floor_fits lo).2
      rw [Rat.num_intCast, Rat.den_intCast] at this
      have e : (lo.floor + 1) * (lo.den : Int) = lo.floor * lo.den + lo.den := by rw [Int.add_mul, Int.one_mul]
      show (1 / (lo - (lo.floor : Rat))).den < lo.den
      omega
  omega
structure Mid (w : World) (bn bm bd be : Nat) (lo h : Rat) (k n m d e gk gl gh gn gm gd ge : Nat) (W : World) : Prop where
  lo : RatAt W gl lo
  hi : RatAt W gh h
  k : IntAt W gk k
  bn : Box W bn gn
  bm : Box W bm gm
  bd : Box W bd gd
  be : Box W be ge
  n : IntAt W gn n
  m : IntAt W gm m
  d : IntAt W gd d
  e : IntAt W ge e
  below : Below w.heap.size w W
theorem Mid.keep {w : World} {bn bm bd be : Nat} {lo h : Rat} {k n m d e gk gl gh gn gm gd ge : Nat} {W W' : World} (M : Mid w bn bm bd be lo h k n m d e gk gl gh gn gm gd ge W) (hb : Below W.heap.size W W') : Mid w bn bm bd be lo h k n m d e gk gl gh gn gm gd ge W' :=
  ⟨M.lo.below hb, M.hi.below hb, M.k.below hb, M.bn.below hb, M.bm.below hb, M.bd.below hb, M.be.below hb, M.n.below hb, M.m.below hb, M.d.below hb, M.e.below hb, below_step M.below hb⟩
theorem two_M {M x : Nat} (hM : (limbs M).length ≤ 1000000) (h : x ≤ 2 * M) : (limbs x).length ≤ 2000002 := by
  have h1 := limbs_len_mono h
  have h2 := limbs_len_mul 2 M
  have h3 : (limbs 2).length ≤ 1 := limbs_len_le (by simp [pw])
  omega
theorem one_M {M x : Nat} (hM : (limbs M).length ≤ 1000000) (h : x ≤ M + 1) : (limbs x).length ≤ 1000001 := by
  have h1 := limbs_len_mono h
  have h2 := limbs_len_add M 1
  have h3 : (limbs 1).length ≤ 1 := limbs_len_le (by simp [pw])
  omega
theorem cmp_neg {p q : Rat} : CmpWalk.cmpQ p q < 0 ↔ p < q := by
  unfold CmpWalk.cmpQ
  by_cases h : p < q
  · rw [if_pos h]; simp [h]
  · rw [if_neg h]
    constructor
    · intro h2; split at h2 <;> omega
    · intro h2; exact absurd h2 h

set_option maxRecDepth 100000 in
set_option maxHeartbeats 2000000 in
theorem calls (lo : Rat) (hi : Option Rat) (M : Nat) (hM : (limbs M).length ≤ 1000000) (h0 : 0 ≤ lo) (hu : Under lo hi) (b1 : lo.num ≤ M) (b2 : lo.den ≤ M) (b3 : hn hi ≤ M) (b4 : hd hi ≤ M)
    (gl : Nat) (vh : Value) (w : World) (hlo : RatAt w gl lo) (hhi : BdAt w vh hi) :
    Calls Tryz.prog 29 #[.pointer (some ⟨gl, 0, none⟩), vh] w (OutPos lo hi w) := by
  have HC := Lib.hid (Chain.start h0 hu b1 b2 b3 b4)
  have HL := Lib.hid (And.intro hlo hhi)
  clear h0 hu b1 b2 b3 b4 hlo hhi
  go_enter Tryz.func29, Tryz.ntmps29
  go_wp2_with fail
  refine (newInt_calls 1 (by omega) _).mono ?_
  rintro e w1 ⟨g1, rfl, h1, _, hb1⟩
  have H1 := Lib.hid (And.intro h1 hb1)
  clear h1 hb1
  go_wp2_with fail
  refine (newInt_calls 0 (by omega) _).mono ?_
  rintro e w2 ⟨g2, rfl, h2, _, hb2⟩
  have H2 := Lib.hid (And.intro (H1.out.1.below hb2) (And.intro h2 (below_step H1.out.2 hb2)))
  clear h2 hb2 H1
  obtain ⟨W2, bn, bd, hW2, hbn, hbd, hx1, hx2, hx3, hx4, hx5, hx6, hx7⟩ := two_boxes H2.out.2.2 g1 g2
  have H3 := Lib.hid (And.intro (H2.out.1.below hx4) (And.intro (H2.out.2.1.below hx4) (And.intro hx1 (And.intro hx2 (And.intro hx3 (And.intro hx5 (And.intro hx6 hx7)))))))
  clear hx1 hx2 hx3 hx4 hx5 hx6 hx7
  go_wp2_with fail
  rw [← hW2, ← hbd, ← hbn]
  clear hW2 hbn hbd H2
  refine (newInt_calls 0 (by omega) _).mono ?_
  rintro e w3 ⟨g3, rfl, h1, _, hb⟩
  have H4 := Lib.hid (And.intro (H3.out.1.below hb) (And.intro (H3.out.2.1.below hb) (And.intro (H3.out.2.2.1.below hb) (And.intro (H3.out.2.2.2.1.below hb) (And.intro (below_step H3.out.2.2.2.2.1 hb) (And.intro h1 (And.intro H3.out.2.2.2.2.2.1 (And.intro H3.out.2.2.2.2.2.2.1 (Nat.lt_of_lt_of_le H3.out.2.2.2.2.2.2.2 hb.size)))))))))
  clear h1 hb H3
  go_wp2_with fail
  refine (newInt_calls 1 (by omega) _).mono ?_
  rintro e w4 ⟨g4, rfl, h1, _, hb⟩
  obtain ⟨W4, bm, be, hW4, hbm, hbe, hx1, hx2, hx3, hx4, hx5, hx6, hx7⟩ := two_boxes (below_step H4.out.2.2.2.2.1 hb) g3 g4
  have hb' := below_step hb hx4
  have H5 := Lib.hid (And.intro (H4.out.1.below hb') (And.intro (H4.out.2.1.below hb') (And.intro (H4.out.2.2.1.below hb') (And.intro (H4.out.2.2.2.1.below hb') (And.intro hx3 (And.intro (H4.out.2.2.2.2.2.1.below hb') (And.intro (h1.below hx4) (And.intro hx1 (And.intro hx2 (And.intro H4.out.2.2.2.2.2.2.1 (And.intro H4.out.2.2.2.2.2.2.2.1 (And.intro (show bd < bm by have := H4.out.2.2.2.2.2.2.2.2; have := hb.size; omega) hx6))))))))))))
  clear h1 hb hb' hx1 hx2 hx3 hx4 hx5 hx6 hx7 H4
  go_wp2_with fail
  rw [← hW4, ← hbe, ← hbm]
  have HW := Lib.hid (show Below w.heap.size w W4 from H5.out.2.2.2.2.1)
  have HST : Hid (St w lo hi M bn bm bd be lo hi 1 0 0 1 gl g1 g3 g2 g4 vh W4) := Lib.hid
    ⟨HC.out, HL.out.1.below HW.out, HL.out.2.below HW.out, H5.out.2.2.1, H5.out.2.2.2.2.2.2.2.1, H5.out.2.2.2.1, H5.out.2.2.2.2.2.2.2.2.1, H5.out.1, H5.out.2.2.2.2.2.1, H5.out.2.1, H5.out.2.2.2.2.2.2.1, HW.out⟩
  have HBX : Hid ([bn, bm, bd, be].Nodup ∧ ∀ b ∈ [bn, bm, bd, be], w.heap.size ≤ b) := Lib.hid (by
    obtain ⟨h1, h2, h3, h4⟩ := H5.out.2.2.2.2.2.2.2.2.2
    refine ⟨by simp; omega, fun b hb => ?_⟩
    simp at hb
    omega)
  clear hW4 hbe hbm H5 HW HL HC
  go_loopw [0, 1] (fun v0 v1 wr => ∃ (lo' : Rat) (hi' : Option Rat) (n m d e gl gn gm gd ge : Nat), v0 = .pointer (some ⟨gl, 0, none⟩) ∧ Hid (St w lo hi M bn bm bd be lo' hi' n m d e gl gn gm gd ge v1 wr)) (fun v0 v1 wr => denOf wr v0 + denOf wr v1)
  case atStart => exact ⟨lo, hi, 1, 0, 0, 1, gl, g1, g3, g2, g4, rfl, HST⟩
  case round =>
    clear HST
    obtain ⟨lo', hi', n, m, d, e, gl', gn, gm, gd, ge, rfl, HS⟩ := hrel
    obtain ⟨k, hk, hkn⟩ := floor_nat HS.out.ch.low
    have HK := Lib.hid (And.intro hk hkn)
    have HMS := Lib.hid (And.intro (denOf_eq HS.out.lo) (denOf_hd HS.out.hi))
    clear hk hkn
    go_wp2_with fail
    refine (FloorWalk.floor_calls lo' ((HS.out.sz hM).mono (by omega)) gl' _ HS.out.lo).mono ?_
    rintro _ w5 ⟨gk, rfl, h1, hb⟩
    rw [← HK.out.1] at h1
    have H5 := Lib.hid (And.intro h1 (HS.out.keep hb))
    clear h1 hb HS
    have ha := new_below w5 (.cells #[.bool false, .slice none 0 0] 62)
    have hf := new_int w5
    have H6 := Lib.hid (And.intro (H5.out.1.below ha) (And.intro (H5.out.2.keep ha) (And.intro hf ha)))
    clear ha hf
    go_wp2_with fail
    refine (newInt_calls 1 (by omega) _).mono ?_
    rintro _ w7 ⟨gone, rfl, h1, hge, hb⟩
    have hge' : w5.heap.size + 1 ≤ gone := by simpa using hge
    have H7 := Lib.hid (And.intro h1 (And.intro (H6.out.1.below hb) (And.intro (H6.out.2.1.keep hb) (And.intro (H6.out.2.2.1.below hb) (below_step H6.out.2.2.2 hb)))))
    clear h1 hb H6
    go_wp2_with fail
    have hkM : k ≤ M := by have := HK.out.2; have := H5.out.2.ch.b1; omega
    refine (IntOps.add_calls k 1 (Nat.le_trans (one_M hM (by omega)) (by omega)) (by rw [Sizes.limbs_one]; omega) w5.heap.size gk gone (by have := H5.out.1.lt; omega) (by omega) _ H7.out.2.2.2.1 H7.out.2.1 H7.out.1).mono ?_
    rintro _ w8 hz
    obtain ⟨rfl, h1, h2, h3⟩ := id hz
    have hb8 := fresh_int H7.out.2.2.2.2 (Nat.le_refl _) hz
    have H8 := Lib.hid (And.intro h1 (And.intro (H5.out.1.below hb8) (H5.out.2.keep hb8)))
    obtain ⟨gx, hgx⟩ : ∃ g, g = w5.heap.size := ⟨_, rfl⟩
    rw [← hgx] at H8 ⊢
    clear h1 h2 h3 hz hb8 H5 H7 hgx hge hge'
    go_upto_region 6 with fail
    go_cut [34] from 19 to 63 (fun v wx => ∃ b : Bool, v = .bool b ∧ Hid ((b = true → Under ((lo'.floor + 1 : Int) : Rat) hi') ∧ (b = false → ∃ h, hi' = some h ∧ h ≤ ((lo'.floor + 1 : Int) : Rat)) ∧ IntAt wx gx ((k + 1 : Nat) : Int) ∧ IntAt wx gk k ∧ St w lo hi M bn bm bd be lo' hi' n m d e gl' gn gm gd ge u1 wx))
    case first =>
      cases hi' with
      | none =>
        obtain rfl : u1 = .pointer none := H8.out.2.2.hi
        go_wp2_with fail
        go_meet
        case rel => exact ⟨true, rfl, Lib.hid ⟨(fun _ x hx => by cases hx), (fun h => by cases h), H8.out⟩⟩
      | some h =>
        obtain ⟨gh, rfl, _⟩ := H8.out.2.2.hi
        have HH : Hid (∀ W, Below w8.heap.size w8 W → RatAt W gh h) := Lib.hid (fun W hb => by
          obtain ⟨g', e, hr⟩ := H8.out.2.2.hi
          injection e with e
          injection e with e
          injection e with e _
          subst e
          exact hr.below hb)
        have ha := new_below w8 (.cells #[.bool false, .slice none 0 0, .slice none 0 0] 47)
        have hf := fresh_rat w8
        have H9 := Lib.hid (And.intro hf (And.intro (H8.out.1.below ha) ha))
        have hgx := H8.out.1.lt
        clear ha hf
        go_wp2_with fail
        refine (setInt_calls ((k + 1 : Nat) : Int) w8.heap.size gx (by omega) _ H9.out.1 H9.out.2.1).mono ?_
        rintro _ w9 hz
        obtain ⟨rfl, h1, h2, h3⟩ := id hz
        have H10 := Lib.hid (And.intro h1 (fresh_out H9.out.2.2 (Nat.le_refl _) hz))
        clear h1 h2 h3 hz H9
        have hz1 : Sizes.Sz ((((k + 1 : Nat) : Int)) : Rat) 40000000 := ⟨by rw [Rat.num_intCast, Int.natAbs_natCast]; exact Nat.le_trans (one_M hM (by omega)) (by omega), by rw [Rat.den_intCast, Sizes.limbs_one]; omega⟩
        have hz2 : Sizes.Sz h 40000000 := by
          have h3 := H8.out.2.2.ch.b3
          have h4 := H8.out.2.2.ch.b4
          have h5 := hn_pos H8.out.2.2.ch.low H8.out.2.2.ch.under
          exact ⟨Nat.le_trans (limbs_len_mono (show h.num.natAbs ≤ M by simp only [hn] at h3 h5; omega)) (by omega), Nat.le_trans (limbs_len_mono h4) (by omega)⟩
        have HZ := Lib.hid (And.intro hz1 hz2)
        clear hz1 hz2
        go_wp2_with fail
        refine (CmpWalk.calls ((((k + 1 : Nat) : Int)) : Rat) h HZ.out.1 HZ.out.2 w8.heap.size gh _ H10.out.1 (HH.out _ H10.out.2)).mono ?_
        rintro _ w10 ⟨rfl, hb⟩
        have H11 := Lib.hid (And.intro (H8.out.1.below (below_step H10.out.2 hb)) (And.intro (H8.out.2.1.below (below_step H10.out.2 hb)) (H8.out.2.2.keep (below_step H10.out.2 hb))))
        have hke : ((((k + 1 : Nat) : Int)) : Rat) = ((lo'.floor + 1 : Int) : Rat) := by rw [← HK.out.1]; rfl
        by_cases hlt : CmpWalk.cmpQ ((((k + 1 : Nat) : Int)) : Rat) h < 0
        · have HU : Hid (Under ((lo'.floor + 1 : Int) : Rat) (some h)) := Lib.hid (fun x hx => by injection hx with hx; subst hx; rw [← hke]; exact cmp_neg.1 hlt)
          generalize CmpWalk.cmpQ ((((k + 1 : Nat) : Int)) : Rat) h = z at *
          clear hke hb hgx
          go_wp2_with fail
          go_meet
          case rel => exact ⟨true, rfl, Lib.hid ⟨(fun _ => HU.out), (fun h => by cases h), H11.out⟩⟩
        · have HU : Hid (h ≤ ((lo'.floor + 1 : Int) : Rat)) := Lib.hid (by rw [← hke]; exact Rat.not_lt.1 (fun h2 => hlt (cmp_neg.2 h2)))
          generalize CmpWalk.cmpQ ((((k + 1 : Nat) : Int)) : Rat) h = z at *
          clear hke hb hgx
          go_wp2_with fail
          go_meet
          case rel => exact ⟨false, (by simp; omega), Lib.hid ⟨(fun h => by cases h), (fun _ => ⟨h, rfl, HU.out⟩), H11.out⟩⟩
    case rest =>
      obtain ⟨b, rfl, HR⟩ := hcut
      cases b
      · obtain ⟨h, rfl, hle⟩ := HR.out.2.1 rfl
        obtain ⟨gh, rfl, _⟩ := HR.out.2.2.2.2.hi
        have hrh : RatAt wc gh h := by
          obtain ⟨g', e, hr⟩ := HR.out.2.2.2.2.hi
          cases e
          exact hr
        have hsm := HR.out.2.2.2.2.small hM
        have hbx : ∀ x ∈ [bn, bm, bd, be], ∃ g, Box wc x g := by
          intro x hx
          simp at hx
          rcases hx with rfl | rfl | rfl | rfl
          · exact ⟨_, HR.out.2.2.2.2.bn⟩
          · exact ⟨_, HR.out.2.2.2.2.bm⟩
          · exact ⟨_, HR.out.2.2.2.2.bd⟩
          · exact ⟨_, HR.out.2.2.2.2.be⟩
        have hne : ∀ x ∈ [bn, bm, bd, be], x ≠ gk ∧ x ≠ gn ∧ x ≠ gd ∧ x ≠ ge := by
          intro x hx
          obtain ⟨g, hg⟩ := hbx x hx
          exact ⟨box_int hg HR.out.2.2.2.1, box_int hg HR.out.2.2.2.2.n, box_int hg HR.out.2.2.2.2.d, box_int hg HR.out.2.2.2.2.e⟩
        have hnr : gl' ∉ [bn, bm, bd, be] ∧ gh ∉ [bn, bm, bd, be] ∧ gk ∉ [bn, bm, bd, be] ∧ gn ∉ [bn, bm, bd, be] ∧ gd ∉ [bn, bm, bd, be] :=
          ⟨fun hx => (by obtain ⟨g, hg⟩ := hbx _ hx; exact box_rat hg HR.out.2.2.2.2.lo rfl), fun hx => (by obtain ⟨g, hg⟩ := hbx _ hx; exact box_rat hg hrh rfl), fun hx => (hne _ hx).1 rfl, fun hx => (hne _ hx).2.1 rfl, fun hx => (hne _ hx).2.2.1 rfl⟩
        have HSM := Lib.hid (And.intro hsm (And.intro hne (And.intro hnr (And.intro hrh hle))))
        have HCH := Lib.hid HR.out.2.2.2.2.ch
        have hkM : k ≤ M := by have := HK.out.2; have := HCH.out.b1; omega
        clear hsm hne hnr hrh hle hbx
        go_wp2_with fail
        refine (StepWalk.calls k n m d e (Nat.le_trans (one_M hM (by omega)) (by omega)) (by have := HSM.out.1.1; omega) (by have := HSM.out.1.2.1; omega) (by have := HSM.out.1.2.2.1; omega) (by have := HSM.out.1.2.2.2; omega) gk gn gm gd ge bn bm bd be _ HR.out.2.2.2.1 HR.out.2.2.2.2.n HR.out.2.2.2.2.m HR.out.2.2.2.2.d HR.out.2.2.2.2.e HR.out.2.2.2.2.bn HR.out.2.2.2.2.bm HR.out.2.2.2.2.bd HR.out.2.2.2.2.be HBX.out.1 HSM.out.2.1).mono ?_
        rintro _ w11 ⟨rfl, h1, h2, ⟨gN, h3, h4, h5⟩, h6, ⟨gD, h7, h8, h9⟩, h10⟩
        have hb := below_touch HR.out.2.2.2.2.below HBX.out.2 h2
        have HMID : Hid (Mid w bn bm bd be lo' h k (k * n + m) n (k * d + e) d gk gl' gh gN gn gD gd w11) := Lib.hid
          ⟨HR.out.2.2.2.2.lo.same h1 (h2.block _ HR.out.2.2.2.2.lo.lt HSM.out.2.2.1.1), HSM.out.2.2.2.1.same h1 (h2.block _ HSM.out.2.2.2.1.lt HSM.out.2.2.1.2.1), HR.out.2.2.2.1.same h1 (h2.block _ HR.out.2.2.2.1.lt HSM.out.2.2.1.2.2.1), h3, h6, h7, h10, h4,
            HR.out.2.2.2.2.n.same h1 (h2.block _ HR.out.2.2.2.2.n.lt HSM.out.2.2.1.2.2.2.1), h8, HR.out.2.2.2.2.d.same h1 (h2.block _ HR.out.2.2.2.2.d.lt HSM.out.2.2.1.2.2.2.2), hb⟩
        have HLE := Lib.hid HSM.out.2.2.2.2
        have HSZ := Lib.hid (HR.out.2.2.2.2.sz hM)
        clear h1 h2 h3 h4 h5 h6 h7 h8 h9 h10 hb HR HSM
        have ha := new_below w11 (.cells #[.bool false, .slice none 0 0, .slice none 0 0] 47)
        have hf := fresh_rat w11
        have H13 := Lib.hid (And.intro (HMID.out.keep ha) (And.intro hf ha))
        have hlt := HMID.out.k.lt
        clear ha hf
        go_wp2_with fail
        refine (setInt_calls (k : Int) w11.heap.size gk (by omega) _ H13.out.2.1 H13.out.1.k).mono ?_
        rintro _ w12 hz
        obtain ⟨rfl, h1, _, _⟩ := id hz
        have hb := fresh_out H13.out.2.2 (Nat.le_refl _) hz
        obtain ⟨gw, hgw⟩ : ∃ g, g = w11.heap.size := ⟨_, rfl⟩
        rw [← hgw] at h1 ⊢
        have H14 := Lib.hid (And.intro (HMID.out.keep hb) h1)
        clear h1 hz hb H13 hgw hlt HMID
        have ha := new_below w12 (.cells #[.bool false, .slice none 0 0, .slice none 0 0] 47)
        have hf := fresh_rat w12
        have H15 := Lib.hid (And.intro (H14.out.1.keep ha) (And.intro (H14.out.2.below ha) (And.intro hf ha)))
        have hlt1 := H14.out.1.lo.lt
        have hlt2 := H14.out.2.lt
        have hzk : Sizes.Sz ((k : Int) : Rat) 1000001 := ⟨by rw [Rat.num_intCast, Int.natAbs_natCast]; exact one_M hM (by omega), by rw [Rat.den_intCast, Sizes.limbs_one]; omega⟩
        have hzh : Sizes.Sz h 1000001 := by
          have h3 := HCH.out.b3
          have h4 := HCH.out.b4
          have h5 := hn_pos HCH.out.low HCH.out.under
          exact ⟨Nat.le_trans (limbs_len_mono (show h.num.natAbs ≤ M by simp only [hn] at h3 h5; omega)) (by omega), Nat.le_trans (limbs_len_mono h4) (by omega)⟩
        have HZZ := Lib.hid (And.intro hzk hzh)
        clear ha hf hzk hzh
        go_wp2_with fail
        refine (CmpWalk.sub_calls lo' ((k : Int) : Rat) (HSZ.out.mono (by omega)) (HZZ.out.1.mono (by omega)) gl' gw w12.heap.size (by omega) (by omega) _ H15.out.1.lo H15.out.2.1 H15.out.2.2.1).mono ?_
        rintro _ w13 hz
        obtain ⟨rfl, h1, _, _⟩ := id hz
        have hb := fresh_out H15.out.2.2.2 (Nat.le_refl _) hz
        obtain ⟨gq, hgq⟩ : ∃ g, g = w12.heap.size := ⟨_, rfl⟩
        have HWQ := Lib.hid (show w.heap.size ≤ gq by have := H14.out.1.below.size; omega)
        rw [← hgq] at h1 ⊢
        have H16 := Lib.hid (And.intro (H14.out.1.keep hb) (And.intro (H14.out.2.below hb) h1))
        clear h1 hz hb H15 hgq hlt1 hlt2 H14
        have ha := new_below w13 (.cells #[.bool false, .slice none 0 0, .slice none 0 0] 47)
        have hf := fresh_rat w13
        have ha2 := new_below (w13.alloc (.cells #[.bool false, .slice none 0 0, .slice none 0 0] 47)) (.cells #[.bool false, .slice none 0 0, .slice none 0 0] 47)
        have hf2 := fresh_rat (w13.alloc (.cells #[.bool false, .slice none 0 0, .slice none 0 0] 47))
        have haa := below_step ha ha2
        have hsz : (w13.alloc (.cells #[.bool false, .slice none 0 0, .slice none 0 0] 47)).heap.size = w13.heap.size + 1 := by simp
        rw [hsz] at hf2
        have H17 := Lib.hid (And.intro (H16.out.1.keep haa) (And.intro (H16.out.2.1.below haa) (And.intro (H16.out.2.2.below haa) (And.intro (hf.below ha2) (And.intro hf2 haa)))))
        have hlt1 := H16.out.1.hi.lt
        have hlt2 := H16.out.2.1.lt
        clear ha hf ha2 hf2 haa hsz
        go_wp2_with fail
        refine (CmpWalk.sub_calls h ((k : Int) : Rat) (HZZ.out.2.mono (by omega)) (HZZ.out.1.mono (by omega)) gh gw (w13.heap.size + 1) (by omega) (by omega) _ H17.out.1.hi H17.out.2.1 H17.out.2.2.2.2.1).mono ?_
        rintro _ w14 hz
        obtain ⟨rfl, h1, _, hg1⟩ := id hz
        have hb := fresh_out H17.out.2.2.2.2.2 (show w13.heap.size ≤ w13.heap.size + 1 by omega) hz
        have H18 := Lib.hid (And.intro (H16.out.1.keep hb) (And.intro (H16.out.2.2.below hb) (And.intro h1 (And.intro (show Fit w14 w13.heap.size from (by
          obtain ⟨x1, x2, x3, x4, x5, x6, x7, hB⟩ := H17.out.2.2.2.1
          exact ⟨x1, x2, x3, x4, x5, x6, x7, hB.same (hg1.block _ hB.lt (fun e => by injection e with e; omega))⟩)) hb))))
        have hpos : 0 < (h - ((k : Int) : Rat)).num := by
          have h5 : (lo'.floor : Rat) < h := Std.lt_of_le_of_lt (floor_fits lo').1 (HCH.out.under _ rfl)
          rw [HK.out.1]
          exact num_pos (by generalize (lo'.floor : Rat) = f at *; grind)
        have HPOS := Lib.hid (And.intro hpos (Sizes.sz_sub HZZ.out.2 HZZ.out.1))
        clear h1 hz hb hg1 hlt1 hlt2 H17 hpos
        go_wp2_with fail
        refine (inv_calls (h - ((k : Int) : Rat)) HPOS.out.1 (HPOS.out.2.mono (by omega)) w13.heap.size (w13.heap.size + 1) _ H18.out.2.2.2.1 H18.out.2.2.1).mono ?_
        rintro _ w15 ⟨rfl, h1, h2, h3⟩
        have hb := below_grown H18.out.2.2.2.2 h3 (Nat.le_refl _)
        have H19 := Lib.hid (And.intro (H16.out.1.keep hb) (And.intro (H16.out.2.2.below hb) h1))
        obtain ⟨gv, hgv⟩ : ∃ g, g = w13.heap.size := ⟨_, rfl⟩
        have HQV := Lib.hid (And.intro (show gq ≠ gv by have := H16.out.2.2.lt; omega) HWQ.out)
        rw [← hgv] at H19 ⊢
        clear h1 h2 h3 hb H18 hgv H16 HWQ
        go_wp2_with fail
        refine (RatTell.sign_calls (lo' - ((k : Int) : Rat)) gq _ H19.out.2.1).mono ?_
        rintro _ w16 ⟨rfl, hb⟩
        have H20 := Lib.hid (And.intro (H19.out.1.keep hb) (And.intro (H19.out.2.1.below hb) (H19.out.2.2.below hb)))
        have HSTEP := Lib.hid (And.intro (Chain.step HCH.out HK.out.1 HLE.out) (chain_less (HCH.out.under _ rfl) HLE.out))
        have HKF : Hid ((((k : Int)) : Rat) = (lo'.floor : Rat)) := Lib.hid (by rw [HK.out.1])
        clear hb H19
        by_cases heq : lo' = (lo'.floor : Rat)
        · have hs : (lo' - ((k : Int) : Rat)).num.sign = 0 := by
            rw [HKF.out, ← heq, show lo' - lo' = 0 from by grind]; rfl
          rw [hs]
          have HT := Lib.hid (turn_none heq)
          clear hs heq
          go_wp2_with fail
          have HCC : Hid (Chain lo hi M (1 / (h - (lo'.floor : Rat))) none (k * n + m) n (k * d + e) d) := Lib.hid (HT.out ▸ HSTEP.out.1)
          have HRV : RatAt w16 gv (1 / (h - (lo'.floor : Rat))) := HKF.out ▸ H20.out.2.2
          refine ⟨⟨_, none, k * n + m, n, k * d + e, d, gv, gN, gn, gD, gd, rfl, Lib.hid ⟨HCC.out, HRV, rfl, H20.out.1.bn, H20.out.1.bm, H20.out.1.bd, H20.out.1.be, H20.out.1.n, H20.out.1.m, H20.out.1.d, H20.out.1.e, H20.out.1.below⟩⟩, ?_⟩
          have hl := HSTEP.out.2
          rw [HT.out] at hl
          rw [HMS.out.1, HMS.out.2, denOf_eq HRV, denOf_none]
          exact hl
        · have hlp := left_pos heq
          have hnum : 0 < (lo' - ((k : Int) : Rat)).num := num_pos (by rw [HKF.out]; exact hlp)
          have hs : (lo' - ((k : Int) : Rat)).num.sign = 1 := Int.sign_eq_one_of_pos hnum
          rw [hs]
          have HT := Lib.hid (turn_some heq)
          have HN := Lib.hid (And.intro hnum (Sizes.sz_sub (HSZ.out.mono (show 1000000 ≤ 1000001 by omega)) HZZ.out.1))
          clear hs heq hlp hnum
          go_wp2_with fail
          refine (inv_calls (lo' - ((k : Int) : Rat)) HN.out.1 (HN.out.2.mono (by omega)) gq gq _ H20.out.2.1.fit H20.out.2.1).mono ?_
          rintro _ w17 ⟨rfl, h1, h2, h3⟩
          have hne : ∀ b ∈ [bn, bm, bd, be], b ≠ gq := by
            intro b hb
            simp at hb
            rcases hb with rfl | rfl | rfl | rfl
            · exact box_rat H20.out.1.bn H20.out.2.1
            · exact box_rat H20.out.1.bm H20.out.2.1
            · exact box_rat H20.out.1.bd H20.out.2.1
            · exact box_rat H20.out.1.be H20.out.2.1
          have hsame : ∀ x, x < w16.heap.size → x ≠ gq → w17.heap[x]? = w16.heap[x]? := fun x hx hn => h3.block x hx (fun e => by injection e with e; omega)
          have HCC : Hid (Chain lo hi M (1 / (h - (lo'.floor : Rat))) (some (1 / (lo' - (lo'.floor : Rat)))) (k * n + m) n (k * d + e) d) := Lib.hid (HT.out ▸ HSTEP.out.1)
          have HRV : RatAt w17 gv (1 / (h - (lo'.floor : Rat))) := HKF.out ▸ H20.out.2.2.same h2 (hsame _ H20.out.2.2.lt (fun e => HQV.out.1 e.symm))
          have HRQ : RatAt w17 gq (1 / (lo' - (lo'.floor : Rat))) := HKF.out ▸ h1
          have HM := H20.out.1
          have HSS : Hid (St w lo hi M bn bm bd be (1 / (h - (lo'.floor : Rat))) (some (1 / (lo' - (lo'.floor : Rat)))) (k * n + m) n (k * d + e) d gv gN gn gD gd (.pointer (some ⟨gq, 0, none⟩)) w17) := Lib.hid
            ⟨HCC.out, HRV, ⟨gq, rfl, HRQ⟩, HM.bn.same (hsame _ HM.bn.lt (hne _ (by simp))), HM.bm.same (hsame _ HM.bm.lt (hne _ (by simp))), HM.bd.same (hsame _ HM.bd.lt (hne _ (by simp))), HM.be.same (hsame _ HM.be.lt (hne _ (by simp))),
              HM.n.same h2 (hsame _ HM.n.lt (int_rat HM.n H20.out.2.1)), HM.m.same h2 (hsame _ HM.m.lt (int_rat HM.m H20.out.2.1)), HM.d.same h2 (hsame _ HM.d.lt (int_rat HM.d H20.out.2.1)), HM.e.same h2 (hsame _ HM.e.lt (int_rat HM.e H20.out.2.1)), below_grown HM.below h3 HQV.out.2⟩
          have HDD := Lib.hid (And.intro (denOf_eq HRV) (denOf_eq HRQ))
          clear h1 h2 h3 hne hsame HCC HRV HRQ HM
          go_wp2_with fail
          refine ⟨⟨_, _, _, _, _, _, _, _, _, _, _, rfl, HSS⟩, ?_⟩
          have hl := HSTEP.out.2
          rw [HT.out] at hl
          rw [HMS.out.1, HMS.out.2, HDD.out.1, HDD.out.2]
          exact hl
      · have hu := HR.out.1 rfl
        have HU := Lib.hid (Chain.last HR.out.2.2.2.2.ch HK.out.1 hu)
        have hsm := HR.out.2.2.2.2.small hM
        have hne : ∀ x ∈ [bn, bm, bd, be], x ≠ gx ∧ x ≠ gn ∧ x ≠ gd ∧ x ≠ ge := by
          intro x hx
          simp at hx
          have hbx : ∃ g, Box wc x g := by
            rcases hx with rfl | rfl | rfl | rfl
            · exact ⟨_, HR.out.2.2.2.2.bn⟩
            · exact ⟨_, HR.out.2.2.2.2.bm⟩
            · exact ⟨_, HR.out.2.2.2.2.bd⟩
            · exact ⟨_, HR.out.2.2.2.2.be⟩
          obtain ⟨g, hg⟩ := hbx
          exact ⟨box_int hg HR.out.2.2.1, box_int hg HR.out.2.2.2.2.n, box_int hg HR.out.2.2.2.2.d, box_int hg HR.out.2.2.2.2.e⟩
        have HSM := Lib.hid (And.intro hsm hne)
        clear hu hsm hne
        go_wp2_with fail
        refine (StepWalk.calls (k + 1) n m d e (Nat.le_trans (one_M hM (by omega)) (by omega)) (by have := HSM.out.1.1; omega) (by have := HSM.out.1.2.1; omega) (by have := HSM.out.1.2.2.1; omega) (by have := HSM.out.1.2.2.2; omega) gx gn gm gd ge bn bm bd be _ HR.out.2.2.1 HR.out.2.2.2.2.n HR.out.2.2.2.2.m HR.out.2.2.2.2.d HR.out.2.2.2.2.e HR.out.2.2.2.2.bn HR.out.2.2.2.2.bm HR.out.2.2.2.2.bd HR.out.2.2.2.2.be HBX.out.1 HSM.out.2).mono ?_
        rintro _ w11 ⟨rfl, h1, h2, ⟨gN, h3, h4, h5⟩, h6, ⟨gD, h7, h8, h9⟩, h10⟩
        have hb := below_touch HR.out.2.2.2.2.below HBX.out.2 h2
        have c5 : w11.cell? ⟨bn, 0, none⟩ = some (.pointer (some ⟨gN, 0, none⟩)) := h3.cell 0
        have c6 : w11.cell? ⟨bd, 0, none⟩ = some (.pointer (some ⟨gD, 0, none⟩)) := h7.cell 0
        have a5 : ∀ o, (w11.alloc o).cell? ⟨bn, 0, none⟩ = some (.pointer (some ⟨gN, 0, none⟩)) := fun o => (World.cell?_alloc_lt _ _ _ h3.lt).trans c5
        have a6 : ∀ o, (w11.alloc o).cell? ⟨bd, 0, none⟩ = some (.pointer (some ⟨gD, 0, none⟩)) := fun o => (World.cell?_alloc_lt _ _ _ h7.lt).trans c6
        have H12 := Lib.hid (And.intro h4 (And.intro h8 hb))
        have ha := new_below w11 (.cells #[.bool false, .slice none 0 0, .slice none 0 0] 47)
        have hf := fresh_rat w11
        have H13 := Lib.hid (And.intro (H12.out.1.below ha) (And.intro (H12.out.2.1.below ha) (And.intro hf (And.intro ha (And.intro H12.out.2.2 (And.intro H12.out.1.lt H12.out.2.1.lt))))))
        clear h1 h2 h3 h4 h5 h6 h7 h8 h9 h10 hb ha hf H12
        go_wp2_with fail
        refine (setFrac_calls ((k + 1) * n + m) ((k + 1) * d + e) HU.out.2.1 (Nat.le_trans (two_M hM HU.out.2.2.1) (by omega)) (Nat.le_trans (two_M hM HU.out.2.2.2) (by omega)) w11.heap.size gN gD (by have := H13.out.2.2.2.2.2.1; omega) (by have := H13.out.2.2.2.2.2.2; omega) _ H13.out.2.2.1 H13.out.1 H13.out.2.1).mono ?_
        rintro _ w12 hz
        obtain ⟨rfl, h1, h2, h3⟩ := id hz
        have hb12 := fresh_out H13.out.2.2.2.1 (Nat.le_refl _) hz
        have H14 := Lib.hid (And.intro h1 (And.intro (below_step H13.out.2.2.2.2.1 hb12) H13.out.2.2.2.2.1.size))
        clear h1 h2 h3 hz hb12 H13 c5 c6 a5 a6
        go_wp2_with fail
        go_ret
        exact ⟨w11.heap.size, _, rfl, H14.out.1, HU.out.1, Sizes.sz_frac HU.out.2.1 (two_M hM HU.out.2.2.1) (two_M hM HU.out.2.2.2), H14.out.2.2, H14.out.2.1⟩
end Go.Proofs.YtjeamchaibialaaGreatDoor.PosWalk

/- num's Simplest: the walk. -/
namespace Go.Proofs.YtjeamchaibialaaGreatDoor.SimpWalk
open Go.RowKit Go.Proofs.YtjeamchaibialaaGreatDoor.IntOps Go.Proofs.YtjeamchaibialaaGreatDoorW.PrintWords Go.Proofs.YtjeamchaibialaaGreatDoorW.PrintLast Go.Proofs.YtjeamchaibialaaGreatDoorW.PrintMore Fns Limbs Pure1 Nats Go.Proofs.YtjeamchaibialaaGreatDoor.Told ReadWalk Texts Rats Parses Heaps Go.Proofs.YtjeamchaibialaaGreatDoor.Ints Go.Proofs.YtjeamchaibialaaGreatDoor.PutWalk Go.Proofs.YtjeamchaibialaaGreatDoor.RatTell Go.Proofs.YtjeamchaibialaaGreatDoor.Ops Go.Proofs.YtjeamchaibialaaGreatDoor.Chains Go.Proofs.YtjeamchaibialaaGreatDoor.BoundWalk Go.Proofs.YtjeamchaibialaaGreatDoor.PosWalk Go.Proofs.YtjeamchaibialaaGreatDoor.Splits Go.Proofs.YtjeamchaibialaaGreatDoor.StepWalk

theorem max2 {N a b : Nat} (ha : (limbs a).length ≤ N) (hb : (limbs b).length ≤ N) : ∃ M, (limbs M).length ≤ N ∧ a ≤ M ∧ b ≤ M := by
  by_cases h : a ≤ b
  · exact ⟨b, hb, h, Nat.le_refl _⟩
  · exact ⟨a, ha, Nat.le_refl _, by omega⟩
theorem pos_calls (lo : Rat) (hi : Option Rat) (hz : Sizes.Sz lo 1000000) (hzh : ∀ h, hi = some h → Sizes.Sz h 1000000) (h0 : 0 ≤ lo) (hu : Under lo hi)
    (gl : Nat) (vh : Value) (w : World) (hlo : RatAt w gl lo) (hhi : BdAt w vh hi) :
    Calls Tryz.prog 29 #[.pointer (some ⟨gl, 0, none⟩), vh] w (OutPos lo hi w) := by
  obtain ⟨M1, m1, m2, m3⟩ := max2 hz.1 hz.2
  obtain ⟨M2, n1, n2, n3⟩ : ∃ M, (limbs M).length ≤ 1000000 ∧ hn hi ≤ M ∧ hd hi ≤ M := by
    cases hi with
    | none => exact ⟨1, by rw [Sizes.limbs_one]; omega, by simp [hn], by simp [hd]⟩
    | some h =>
      obtain ⟨M, n1, n2, n3⟩ := max2 (hzh h rfl).1 (hzh h rfl).2
      exact ⟨M, n1, by simp only [hn]; omega, by simp only [hd]; omega⟩
  obtain ⟨M, e1, e2, e3⟩ := max2 m1 n1
  exact PosWalk.calls lo hi M e1 h0 hu (by omega) (by omega) (by omega) (by omega) gl vh w hlo hhi

def Ord (lo hi : Option Rat) : Prop := ∀ l h, lo = some l → hi = some h → l < h
def Sim (lo hi : Option Rat) (r : Rat) : Prop :=
  ((∀ l, lo = some l → l < 0) ∧ (∀ h, hi = some h → 0 < h) ∧ r = 0) ∨ (∃ l, lo = some l ∧ 0 ≤ l ∧ Pl l hi r) ∨
    (∃ h, hi = some h ∧ h ≤ 0 ∧ (∀ l, lo = some l → l < 0) ∧ Pl (-h) (lo.map fun l => -l) (-r))
theorem Sim.uniq {lo hi : Option Rat} {r s : Rat} (h : Sim lo hi r) (k : Sim lo hi s) : r = s := by
  rcases h with ⟨h1, h2, rfl⟩ | ⟨l, rfl, h2, h3⟩ | ⟨h', rfl, h2, h3, h4⟩ <;> rcases k with ⟨k1, k2, rfl⟩ | ⟨l', k1, k2, k3⟩ | ⟨h'', k1, k2, k3, k4⟩
  · rfl
  · exact absurd (h1 _ k1) (Rat.not_lt.2 k2)
  · exact absurd (h2 _ k1) (Rat.not_lt.2 k2)
  · exact absurd (k1 _ rfl) (Rat.not_lt.2 h2)
  · injection k1 with k1; subst k1; exact h3.uniq k3
  · exact absurd (k3 _ rfl) (Rat.not_lt.2 h2)
  · exact absurd (k2 _ rfl) (Rat.not_lt.2 h2)
  · exact absurd (h3 _ k1) (Rat.not_lt.2 k2)
  · injection k1 with k1
    subst k1
    have := h4.uniq k4
    grind
def OutS (a b : List UInt8) (w : World) (e : Ending) (W : World) : Prop :=
  Below w.heap.size w W ∧ ((∃ x y r, Bd a x ∧ Bd b y ∧ Ord x y ∧ Sim x y r ∧ Sizes.Sz r 10000000 ∧ e = .returned (.tuple #[.string ⟨(rtxt r).toArray⟩, .int .i64 0])) ∨
    (∃ x y, Bd a x ∧ Bd b y ∧ ¬ Ord x y ∧ e = .returned (.tuple #[.string ⟨#[]⟩, .int .i64 3])) ∨
    (((∀ x, ¬ Bd a x) ∨ (∀ y, ¬ Bd b y)) ∧ e = .returned (.tuple #[.string ⟨#[]⟩, .int .i64 1])))
theorem sgn_lt {q : Rat} (h : q < 0) : q.num.sign = -1 := Int.sign_eq_neg_one_of_neg (by
  have := (Rat.lt_iff q 0).1 h
  simpa using this)
theorem sgn_gt {q : Rat} (h : 0 < q) : q.num.sign = 1 := Int.sign_eq_one_of_pos (num_pos h)
theorem sgn3 (q : Rat) : (q < 0 ∧ q.num.sign = -1) ∨ (q = 0 ∧ q.num.sign = 0) ∨ (0 < q ∧ q.num.sign = 1) := by
  by_cases h : q < 0
  · exact .inl ⟨h, sgn_lt h⟩
  · by_cases h2 : q = 0
    · subst h2; exact .inr (.inl ⟨rfl, rfl⟩)
    · have : 0 < q := by have := Rat.not_lt.1 h; grind
      exact .inr (.inr ⟨this, sgn_gt this⟩)
theorem cmp3 (p q : Rat) : (p < q ∧ CmpWalk.cmpQ p q = -1) ∨ (¬ p < q ∧ CmpWalk.cmpQ p q = 0) ∨ (¬ p < q ∧ CmpWalk.cmpQ p q = 1) := by
  unfold CmpWalk.cmpQ
  by_cases h : p < q
  · exact .inl ⟨h, if_pos h⟩
  · rw [if_neg h]
    split
    · exact .inr (.inr ⟨h, rfl⟩)
    · exact .inr (.inl ⟨h, rfl⟩)
theorem le_eq {a b : Rat} (h : a = b) : a ≤ b := h ▸ Rat.le_refl
theorem rtxt_zero : rtxt 0 = [48] := by decide +kernel
theorem neg_le {l : Rat} (h : l ≤ 0) : 0 ≤ -l := by grind
theorem sz_zero : Sizes.Sz 0 2000002 := by
  refine ⟨?_, ?_⟩
  · rw [Rat.num_ofNat, Int.natAbs_zero, Limbs.limbs_zero]; simp
  · rw [Rat.den_ofNat, Sizes.limbs_one]; omega
set_option maxRecDepth 100000 in
set_option maxHeartbeats 4000000 in
theorem calls (a b : ByteArray) (ha : a.size ≤ 1048576) (hb : b.size ≤ 1048576) (w : World) (hok : Ok w) :
    Calls Tryz.prog 7 #[.string a, .string b] w (OutS a.data.toList b.data.toList w) := by
  have HOK := Lib.hid hok
  have HZ : Hid ((∀ q, Bd a.data.toList (some q) → Sizes.Sz q 1000000) ∧ (∀ q, Bd b.data.toList (some q) → Sizes.Sz q 1000000)) := Lib.hid
    ⟨fun q h => (Sizes.sz_rtxt q).mono (by rw [← show a.data.toList = rtxt q from h, ← Lib.size_eq]; omega), fun q h => (Sizes.sz_rtxt q).mono (by rw [← show b.data.toList = rtxt q from h, ← Lib.size_eq]; omega)⟩
  clear hok
  go_enter Tryz.func7, Tryz.ntmps7
  go_wp2_with fail
  refine (BoundWalk.calls a (by omega) _ HOK.out).mono ?_
  rintro e w1 ⟨hb1, h1⟩
  have H1 := Lib.hid (And.intro hb1 (HOK.out.below hb1))
  clear hb1 HOK
  rcases h1 with ⟨x, vx, hx, rfl, hX⟩ | ⟨hx, rfl⟩
  rotate_left
  · have HX := Lib.hid hx
    clear hx
    go_wp2_with fail
    refine (BoundWalk.calls b (by omega) _ H1.out.2).mono ?_
    rintro e w2 ⟨hb2, h2⟩
    have H2 := Lib.hid (below_step H1.out.1 hb2)
    clear hb2 H1
    rcases h2 with ⟨y, vy, _, rfl, _⟩ | ⟨_, rfl⟩
    · go_wp2_with fail
      go_ret2
      exact ⟨H2.out, .inr (.inr ⟨.inl HX.out, rfl⟩)⟩
    · go_wp2_with fail
      go_ret2
      exact ⟨H2.out, .inr (.inr ⟨.inl HX.out, rfl⟩)⟩
  have HX := Lib.hid (And.intro hx hX)
  clear hx hX
  go_wp2_with fail
  refine (BoundWalk.calls b (by omega) _ H1.out.2).mono ?_
  rintro e w2 ⟨hb2, h2⟩
  have H2 := Lib.hid (And.intro (below_step H1.out.1 hb2) (HX.out.2.below hb2))
  clear hb2 H1
  rcases h2 with ⟨y, vy, hy, rfl, hY⟩ | ⟨hy, rfl⟩
  rotate_left
  · have HY := Lib.hid hy
    clear hy
    go_wp2_with fail
    go_ret2
    exact ⟨H2.out.1, .inr (.inr ⟨.inr HY.out, rfl⟩)⟩
  have HB := Lib.hid (And.intro HX.out.1 hy)
  have H3 := Lib.hid (And.intro H2.out.1 (And.intro H2.out.2 hY))
  clear hy hY H2 HX
  cases x with
  | none =>
    obtain rfl : vx = .pointer none := H3.out.2.1
    cases y with
    | none =>
      obtain rfl : vy = .pointer none := H3.out.2.2
      go_wp2_with fail
      go_ret2
      exact ⟨H3.out.1, .inl ⟨_, _, 0, HB.out.1, HB.out.2, (fun _ _ h => by cases h), .inl ⟨(fun _ h => by cases h), (fun _ h => by cases h), rfl⟩, sz_zero.mono (by omega), by rw [rtxt_zero]; rfl⟩⟩
    | some h =>
      obtain ⟨gh, rfl, hr⟩ := H3.out.2.2
      have H4 := Lib.hid (And.intro H3.out.1 hr)
      have HO : Hid (Ord none (some h)) := Lib.hid (fun _ _ h => by cases h)
      have HL : Hid (∀ l, (none : Option Rat) = some l → l < 0) := Lib.hid (fun _ h => by cases h)
      clear hr H3
      go_wp2_with fail
      refine (RatTell.sign_calls h gh _ H4.out.2).mono ?_
      rintro _ w7 ⟨rfl, hb⟩
      have H7 : Hid (Below w.heap.size w w7 ∧ True ∧ RatAt w7 gh h) := Lib.hid ⟨below_step H4.out.1 hb, trivial, H4.out.2.below hb⟩
      clear H4
      clear hb
      rcases sgn3 h with hs | hs | hs
      · have HSh := Lib.hid hs
        rw [hs.2]
        clear hs
        have HGE := Lib.hid (Rat.le_of_lt HSh.out.1)
        obtain ⟨wa, hwa⟩ : ∃ w, w = w7 := ⟨_, rfl⟩
        rw [← hwa]
        have HM : Hid (Below w.heap.size w wa ∧ RatAt wa gh h ∧ BdAt wa (.pointer none) none) := Lib.hid (by rw [hwa]; exact ⟨H7.out.1, H7.out.2.2, rfl⟩)
        clear hwa
        have hfl := fresh_rat wa
        have hal := new_below wa (.cells #[.bool false, .slice none 0 0, .slice none 0 0] 47)
        have HA := Lib.hid (And.intro hfl (And.intro hal (And.intro (HM.out.2.1.below hal) (And.intro (HM.out.2.2.below hal) HM.out.2.1.lt))))
        clear hfl hal
        go_wp2_with fail
        refine (IntOps.neg_calls h wa.heap.size gh (by have := HA.out.2.2.2.2; omega) _ HA.out.1 HA.out.2.2.1).mono ?_
        rintro _ wb hz
        obtain ⟨rfl, h1, _, _⟩ := id hz
        have hbb := fresh_out HA.out.2.1 (Nat.le_refl _) hz
        obtain ⟨gn, hgn⟩ : ∃ g, g = wa.heap.size := ⟨_, rfl⟩
        rw [← hgn] at h1 ⊢
        have HN := Lib.hid (And.intro (below_step HM.out.1 hbb) (And.intro h1 (HM.out.2.2.below hbb)))
        clear h1 hz hbb hgn HA HM
        go_wp2_with fail
        refine (pos_calls (-h) (none) (Sizes.sz_opp (HZ.out.2 h HB.out.2)) (fun h e => by cases e) (neg_le HGE.out) (fun x e => by cases e) gn _ _ HN.out.2.1 HN.out.2.2).mono ?_
        rintro _ w8 ⟨g, r, rfl, h1, h2, h3, h4, h5⟩
        have H8 := Lib.hid (And.intro h1 (And.intro h2 (And.intro h3 (And.intro (below_step HN.out.1 h5) (Nat.le_trans HN.out.1.size h4)))))
        clear h1 h2 h3 h4 h5 HN
        go_wp2_with fail
        refine (IntOps.negSelf_calls r g _ H8.out.1).mono ?_
        rintro _ wc hz
        obtain ⟨rfl, h1, _, _⟩ := id hz
        have hbc := fresh_out H8.out.2.2.2.1 H8.out.2.2.2.2 hz
        have HC := Lib.hid (And.intro h1 hbc)
        clear h1 hz hbc
        go_wp2_with fail
        refine (RatTell.text_calls (-r) ((Sizes.sz_opp H8.out.2.2.1).mono (by omega)) g _ HC.out.1).mono ?_
        rintro _ w9 ⟨rfl, hb⟩
        have H9 := Lib.hid (below_step HC.out.2 hb)
        clear hb
        go_wp2_with fail
        go_ret2
        exact ⟨H9.out, .inl ⟨_, _, -r, HB.out.1, HB.out.2, HO.out, .inr (.inr ⟨h, rfl, HGE.out, HL.out, by rw [Rat.neg_neg]; exact H8.out.2.1⟩), (Sizes.sz_opp H8.out.2.2.1).mono (by omega), rfl⟩⟩
      · have HSh := Lib.hid hs
        rw [hs.2]
        clear hs
        have HGE := Lib.hid (le_eq HSh.out.1)
        obtain ⟨wa, hwa⟩ : ∃ w, w = w7 := ⟨_, rfl⟩
        rw [← hwa]
        have HM : Hid (Below w.heap.size w wa ∧ RatAt wa gh h ∧ BdAt wa (.pointer none) none) := Lib.hid (by rw [hwa]; exact ⟨H7.out.1, H7.out.2.2, rfl⟩)
        clear hwa
        have hfl := fresh_rat wa
        have hal := new_below wa (.cells #[.bool false, .slice none 0 0, .slice none 0 0] 47)
        have HA := Lib.hid (And.intro hfl (And.intro hal (And.intro (HM.out.2.1.below hal) (And.intro (HM.out.2.2.below hal) HM.out.2.1.lt))))
        clear hfl hal
        go_wp2_with fail
        refine (IntOps.neg_calls h wa.heap.size gh (by have := HA.out.2.2.2.2; omega) _ HA.out.1 HA.out.2.2.1).mono ?_
        rintro _ wb hz
        obtain ⟨rfl, h1, _, _⟩ := id hz
        have hbb := fresh_out HA.out.2.1 (Nat.le_refl _) hz
        obtain ⟨gn, hgn⟩ : ∃ g, g = wa.heap.size := ⟨_, rfl⟩
        rw [← hgn] at h1 ⊢
        have HN := Lib.hid (And.intro (below_step HM.out.1 hbb) (And.intro h1 (HM.out.2.2.below hbb)))
        clear h1 hz hbb hgn HA HM
        go_wp2_with fail
        refine (pos_calls (-h) (none) (Sizes.sz_opp (HZ.out.2 h HB.out.2)) (fun h e => by cases e) (neg_le HGE.out) (fun x e => by cases e) gn _ _ HN.out.2.1 HN.out.2.2).mono ?_
        rintro _ w8 ⟨g, r, rfl, h1, h2, h3, h4, h5⟩
        have H8 := Lib.hid (And.intro h1 (And.intro h2 (And.intro h3 (And.intro (below_step HN.out.1 h5) (Nat.le_trans HN.out.1.size h4)))))
        clear h1 h2 h3 h4 h5 HN
        go_wp2_with fail
        refine (IntOps.negSelf_calls r g _ H8.out.1).mono ?_
        rintro _ wc hz
        obtain ⟨rfl, h1, _, _⟩ := id hz
        have hbc := fresh_out H8.out.2.2.2.1 H8.out.2.2.2.2 hz
        have HC := Lib.hid (And.intro h1 hbc)
        clear h1 hz hbc
        go_wp2_with fail
        refine (RatTell.text_calls (-r) ((Sizes.sz_opp H8.out.2.2.1).mono (by omega)) g _ HC.out.1).mono ?_
        rintro _ w9 ⟨rfl, hb⟩
        have H9 := Lib.hid (below_step HC.out.2 hb)
        clear hb
        go_wp2_with fail
        go_ret2
        exact ⟨H9.out, .inl ⟨_, _, -r, HB.out.1, HB.out.2, HO.out, .inr (.inr ⟨h, rfl, HGE.out, HL.out, by rw [Rat.neg_neg]; exact H8.out.2.1⟩), (Sizes.sz_opp H8.out.2.2.1).mono (by omega), rfl⟩⟩
      · have HSh := Lib.hid hs
        rw [hs.2]
        clear hs
        go_wp2_with fail
        go_ret2
        exact ⟨H7.out.1, .inl ⟨_, _, 0, HB.out.1, HB.out.2, HO.out, .inl ⟨HL.out, (fun _ e => by injection e with e; subst e; exact HSh.out.1), rfl⟩, sz_zero.mono (by omega), by rw [rtxt_zero]; rfl⟩⟩
  | some l =>
    obtain ⟨gl, rfl, hl⟩ := H3.out.2.1
    cases y with
    | none =>
      obtain rfl : vy = .pointer none := H3.out.2.2
      have H4 := Lib.hid (And.intro H3.out.1 hl)
      have HO : Hid (Ord (some l) none) := Lib.hid (fun _ _ _ h => by cases h)
      clear hl H3
      go_wp2_with fail
      refine (RatTell.sign_calls l gl _ H4.out.2).mono ?_
      rintro _ w6 ⟨rfl, hb⟩
      have H6 : Hid (Below w.heap.size w w6 ∧ RatAt w6 gl l ∧ BdAt w6 (.pointer none) none) := Lib.hid ⟨below_step H4.out.1 hb, H4.out.2.below hb, rfl⟩
      clear H4
      clear hb
      rcases sgn3 l with hs | hs | hs
      · have HSl := Lib.hid hs
        rw [hs.2]
        clear hs
        go_wp2_with fail
        go_ret2
        exact ⟨H6.out.1, .inl ⟨_, _, 0, HB.out.1, HB.out.2, HO.out, .inl ⟨(fun _ e => by injection e with e; subst e; exact HSl.out.1), (fun _ e => by cases e), rfl⟩, sz_zero.mono (by omega), by rw [rtxt_zero]; rfl⟩⟩
      · have HSl := Lib.hid hs
        rw [hs.2]
        clear hs
        have HLE := Lib.hid (le_eq HSl.out.1.symm)
        go_wp2_with fail
        refine (RatTell.sign_calls l gl _ H6.out.2.1).mono ?_
        rintro _ w7 ⟨rfl, hb⟩
        have H7 := Lib.hid (And.intro (below_step H6.out.1 hb) (And.intro (H6.out.2.1.below hb) (H6.out.2.2.below hb)))
        rw [HSl.out.2]
        clear hb
        go_wp2_with fail
        refine (pos_calls l none (HZ.out.1 l HB.out.1) (fun _ e => by cases e) HLE.out (fun _ e => by cases e) gl _ _ H7.out.2.1 H7.out.2.2).mono ?_
        rintro _ w8 ⟨g, r, rfl, h1, h2, h3, h4, h5⟩
        have H8 := Lib.hid (And.intro h1 (And.intro h2 (And.intro h3 (below_step H7.out.1 h5))))
        clear h1 h2 h3 h4 h5
        go_wp2_with fail
        refine (RatTell.text_calls r (H8.out.2.2.1.mono (by omega)) g _ H8.out.1).mono ?_
        rintro _ w9 ⟨rfl, hb⟩
        have H9 := Lib.hid (below_step H8.out.2.2.2 hb)
        clear hb
        go_wp2_with fail
        go_ret2
        exact ⟨H9.out, .inl ⟨_, _, r, HB.out.1, HB.out.2, HO.out, .inr (.inl ⟨l, rfl, HLE.out, H8.out.2.1⟩), H8.out.2.2.1.mono (by omega), rfl⟩⟩
      · have HSl := Lib.hid hs
        rw [hs.2]
        clear hs
        have HLE := Lib.hid (Rat.le_of_lt HSl.out.1)
        go_wp2_with fail
        refine (RatTell.sign_calls l gl _ H6.out.2.1).mono ?_
        rintro _ w7 ⟨rfl, hb⟩
        have H7 := Lib.hid (And.intro (below_step H6.out.1 hb) (And.intro (H6.out.2.1.below hb) (H6.out.2.2.below hb)))
        rw [HSl.out.2]
        clear hb
        go_wp2_with fail
        refine (pos_calls l none (HZ.out.1 l HB.out.1) (fun _ e => by cases e) HLE.out (fun _ e => by cases e) gl _ _ H7.out.2.1 H7.out.2.2).mono ?_
        rintro _ w8 ⟨g, r, rfl, h1, h2, h3, h4, h5⟩
        have H8 := Lib.hid (And.intro h1 (And.intro h2 (And.intro h3 (below_step H7.out.1 h5))))
        clear h1 h2 h3 h4 h5
        go_wp2_with fail
        refine (RatTell.text_calls r (H8.out.2.2.1.mono (by omega)) g _ H8.out.1).mono ?_
        rintro _ w9 ⟨rfl, hb⟩
        have H9 := Lib.hid (below_step H8.out.2.2.2 hb)
        clear hb
        go_wp2_with fail
        go_ret2
        exact ⟨H9.out, .inl ⟨_, _, r, HB.out.1, HB.out.2, HO.out, .inr (.inl ⟨l, rfl, HLE.out, H8.out.2.1⟩), H8.out.2.2.1.mono (by omega), rfl⟩⟩
    | some h =>
      obtain ⟨gh, rfl, hr⟩ := H3.out.2.2
      have H4 := Lib.hid (And.intro H3.out.1 (And.intro hl hr))
      clear hl hr H3
      go_wp2_with fail
      refine (CmpWalk.calls l h ((HZ.out.1 l HB.out.1).mono (by omega)) ((HZ.out.2 h HB.out.2).mono (by omega)) gl gh _ H4.out.2.1 H4.out.2.2).mono ?_
      rintro _ w5 ⟨rfl, hb⟩
      have H5 := Lib.hid (And.intro (below_step H4.out.1 hb) (And.intro (H4.out.2.1.below hb) (H4.out.2.2.below hb)))
      clear hb H4
      rcases cmp3 l h with hs | hs | hs
      · have HO : Hid (Ord (some l) (some h)) := Lib.hid (fun x y e f => by injection e with e; injection f with f; subst e f; exact hs.1)
        rw [hs.2]
        clear hs
        go_wp2_with fail
        refine (RatTell.sign_calls l gl _ H5.out.2.1).mono ?_
        rintro _ w6 ⟨rfl, hb⟩
        have H6 : Hid (Below w.heap.size w w6 ∧ RatAt w6 gl l ∧ BdAt w6 (.pointer (some ⟨gh, 0, none⟩)) (some h)) := Lib.hid ⟨below_step H5.out.1 hb, H5.out.2.1.below hb, gh, rfl, H5.out.2.2.below hb⟩
        have H6r := Lib.hid (H5.out.2.2.below hb)
        clear H5
        clear hb
        rcases sgn3 l with hs | hs | hs
        · have HSl := Lib.hid hs
          rw [hs.2]
          clear hs
          have HL : Hid (∀ l', some l = some l' → l' < 0) := Lib.hid (fun _ e => by injection e with e; subst e; exact HSl.out.1)
          go_wp2_with fail
          refine (RatTell.sign_calls h gh _ H6r.out).mono ?_
          rintro _ w7a ⟨rfl, hb⟩
          have H7a : Hid (Below w.heap.size w w7a ∧ RatAt w7a gl l ∧ RatAt w7a gh h) := Lib.hid ⟨below_step H6.out.1 hb, H6.out.2.1.below hb, H6r.out.below hb⟩
          clear H6 H6r
          clear hb
          rcases sgn3 h with hs | hs | hs
          · have HSh := Lib.hid hs
            rw [hs.2]
            clear hs
            have HGE := Lib.hid (Rat.le_of_lt HSh.out.1)
            go_wp2_with fail
            refine (RatTell.sign_calls l gl _ H7a.out.2.1).mono ?_
            rintro _ w7 ⟨rfl, hb⟩
            have H7 := Lib.hid (And.intro (below_step H7a.out.1 hb) (And.intro (H7a.out.2.1.below hb) (H7a.out.2.2.below hb)))
            rw [HSl.out.2]
            clear hb H7a
            have hfl := fresh_rat w7
            have hal := new_below w7 (.cells #[.bool false, .slice none 0 0, .slice none 0 0] 47)
            have HA := Lib.hid (And.intro hfl (And.intro hal (And.intro (H7.out.2.1.below hal) H7.out.2.1.lt)))
            clear hfl hal
            go_wp2_with fail
            refine (IntOps.neg_calls l w7.heap.size gl (by have := HA.out.2.2.2; omega) _ HA.out.1 HA.out.2.2.1).mono ?_
            rintro _ wa hz
            obtain ⟨rfl, h1, _, _⟩ := id hz
            have hba := fresh_out HA.out.2.1 (Nat.le_refl _) hz
            obtain ⟨gm, hgm⟩ : ∃ g, g = w7.heap.size := ⟨_, rfl⟩
            rw [← hgm] at h1 ⊢
            have HM := Lib.hid (And.intro (below_step H7.out.1 hba) (And.intro (H7.out.2.2.below hba) (show BdAt wa (.pointer (some ⟨gm, 0, none⟩)) (some (-l)) from ⟨gm, rfl, h1⟩)))
            clear h1 hz hba hgm HA
            have hfl := fresh_rat wa
            have hal := new_below wa (.cells #[.bool false, .slice none 0 0, .slice none 0 0] 47)
            have HA := Lib.hid (And.intro hfl (And.intro hal (And.intro (HM.out.2.1.below hal) (And.intro (HM.out.2.2.below hal) HM.out.2.1.lt))))
            clear hfl hal
            go_wp2_with fail
            refine (IntOps.neg_calls h wa.heap.size gh (by have := HA.out.2.2.2.2; omega) _ HA.out.1 HA.out.2.2.1).mono ?_
            rintro _ wb hz
            obtain ⟨rfl, h1, _, _⟩ := id hz
            have hbb := fresh_out HA.out.2.1 (Nat.le_refl _) hz
            obtain ⟨gn, hgn⟩ : ∃ g, g = wa.heap.size := ⟨_, rfl⟩
            rw [← hgn] at h1 ⊢
            have HN := Lib.hid (And.intro (below_step HM.out.1 hbb) (And.intro h1 (HM.out.2.2.below hbb)))
            clear h1 hz hbb hgn HA HM
            go_wp2_with fail
            refine (pos_calls (-h) (some (-l)) (Sizes.sz_opp (HZ.out.2 h HB.out.2)) (fun h e => by injection e with e; subst e; exact Sizes.sz_opp (HZ.out.1 l HB.out.1)) (neg_le HGE.out) (fun x e => by injection e with e; subst e; have := HO.out l h rfl rfl; grind) gn _ _ HN.out.2.1 HN.out.2.2).mono ?_
            rintro _ w8 ⟨g, r, rfl, h1, h2, h3, h4, h5⟩
            have H8 := Lib.hid (And.intro h1 (And.intro h2 (And.intro h3 (And.intro (below_step HN.out.1 h5) (Nat.le_trans HN.out.1.size h4)))))
            clear h1 h2 h3 h4 h5 HN
            go_wp2_with fail
            refine (IntOps.negSelf_calls r g _ H8.out.1).mono ?_
            rintro _ wc hz
            obtain ⟨rfl, h1, _, _⟩ := id hz
            have hbc := fresh_out H8.out.2.2.2.1 H8.out.2.2.2.2 hz
            have HC := Lib.hid (And.intro h1 hbc)
            clear h1 hz hbc
            go_wp2_with fail
            refine (RatTell.text_calls (-r) ((Sizes.sz_opp H8.out.2.2.1).mono (by omega)) g _ HC.out.1).mono ?_
            rintro _ w9 ⟨rfl, hb⟩
            have H9 := Lib.hid (below_step HC.out.2 hb)
            clear hb
            go_wp2_with fail
            go_ret2
            exact ⟨H9.out, .inl ⟨_, _, -r, HB.out.1, HB.out.2, HO.out, .inr (.inr ⟨h, rfl, HGE.out, HL.out, by rw [Rat.neg_neg]; exact H8.out.2.1⟩), (Sizes.sz_opp H8.out.2.2.1).mono (by omega), rfl⟩⟩
          · have HSh := Lib.hid hs
            rw [hs.2]
            clear hs
            have HGE := Lib.hid (le_eq HSh.out.1)
            go_wp2_with fail
            refine (RatTell.sign_calls l gl _ H7a.out.2.1).mono ?_
            rintro _ w7 ⟨rfl, hb⟩
            have H7 := Lib.hid (And.intro (below_step H7a.out.1 hb) (And.intro (H7a.out.2.1.below hb) (H7a.out.2.2.below hb)))
            rw [HSl.out.2]
            clear hb H7a
            have hfl := fresh_rat w7
            have hal := new_below w7 (.cells #[.bool false, .slice none 0 0, .slice none 0 0] 47)
            have HA := Lib.hid (And.intro hfl (And.intro hal (And.intro (H7.out.2.1.below hal) H7.out.2.1.lt)))
            clear hfl hal
            go_wp2_with fail
            refine (IntOps.neg_calls l w7.heap.size gl (by have := HA.out.2.2.2; omega) _ HA.out.1 HA.out.2.2.1).mono ?_
            rintro _ wa hz
            obtain ⟨rfl, h1, _, _⟩ := id hz
            have hba := fresh_out HA.out.2.1 (Nat.le_refl _) hz
            obtain ⟨gm, hgm⟩ : ∃ g, g = w7.heap.size := ⟨_, rfl⟩
            rw [← hgm] at h1 ⊢
            have HM := Lib.hid (And.intro (below_step H7.out.1 hba) (And.intro (H7.out.2.2.below hba) (show BdAt wa (.pointer (some ⟨gm, 0, none⟩)) (some (-l)) from ⟨gm, rfl, h1⟩)))
            clear h1 hz hba hgm HA
            have hfl := fresh_rat wa
            have hal := new_below wa (.cells #[.bool false, .slice none 0 0, .slice none 0 0] 47)
            have HA := Lib.hid (And.intro hfl (And.intro hal (And.intro (HM.out.2.1.below hal) (And.intro (HM.out.2.2.below hal) HM.out.2.1.lt))))
            clear hfl hal
            go_wp2_with fail
            refine (IntOps.neg_calls h wa.heap.size gh (by have := HA.out.2.2.2.2; omega) _ HA.out.1 HA.out.2.2.1).mono ?_
            rintro _ wb hz
            obtain ⟨rfl, h1, _, _⟩ := id hz
            have hbb := fresh_out HA.out.2.1 (Nat.le_refl _) hz
            obtain ⟨gn, hgn⟩ : ∃ g, g = wa.heap.size := ⟨_, rfl⟩
            rw [← hgn] at h1 ⊢
            have HN := Lib.hid (And.intro (below_step HM.out.1 hbb) (And.intro h1 (HM.out.2.2.below hbb)))
            clear h1 hz hbb hgn HA HM
            go_wp2_with fail
            refine (pos_calls (-h) (some (-l)) (Sizes.sz_opp (HZ.out.2 h HB.out.2)) (fun h e => by injection e with e; subst e; exact Sizes.sz_opp (HZ.out.1 l HB.out.1)) (neg_le HGE.out) (fun x e => by injection e with e; subst e; have := HO.out l h rfl rfl; grind) gn _ _ HN.out.2.1 HN.out.2.2).mono ?_
            rintro _ w8 ⟨g, r, rfl, h1, h2, h3, h4, h5⟩
            have H8 := Lib.hid (And.intro h1 (And.intro h2 (And.intro h3 (And.intro (below_step HN.out.1 h5) (Nat.le_trans HN.out.1.size h4)))))
            clear h1 h2 h3 h4 h5 HN
            go_wp2_with fail
            refine (IntOps.negSelf_calls r g _ H8.out.1).mono ?_
            rintro _ wc hz
            obtain ⟨rfl, h1, _, _⟩ := id hz
            have hbc := fresh_out H8.out.2.2.2.1 H8.out.2.2.2.2 hz
            have HC := Lib.hid (And.intro h1 hbc)
            clear h1 hz hbc
            go_wp2_with fail
            refine (RatTell.text_calls (-r) ((Sizes.sz_opp H8.out.2.2.1).mono (by omega)) g _ HC.out.1).mono ?_
            rintro _ w9 ⟨rfl, hb⟩
            have H9 := Lib.hid (below_step HC.out.2 hb)
            clear hb
            go_wp2_with fail
            go_ret2
            exact ⟨H9.out, .inl ⟨_, _, -r, HB.out.1, HB.out.2, HO.out, .inr (.inr ⟨h, rfl, HGE.out, HL.out, by rw [Rat.neg_neg]; exact H8.out.2.1⟩), (Sizes.sz_opp H8.out.2.2.1).mono (by omega), rfl⟩⟩
          · have HSh := Lib.hid hs
            rw [hs.2]
            clear hs
            go_wp2_with fail
            go_ret2
            exact ⟨H7a.out.1, .inl ⟨_, _, 0, HB.out.1, HB.out.2, HO.out, .inl ⟨HL.out, (fun _ e => by injection e with e; subst e; exact HSh.out.1), rfl⟩, sz_zero.mono (by omega), by rw [rtxt_zero]; rfl⟩⟩
        · have HSl := Lib.hid hs
          rw [hs.2]
          clear hs
          have HLE := Lib.hid (le_eq HSl.out.1.symm)
          go_wp2_with fail
          refine (RatTell.sign_calls l gl _ H6.out.2.1).mono ?_
          rintro _ w7 ⟨rfl, hb⟩
          have H7 := Lib.hid (And.intro (below_step H6.out.1 hb) (And.intro (H6.out.2.1.below hb) (H6.out.2.2.below hb)))
          rw [HSl.out.2]
          clear hb
          go_wp2_with fail
          refine (pos_calls l (some h) (HZ.out.1 l HB.out.1) (fun x e => by injection e with e; subst e; exact HZ.out.2 h HB.out.2) HLE.out (fun x e => HO.out l x rfl e) gl _ _ H7.out.2.1 H7.out.2.2).mono ?_
          rintro _ w8 ⟨g, r, rfl, h1, h2, h3, h4, h5⟩
          have H8 := Lib.hid (And.intro h1 (And.intro h2 (And.intro h3 (below_step H7.out.1 h5))))
          clear h1 h2 h3 h4 h5
          go_wp2_with fail
          refine (RatTell.text_calls r (H8.out.2.2.1.mono (by omega)) g _ H8.out.1).mono ?_
          rintro _ w9 ⟨rfl, hb⟩
          have H9 := Lib.hid (below_step H8.out.2.2.2 hb)
          clear hb
          go_wp2_with fail
          go_ret2
          exact ⟨H9.out, .inl ⟨_, _, r, HB.out.1, HB.out.2, HO.out, .inr (.inl ⟨l, rfl, HLE.out, H8.out.2.1⟩), H8.out.2.2.1.mono (by omega), rfl⟩⟩
        · have HSl := Lib.hid hs
          rw [hs.2]
          clear hs
          have HLE := Lib.hid (Rat.le_of_lt HSl.out.1)
          go_wp2_with fail
          refine (RatTell.sign_calls l gl _ H6.out.2.1).mono ?_
          rintro _ w7 ⟨rfl, hb⟩
          have H7 := Lib.hid (And.intro (below_step H6.out.1 hb) (And.intro (H6.out.2.1.below hb) (H6.out.2.2.below hb)))
          rw [HSl.out.2]
          clear hb
          go_wp2_with fail
          refine (pos_calls l (some h) (HZ.out.1 l HB.out.1) (fun x e => by injection e with e; subst e; exact HZ.out.2 h HB.out.2) HLE.out (fun x e => HO.out l x rfl e) gl _ _ H7.out.2.1 H7.out.2.2).mono ?_
          rintro _ w8 ⟨g, r, rfl, h1, h2, h3, h4, h5⟩
          have H8 := Lib.hid (And.intro h1 (And.intro h2 (And.intro h3 (below_step H7.out.1 h5))))
          clear h1 h2 h3 h4 h5
          go_wp2_with fail
          refine (RatTell.text_calls r (H8.out.2.2.1.mono (by omega)) g _ H8.out.1).mono ?_
          rintro _ w9 ⟨rfl, hb⟩
          have H9 := Lib.hid (below_step H8.out.2.2.2 hb)
          clear hb
          go_wp2_with fail
          go_ret2
          exact ⟨H9.out, .inl ⟨_, _, r, HB.out.1, HB.out.2, HO.out, .inr (.inl ⟨l, rfl, HLE.out, H8.out.2.1⟩), H8.out.2.2.1.mono (by omega), rfl⟩⟩
      · have HN : Hid (¬ Ord (some l) (some h)) := Lib.hid (fun k => hs.1 (k l h rfl rfl))
        rw [hs.2]
        clear hs
        go_wp2_with fail
        go_ret2
        exact ⟨H5.out.1, .inr (.inl ⟨_, _, HB.out.1, HB.out.2, HN.out, rfl⟩)⟩
      · have HN : Hid (¬ Ord (some l) (some h)) := Lib.hid (fun k => hs.1 (k l h rfl rfl))
        rw [hs.2]
        clear hs
        go_wp2_with fail
        go_ret2
        exact ⟨H5.out.1, .inr (.inl ⟨_, _, HB.out.1, HB.out.2, HN.out, rfl⟩)⟩
end Go.Proofs.YtjeamchaibialaaGreatDoor.SimpWalk

/- The simplest number's size: plain facts. -/
namespace Go.Proofs.YtjeamchaibialaaGreatDoor.SimF
open Limbs Nats Rats Go.Proofs.YtjeamchaibialaaGreatDoor.Chains Go.Proofs.YtjeamchaibialaaGreatDoor.SimpWalk

theorem sz_small {N : Nat} (k : Nat) (h : (limbs k).length ≤ N) (hN : 1 ≤ N) : Sizes.Sz (k : Rat) N := by
  refine ⟨?_, ?_⟩
  · rw [show ((k : Rat)) = ((k : Int) : Rat) from rfl, Rat.num_intCast, Int.natAbs_natCast]; exact h
  · rw [show ((k : Rat)) = ((k : Int) : Rat) from rfl, Rat.den_intCast, Sizes.limbs_one]; exact hN
theorem half_between {a b : Rat} (h : a < b) : a < (a + b) / 2 ∧ (a + b) / 2 < b := by
  have e : (a + b) / 2 * 2 = a + b := Rat.div_mul_cancel (by decide)
  generalize (a + b) / 2 = m at *
  constructor <;> grind
theorem pl_sz {lo : Rat} {hi : Option Rat} {x : Rat} {N : Nat} (hp : Pl lo hi x) (h0 : 0 ≤ lo) (hu : Under lo hi) (hN : 1 ≤ N) (hz : Sizes.Sz lo N) (hzh : ∀ h, hi = some h → Sizes.Sz h N) : Sizes.Sz x (4 * N + 2) := by
  obtain ⟨h1, h2, h3⟩ := hp.best h0
  have hx : 0 ≤ x.num := Rat.num_nonneg.2 (Rat.le_trans h0 (Rat.le_of_lt h1))
  have key : ∀ c, lo < c → Under c hi → Sizes.Sz c (4 * N + 2) → Sizes.Sz x (4 * N + 2) := fun c a b hc => by
    obtain ⟨k1, k2⟩ := h3 c a b
    exact ⟨Nat.le_trans (limbs_len_mono (by omega)) hc.1, Nat.le_trans (limbs_len_mono k1) hc.2⟩
  have h1z : (limbs 1).length ≤ N := by rw [Sizes.limbs_one]; exact hN
  cases hi with
  | none =>
    refine key (lo + 1) (by grind) (fun _ e => by cases e) ?_
    exact (Sizes.sz_add hz (sz_small 1 h1z hN)).mono (by omega)
  | some h =>
    have hlt := hu h rfl
    refine key ((lo + h) / 2) (half_between hlt).1 (fun _ e => by injection e with e; subst e; exact (half_between hlt).2) ?_
    have h2z : (limbs 2).length ≤ 1 := limbs_len_le (by simp [pw])
    exact (Sizes.sz_div (Sizes.sz_add hz (hzh h rfl)) (sz_small 2 (Nat.le_trans h2z (by omega)) (by omega)) (by decide)).mono (by omega)
end Go.Proofs.YtjeamchaibialaaGreatDoor.SimF
