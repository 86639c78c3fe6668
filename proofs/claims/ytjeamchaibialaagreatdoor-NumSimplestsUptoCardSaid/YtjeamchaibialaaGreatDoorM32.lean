/- Joined: RefV RefW RefX -/
import Derived.Test.YtjeamchaibialaaGreatDoorM8
import Derived.Test.YtjeamchaibialaaGreatDoorM9
import Derived.Test.YtjeamchaibialaaGreatDoorM5
import Derived.Test.YtjeamchaibialaaGreatDoorM3
import Derived.Test.YtjeamchaibialaaGreatDoorM30
set_option linter.unusedVariables false
set_option linter.unusedSimpArgs false
/- The reference's edge: the walk. -/
namespace Go.Proofs.YtjeamchaibialaaGreatDoor.RefV
open Go.RowKit Heaps Go.Proofs.YtjeamchaibialaaGreatDoorW.PrintWords Go.Proofs.YtjeamchaibialaaGreatDoorW.PrintLast Go.Proofs.YtjeamchaibialaaGreatDoorW.PrintMore Fns Limbs Pure1 Pure3 Nats Arrs Texts Rats RefA RefB RefC RefD RefE RefF RefG RefH RefI RefJ RefK RefL RefM RefN RefP Parses Go.Proofs.YtjeamchaibialaaGreatDoor.BoundWalk Go.Proofs.YtjeamchaibialaaGreatDoor.Splits

theorem sgq_cmp (p q : Rat) : sgq (p - q) = CmpWalk.cmpQ p q := by
  unfold sgq CmpWalk.cmpQ
  by_cases h1 : p < q
  · have h : p - q < 0 := by rw [Rat.sub_eq_add_neg]; have := (Rat.add_lt_add_right (c := -q)).2 h1; rwa [Rat.add_neg_cancel] at this
    have h2 : (p - q).num < 0 := by have := (Rat.lt_iff _ _).1 h; simpa using this
    rw [if_pos h1, if_neg (by omega), if_pos h2]
  · rw [if_neg h1]
    by_cases h2 : q < p
    · have h : 0 < p - q := by rw [Rat.sub_eq_add_neg]; have := (Rat.add_lt_add_right (c := -q)).2 h2; rwa [Rat.add_neg_cancel] at this
      have h3 : 0 < (p - q).num := by have := (Rat.lt_iff _ _).1 h; simpa using this
      rw [if_pos h2, if_neg (by omega), if_neg (by omega)]
    · have h : p = q := Rat.le_antisymm (Rat.not_lt.1 h2) (Rat.not_lt.1 h1)
      rw [if_neg h2, h, Rat.sub_self]
      rfl
def EdgeV (w : World) (v : Value) : Option Rat → Prop
  | none => v = .agg #[.bool false, .bool false, .slice none 0 0, .slice none 0 0]
  | some q => ∃ b A n c B m d, v = .agg #[.bool true, .bool b, .slice A n c, .slice B m d] ∧ RatV w (.agg #[.bool b, .slice A n c, .slice B m d]) q
theorem EdgeV.below {w w' : World} {v : Value} {x : Option Rat} (h : EdgeV w v x) (hb : Below w.heap.size w w') : EdgeV w' v x := by
  cases x with
  | none => exact h
  | some q =>
    obtain ⟨b, A, n, c, B, m, d, e, h⟩ := h
    exact ⟨b, A, n, c, B, m, d, e, ratV_below h hb⟩
theorem EdgeV.form {w : World} {v : Value} {x : Option Rat} (h : EdgeV w v x) : ∃ b A n c B m d, v = .agg #[.bool x.isSome, .bool b, .slice A n c, .slice B m d] := by
  cases x with
  | none => exact ⟨_, _, _, _, _, _, _, h⟩
  | some q =>
    obtain ⟨b, A, n, c, B, m, d, e, h⟩ := h
    exact ⟨b, A, n, c, B, m, d, e⟩
theorem load4 {w : World} {g : Nat} {a b c d : Value} (h : Blk w g #[a, b, c, d]) : w.cell? ⟨g, 0, none⟩ = some a ∧ w.cell? ⟨g, 1, none⟩ = some b ∧ w.cell? ⟨g, 2, none⟩ = some c ∧ w.cell? ⟨g, 3, none⟩ = some d :=
  ⟨h.cell 0, h.cell 1, h.cell 2, h.cell 3⟩
theorem lift_cell {w : World} {g i : Nat} {v : Value} (hl : g < w.heap.size) (h : w.cell? ⟨g, i, none⟩ = some v) : ∀ o, (w.alloc o).cell? ⟨g, i, none⟩ = some v := fun o => (World.cell?_alloc_lt _ _ _ hl).trans h
theorem new_edge (w : World) : ∃ w1, w1 = w.alloc (.cells #[.bool false, .bool false, .slice none 0 0, .slice none 0 0] 53) ∧ Blk w1 w.heap.size #[.bool false, .bool false, .slice none 0 0, .slice none 0 0] ∧ Below w.heap.size w w1 :=
  ⟨_, rfl, Blk.alloc w _ _, (Below.refl w.heap.size w).alloc (Nat.le_refl _) _⟩
theorem below_set4 {w0 w : World} {g : Nat} (hb : Below w0.heap.size w0 w) (h : w0.heap.size ≤ g) (x y z u : Value) : Below w0.heap.size w0 ((((w.setCell ⟨g, 0, none⟩ x).setCell ⟨g, 1, none⟩ y).setCell ⟨g, 2, none⟩ z).setCell ⟨g, 3, none⟩ u) :=
  (below_set3 hb h x y z).setCell (p := ⟨g, 3, none⟩) h u
theorem flat4 {i b : Bool} {A B : Option Addr} {n c m d : Nat} : Flat #[.bool i, .bool b, .slice A n c, .slice B m d] := by
  intro j k z e
  match j with
  | 0 => simp at e
  | 1 => simp at e
  | 2 => simp at e
  | 3 => simp at e
  | j + 4 => simp at e
theorem store4 {w : World} {g : Nat} {i b i' b' : Bool} {A B A' B' : Option Addr} {n c m d n' c' m' d' : Nat} (h : Blk w g #[.bool i, .bool b, .slice A n c, .slice B m d]) :
    (w.cell? ⟨g, 0, none⟩ = some (.bool i) ∧ w.frozen? ⟨g, 0, none⟩ = false) ∧
    ((w.setCell ⟨g, 0, none⟩ (.bool i')).cell? ⟨g, 1, none⟩ = some (.bool b) ∧ (w.setCell ⟨g, 0, none⟩ (.bool i')).frozen? ⟨g, 1, none⟩ = false) ∧
    (((w.setCell ⟨g, 0, none⟩ (.bool i')).setCell ⟨g, 1, none⟩ (.bool b')).cell? ⟨g, 2, none⟩ = some (.slice A n c) ∧ ((w.setCell ⟨g, 0, none⟩ (.bool i')).setCell ⟨g, 1, none⟩ (.bool b')).frozen? ⟨g, 2, none⟩ = false) ∧
    ((((w.setCell ⟨g, 0, none⟩ (.bool i')).setCell ⟨g, 1, none⟩ (.bool b')).setCell ⟨g, 2, none⟩ (.slice A' n' c')).cell? ⟨g, 3, none⟩ = some (.slice B m d) ∧ (((w.setCell ⟨g, 0, none⟩ (.bool i')).setCell ⟨g, 1, none⟩ (.bool b')).setCell ⟨g, 2, none⟩ (.slice A' n' c')).frozen? ⟨g, 3, none⟩ = false) ∧
    ∃ W, W = (((w.setCell ⟨g, 0, none⟩ (.bool i')).setCell ⟨g, 1, none⟩ (.bool b')).setCell ⟨g, 2, none⟩ (.slice A' n' c')).setCell ⟨g, 3, none⟩ (.slice B' m' d') ∧ Blk W g #[.bool i', .bool b', .slice A' n' c', .slice B' m' d'] ∧ Keeps w W ∧ w.grownBy W (some g) := by
  have h1 := h.set 0 (.bool i')
  have h2 := h1.set 1 (.bool b')
  have h3 := h2.set 2 (.slice A' n' c')
  have h4 := h3.set 3 (.slice B' m' d')
  exact ⟨⟨h.cell 0, h.frozen 0⟩, ⟨h1.cell 1, h1.frozen 1⟩, ⟨h2.cell 2, h2.frozen 2⟩, ⟨h3.cell 3, h3.frozen 3⟩, _, rfl, h4,
    (Keeps.set h flat4 0 _).trans ((Keeps.set h1 flat4 1 _).trans ((Keeps.set h2 flat4 2 _).trans (Keeps.set h3 flat4 3 _))),
    (((grown_set w g 0 _).trans (grown_set _ g 1 _)).trans (grown_set _ g 2 _)).trans (grown_set _ g 3 _)⟩
theorem ratV_keeps {w w' : World} {v : Value} {q : Rat} (h : RatV w v q) (hk : Keeps w w') : RatV w' v q := by
  obtain ⟨n, d, rfl, h1, h2⟩ := h
  exact ⟨n, d, rfl, NatV.keeps h1 hk, NatV.keeps h2 hk⟩
theorem EdgeV.keeps {w w' : World} {v : Value} {x : Option Rat} (h : EdgeV w v x) (hk : Keeps w w') : EdgeV w' v x := by
  cases x with
  | none => exact h
  | some q =>
    obtain ⟨b, A, n, c, B, m, d, e, h⟩ := h
    exact ⟨b, A, n, c, B, m, d, e, ratV_keeps h hk⟩
def OutE (l : List UInt8) (w : World) (e : Ending) (W : World) : Prop :=
  ∃ v ok, e = .returned (.tuple #[v, .bool ok]) ∧ Below w.heap.size w W ∧ (∃ i b A n c B m d, v = .agg #[.bool i, .bool b, .slice A n c, .slice B m d]) ∧ (ok = true → ∃ x, Bd l x ∧ EdgeV W v x) ∧ (ok = false → ∀ x, ¬ Bd l x)
set_option maxRecDepth 100000 in
set_option maxHeartbeats 1000000 in
theorem edge_calls (s : ByteArray) (hs : s.size ≤ 100000000) (w : World) :
    Calls Tryz.prog 32 #[.string s] w (OutE s.data.toList w) := by
  obtain ⟨w1, hw1, hB, hb1⟩ := new_edge w
  obtain ⟨g, hg⟩ : ∃ g, g = w.heap.size := ⟨_, rfl⟩
  go_enter Tryz.func32, Tryz.ntmps32
  go_upto_region 1 with fail
  rw [← hw1]
  rw [← hg] at hB ⊢
  clear hw1
  by_cases h0 : s.toList = []
  · have HB : Hid (Bd s.data.toList none) := Lib.hid (by show s.data.toList = []; rw [← Lib.toList_data]; exact h0)
    obtain ⟨l0, l1, l2, l3⟩ := load4 hB
    obtain ⟨⟨s0, f0⟩, ⟨s1, f1⟩, ⟨s2, f2⟩, ⟨s3, f3⟩, W, hW, hB', hk', hg'⟩ := store4 hB (i' := false) (b' := false) (A' := none) (n' := 0) (c' := 0) (B' := none) (m' := 0) (d' := 0)
    obtain ⟨m0, m1, m2, m3⟩ := load4 hB'
    have H := Lib.hid (below_grown hb1 hg' (by omega))
    clear hB hb1 hg hB' hk' hg' l0 l1 l2 l3
    go_wp2_with fail
    rw [← hW]
    refine bodyPost_ret (v := .tuple #[.agg #[.bool false, .bool false, .slice none 0 0, .slice none 0 0], .bool true]) (by simp [results, Tryz.results32, go_sem, m0, m1, m2, m3]) rfl ?_
    exact ⟨_, true, rfl, H.out, ⟨_, _, _, _, _, _, _, _, rfl⟩, fun _ => ⟨none, HB.out, rfl⟩, fun e => by cases e⟩
  · have h0' : s.toList.isEmpty = false := List.isEmpty_eq_false_iff.2 h0
    have HN : Hid (¬ Bd s.data.toList none) := Lib.hid (fun e => h0 (by rw [Lib.toList_data]; exact e))
    clear h0
    go_wp2_with fail
    refine (of_flat s hs _).mono ?_
    rintro e w2 ⟨v, ok, rfl, ⟨b, A, n, c, B, m, d, rfl⟩, hb, h1, h2⟩
    have hB2 := hB.same (hb.block _ hB.lt)
    obtain ⟨w3, hw3, hX, _, hb3⟩ := new_flat (Below.refl w2.heap.size w2) b A n c B m d
    have hB3 := hB2.same (hb3.block _ hB2.lt)
    obtain ⟨x0, x1, x2⟩ := load3 hX
    obtain ⟨⟨s0, f0⟩, ⟨s1, f1⟩, ⟨s2, f2⟩, ⟨s3, f3⟩, W, hW, hB', hk', hg'⟩ := store4 hB3 (i' := ok) (b' := b) (A' := A) (n' := n) (c' := c) (B' := B) (m' := m) (d' := d)
    obtain ⟨m0, m1, m2, m3⟩ := load4 hB'
    have HR := Lib.hid (And.intro h1 (And.intro h2 (And.intro (below_grown (below_step (below_step hb1 hb) hb3) hg' (by omega)) (And.intro hb3 hk'))))
    clear h1 h2 hB hB2 hb hb1 hb3 hX hg hB' hk' hg' hB3
    go_upto_region 4 with fail
    rw [← hw3]
    clear hw3
    go_wp2_with fail
    rw [← hW]
    refine bodyPost_ret (v := .tuple #[.agg #[.bool ok, .bool b, .slice A n c, .slice B m d], .bool ok]) (by simp [results, Tryz.results32, go_sem, m0, m1, m2, m3]) rfl ?_
    refine ⟨_, ok, rfl, HR.out.2.2.1, ⟨_, _, _, _, _, _, _, _, rfl⟩, fun e => ?_, fun e x hx => ?_⟩
    · obtain ⟨q, e1, e2⟩ := HR.out.1 e
      subst e
      exact ⟨some q, e1, _, _, _, _, _, _, _, rfl, ratV_keeps (ratV_below e2 HR.out.2.2.2.1) HR.out.2.2.2.2⟩
    · cases x with
      | none => exact HN.out hx
      | some q => exact HR.out.2.1 e q hx
end Go.Proofs.YtjeamchaibialaaGreatDoor.RefV

/- The reference's plain: the walk. -/
namespace Go.Proofs.YtjeamchaibialaaGreatDoor.RefW
open Go.RowKit Heaps Go.Proofs.YtjeamchaibialaaGreatDoorW.PrintWords Go.Proofs.YtjeamchaibialaaGreatDoorW.PrintLast Go.Proofs.YtjeamchaibialaaGreatDoorW.PrintMore Fns Limbs Pure1 Pure3 Nats Arrs Texts Rats RefA RefB RefC RefD RefE RefF RefG RefH RefI RefJ RefK RefL RefM RefN RefP RefV Parses Go.Proofs.YtjeamchaibialaaGreatDoor.BoundWalk Go.Proofs.YtjeamchaibialaaGreatDoor.Splits Go.Proofs.YtjeamchaibialaaGreatDoor.Chains

theorem new_below (W : World) (o : Obj) : Below W.heap.size W (W.alloc o) := (Below.refl _ _).alloc (Nat.le_refl _) o
theorem new_box (w : World) (x : Array Value) : ∃ w1, w1 = w.alloc (.cells x 51) ∧ Blk w1 w.heap.size x ∧ Below w.heap.size w w1 := ⟨_, rfl, Blk.alloc _ _ _, new_below _ _⟩
theorem ratV_nat {W : World} {n d : Value} {k : Nat} (h1 : IsI W n k) (h2 : IsI W d 1) : RatV W (.agg #[.bool false, n, d]) (k : Rat) :=
  ⟨n, d, by rw [show ((k : Rat)) = ((k : Int) : Rat) from rfl, Rat.num_intCast, decide_eq_false (by omega)], by rw [show ((k : Rat)) = ((k : Int) : Rat) from rfl, Rat.num_intCast]; exact h1, by rw [show ((k : Rat)) = ((k : Int) : Rat) from rfl, Rat.den_intCast]; exact h2⟩
set_option maxRecDepth 100000 in
set_option maxHeartbeats 400000 in
theorem whole_calls (n : Nat) (hn : n ≤ 1) (w : World) :
    Calls Tryz.prog 81 #[.int .i64 n] w (OutR (n : Rat) w) := by
  obtain ⟨w1, hw1, hB, hb⟩ := new_box w #[.bool false, .slice none 0 0, .slice none 0 0]
  obtain ⟨g, hg⟩ : ∃ g, g = w.heap.size := ⟨_, rfl⟩
  have h0 : decide ((n : Int) < 0) = false := decide_eq_false (by omega)
  go_enter Tryz.func81, Tryz.ntmps81
  go_upto_region 1 with fail
  rw [← hw1]
  rw [← hg] at hB ⊢
  have H := Lib.hid (And.intro hB (And.intro hb hg))
  clear hw1 hB hb hg
  go_wp2_with fail
  refine (int_calls n (by omega) _).mono ?_
  rintro e w2 ⟨v1, rfl, h1, hb1⟩
  obtain ⟨A, c, rfl, _⟩ := h1.form
  have H2 := Lib.hid (And.intro h1 (And.intro (H.out.1.same (hb1.block _ H.out.1.lt)) (below_step H.out.2.1 hb1)))
  clear h1 hb1
  go_wp2_with fail
  refine (one_calls _).mono ?_
  rintro e w3 ⟨v2, rfl, h2, hb2⟩
  obtain ⟨B, d, rfl, _⟩ := h2.form
  have hB3 := H2.out.2.1.same (hb2.block _ H2.out.2.1.lt)
  obtain ⟨⟨s0, t0⟩, ⟨s1, t1⟩, ⟨s2, t2⟩, hB4⟩ := store3 hB3 (.bool false) (.slice A (limbs n).length c) (.slice B (limbs 1).length d)
  obtain ⟨m0, m1, m2⟩ := load3 hB4
  have HR1 := Lib.hid (ratV_keeps (ratV_nat (isI_below H2.out.1 hb2) h2) (set3 hB3 (b' := false) (A' := A) (n' := (limbs n).length) (c' := c) (B' := B) (m' := (limbs 1).length) (d' := d)).2.1)
  have HR2 := Lib.hid (below_set3 (g := g) (below_step H2.out.2.2 hb2) (by have := H.out.2.2; omega) (.bool false) (.slice A (limbs n).length c) (.slice B (limbs 1).length d))
  clear h2 hb2 hB3 hB4
  go_wp2_with fail
  exact bodyPost_ret (v := .agg #[.bool false, .slice A (limbs n).length c, .slice B (limbs 1).length d]) (by simp [results, Tryz.results81, go_sem, m0, m1, m2]) rfl ⟨_, rfl, HR1.out, HR2.out⟩
theorem whole1 (w : World) : Calls Tryz.prog 81 #[.int .i64 1] w (OutR 1 w) := whole_calls 1 (by omega) w
structure Base (w : World) (lo : Rat) (hi : Option Rat) (vl vh : Array Value) (W : World) : Prop where
  bl : Blk W w.heap.size vl
  bh : Blk W (w.heap.size + 1) vh
  br : Blk W (w.heap.size + 1 + 1) #[.bool false, .slice none 0 0, .slice none 0 0]
  rl : RatV W (.agg vl) lo
  rh : EdgeV W (.agg vh) hi
  below : Below w.heap.size w W
theorem Base.keep {w : World} {lo : Rat} {hi : Option Rat} {vl vh : Array Value} {W W' : World} (h : Base w lo hi vl vh W) (hb : Below W.heap.size W W') : Base w lo hi vl vh W' :=
  ⟨h.bl.same (hb.block _ h.bl.lt), h.bh.same (hb.block _ h.bh.lt), h.br.same (hb.block _ h.br.lt), ratV_below h.rl hb, h.rh.below hb, below_step h.below hb⟩
theorem base_new (w : World) {lo : Rat} {hi : Option Rat} {vl vh : Array Value} (h1 : RatV w (.agg vl) lo) (h2 : EdgeV w (.agg vh) hi) :
    ∃ w1, w1 = ((w.alloc (.cells vl 51)).alloc (.cells vh 53)).alloc (.cells #[.bool false, .slice none 0 0, .slice none 0 0] 51) ∧ Base w lo hi vl vh w1 := by
  have a1 := new_below w (.cells vl 51)
  have a2 := new_below (w.alloc (.cells vl 51)) (.cells vh 53)
  have a3 := new_below ((w.alloc (.cells vl 51)).alloc (.cells vh 53)) (.cells #[.bool false, .slice none 0 0, .slice none 0 0] 51)
  have x1 := Blk.alloc w vl 51
  have x2 := Blk.alloc (w.alloc (.cells vl 51)) vh 53
  have x3 := Blk.alloc ((w.alloc (.cells vl 51)).alloc (.cells vh 53)) #[.bool false, .slice none 0 0, .slice none 0 0] 51
  have e1 : (w.alloc (.cells vl 51)).heap.size = w.heap.size + 1 := by simp
  have e2 : ((w.alloc (.cells vl 51)).alloc (.cells vh 53)).heap.size = w.heap.size + 1 + 1 := by simp
  rw [e1] at x2
  rw [e2] at x3
  have a23 := below_step a2 a3
  have ha := below_step a1 a23
  have x1' := x1.same (a23.block _ x1.lt)
  have x2' := x2.same (a3.block _ x2.lt)
  exact ⟨_, rfl, x1', x2', x3, ratV_below h1 ha, h2.below ha, ha⟩
structure BaseF (w : World) (lo : Rat) (hi : Option Rat) (vl vh : Array Value) (F : Nat) (vf : Array Value) (W : World) : Prop extends Base w lo hi vl vh W where
  bf : Blk W F vf
  rf : RatV W (.agg vf) (lo.floor : Rat)
theorem BaseF.keep {w : World} {lo : Rat} {hi : Option Rat} {vl vh : Array Value} {F : Nat} {vf : Array Value} {W W' : World} (h : BaseF w lo hi vl vh F vf W) (hb : Below W.heap.size W W') : BaseF w lo hi vl vh F vf W' :=
  ⟨h.toBase.keep hb, h.bf.same (hb.block _ h.bf.lt), ratV_below h.rf hb⟩
theorem store3z {w : World} {g : Nat} {b b' : Bool} {A B A' B' : Option Addr} {n c m d n' c' m' d' : Nat} (h : Blk w g #[.bool b, .slice A n c, .slice B m d]) :
    (w.cell? ⟨g, 0, none⟩ = some (.bool b) ∧ w.frozen? ⟨g, 0, none⟩ = false) ∧
    ((w.setCell ⟨g, 0, none⟩ (.bool b')).cell? ⟨g, 1, none⟩ = some (.slice A n c) ∧ (w.setCell ⟨g, 0, none⟩ (.bool b')).frozen? ⟨g, 1, none⟩ = false) ∧
    (((w.setCell ⟨g, 0, none⟩ (.bool b')).setCell ⟨g, 1, none⟩ (.slice A' n' c')).cell? ⟨g, 2, none⟩ = some (.slice B m d) ∧ ((w.setCell ⟨g, 0, none⟩ (.bool b')).setCell ⟨g, 1, none⟩ (.slice A' n' c')).frozen? ⟨g, 2, none⟩ = false) ∧
    ∃ W, W = ((w.setCell ⟨g, 0, none⟩ (.bool b')).setCell ⟨g, 1, none⟩ (.slice A' n' c')).setCell ⟨g, 2, none⟩ (.slice B' m' d') ∧ Blk W g #[.bool b', .slice A' n' c', .slice B' m' d'] ∧ Keeps w W ∧ w.grownBy W (some g) := by
  obtain ⟨s0, s1, s2, _⟩ := store3 h (.bool b') (.slice A' n' c') (.slice B' m' d')
  exact ⟨s0, s1, s2, _, rfl, set3 h⟩
theorem cmp4 (p q : Rat) : (p < q ∧ sgq (p - q) = -1) ∨ (p = q ∧ sgq (p - q) = 0) ∨ (q < p ∧ sgq (p - q) = 1) := by
  rw [sgq_cmp]
  unfold CmpWalk.cmpQ
  by_cases h : p < q
  · exact .inl ⟨h, if_pos h⟩
  · rw [if_neg h]
    by_cases h2 : q < p
    · exact .inr (.inr ⟨h2, if_pos h2⟩)
    · rw [if_neg h2]
      exact .inr (.inl ⟨Rat.le_antisymm (Rat.not_lt.1 h2) (Rat.not_lt.1 h), rfl⟩)
end Go.Proofs.YtjeamchaibialaaGreatDoor.RefW

/- The reference's plain: the walk. Written by gen_plain.py. -/
namespace Go.Proofs.YtjeamchaibialaaGreatDoor.RefX
open Go.RowKit Heaps Go.Proofs.YtjeamchaibialaaGreatDoorW.PrintWords Go.Proofs.YtjeamchaibialaaGreatDoorW.PrintLast Go.Proofs.YtjeamchaibialaaGreatDoorW.PrintMore Fns Limbs Pure1 Pure3 Nats Arrs Texts Rats RefA RefB RefC RefD RefE RefF RefG RefH RefI RefJ RefK RefL RefM RefN RefP RefV Parses Go.Proofs.YtjeamchaibialaaGreatDoor.BoundWalk Go.Proofs.YtjeamchaibialaaGreatDoor.Splits Go.Proofs.YtjeamchaibialaaGreatDoor.Chains RefW

theorem cast_one (z : Int) : ((z + 1 : Int) : Rat) = (z : Rat) + 1 := by
  rw [Rat.intCast_add]; rfl
theorem edge_rat {W : World} {i b : Bool} {A B : Option Addr} {n c m d : Nat} {h : Rat} (e : EdgeV W (.agg #[.bool i, .bool b, .slice A n c, .slice B m d]) (some h)) : RatV W (.agg #[.bool b, .slice A n c, .slice B m d]) h := by
  obtain ⟨b', A', n', c', B', m', d', e, hr⟩ := e
  cases e
  exact hr
set_option maxRecDepth 100000 in
set_option maxHeartbeats 4000000 in
theorem plain_walk (lo : Rat) (hi : Option Rat) (x : Rat) (hz : Sizes.Sz lo 10000000) (hzf : Sizes.Sz (lo.floor : Rat) 10000000) (hzn : Sizes.Sz ((lo.floor : Rat) + 1) 10000000) (hzh : ∀ h, hi = some h → Sizes.Sz h 10000000)
    (hx1 : Under ((lo.floor : Rat) + 1) hi → x = (lo.floor : Rat) + 1)
    (hx2 : ∀ h, hi = some h → h ≤ (lo.floor : Rat) + 1 → lo < h ∧ ∃ y, x = (lo.floor : Rat) + 1 / y ∧ Sizes.Sz y 10000000 ∧ y.num ≠ 0 ∧ ∀ vl vh W, RatV W vl (1 / (h - (lo.floor : Rat))) → EdgeV W vh (turn lo) → Calls Tryz.prog 82 #[vl, vh] W (OutR y W))
    (vl vh : Value) (w : World) (hl : RatV w vl lo) (hh : EdgeV w vh hi) :
    Calls Tryz.prog 82 #[vl, vh] w (OutR x w) := by
  obtain ⟨b1, A1, n1, c1, B1, m1, d1, rfl⟩ := ratV_flat hl
  obtain ⟨b2, A2, n2, c2, B2, m2, d2, rfl⟩ := hh.form
  obtain ⟨w1, hw1, hB⟩ := base_new w hl hh
  obtain ⟨i, hi0⟩ : ∃ i, i = hi.isSome := ⟨_, rfl⟩
  rw [← hi0] at hB hw1 ⊢
  have H := Lib.hid (And.intro hB hi0)
  have HZ := Lib.hid (And.intro hz (And.intro hzf (And.intro hzn hzh)))
  have HX := Lib.hid (And.intro hx1 hx2)
  have z3 : Sizes.Sz 1 10000000 := ⟨by rw [Rat.num_ofNat, show ((1 : Int)).natAbs = 1 from rfl, Sizes.limbs_one]; omega, by rw [Rat.den_ofNat, Sizes.limbs_one]; omega⟩
  have HONE := Lib.hid z3
  obtain ⟨l0, l1, l2⟩ := load3 hB.bl
  clear hB hi0 hl hh hz hzf hzn hzh hx1 hx2 z3
  go_enter Tryz.func82, Tryz.ntmps82
  go_upto_region 1 with fail
  rw [← hw1]
  clear hw1
  go_wp2_with fail
  refine (below_calls lo _ _ (Lib.hid H.out.1.rl) (HZ.out.1.mono (by omega))).mono ?_
  rintro _ w2 ⟨v, rfl, hv, hb⟩
  obtain ⟨b3, A3, n3, c3, B3, m3, d3, rfl⟩ := ratV_flat hv
  obtain ⟨w3, hw3, hF, hb3⟩ := new_box w2 #[.bool b3, .slice A3 n3 c3, .slice B3 m3 d3]
  have H3 := Lib.hid (show BaseF w lo hi _ _ w2.heap.size #[.bool b3, .slice A3 n3 c3, .slice B3 m3 d3] w3 from ⟨(H.out.1.keep hb).keep hb3, hF, ratV_below hv hb3⟩)
  have HI := Lib.hid H.out.2
  obtain ⟨F, hF'⟩ : ∃ F, F = w2.heap.size := ⟨_, rfl⟩
  clear hv hb hF hb3 l0 l1 l2 H
  go_upto_region 2 with fail
  rw [← hw3]
  rw [← hF'] at H3 ⊢
  clear hw3 hF'
  go_cut [6] (fun v wx => ∃ (N : Nat) (b4 : Bool) (A4 : Option Addr) (n4 c4 : Nat) (B4 : Option Addr) (m4 d4 : Nat), v = .pointer (some ⟨N, 0, none⟩) ∧ Hid (Below w3.heap.size w3 wx ∧ Blk wx N #[.bool b4, .slice A4 n4 c4, .slice B4 m4 d4] ∧ RatV wx (.agg #[.bool b4, .slice A4 n4 c4, .slice B4 m4 d4]) ((lo.floor : Rat) + 1) ∧ w3.heap.size ≤ N))
  case first =>
    have HCF := Lib.hid (fun W (h : Below w3.heap.size w3 W) => load3 (H3.out.bf.same (h.block _ H3.out.bf.lt)))
    have HD0 := Lib.hid (show Below w3.heap.size w3 w3.drew from Drawn0.below ⟨1, rfl⟩)
    refine RegG.start (fun W => Below w3.heap.size w3 W) [0] (by kernel_rfl) ?_
    obtain ⟨U, hU⟩ : ∃ U, U = w3.drew := ⟨_, rfl⟩
    rw [← hU] at HD0 ⊢
    clear hU
    refine RegG.take (i := 0) (v := ?_) rfl (by kernel_rfl) (by kernel_rfl) (by kernel_rfl) (by kernel_rfl) (fun _ _ _ h => h) (Or.inl ⟨by rfl, ?_⟩) HD0.out ?_
    rotate_left
    · intro W hW
      obtain ⟨h0, h1, h2⟩ := HCF.out W hW
      go_simp
      with_reducible rfl
    refine RegG.two (i := 1) (j := 3) (by kernel_rfl) rfl rfl (fun K hK => ?_) (fun K hK => ?_)
    · skip
      go_simp
      refine (whole1 _).mono ?_
      rintro _ V1 ⟨v4, rfl, hv2, hb3⟩
      have HB5 := Lib.hid (below_step HD0.out hb3)
      have HR6 := Lib.hid hv2
      refine hK _ _ ⟨fun _ => HB5.out, ?_⟩
      clear hK K hv2 hb3
      refine RegG.two (i := 2) (j := 3) (by kernel_rfl) rfl rfl (fun K hK => ?_) (fun K hK => ?_)
      · skip
        go_simp
        refine (plus_calls (lo.floor : Rat) 1 _ _ _ (Lib.hid (ratV_below H3.out.rf HB5.out)) (Lib.hid HR6.out) (Nat.le_trans (HZ.out.2.1).1 (by omega)) (Nat.le_trans (HZ.out.2.1).2 (by omega)) (Nat.le_trans (HONE.out).1 (by omega)) (Nat.le_trans (HONE.out).2 (by omega))).mono ?_
        rintro _ V7 ⟨v10, rfl, hv8, hb9⟩
        have HL11 := Lib.hid (ratV_below HR6.out hb9)
        obtain ⟨b4, A4, n4, c4, B4, m4, d4, rfl⟩ := ratV_flat hv8
        have HB12 := Lib.hid (below_step HB5.out hb9)
        have HR13 := Lib.hid hv8
        refine hK _ _ ⟨fun _ => HB12.out, ?_⟩
        clear hK K hv8 hb9
        refine RegG.one (i := 3) (by kernel_rfl) rfl (fun K hK => ?_)
        go_simp
        obtain ⟨N, hN⟩ : ∃ g, g = (V7).heap.size := ⟨_, rfl⟩
        obtain ⟨V14, hV, hBN, hb15⟩ := new_box V7 #[.bool false, .slice none 0 0, .slice none 0 0]
        have HBK := Lib.hid (show Blk V14 N _ from by rw [hN]; exact hBN)
        have HNG := Lib.hid (show w3.heap.size ≤ N by rw [hN]; exact HB12.out.size)
        have HL16 := Lib.hid (ratV_below HL11.out hb15)
        have HL17 := Lib.hid (ratV_below HR13.out hb15)
        have HB18 := Lib.hid (below_step HB12.out hb15)
        simp only [← hN, ← hV]
        refine hK _ _ ⟨fun _ => HB18.out, ?_⟩
        clear hK K hN hV hBN hb15
        refine RegG.one (i := 4) (by kernel_rfl) rfl (fun K hK => ?_)
        obtain ⟨⟨s0, t0⟩, ⟨s1, t1⟩, ⟨s2, t2⟩, Z, hZ, hBZ, hkZ, hgZ⟩ := store3z HBK.out (b' := b4) (A' := A4) (n' := n4) (c' := c4) (B' := B4) (m' := m4) (d' := d4)
        have HZB := Lib.hid (below_grown HB18.out hgZ HNG.out)
        have HZK := Lib.hid hBZ
        have HZV := Lib.hid (ratV_keeps HL17.out hkZ)
        clear hBZ hkZ hgZ
        go_simp
        simp only [← hZ]
        refine hK _ _ ⟨fun _ => HZB.out, ?_⟩
        clear hK K hZ
        clear s0 t0 s1 t1 s2 t2
        refine RegG.done (by kernel_rfl) ?_ _
        go_wp2_with fail
        go_meet
        case rel => exact ⟨N, b4, A4, n4, c4, B4, m4, d4, rfl, Lib.hid ⟨HZB.out, HZK.out, HZV.out, HNG.out⟩⟩
      · skip
        go_simp
        obtain ⟨N, hN⟩ : ∃ g, g = (V1).heap.size := ⟨_, rfl⟩
        obtain ⟨V19, hV, hBN, hb20⟩ := new_box V1 #[.bool false, .slice none 0 0, .slice none 0 0]
        have HBK := Lib.hid (show Blk V19 N _ from by rw [hN]; exact hBN)
        have HNG := Lib.hid (show w3.heap.size ≤ N by rw [hN]; exact HB5.out.size)
        have HL21 := Lib.hid (ratV_below HR6.out hb20)
        have HB22 := Lib.hid (below_step HB5.out hb20)
        simp only [← hN, ← hV]
        refine hK _ _ ⟨fun _ => HB22.out, ?_⟩
        clear hK K hN hV hBN hb20
        refine RegG.one (i := 2) (by kernel_rfl) rfl (fun K hK => ?_)
        go_simp
        refine (plus_calls (lo.floor : Rat) 1 _ _ _ (Lib.hid (ratV_below H3.out.rf HB22.out)) (Lib.hid HL21.out) (Nat.le_trans (HZ.out.2.1).1 (by omega)) (Nat.le_trans (HZ.out.2.1).2 (by omega)) (Nat.le_trans (HONE.out).1 (by omega)) (Nat.le_trans (HONE.out).2 (by omega))).mono ?_
        rintro _ V23 ⟨v26, rfl, hv24, hb25⟩
        have HL27 := Lib.hid (ratV_below HL21.out hb25)
        have HK28 := Lib.hid (HBK.out.same (hb25.block _ HBK.out.lt))
        obtain ⟨b4, A4, n4, c4, B4, m4, d4, rfl⟩ := ratV_flat hv24
        have HB29 := Lib.hid (below_step HB22.out hb25)
        have HR30 := Lib.hid hv24
        refine hK _ _ ⟨fun _ => HB29.out, ?_⟩
        clear hK K hv24 hb25
        refine RegG.one (i := 4) (by kernel_rfl) rfl (fun K hK => ?_)
        obtain ⟨⟨s0, t0⟩, ⟨s1, t1⟩, ⟨s2, t2⟩, Z, hZ, hBZ, hkZ, hgZ⟩ := store3z HK28.out (b' := b4) (A' := A4) (n' := n4) (c' := c4) (B' := B4) (m' := m4) (d' := d4)
        have HZB := Lib.hid (below_grown HB29.out hgZ HNG.out)
        have HZK := Lib.hid hBZ
        have HZV := Lib.hid (ratV_keeps HR30.out hkZ)
        clear hBZ hkZ hgZ
        go_simp
        simp only [← hZ]
        refine hK _ _ ⟨fun _ => HZB.out, ?_⟩
        clear hK K hZ
        clear s0 t0 s1 t1 s2 t2
        refine RegG.done (by kernel_rfl) ?_ _
        go_wp2_with fail
        go_meet
        case rel => exact ⟨N, b4, A4, n4, c4, B4, m4, d4, rfl, Lib.hid ⟨HZB.out, HZK.out, HZV.out, HNG.out⟩⟩
    · skip
      go_simp
      obtain ⟨N, hN⟩ : ∃ g, g = (U).heap.size := ⟨_, rfl⟩
      obtain ⟨V31, hV, hBN, hb32⟩ := new_box U #[.bool false, .slice none 0 0, .slice none 0 0]
      have HBK := Lib.hid (show Blk V31 N _ from by rw [hN]; exact hBN)
      have HNG := Lib.hid (show w3.heap.size ≤ N by rw [hN]; exact HD0.out.size)
      have HB33 := Lib.hid (below_step HD0.out hb32)
      simp only [← hN, ← hV]
      refine hK _ _ ⟨fun _ => HB33.out, ?_⟩
      clear hK K hN hV hBN hb32
      refine RegG.one (i := 1) (by kernel_rfl) rfl (fun K hK => ?_)
      go_simp
      refine (whole1 _).mono ?_
      rintro _ V34 ⟨v37, rfl, hv35, hb36⟩
      have HK38 := Lib.hid (HBK.out.same (hb36.block _ HBK.out.lt))
      have HB39 := Lib.hid (below_step HB33.out hb36)
      have HR40 := Lib.hid hv35
      refine hK _ _ ⟨fun _ => HB39.out, ?_⟩
      clear hK K hv35 hb36
      refine RegG.one (i := 2) (by kernel_rfl) rfl (fun K hK => ?_)
      go_simp
      refine (plus_calls (lo.floor : Rat) 1 _ _ _ (Lib.hid (ratV_below H3.out.rf HB39.out)) (Lib.hid HR40.out) (Nat.le_trans (HZ.out.2.1).1 (by omega)) (Nat.le_trans (HZ.out.2.1).2 (by omega)) (Nat.le_trans (HONE.out).1 (by omega)) (Nat.le_trans (HONE.out).2 (by omega))).mono ?_
      rintro _ V41 ⟨v44, rfl, hv42, hb43⟩
      have HL45 := Lib.hid (ratV_below HR40.out hb43)
      have HK46 := Lib.hid (HK38.out.same (hb43.block _ HK38.out.lt))
      obtain ⟨b4, A4, n4, c4, B4, m4, d4, rfl⟩ := ratV_flat hv42
      have HB47 := Lib.hid (below_step HB39.out hb43)
      have HR48 := Lib.hid hv42
      refine hK _ _ ⟨fun _ => HB47.out, ?_⟩
      clear hK K hv42 hb43
      refine RegG.one (i := 4) (by kernel_rfl) rfl (fun K hK => ?_)
      obtain ⟨⟨s0, t0⟩, ⟨s1, t1⟩, ⟨s2, t2⟩, Z, hZ, hBZ, hkZ, hgZ⟩ := store3z HK46.out (b' := b4) (A' := A4) (n' := n4) (c' := c4) (B' := B4) (m' := m4) (d' := d4)
      have HZB := Lib.hid (below_grown HB47.out hgZ HNG.out)
      have HZK := Lib.hid hBZ
      have HZV := Lib.hid (ratV_keeps HR48.out hkZ)
      clear hBZ hkZ hgZ
      go_simp
      simp only [← hZ]
      refine hK _ _ ⟨fun _ => HZB.out, ?_⟩
      clear hK K hZ
      clear s0 t0 s1 t1 s2 t2
      refine RegG.done (by kernel_rfl) ?_ _
      go_wp2_with fail
      go_meet
      case rel => exact ⟨N, b4, A4, n4, c4, B4, m4, d4, rfl, Lib.hid ⟨HZB.out, HZK.out, HZV.out, HNG.out⟩⟩
  case rest =>
    obtain ⟨N, b4, A4, n4, c4, B4, m4, d4, rfl, HC⟩ := hcut
    have HB := Lib.hid (H3.out.keep HC.out.1)
    have HRN := Lib.hid HC.out.2.2.1
    obtain ⟨x0, x1, x2⟩ := load3 HC.out.2.1
    obtain ⟨y0, y1, y2, y3⟩ := load4 HB.out.bh
    cases hi with
    | none =>
      obtain rfl : i = false := HI.out
      obtain ⟨⟨s0, t0⟩, ⟨s1, t1⟩, ⟨s2, t2⟩, Z, hZ, hBZ, hkZ, hgZ⟩ := store3z HB.out.br (b' := b4) (A' := A4) (n' := n4) (c' := c4) (B' := B4) (m' := m4) (d' := d4)
      obtain ⟨r0, r1, r2⟩ := load3 hBZ
      have HZV := Lib.hid (ratV_keeps HRN.out hkZ)
      have HZB := Lib.hid (below_grown HB.out.below hgZ (show w.heap.size ≤ w.heap.size + 1 + 1 by omega))
      have HE := Lib.hid (HX.out.1 (fun h e => by cases e))
      clear hBZ hkZ hgZ
      go_wp2_with fail
      rw [← hZ]
      exact bodyPost_ret (v := .agg #[.bool b4, .slice A4 n4 c4, .slice B4 m4 d4]) (by simp [results, Tryz.results82, go_sem, r0, r1, r2]) rfl ⟨_, rfl, by rw [HE.out]; exact HZV.out, HZB.out⟩
    | some h =>
      obtain rfl : i = true := HI.out
      have HRH0 := Lib.hid (edge_rat HB.out.rh)
      have HZH := Lib.hid (HZ.out.2.2.2 h rfl)
      go_wp2_with fail
      refine (compare_calls ((lo.floor : Rat) + 1) h _ _ _ (Lib.hid HRN.out) (Lib.hid HRH0.out) (HZ.out.2.2.1.mono (by omega)) (HZH.out.mono (by omega))).mono ?_
      rintro _ w4 ⟨rfl, hb4⟩
      have HB4 := Lib.hid (HB.out.keep hb4)
      have HRH4 := Lib.hid (ratV_below HRH0.out hb4)
      have HRN4 := Lib.hid (ratV_below HRN.out hb4)
      have HN4 := Lib.hid (HC.out.2.1.same (hb4.block _ HC.out.2.1.lt))
      clear x0 x1 x2 y0 y1 y2 y3 hb4
      by_cases hlt : (lo.floor : Rat) + 1 < h
      · have hs : sgq ((lo.floor : Rat) + 1 - h) = -1 := by
          rcases cmp4 ((lo.floor : Rat) + 1) h with k | k | k
          · exact k.2
          · exact absurd hlt (by rw [k.1]; exact Rat.lt_irrefl)
          · exact absurd hlt (Rat.not_lt.2 (Rat.le_of_lt k.1))
        have HE := Lib.hid (HX.out.1 (fun h' e => by injection e with e; subst e; exact hlt))
        obtain ⟨x0, x1, x2⟩ := load3 HN4.out
        obtain ⟨⟨s0, t0⟩, ⟨s1, t1⟩, ⟨s2, t2⟩, Z, hZ, hBZ, hkZ, hgZ⟩ := store3z HB4.out.br (b' := b4) (A' := A4) (n' := n4) (c' := c4) (B' := B4) (m' := m4) (d' := d4)
        obtain ⟨r0, r1, r2⟩ := load3 hBZ
        have HZV := Lib.hid (ratV_keeps HRN4.out hkZ)
        have HZB := Lib.hid (below_grown HB4.out.below hgZ (show w.heap.size ≤ w.heap.size + 1 + 1 by omega))
        rw [hs]
        clear hBZ hkZ hgZ hs hlt
        go_wp2_with fail
        rw [← hZ]
        exact bodyPost_ret (v := .agg #[.bool b4, .slice A4 n4 c4, .slice B4 m4 d4]) (by simp [results, Tryz.results82, go_sem, r0, r1, r2]) rfl ⟨_, rfl, by rw [HE.out]; exact HZV.out, HZB.out⟩
      · have hneg : decide (sgq ((lo.floor : Rat) + 1 - h) < 0) = false := by
          rcases cmp4 ((lo.floor : Rat) + 1) h with k | k | k
          · exact absurd k.1 hlt
          · rw [k.2]; rfl
          · rw [k.2]; rfl
        obtain ⟨hlh, y, hxy, hzy, hy0, hyc⟩ := HX.out.2 h rfl (Rat.not_lt.1 hlt)
        have HY := Lib.hid (And.intro hxy (And.intro hzy (And.intro hy0 hyc)))
        have hfh : 0 < h - (lo.floor : Rat) := by
          have := (floor_fits lo).1
          generalize (lo.floor : Rat) = f at *
          grind
        have hdz := Sizes.sz_sub HZH.out HZ.out.2.1
        have hnz : (h - (lo.floor : Rat)).num ≠ 0 := by have := num_pos hfh; omega
        have HDH := Lib.hid (And.intro hdz hnz)
        generalize sgq ((lo.floor : Rat) + 1 - h) = z at *
        obtain ⟨w5, hw5, hT, hb5⟩ := new_edge w4
        obtain ⟨T, hTe⟩ : ∃ T, T = w4.heap.size := ⟨_, rfl⟩
        have HT5 := Lib.hid hb5
        have HT7G := Lib.hid (show w4.heap.size ≤ T by omega)
        have HT := Lib.hid (And.intro hT (And.intro hb5 hTe))
        clear hxy hzy hy0 hyc hlt hlh hfh hdz hnz hT hb5
        go_upto_region 6 with fail
        rw [← hw5]
        rw [← hTe] at HT ⊢
        clear hw5 hTe hneg
        have HB5 := Lib.hid (HB4.out.keep HT5.out)
        obtain ⟨l0, l1, l2⟩ := load3 HB5.out.bl
        obtain ⟨f0, f1, f2⟩ := load3 HB5.out.bf
        go_wp2_with fail
        refine (compare_calls lo (lo.floor : Rat) _ _ _ (Lib.hid HB5.out.rl) (Lib.hid HB5.out.rf) (HZ.out.1.mono (by omega)) (HZ.out.2.1.mono (by omega))).mono ?_
        rintro _ w6 ⟨rfl, hb6⟩
        have HB6 := Lib.hid (below_step HT5.out hb6)
        have HBB := Lib.hid (HB5.out.keep hb6)
        have HT6 := Lib.hid (HT.out.1.same (hb6.block _ HT.out.1.lt))
        clear l0 l1 l2 f0 f1 f2 hb6
        obtain ⟨s, hs⟩ : ∃ s, s = sgq (lo - (lo.floor : Rat)) := ⟨_, rfl⟩
        rw [← hs]
        have HS : Hid ((lo = (lo.floor : Rat) ∧ s = 0) ∨ ((lo.floor : Rat) < lo ∧ s = 1)) := Lib.hid (by
          rw [hs]
          rcases cmp4 lo (lo.floor : Rat) with k | k | k
          · exact absurd k.1 (Rat.not_lt.2 (floor_fits lo).1)
          · exact .inl k
          · exact .inr k)
        clear hs
        go_upto_if 29 with fail
        go_cut [] (fun wx => Hid (Below w4.heap.size w4 wx ∧ ∃ i b A n c B m d, Blk wx T #[.bool i, .bool b, .slice A n c, .slice B m d] ∧ EdgeV wx (.agg #[.bool i, .bool b, .slice A n c, .slice B m d]) (turn lo)))
        case first =>
          rcases HS.out with k | k
          · have HTN := Lib.hid (turn_none k.1)
            obtain rfl : s = 0 := k.2
            clear k HS
            go_wp2_with fail
            go_meet
            case rel => exact Lib.hid ⟨HB6.out, _, _, _, _, _, _, _, _, HT6.out, by rw [HTN.out]; rfl⟩
          · have hne : lo ≠ (lo.floor : Rat) := fun e => by have := k.1; rw [← e] at this; exact Rat.lt_irrefl this
            have HNE := Lib.hid hne
            have HDL := Lib.hid (And.intro (Sizes.sz_sub HZ.out.1 HZ.out.2.1) (show (lo - (lo.floor : Rat)).num ≠ 0 by have := num_pos (left_pos hne); omega))
            have HCL := Lib.hid (fun W (h : Below w6.heap.size w6 W) => load3 (HBB.out.bl.same (h.block _ HBB.out.bl.lt)))
            have HCF := Lib.hid (fun W (h : Below w6.heap.size w6 W) => load3 (HBB.out.bf.same (h.block _ HBB.out.bf.lt)))
            have HRL := Lib.hid (fun W (h : Below w6.heap.size w6 W) => ratV_below HBB.out.rl h)
            have HRF := Lib.hid (fun W (h : Below w6.heap.size w6 W) => ratV_below HBB.out.rf h)
            have HT7 := Lib.hid (fun W (h : Below w6.heap.size w6 W) => HT6.out.same (h.block _ HT6.out.lt))
            obtain rfl : s = 1 := k.2
            clear k hne HS
            go_upto_region 7 with fail
            have HD0 := Lib.hid (show Below w6.heap.size w6 w6.drew from Drawn0.below ⟨1, rfl⟩)
            refine RegG.start (fun W => Below w6.heap.size w6 W) [1, 2] (by kernel_rfl) ?_
            obtain ⟨U, hU⟩ : ∃ U, U = w6.drew := ⟨_, rfl⟩
            rw [← hU] at HD0 ⊢
            clear hU
            refine RegG.take (i := 1) (v := ?_) rfl (by kernel_rfl) (by kernel_rfl) (by kernel_rfl) (by kernel_rfl) (fun _ _ _ h => h) (Or.inl ⟨by rfl, ?_⟩) HD0.out ?_
            rotate_left
            · intro W hW
              obtain ⟨h0, h1, h2⟩ := HCL.out W hW
              go_simp
              with_reducible rfl
            refine RegG.take (i := 2) (v := ?_) rfl (by kernel_rfl) (by kernel_rfl) (by kernel_rfl) (by kernel_rfl) (fun _ _ _ h => h) (Or.inl ⟨by rfl, ?_⟩) HD0.out ?_
            rotate_left
            · intro W hW
              obtain ⟨h0, h1, h2⟩ := HCF.out W hW
              go_simp
              with_reducible rfl
            refine RegG.one (i := 0) (by kernel_rfl) rfl (fun K hK => ?_)
            go_simp
            refine (whole1 _).mono ?_
            rintro _ V49 ⟨v52, rfl, hv50, hb51⟩
            have HB53 := Lib.hid (below_step HD0.out hb51)
            have HR54 := Lib.hid hv50
            refine hK _ _ ⟨fun _ => HB53.out, ?_⟩
            clear hK K hv50 hb51
            refine RegG.one (i := 3) (by kernel_rfl) rfl (fun K hK => ?_)
            go_simp
            refine (less_calls lo (lo.floor : Rat) _ _ _ (Lib.hid (HRL.out _ HB53.out)) (Lib.hid (HRF.out _ HB53.out)) (Nat.le_trans (HZ.out.1).1 (by omega)) (Nat.le_trans (HZ.out.1).2 (by omega)) (Nat.le_trans (HZ.out.2.1).1 (by omega)) (Nat.le_trans (HZ.out.2.1).2 (by omega))).mono ?_
            rintro _ V55 ⟨v58, rfl, hv56, hb57⟩
            have HL59 := Lib.hid (ratV_below HR54.out hb57)
            have HB60 := Lib.hid (below_step HB53.out hb57)
            have HR61 := Lib.hid hv56
            refine hK _ _ ⟨fun _ => HB60.out, ?_⟩
            clear hK K hv56 hb57
            refine RegG.one (i := 4) (by kernel_rfl) rfl (fun K hK => ?_)
            go_simp
            refine (over_calls 1 (lo - (lo.floor : Rat)) _ _ _ (Lib.hid HL59.out) (Lib.hid HR61.out) (Nat.le_trans (HONE.out).1 (by omega)) (Nat.le_trans (HONE.out).2 (by omega)) (Nat.le_trans (HDL.out.1).1 (by omega)) (Nat.le_trans (HDL.out.1).2 (by omega)) HDL.out.2).mono ?_
            rintro _ V62 ⟨v65, rfl, hv63, hb64⟩
            have HL66 := Lib.hid (ratV_below HL59.out hb64)
            have HL67 := Lib.hid (ratV_below HR61.out hb64)
            obtain ⟨b5, A5, n5, c5, B5, m5, d5, rfl⟩ := ratV_flat hv63
            have HB68 := Lib.hid (below_step HB60.out hb64)
            have HR69 := Lib.hid hv63
            refine hK _ _ ⟨fun _ => HB68.out, ?_⟩
            clear hK K hv63 hb64
            refine RegG.one (i := 5) (by kernel_rfl) rfl (fun K hK => ?_)
            go_simp
            refine hK _ _ ⟨fun _ => HB68.out, ?_⟩
            clear hK K
            refine RegG.one (i := 6) (by kernel_rfl) rfl (fun K hK => ?_)
            obtain ⟨⟨s0, t0⟩, ⟨s1, t1⟩, ⟨s2, t2⟩, ⟨s3, t3⟩, Z, hZ, hBZ, hkZ, hgZ⟩ := store4 (HT7.out _ HB68.out) (i' := true) (b' := b5) (A' := A5) (n' := n5) (c' := c5) (B' := B5) (m' := m5) (d' := d5)
            have HZB := Lib.hid (below_grown (below_step HB6.out HB68.out) hgZ HT7G.out)
            have HZK := Lib.hid hBZ
            have HZV := Lib.hid (ratV_keeps HR69.out hkZ)
            clear hBZ hkZ hgZ
            go_simp
            simp only [← hZ]
            refine hK _ _ ⟨(by intro h; exact absurd (h.symm.trans (show _ = false by kernel_rfl)) (by decide)), ?_⟩
            clear hK K hZ
            clear s0 t0 s1 t1 s2 t2 s3 t3
            refine RegG.done (by kernel_rfl) ?_ _
            go_wp2_with fail
            go_meet
            case rel => exact Lib.hid ⟨HZB.out, _, _, _, _, _, _, _, _, HZK.out, by rw [turn_some HNE.out]; exact ⟨_, _, _, _, _, _, _, rfl, HZV.out⟩⟩
        case rest =>
          obtain ⟨w7, hw7⟩ : ∃ u, u = wc := ⟨_, rfl⟩
          rw [← hw7] at hcut ⊢
          clear hw7
          obtain ⟨hb7, i7, b7, A7, n7, c7, B7, m7, d7, hT7, hE7⟩ := hcut.out
          have HB7 := Lib.hid (HB4.out.keep hb7)
          have HCH := Lib.hid (fun W (h : Below w7.heap.size w7 W) => (load4 (HB7.out.bh.same (h.block _ HB7.out.bh.lt))).2)
          have HCF := Lib.hid (fun W (h : Below w7.heap.size w7 W) => load3 (HB7.out.bf.same (h.block _ HB7.out.bf.lt)))
          have HCT := Lib.hid (fun W (h : Below w7.heap.size w7 W) => load4 (hT7.same (h.block _ hT7.lt)))
          have HRH := Lib.hid (fun W (h : Below w7.heap.size w7 W) => ratV_below HRH4.out (below_step hb7 h))
          have HRF := Lib.hid (fun W (h : Below w7.heap.size w7 W) => ratV_below HB7.out.rf h)
          have HET := Lib.hid (fun W (h : Below w7.heap.size w7 W) => hE7.below h)
          clear hb7 hT7 hE7 hcut
          go_upto_region 8 with fail
          go_cut [8] (fun v wx => ∃ (N : Nat) (b4 : Bool) (A4 : Option Addr) (n4 c4 : Nat) (B4 : Option Addr) (m4 d4 : Nat), v = .pointer (some ⟨N, 0, none⟩) ∧ Hid (Below w7.heap.size w7 wx ∧ Blk wx N #[.bool b4, .slice A4 n4 c4, .slice B4 m4 d4] ∧ RatV wx (.agg #[.bool b4, .slice A4 n4 c4, .slice B4 m4 d4]) y))
          case first =>
            have HD0 := Lib.hid (show Below w7.heap.size w7 w7.drew from Drawn0.below ⟨1, rfl⟩)
            refine RegG.start (fun W => Below w7.heap.size w7 W) [1, 2, 3, 6] (by kernel_rfl) ?_
            obtain ⟨U, hU⟩ : ∃ U, U = w7.drew := ⟨_, rfl⟩
            rw [← hU] at HD0 ⊢
            clear hU
            refine RegG.take (i := 1) (v := ?_) rfl (by kernel_rfl) (by kernel_rfl) (by kernel_rfl) (by kernel_rfl) (fun _ _ _ h => h) (Or.inl ⟨by rfl, ?_⟩) HD0.out ?_
            rotate_left
            · intro W hW
              go_simp
              with_reducible rfl
            refine RegG.take (i := 2) (v := ?_) rfl (by kernel_rfl) (by kernel_rfl) (by kernel_rfl) (by kernel_rfl) (fun _ _ _ h => h) (Or.inl ⟨by rfl, ?_⟩) HD0.out ?_
            rotate_left
            · intro W hW
              obtain ⟨h0, h1, h2⟩ := HCH.out W hW
              go_simp
              with_reducible rfl
            refine RegG.take (i := 3) (v := ?_) rfl (by kernel_rfl) (by kernel_rfl) (by kernel_rfl) (by kernel_rfl) (fun _ _ _ h => h) (Or.inl ⟨by rfl, ?_⟩) HD0.out ?_
            rotate_left
            · intro W hW
              obtain ⟨h0, h1, h2⟩ := HCF.out W hW
              go_simp
              with_reducible rfl
            refine RegG.take (i := 6) (v := ?_) rfl (by kernel_rfl) (by kernel_rfl) (by kernel_rfl) (by kernel_rfl) (fun _ _ _ h => h) (Or.inl ⟨by rfl, ?_⟩) HD0.out ?_
            rotate_left
            · intro W hW
              obtain ⟨h0, h1, h2, h3⟩ := HCT.out W hW
              go_simp
              with_reducible rfl
            refine RegG.two (i := 0) (j := 8) (by kernel_rfl) rfl rfl (fun K hK => ?_) (fun K hK => ?_)
            · skip
              go_simp
              refine (whole1 _).mono ?_
              rintro _ V70 ⟨v73, rfl, hv71, hb72⟩
              have HB74 := Lib.hid (below_step HD0.out hb72)
              have HR75 := Lib.hid hv71
              refine hK _ _ ⟨fun _ => HB74.out, ?_⟩
              clear hK K hv71 hb72
              refine RegG.two (i := 4) (j := 8) (by kernel_rfl) rfl rfl (fun K hK => ?_) (fun K hK => ?_)
              · skip
                go_simp
                refine (less_calls h (lo.floor : Rat) _ _ _ (Lib.hid (HRH.out _ HB74.out)) (Lib.hid (HRF.out _ HB74.out)) (Nat.le_trans (HZH.out).1 (by omega)) (Nat.le_trans (HZH.out).2 (by omega)) (Nat.le_trans (HZ.out.2.1).1 (by omega)) (Nat.le_trans (HZ.out.2.1).2 (by omega))).mono ?_
                rintro _ V76 ⟨v79, rfl, hv77, hb78⟩
                have HL80 := Lib.hid (ratV_below HR75.out hb78)
                have HB81 := Lib.hid (below_step HB74.out hb78)
                have HR82 := Lib.hid hv77
                refine hK _ _ ⟨fun _ => HB81.out, ?_⟩
                clear hK K hv77 hb78
                refine RegG.two (i := 5) (j := 8) (by kernel_rfl) rfl rfl (fun K hK => ?_) (fun K hK => ?_)
                · skip
                  go_simp
                  refine (over_calls 1 (h - (lo.floor : Rat)) _ _ _ (Lib.hid HL80.out) (Lib.hid HR82.out) (Nat.le_trans (HONE.out).1 (by omega)) (Nat.le_trans (HONE.out).2 (by omega)) (Nat.le_trans (HDH.out.1).1 (by omega)) (Nat.le_trans (HDH.out.1).2 (by omega)) HDH.out.2).mono ?_
                  rintro _ V83 ⟨v86, rfl, hv84, hb85⟩
                  have HL87 := Lib.hid (ratV_below HL80.out hb85)
                  have HL88 := Lib.hid (ratV_below HR82.out hb85)
                  have HB89 := Lib.hid (below_step HB81.out hb85)
                  have HR90 := Lib.hid hv84
                  refine hK _ _ ⟨fun _ => HB89.out, ?_⟩
                  clear hK K hv84 hb85
                  refine RegG.two (i := 7) (j := 8) (by kernel_rfl) rfl rfl (fun K hK => ?_) (fun K hK => ?_)
                  · skip
                    go_simp
                    refine (HY.out.2.2.2 _ _ _ HR90.out (HET.out _ HB89.out)).mono ?_
                    rintro _ V91 ⟨v94, rfl, hv92, hb93⟩
                    have HL95 := Lib.hid (ratV_below HL87.out hb93)
                    have HL96 := Lib.hid (ratV_below HL88.out hb93)
                    have HL97 := Lib.hid (ratV_below HR90.out hb93)
                    obtain ⟨b6, A6, n6, c6, B6, m6, d6, rfl⟩ := ratV_flat hv92
                    have HB98 := Lib.hid (below_step HB89.out hb93)
                    have HR99 := Lib.hid hv92
                    refine hK _ _ ⟨fun _ => HB98.out, ?_⟩
                    clear hK K hv92 hb93
                    refine RegG.one (i := 8) (by kernel_rfl) rfl (fun K hK => ?_)
                    go_simp
                    obtain ⟨N, hN⟩ : ∃ g, g = (V91).heap.size := ⟨_, rfl⟩
                    obtain ⟨V100, hV, hBN, hb101⟩ := new_box V91 #[.bool false, .slice none 0 0, .slice none 0 0]
                    have HBK := Lib.hid (show Blk V100 N _ from by rw [hN]; exact hBN)
                    have HNG := Lib.hid (show w7.heap.size ≤ N by rw [hN]; exact HB98.out.size)
                    have HL102 := Lib.hid (ratV_below HL95.out hb101)
                    have HL103 := Lib.hid (ratV_below HL96.out hb101)
                    have HL104 := Lib.hid (ratV_below HL97.out hb101)
                    have HL105 := Lib.hid (ratV_below HR99.out hb101)
                    have HB106 := Lib.hid (below_step HB98.out hb101)
                    simp only [← hN, ← hV]
                    refine hK _ _ ⟨fun _ => HB106.out, ?_⟩
                    clear hK K hN hV hBN hb101
                    refine RegG.one (i := 9) (by kernel_rfl) rfl (fun K hK => ?_)
                    obtain ⟨⟨s0, t0⟩, ⟨s1, t1⟩, ⟨s2, t2⟩, Z, hZ, hBZ, hkZ, hgZ⟩ := store3z HBK.out (b' := b6) (A' := A6) (n' := n6) (c' := c6) (B' := B6) (m' := m6) (d' := d6)
                    have HZB := Lib.hid (below_grown HB106.out hgZ HNG.out)
                    have HZK := Lib.hid hBZ
                    have HZV := Lib.hid (ratV_keeps HL105.out hkZ)
                    clear hBZ hkZ hgZ
                    go_simp
                    simp only [← hZ]
                    refine hK _ _ ⟨fun _ => HZB.out, ?_⟩
                    clear hK K hZ
                    clear s0 t0 s1 t1 s2 t2
                    refine RegG.done (by kernel_rfl) ?_ _
                    go_wp2_with fail
                    go_meet
                    case rel => exact ⟨N, b6, A6, n6, c6, B6, m6, d6, rfl, Lib.hid ⟨HZB.out, HZK.out, HZV.out⟩⟩
                  · skip
                    go_simp
                    obtain ⟨N, hN⟩ : ∃ g, g = (V83).heap.size := ⟨_, rfl⟩
                    obtain ⟨V107, hV, hBN, hb108⟩ := new_box V83 #[.bool false, .slice none 0 0, .slice none 0 0]
                    have HBK := Lib.hid (show Blk V107 N _ from by rw [hN]; exact hBN)
                    have HNG := Lib.hid (show w7.heap.size ≤ N by rw [hN]; exact HB89.out.size)
                    have HL109 := Lib.hid (ratV_below HL87.out hb108)
                    have HL110 := Lib.hid (ratV_below HL88.out hb108)
                    have HL111 := Lib.hid (ratV_below HR90.out hb108)
                    have HB112 := Lib.hid (below_step HB89.out hb108)
                    simp only [← hN, ← hV]
                    refine hK _ _ ⟨fun _ => HB112.out, ?_⟩
                    clear hK K hN hV hBN hb108
                    refine RegG.one (i := 7) (by kernel_rfl) rfl (fun K hK => ?_)
                    go_simp
                    refine (HY.out.2.2.2 _ _ _ HL111.out (HET.out _ HB112.out)).mono ?_
                    rintro _ V113 ⟨v116, rfl, hv114, hb115⟩
                    have HL117 := Lib.hid (ratV_below HL109.out hb115)
                    have HL118 := Lib.hid (ratV_below HL110.out hb115)
                    have HL119 := Lib.hid (ratV_below HL111.out hb115)
                    have HK120 := Lib.hid (HBK.out.same (hb115.block _ HBK.out.lt))
                    obtain ⟨b6, A6, n6, c6, B6, m6, d6, rfl⟩ := ratV_flat hv114
                    have HB121 := Lib.hid (below_step HB112.out hb115)
                    have HR122 := Lib.hid hv114
                    refine hK _ _ ⟨fun _ => HB121.out, ?_⟩
                    clear hK K hv114 hb115
                    refine RegG.one (i := 9) (by kernel_rfl) rfl (fun K hK => ?_)
                    obtain ⟨⟨s0, t0⟩, ⟨s1, t1⟩, ⟨s2, t2⟩, Z, hZ, hBZ, hkZ, hgZ⟩ := store3z HK120.out (b' := b6) (A' := A6) (n' := n6) (c' := c6) (B' := B6) (m' := m6) (d' := d6)
                    have HZB := Lib.hid (below_grown HB121.out hgZ HNG.out)
                    have HZK := Lib.hid hBZ
                    have HZV := Lib.hid (ratV_keeps HR122.out hkZ)
                    clear hBZ hkZ hgZ
                    go_simp
                    simp only [← hZ]
                    refine hK _ _ ⟨fun _ => HZB.out, ?_⟩
                    clear hK K hZ
                    clear s0 t0 s1 t1 s2 t2
                    refine RegG.done (by kernel_rfl) ?_ _
                    go_wp2_with fail
                    go_meet
                    case rel => exact ⟨N, b6, A6, n6, c6, B6, m6, d6, rfl, Lib.hid ⟨HZB.out, HZK.out, HZV.out⟩⟩
                · skip
                  go_simp
                  obtain ⟨N, hN⟩ : ∃ g, g = (V76).heap.size := ⟨_, rfl⟩
                  obtain ⟨V123, hV, hBN, hb124⟩ := new_box V76 #[.bool false, .slice none 0 0, .slice none 0 0]
                  have HBK := Lib.hid (show Blk V123 N _ from by rw [hN]; exact hBN)
                  have HNG := Lib.hid (show w7.heap.size ≤ N by rw [hN]; exact HB81.out.size)
                  have HL125 := Lib.hid (ratV_below HL80.out hb124)
                  have HL126 := Lib.hid (ratV_below HR82.out hb124)
                  have HB127 := Lib.hid (below_step HB81.out hb124)
                  simp only [← hN, ← hV]
                  refine hK _ _ ⟨fun _ => HB127.out, ?_⟩
                  clear hK K hN hV hBN hb124
                  refine RegG.one (i := 5) (by kernel_rfl) rfl (fun K hK => ?_)
                  go_simp
                  refine (over_calls 1 (h - (lo.floor : Rat)) _ _ _ (Lib.hid HL125.out) (Lib.hid HL126.out) (Nat.le_trans (HONE.out).1 (by omega)) (Nat.le_trans (HONE.out).2 (by omega)) (Nat.le_trans (HDH.out.1).1 (by omega)) (Nat.le_trans (HDH.out.1).2 (by omega)) HDH.out.2).mono ?_
                  rintro _ V128 ⟨v131, rfl, hv129, hb130⟩
                  have HL132 := Lib.hid (ratV_below HL125.out hb130)
                  have HL133 := Lib.hid (ratV_below HL126.out hb130)
                  have HK134 := Lib.hid (HBK.out.same (hb130.block _ HBK.out.lt))
                  have HB135 := Lib.hid (below_step HB127.out hb130)
                  have HR136 := Lib.hid hv129
                  refine hK _ _ ⟨fun _ => HB135.out, ?_⟩
                  clear hK K hv129 hb130
                  refine RegG.one (i := 7) (by kernel_rfl) rfl (fun K hK => ?_)
                  go_simp
                  refine (HY.out.2.2.2 _ _ _ HR136.out (HET.out _ HB135.out)).mono ?_
                  rintro _ V137 ⟨v140, rfl, hv138, hb139⟩
                  have HL141 := Lib.hid (ratV_below HL132.out hb139)
                  have HL142 := Lib.hid (ratV_below HL133.out hb139)
                  have HL143 := Lib.hid (ratV_below HR136.out hb139)
                  have HK144 := Lib.hid (HK134.out.same (hb139.block _ HK134.out.lt))
                  obtain ⟨b6, A6, n6, c6, B6, m6, d6, rfl⟩ := ratV_flat hv138
                  have HB145 := Lib.hid (below_step HB135.out hb139)
                  have HR146 := Lib.hid hv138
                  refine hK _ _ ⟨fun _ => HB145.out, ?_⟩
                  clear hK K hv138 hb139
                  refine RegG.one (i := 9) (by kernel_rfl) rfl (fun K hK => ?_)
                  obtain ⟨⟨s0, t0⟩, ⟨s1, t1⟩, ⟨s2, t2⟩, Z, hZ, hBZ, hkZ, hgZ⟩ := store3z HK144.out (b' := b6) (A' := A6) (n' := n6) (c' := c6) (B' := B6) (m' := m6) (d' := d6)
                  have HZB := Lib.hid (below_grown HB145.out hgZ HNG.out)
                  have HZK := Lib.hid hBZ
                  have HZV := Lib.hid (ratV_keeps HR146.out hkZ)
                  clear hBZ hkZ hgZ
                  go_simp
                  simp only [← hZ]
                  refine hK _ _ ⟨fun _ => HZB.out, ?_⟩
                  clear hK K hZ
                  clear s0 t0 s1 t1 s2 t2
                  refine RegG.done (by kernel_rfl) ?_ _
                  go_wp2_with fail
                  go_meet
                  case rel => exact ⟨N, b6, A6, n6, c6, B6, m6, d6, rfl, Lib.hid ⟨HZB.out, HZK.out, HZV.out⟩⟩
              · skip
                go_simp
                obtain ⟨N, hN⟩ : ∃ g, g = (V70).heap.size := ⟨_, rfl⟩
                obtain ⟨V147, hV, hBN, hb148⟩ := new_box V70 #[.bool false, .slice none 0 0, .slice none 0 0]
                have HBK := Lib.hid (show Blk V147 N _ from by rw [hN]; exact hBN)
                have HNG := Lib.hid (show w7.heap.size ≤ N by rw [hN]; exact HB74.out.size)
                have HL149 := Lib.hid (ratV_below HR75.out hb148)
                have HB150 := Lib.hid (below_step HB74.out hb148)
                simp only [← hN, ← hV]
                refine hK _ _ ⟨fun _ => HB150.out, ?_⟩
                clear hK K hN hV hBN hb148
                refine RegG.one (i := 4) (by kernel_rfl) rfl (fun K hK => ?_)
                go_simp
                refine (less_calls h (lo.floor : Rat) _ _ _ (Lib.hid (HRH.out _ HB150.out)) (Lib.hid (HRF.out _ HB150.out)) (Nat.le_trans (HZH.out).1 (by omega)) (Nat.le_trans (HZH.out).2 (by omega)) (Nat.le_trans (HZ.out.2.1).1 (by omega)) (Nat.le_trans (HZ.out.2.1).2 (by omega))).mono ?_
                rintro _ V151 ⟨v154, rfl, hv152, hb153⟩
                have HL155 := Lib.hid (ratV_below HL149.out hb153)
                have HK156 := Lib.hid (HBK.out.same (hb153.block _ HBK.out.lt))
                have HB157 := Lib.hid (below_step HB150.out hb153)
                have HR158 := Lib.hid hv152
                refine hK _ _ ⟨fun _ => HB157.out, ?_⟩
                clear hK K hv152 hb153
                refine RegG.one (i := 5) (by kernel_rfl) rfl (fun K hK => ?_)
                go_simp
                refine (over_calls 1 (h - (lo.floor : Rat)) _ _ _ (Lib.hid HL155.out) (Lib.hid HR158.out) (Nat.le_trans (HONE.out).1 (by omega)) (Nat.le_trans (HONE.out).2 (by omega)) (Nat.le_trans (HDH.out.1).1 (by omega)) (Nat.le_trans (HDH.out.1).2 (by omega)) HDH.out.2).mono ?_
                rintro _ V159 ⟨v162, rfl, hv160, hb161⟩
                have HL163 := Lib.hid (ratV_below HL155.out hb161)
                have HL164 := Lib.hid (ratV_below HR158.out hb161)
                have HK165 := Lib.hid (HK156.out.same (hb161.block _ HK156.out.lt))
                have HB166 := Lib.hid (below_step HB157.out hb161)
                have HR167 := Lib.hid hv160
                refine hK _ _ ⟨fun _ => HB166.out, ?_⟩
                clear hK K hv160 hb161
                refine RegG.one (i := 7) (by kernel_rfl) rfl (fun K hK => ?_)
                go_simp
                refine (HY.out.2.2.2 _ _ _ HR167.out (HET.out _ HB166.out)).mono ?_
                rintro _ V168 ⟨v171, rfl, hv169, hb170⟩
                have HL172 := Lib.hid (ratV_below HL163.out hb170)
                have HL173 := Lib.hid (ratV_below HL164.out hb170)
                have HL174 := Lib.hid (ratV_below HR167.out hb170)
                have HK175 := Lib.hid (HK165.out.same (hb170.block _ HK165.out.lt))
                obtain ⟨b6, A6, n6, c6, B6, m6, d6, rfl⟩ := ratV_flat hv169
                have HB176 := Lib.hid (below_step HB166.out hb170)
                have HR177 := Lib.hid hv169
                refine hK _ _ ⟨fun _ => HB176.out, ?_⟩
                clear hK K hv169 hb170
                refine RegG.one (i := 9) (by kernel_rfl) rfl (fun K hK => ?_)
                obtain ⟨⟨s0, t0⟩, ⟨s1, t1⟩, ⟨s2, t2⟩, Z, hZ, hBZ, hkZ, hgZ⟩ := store3z HK175.out (b' := b6) (A' := A6) (n' := n6) (c' := c6) (B' := B6) (m' := m6) (d' := d6)
                have HZB := Lib.hid (below_grown HB176.out hgZ HNG.out)
                have HZK := Lib.hid hBZ
                have HZV := Lib.hid (ratV_keeps HR177.out hkZ)
                clear hBZ hkZ hgZ
                go_simp
                simp only [← hZ]
                refine hK _ _ ⟨fun _ => HZB.out, ?_⟩
                clear hK K hZ
                clear s0 t0 s1 t1 s2 t2
                refine RegG.done (by kernel_rfl) ?_ _
                go_wp2_with fail
                go_meet
                case rel => exact ⟨N, b6, A6, n6, c6, B6, m6, d6, rfl, Lib.hid ⟨HZB.out, HZK.out, HZV.out⟩⟩
            · skip
              go_simp
              obtain ⟨N, hN⟩ : ∃ g, g = (U).heap.size := ⟨_, rfl⟩
              obtain ⟨V178, hV, hBN, hb179⟩ := new_box U #[.bool false, .slice none 0 0, .slice none 0 0]
              have HBK := Lib.hid (show Blk V178 N _ from by rw [hN]; exact hBN)
              have HNG := Lib.hid (show w7.heap.size ≤ N by rw [hN]; exact HD0.out.size)
              have HB180 := Lib.hid (below_step HD0.out hb179)
              simp only [← hN, ← hV]
              refine hK _ _ ⟨fun _ => HB180.out, ?_⟩
              clear hK K hN hV hBN hb179
              refine RegG.one (i := 0) (by kernel_rfl) rfl (fun K hK => ?_)
              go_simp
              refine (whole1 _).mono ?_
              rintro _ V181 ⟨v184, rfl, hv182, hb183⟩
              have HK185 := Lib.hid (HBK.out.same (hb183.block _ HBK.out.lt))
              have HB186 := Lib.hid (below_step HB180.out hb183)
              have HR187 := Lib.hid hv182
              refine hK _ _ ⟨fun _ => HB186.out, ?_⟩
              clear hK K hv182 hb183
              refine RegG.one (i := 4) (by kernel_rfl) rfl (fun K hK => ?_)
              go_simp
              refine (less_calls h (lo.floor : Rat) _ _ _ (Lib.hid (HRH.out _ HB186.out)) (Lib.hid (HRF.out _ HB186.out)) (Nat.le_trans (HZH.out).1 (by omega)) (Nat.le_trans (HZH.out).2 (by omega)) (Nat.le_trans (HZ.out.2.1).1 (by omega)) (Nat.le_trans (HZ.out.2.1).2 (by omega))).mono ?_
              rintro _ V188 ⟨v191, rfl, hv189, hb190⟩
              have HL192 := Lib.hid (ratV_below HR187.out hb190)
              have HK193 := Lib.hid (HK185.out.same (hb190.block _ HK185.out.lt))
              have HB194 := Lib.hid (below_step HB186.out hb190)
              have HR195 := Lib.hid hv189
              refine hK _ _ ⟨fun _ => HB194.out, ?_⟩
              clear hK K hv189 hb190
              refine RegG.one (i := 5) (by kernel_rfl) rfl (fun K hK => ?_)
              go_simp
              refine (over_calls 1 (h - (lo.floor : Rat)) _ _ _ (Lib.hid HL192.out) (Lib.hid HR195.out) (Nat.le_trans (HONE.out).1 (by omega)) (Nat.le_trans (HONE.out).2 (by omega)) (Nat.le_trans (HDH.out.1).1 (by omega)) (Nat.le_trans (HDH.out.1).2 (by omega)) HDH.out.2).mono ?_
              rintro _ V196 ⟨v199, rfl, hv197, hb198⟩
              have HL200 := Lib.hid (ratV_below HL192.out hb198)
              have HL201 := Lib.hid (ratV_below HR195.out hb198)
              have HK202 := Lib.hid (HK193.out.same (hb198.block _ HK193.out.lt))
              have HB203 := Lib.hid (below_step HB194.out hb198)
              have HR204 := Lib.hid hv197
              refine hK _ _ ⟨fun _ => HB203.out, ?_⟩
              clear hK K hv197 hb198
              refine RegG.one (i := 7) (by kernel_rfl) rfl (fun K hK => ?_)
              go_simp
              refine (HY.out.2.2.2 _ _ _ HR204.out (HET.out _ HB203.out)).mono ?_
              rintro _ V205 ⟨v208, rfl, hv206, hb207⟩
              have HL209 := Lib.hid (ratV_below HL200.out hb207)
              have HL210 := Lib.hid (ratV_below HL201.out hb207)
              have HL211 := Lib.hid (ratV_below HR204.out hb207)
              have HK212 := Lib.hid (HK202.out.same (hb207.block _ HK202.out.lt))
              obtain ⟨b6, A6, n6, c6, B6, m6, d6, rfl⟩ := ratV_flat hv206
              have HB213 := Lib.hid (below_step HB203.out hb207)
              have HR214 := Lib.hid hv206
              refine hK _ _ ⟨fun _ => HB213.out, ?_⟩
              clear hK K hv206 hb207
              refine RegG.one (i := 9) (by kernel_rfl) rfl (fun K hK => ?_)
              obtain ⟨⟨s0, t0⟩, ⟨s1, t1⟩, ⟨s2, t2⟩, Z, hZ, hBZ, hkZ, hgZ⟩ := store3z HK212.out (b' := b6) (A' := A6) (n' := n6) (c' := c6) (B' := B6) (m' := m6) (d' := d6)
              have HZB := Lib.hid (below_grown HB213.out hgZ HNG.out)
              have HZK := Lib.hid hBZ
              have HZV := Lib.hid (ratV_keeps HR214.out hkZ)
              clear hBZ hkZ hgZ
              go_simp
              simp only [← hZ]
              refine hK _ _ ⟨fun _ => HZB.out, ?_⟩
              clear hK K hZ
              clear s0 t0 s1 t1 s2 t2
              refine RegG.done (by kernel_rfl) ?_ _
              go_wp2_with fail
              go_meet
              case rel => exact ⟨N, b6, A6, n6, c6, B6, m6, d6, rfl, Lib.hid ⟨HZB.out, HZK.out, HZV.out⟩⟩
          case rest =>
            obtain ⟨w8, hw8⟩ : ∃ u, u = wc := ⟨_, rfl⟩
            rw [← hw8] at hcut ⊢
            clear hw8
            obtain ⟨M, b8, A8, n8, c8, B8, m8, d8, rfl, HM⟩ := hcut
            have HB8 := Lib.hid (HB7.out.keep HM.out.1)
            clear HRF HCF
            have HCF := Lib.hid (fun W (h : Below w8.heap.size w8 W) => load3 (HB8.out.bf.same (h.block _ HB8.out.bf.lt)))
            have HCY := Lib.hid (fun W (h : Below w8.heap.size w8 W) => load3 (HM.out.2.1.same (h.block _ HM.out.2.1.lt)))
            have HRF := Lib.hid (fun W (h : Below w8.heap.size w8 W) => ratV_below HB8.out.rf h)
            have HRY := Lib.hid (fun W (h : Below w8.heap.size w8 W) => ratV_below HM.out.2.2 h)
            have HBR := Lib.hid (fun W (h : Below w8.heap.size w8 W) => HB8.out.br.same (h.block _ HB8.out.br.lt))
            have HBW := Lib.hid HB8.out.below
            have HIY := Lib.hid (Sizes.sz_div HONE.out HY.out.2.1 (fun e => HY.out.2.2.1 (by rw [e]; rfl)))
            go_upto_region 9 with fail
            have HD0 := Lib.hid (show Below w8.heap.size w8 w8.drew from Drawn0.below ⟨1, rfl⟩)
            refine RegG.start (fun W => Below w8.heap.size w8 W) [0, 2] (by kernel_rfl) ?_
            obtain ⟨U, hU⟩ : ∃ U, U = w8.drew := ⟨_, rfl⟩
            rw [← hU] at HD0 ⊢
            clear hU
            refine RegG.take (i := 0) (v := ?_) rfl (by kernel_rfl) (by kernel_rfl) (by kernel_rfl) (by kernel_rfl) (fun _ _ _ h => h) (Or.inl ⟨by rfl, ?_⟩) HD0.out ?_
            rotate_left
            · intro W hW
              obtain ⟨h0, h1, h2⟩ := HCF.out W hW
              go_simp
              with_reducible rfl
            refine RegG.take (i := 2) (v := ?_) rfl (by kernel_rfl) (by kernel_rfl) (by kernel_rfl) (by kernel_rfl) (fun _ _ _ h => h) (Or.inl ⟨by rfl, ?_⟩) HD0.out ?_
            rotate_left
            · intro W hW
              obtain ⟨h0, h1, h2⟩ := HCY.out W hW
              go_simp
              with_reducible rfl
            refine RegG.one (i := 1) (by kernel_rfl) rfl (fun K hK => ?_)
            go_simp
            refine (whole1 _).mono ?_
            rintro _ V215 ⟨v218, rfl, hv216, hb217⟩
            have HB219 := Lib.hid (below_step HD0.out hb217)
            have HR220 := Lib.hid hv216
            refine hK _ _ ⟨fun _ => HB219.out, ?_⟩
            clear hK K hv216 hb217
            refine RegG.one (i := 3) (by kernel_rfl) rfl (fun K hK => ?_)
            go_simp
            refine (over_calls 1 y _ _ _ (Lib.hid HR220.out) (Lib.hid (HRY.out _ HB219.out)) (Nat.le_trans (HONE.out).1 (by omega)) (Nat.le_trans (HONE.out).2 (by omega)) (Nat.le_trans (HY.out.2.1).1 (by omega)) (Nat.le_trans (HY.out.2.1).2 (by omega)) HY.out.2.2.1).mono ?_
            rintro _ V221 ⟨v224, rfl, hv222, hb223⟩
            have HL225 := Lib.hid (ratV_below HR220.out hb223)
            have HB226 := Lib.hid (below_step HB219.out hb223)
            have HR227 := Lib.hid hv222
            refine hK _ _ ⟨fun _ => HB226.out, ?_⟩
            clear hK K hv222 hb223
            refine RegG.one (i := 4) (by kernel_rfl) rfl (fun K hK => ?_)
            go_simp
            refine (plus_calls (lo.floor : Rat) (1 / y) _ _ _ (Lib.hid (HRF.out _ HB226.out)) (Lib.hid HR227.out) (Nat.le_trans (HZ.out.2.1).1 (by omega)) (Nat.le_trans (HZ.out.2.1).2 (by omega)) (Nat.le_trans (HIY.out).1 (by omega)) (Nat.le_trans (HIY.out).2 (by omega))).mono ?_
            rintro _ V228 ⟨v231, rfl, hv229, hb230⟩
            have HL232 := Lib.hid (ratV_below HL225.out hb230)
            have HL233 := Lib.hid (ratV_below HR227.out hb230)
            obtain ⟨b7, A7, n7, c7, B7, m7, d7, rfl⟩ := ratV_flat hv229
            have HB234 := Lib.hid (below_step HB226.out hb230)
            have HR235 := Lib.hid hv229
            refine hK _ _ ⟨fun _ => HB234.out, ?_⟩
            clear hK K hv229 hb230
            refine RegG.one (i := 5) (by kernel_rfl) rfl (fun K hK => ?_)
            obtain ⟨⟨s0, t0⟩, ⟨s1, t1⟩, ⟨s2, t2⟩, Z, hZ, hBZ, hkZ, hgZ⟩ := store3z (HBR.out _ HB234.out) (b' := b7) (A' := A7) (n' := n7) (c' := c7) (B' := B7) (m' := m7) (d' := d7)
            have HZB := Lib.hid (below_grown (below_step HBW.out HB234.out) hgZ (show w.heap.size ≤ w.heap.size + 1 + 1 by omega))
            obtain ⟨r0, r1, r2⟩ := load3 hBZ
            have HZV := Lib.hid (ratV_keeps HR235.out hkZ)
            clear hBZ hkZ hgZ
            go_simp
            simp only [← hZ]
            refine hK _ _ ⟨(by intro h; exact absurd (h.symm.trans (show _ = false by kernel_rfl)) (by decide)), ?_⟩
            clear hK K hZ
            clear s0 t0 s1 t1 s2 t2
            refine RegG.done (by kernel_rfl) ?_ _
            go_wp2_with fail
            exact bodyPost_ret (v := .agg #[.bool b7, .slice A7 n7 c7, .slice B7 m7 d7]) (by simp [results, Tryz.results82, go_sem, r0, r1, r2]) rfl ⟨_, rfl, by rw [HY.out.1]; exact HZV.out, HZB.out⟩
end Go.Proofs.YtjeamchaibialaaGreatDoor.RefX
