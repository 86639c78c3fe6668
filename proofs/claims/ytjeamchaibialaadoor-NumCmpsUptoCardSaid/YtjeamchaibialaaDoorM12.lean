/- Joined: RefP -/
import Derived.Test.YtjeamchaibialaaDoorM9
import Derived.StillTailTactics
set_option linter.unusedVariables false
set_option linter.unusedSimpArgs false
/- The reference's pairs of numbers: the walk of two. -/
namespace Go.Proofs.YtjeamchaibialaaDoor.RefP
open Go.RowKit Heaps Go.Proofs.YtjeamchaibialaaDoorW.PrintWords Go.Proofs.YtjeamchaibialaaDoorW.PrintLast Go.Proofs.YtjeamchaibialaaDoorW.PrintMore Fns Limbs Pure1 Pure3 Nats Arrs Texts Rats RefA RefB RefC RefD RefE RefF RefG RefH RefI RefJ RefK RefL RefM RefN RefO ReadWalk Parses

def Flat3 (v : Value) : Prop := ∃ b A n c B m d, v = .agg #[.bool b, .slice A n c, .slice B m d]
def OutF (l : List UInt8) (w : World) (e : Ending) (W : World) : Prop :=
  ∃ v ok, e = .returned (.tuple #[v, .bool ok]) ∧ Flat3 v ∧ Below w.heap.size w W ∧ (ok = true → ∃ q, l = rtxt q ∧ RatV W v q) ∧ (ok = false → ∀ q, l ≠ rtxt q)
theorem of_flat (s : ByteArray) (hs : s.size ≤ 100000000) (w : World) : Calls Tryd.prog 68 #[.string s] w (OutF s.data.toList w) := by
  refine (of_walk s hs w).mono ?_
  rintro e W ⟨hb, ⟨q, v, h1, rfl, h2⟩ | ⟨h1, rfl⟩⟩
  · exact ⟨v, true, rfl, ratV_flat h2, hb, fun _ => ⟨q, h1, h2⟩, fun e => absurd e (by decide)⟩
  · exact ⟨_, false, rfl, ⟨_, _, _, _, _, _, _, rfl⟩, hb, fun e => absurd e (by decide), fun _ => h1⟩
theorem new_flat {w0 w : World} (hb : Below w0.heap.size w0 w) (b : Bool) (A : Option Addr) (n c : Nat) (B : Option Addr) (m d : Nat) :
    ∃ w5 : World, w5 = w.alloc (.cells #[.bool b, .slice A n c, .slice B m d] 56) ∧
    Blk w5 w.heap.size #[.bool b, .slice A n c, .slice B m d] ∧ Below w0.heap.size w0 w5 ∧ Below w.heap.size w w5 := by
  have hB := Blk.alloc w #[.bool b, .slice A n c, .slice B m d] 56
  have hw := (Below.refl w.heap.size w).alloc (Nat.le_refl _) (.cells #[.bool b, .slice A n c, .slice B m d] 56)
  exact ⟨_, rfl, hB, below_step hb hw, hw⟩
def OutT (l m : List UInt8) (w : World) (e : Ending) (W : World) : Prop :=
  ∃ v u ok, e = .returned (.tuple #[v, u, .bool ok]) ∧ Flat3 v ∧ Flat3 u ∧ Below w.heap.size w W ∧ (ok = true → ∃ p q, l = rtxt p ∧ m = rtxt q ∧ RatV W v p ∧ RatV W u q) ∧ (ok = false → (∀ p, l ≠ rtxt p) ∨ ∀ q, m ≠ rtxt q)

theorem two_end {w w5 : World} {r k : Nat} (hrk : r ≠ k) {x0 y0 b b' : Bool} {X X' Y Y' A B A' B' : Option Addr} {x1 x2 x3 x4 y1 y2 y3 y4 n c m d n' c' m' d' : Nat}
    (hR : Blk w5 r #[.bool x0, .slice X x1 x2, .slice X' x3 x4]) (hQ : Blk w5 k #[.bool y0, .slice Y y1 y2, .slice Y' y3 y4]) (hb : Below w.heap.size w w5) (hr : w.heap.size ≤ r) (hk : w.heap.size ≤ k) :
    ∃ W : World, W = ((((((w5.setCell ⟨r, 0, none⟩ (.bool b)).setCell ⟨r, 1, none⟩ (.slice A n c)).setCell ⟨r, 2, none⟩ (.slice B m d)).setCell ⟨k, 0, none⟩ (.bool b')).setCell ⟨k, 1, none⟩ (.slice A' n' c')).setCell ⟨k, 2, none⟩ (.slice B' m' d')).drew ∧
      Blk W r #[.bool b, .slice A n c, .slice B m d] ∧ Blk W k #[.bool b', .slice A' n' c', .slice B' m' d'] ∧ (∀ v q, RatV w5 v q → RatV W v q) ∧ Below w.heap.size w W := by
  obtain ⟨h1, _, g1⟩ := set3 (b' := b) (A' := A) (n' := n) (c' := c) (B' := B) (m' := m) (d' := d) hR
  have hQ1 := hQ.same (g1.block _ hQ.lt (fun e => hrk (by injection e with e; exact e.symm)))
  obtain ⟨h2, _, g2⟩ := set3 (b' := b') (A' := A') (n' := n') (c' := c') (B' := B') (m' := m') (d' := d') hQ1
  have h3 := h1.same (g2.block _ h1.lt (fun e => hrk (by injection e)))
  have hd : ∀ V : World, Below V.heap.size V V.drew := fun V => Drawn0.below ⟨1, rfl⟩
  exact ⟨_, rfl, h3.same ((hd _).block _ h3.lt), h2.same ((hd _).block _ h2.lt), fun v q hv => ratV_below (ratV_set3 hQ1 (ratV_set3 hR hv)) (hd _), below_step (below_set3 (below_set3 hb hr _ _ _) hk _ _ _) (hd _)⟩

set_option maxRecDepth 100000 in
set_option maxHeartbeats 1000000 in
theorem two_calls (s t : ByteArray) (hs : s.size ≤ 100000000) (ht : t.size ≤ 100000000) (w : World) :
    Calls Tryd.prog 57 #[.string s, .string t] w (OutT s.data.toList t.data.toList w) := by
  obtain ⟨w1, hw1, hB1, hB2, hb1⟩ := pair_box w #[.bool false, .slice none 0 0, .slice none 0 0] #[.bool false, .slice none 0 0, .slice none 0 0]
  have H1 := Lib.hid (And.intro hB1 (And.intro hB2 hb1))
  clear hB1 hB2 hb1
  go_enter Tryd.func57, Tryd.ntmps57
  go_upto_region 1 with fail
  rw [← hw1]
  clear hw1
  go_wp2_with fail
  refine (of_flat s hs _).mono ?_
  rintro e w2 ⟨v, ok1, rfl, ⟨b, A, n, c, B, m, d, rfl⟩, hb2, h2, h2'⟩
  have H2 := Lib.hid (And.intro (H1.out.1.same (hb2.block _ H1.out.1.lt)) (And.intro (H1.out.2.1.same (hb2.block _ H1.out.2.1.lt)) (And.intro (below_step H1.out.2.2 hb2) (And.intro h2 h2'))))
  clear h2 h2' H1 hb2
  obtain ⟨w3, hw3, hB3, hb3, hb23⟩ := new_flat H2.out.2.2.1 b A n c B m d
  have H3 := Lib.hid (And.intro (H2.out.1.same (hb23.block _ H2.out.1.lt)) (And.intro (H2.out.2.1.same (hb23.block _ H2.out.2.1.lt)) (And.intro hb3 (And.intro hB3 (And.intro (fun h => (by obtain ⟨q, h1, h2⟩ := H2.out.2.2.2.1 h; exact ⟨q, h1, ratV_below h2 hb23⟩ : ∃ q, s.data.toList = rtxt q ∧ RatV w3 (.agg #[.bool b, .slice A n c, .slice B m d]) q)) H2.out.2.2.2.2)))))
  have H2lt := H2.out.2.1.lt
  clear H2 hB3 hb3 hb23
  go_upto_region 2 with fail
  rw [← hw3]
  clear hw3
  have hgx2 : w.heap.size + 1 < w2.heap.size := H2lt
  generalize w2.heap.size = gx at *
  go_wp2_with fail
  refine (of_flat t ht _).mono ?_
  rintro e w4 ⟨v, ok2, rfl, ⟨b', A', n', c', B', m', d', rfl⟩, hb4, h4, h4'⟩
  have H4 := Lib.hid (And.intro (H3.out.1.same (hb4.block _ H3.out.1.lt)) (And.intro (H3.out.2.1.same (hb4.block _ H3.out.2.1.lt)) (And.intro (below_step H3.out.2.2.1 hb4) (And.intro (H3.out.2.2.2.1.same (hb4.block _ H3.out.2.2.2.1.lt)) (And.intro (fun h => (by obtain ⟨q, h1, h2⟩ := H3.out.2.2.2.2.1 h; exact ⟨q, h1, ratV_below h2 hb4⟩ : ∃ q, s.data.toList = rtxt q ∧ RatV w4 (.agg #[.bool b, .slice A n c, .slice B m d]) q)) (And.intro H3.out.2.2.2.2.2 (And.intro h4 h4')))))))
  clear H3 hb4 h4 h4'
  obtain ⟨w5, hw5, hB5, hb5, hb45⟩ := new_flat H4.out.2.2.1 b' A' n' c' B' m' d'
  go_upto_region 3 with fail
  rw [← hw5]
  clear hw5
  have hX0 := H4.out.2.2.2.1.same (hb45.block _ H4.out.2.2.2.1.lt)
  have hR0 := H4.out.1.same (hb45.block _ H4.out.1.lt)
  have hQ0 := H4.out.2.1.same (hb45.block _ H4.out.2.1.lt)
  have hVX : ok1 = true → ∃ q, s.data.toList = rtxt q ∧ RatV w5 (.agg #[.bool b, .slice A n c, .slice B m d]) q := fun h => by obtain ⟨q, h1, h2⟩ := H4.out.2.2.2.2.1 h; exact ⟨q, h1, ratV_below h2 hb45⟩
  have hVY : ok2 = true → ∃ q, t.data.toList = rtxt q ∧ RatV w5 (.agg #[.bool b', .slice A' n' c', .slice B' m' d']) q := fun h => by obtain ⟨q, h1, h2⟩ := H4.out.2.2.2.2.2.2.1 h; exact ⟨q, h1, ratV_below h2 hb45⟩
  have hgx := H4.out.2.2.2.1.lt
  have hg1 := H4.out.2.1.lt
  have hg0 := H4.out.1.lt
  obtain ⟨gy, hgy⟩ : ∃ gy, gy = w4.heap.size := ⟨_, rfl⟩
  rw [← hgy] at hB5 hgx hg1 hg0 ⊢
  have e1 : gx ≠ w.heap.size := by omega
  have e2 : gx ≠ w.heap.size + 1 := by omega
  have e3 : gy ≠ w.heap.size := by omega
  have e4 : gy ≠ w.heap.size + 1 := by omega
  have HN := Lib.hid (And.intro H4.out.2.2.2.2.2.1 H4.out.2.2.2.2.2.2.2)
  obtain ⟨x0, x1, x2⟩ := load3 hX0
  obtain ⟨y0, y1, y2⟩ := load3 hB5
  obtain ⟨r0, r1, r2⟩ := load3 hR0
  obtain ⟨q0, q1, q2⟩ := load3 hQ0
  have f0 := hR0.frozen 0
  have f1 := hR0.frozen 1
  have f2 := hR0.frozen 2
  have k0 := hQ0.frozen 0
  have k1 := hQ0.frozen 1
  have k2 := hQ0.frozen 2
  obtain ⟨W, hW, hRW, hQW, hVW, hbW⟩ := two_end (w := w) (r := w.heap.size) (k := w.heap.size + 1) (b := b) (b' := b') (A := A) (n := n) (c := c) (B := B) (m := m) (d := d) (A' := A') (n' := n') (c' := c') (B' := B') (m' := m') (d' := d') (by omega) hR0 hQ0 hb5 (by omega) (by omega)
  have HF := Lib.hid (And.intro hVX (And.intro hVY (And.intro hVW hbW)))
  obtain ⟨m0, m1, m2⟩ := load3 hRW
  obtain ⟨o0, o1, o2⟩ := load3 hQW
  have HW := Lib.hid hW
  clear hVX hVY H4 hB5 hb5 hb45 hgy hgx hg0 hg1 hgx2 hX0 hR0 hQ0 hVW hbW hRW hQW hW
  cases ok1
  · go_region
    go_wp2_with fail
    rw [← HW.out]
    refine bodyPost_ret (v := .tuple #[.agg #[.bool b, .slice A n c, .slice B m d], .agg #[.bool b', .slice A' n' c', .slice B' m' d'], .bool false]) (by simp [results, Tryd.results57, go_sem, m0, m1, m2, o0, o1, o2]) rfl ?_
    exact ⟨_, _, false, rfl, ⟨_, _, _, _, _, _, _, rfl⟩, ⟨_, _, _, _, _, _, _, rfl⟩, HF.out.2.2.2, fun h => absurd h (by decide), fun _ => .inl (HN.out.1 trivial)⟩
  · go_region
    go_wp2_with fail
    rw [← HW.out]
    refine bodyPost_ret (v := .tuple #[.agg #[.bool b, .slice A n c, .slice B m d], .agg #[.bool b', .slice A' n' c', .slice B' m' d'], .bool ok2]) (by simp [results, Tryd.results57, go_sem, m0, m1, m2, o0, o1, o2]) rfl ?_
    refine ⟨_, _, ok2, rfl, ⟨_, _, _, _, _, _, _, rfl⟩, ⟨_, _, _, _, _, _, _, rfl⟩, HF.out.2.2.2, fun h => ?_, fun h => .inr (HN.out.2 h)⟩
    obtain ⟨p, h1, h2⟩ := HF.out.1 trivial
    obtain ⟨q, h3, h4⟩ := HF.out.2.1 h
    exact ⟨p, q, h1, h3, HF.out.2.2.1 _ _ h2, HF.out.2.2.1 _ _ h4⟩
end Go.Proofs.YtjeamchaibialaaDoor.RefP
