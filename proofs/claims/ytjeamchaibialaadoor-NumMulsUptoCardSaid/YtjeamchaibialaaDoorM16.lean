/- Joined: RefQ -/
import Derived.Test.YtjeamchaibialaaDoorM12
import Derived.Test.YtjeamchaibialaaDoorM6
set_option linter.unusedVariables false
set_option linter.unusedSimpArgs false
/- The reference's calls of two numbers: the walks. -/
namespace Go.Proofs.YtjeamchaibialaaDoor.RefQ
open Go.RowKit Heaps Go.Proofs.YtjeamchaibialaaDoorW.PrintWords Go.Proofs.YtjeamchaibialaaDoorW.PrintLast Go.Proofs.YtjeamchaibialaaDoorW.PrintMore Fns Limbs Pure1 Pure3 Nats Arrs Texts Rats RefA RefB RefC RefD RefE RefF RefG RefH RefI RefJ RefK RefL RefM RefN RefO RefP Go.Proofs.YtjeamchaibialaaDoor.Bins Go.Proofs.YtjeamchaibialaaDoor.Nums ReadWalk Parses

theorem alloc2 {w w2 : World} (hb : Below w.heap.size w w2) {b b' : Bool} {A B A' B' : Option Addr} {n c m d n' c' m' d' : Nat} :
    ∃ w3 : World, w3 = (w2.alloc (.cells #[.bool b, .slice A n c, .slice B m d] 56)).alloc (.cells #[.bool b', .slice A' n' c', .slice B' m' d'] 56) ∧
      Blk w3 w2.heap.size #[.bool b, .slice A n c, .slice B m d] ∧ Blk w3 (w2.heap.size + 1) #[.bool b', .slice A' n' c', .slice B' m' d'] ∧ Below w.heap.size w w3 ∧ Below w2.heap.size w2 w3 := by
  obtain ⟨w3, h, h1, h2, h3⟩ := pair_box w2 #[.bool b, .slice A n c, .slice B m d] #[.bool b', .slice A' n' c', .slice B' m' d']
  exact ⟨w3, h, h1, h2, below_step hb h3, h3⟩
theorem sz_c {q : Rat} {s : ByteArray} (h : s.data.toList = rtxt q) (hs : s.size ≤ 100000000) : Sizes.Sz q 40000000 := sz_a h hs
theorem sz9 {q : Rat} {N : Nat} (h : Sizes.Sz q N) (hN : N ≤ 300000000) : ((limbs q.num.natAbs).length ≤ 300000000 ∧ (limbs q.den).length ≤ 300000000) := ⟨Nat.le_trans h.1 hN, Nat.le_trans h.2 hN⟩

set_option maxRecDepth 100000 in
set_option maxHeartbeats 1000000 in
theorem refAdd_calls (s t : ByteArray) (hs : s.size ≤ 100000000) (ht : t.size ≤ 100000000) (w : World) :
    Calls Tryd.prog 25 #[.string s, .string t] w (Out2 (fun p q => p + q) s.data.toList t.data.toList w) := by
  go_enter Tryd.func25, Tryd.ntmps25
  go_wp2_with fail
  refine (two_calls s t hs ht _).mono ?_
  rintro e w2 ⟨v, u, ok, rfl, ⟨b, A, n, c, B, m, d, rfl⟩, ⟨b', A', n', c', B', m', d', rfl⟩, hb, h1, h2⟩
  obtain ⟨w3, hw3, hX, hY, hb3, hb23⟩ := alloc2 hb (b := b) (b' := b') (A := A) (A' := A') (n := n) (n' := n') (c := c) (c' := c') (B := B) (B' := B') (m := m) (m' := m') (d := d) (d' := d')
  have h1' : ok = true → ∃ p q, s.data.toList = rtxt p ∧ t.data.toList = rtxt q ∧ RatV w3 (.agg #[.bool b, .slice A n c, .slice B m d]) p ∧ RatV w3 (.agg #[.bool b', .slice A' n' c', .slice B' m' d']) q := fun h => by
    obtain ⟨p, q, e1, e2, e3, e4⟩ := h1 h
    exact ⟨p, q, e1, e2, ratV_below e3 hb23, ratV_below e4 hb23⟩
  have H := Lib.hid (And.intro h1' (And.intro h2 (And.intro hX (And.intro hY hb3))))
  clear h1 h1' h2 hX hY hb hb3 hb23
  go_upto_region 2 with fail
  rw [← hw3]
  clear hw3
  generalize w2.heap.size = g at *
  obtain ⟨l0, l1, l2⟩ := load3 H.out.2.2.1
  obtain ⟨n0, n1, n2⟩ := load3 H.out.2.2.2.1
  cases ok
  · have HN := Lib.hid (H.out.2.1 rfl)
    go_wp2_with fail
    go_ret2
    exact ⟨H.out.2.2.2.2, .inr ⟨HN.out, rfl⟩⟩
  · obtain ⟨p, q, e1, e2, e3, e4⟩ := H.out.1 rfl
    have hp := sz_c e1 hs
    have hq := sz_c e2 ht
    have HV := Lib.hid (And.intro e1 (And.intro e2 (And.intro e3 (And.intro e4 (And.intro hp hq)))))
    clear e1 e2 e3 e4 hp hq
    go_wp2_with fail
    refine (plus_calls p q _ _ _ (Lib.hid HV.out.2.2.1) (Lib.hid HV.out.2.2.2.1) (by have := HV.out.2.2.2.2.1.1; omega) (by have := HV.out.2.2.2.2.1.2; omega) (by have := HV.out.2.2.2.2.2.1; omega) (by have := HV.out.2.2.2.2.2.2; omega)).mono ?_
    rintro e w4 ⟨x, rfl, hx, hb4⟩
    have hz := Sizes.sz_add HV.out.2.2.2.2.1 HV.out.2.2.2.2.2
    have HX := Lib.hid (And.intro hx (And.intro hz (below_step H.out.2.2.2.2 hb4)))
    clear hx hz hb4 l0 l1 l2 n0 n1 n2
    go_wp2_with fail
    refine (text_calls (p + q) _ _ (Lib.hid HX.out.1) (by have := HX.out.2.1.1; omega) (by have := HX.out.2.1.2; omega)).mono ?_
    rintro e w5 ⟨rfl, hb5⟩
    have HB := Lib.hid (below_step HX.out.2.2 hb5)
    clear hb5
    go_wp2_with fail
    go_ret2
    exact ⟨HB.out, .inl ⟨p, q, HV.out.1, HV.out.2.1, rfl⟩⟩
set_option maxRecDepth 100000 in
set_option maxHeartbeats 1000000 in
theorem refSub_calls (s t : ByteArray) (hs : s.size ≤ 100000000) (ht : t.size ≤ 100000000) (w : World) :
    Calls Tryd.prog 27 #[.string s, .string t] w (Out2 (fun p q => p - q) s.data.toList t.data.toList w) := by
  go_enter Tryd.func27, Tryd.ntmps27
  go_wp2_with fail
  refine (two_calls s t hs ht _).mono ?_
  rintro e w2 ⟨v, u, ok, rfl, ⟨b, A, n, c, B, m, d, rfl⟩, ⟨b', A', n', c', B', m', d', rfl⟩, hb, h1, h2⟩
  obtain ⟨w3, hw3, hX, hY, hb3, hb23⟩ := alloc2 hb (b := b) (b' := b') (A := A) (A' := A') (n := n) (n' := n') (c := c) (c' := c') (B := B) (B' := B') (m := m) (m' := m') (d := d) (d' := d')
  have h1' : ok = true → ∃ p q, s.data.toList = rtxt p ∧ t.data.toList = rtxt q ∧ RatV w3 (.agg #[.bool b, .slice A n c, .slice B m d]) p ∧ RatV w3 (.agg #[.bool b', .slice A' n' c', .slice B' m' d']) q := fun h => by
    obtain ⟨p, q, e1, e2, e3, e4⟩ := h1 h
    exact ⟨p, q, e1, e2, ratV_below e3 hb23, ratV_below e4 hb23⟩
  have H := Lib.hid (And.intro h1' (And.intro h2 (And.intro hX (And.intro hY hb3))))
  clear h1 h1' h2 hX hY hb hb3 hb23
  go_upto_region 2 with fail
  rw [← hw3]
  clear hw3
  generalize w2.heap.size = g at *
  obtain ⟨l0, l1, l2⟩ := load3 H.out.2.2.1
  obtain ⟨n0, n1, n2⟩ := load3 H.out.2.2.2.1
  cases ok
  · have HN := Lib.hid (H.out.2.1 rfl)
    go_wp2_with fail
    go_ret2
    exact ⟨H.out.2.2.2.2, .inr ⟨HN.out, rfl⟩⟩
  · obtain ⟨p, q, e1, e2, e3, e4⟩ := H.out.1 rfl
    have hp := sz_c e1 hs
    have hq := sz_c e2 ht
    have HV := Lib.hid (And.intro e1 (And.intro e2 (And.intro e3 (And.intro e4 (And.intro hp hq)))))
    clear e1 e2 e3 e4 hp hq
    go_wp2_with fail
    refine (less_calls p q _ _ _ (Lib.hid HV.out.2.2.1) (Lib.hid HV.out.2.2.2.1) (by have := HV.out.2.2.2.2.1.1; omega) (by have := HV.out.2.2.2.2.1.2; omega) (by have := HV.out.2.2.2.2.2.1; omega) (by have := HV.out.2.2.2.2.2.2; omega)).mono ?_
    rintro e w4 ⟨x, rfl, hx, hb4⟩
    have hz := Sizes.sz_sub HV.out.2.2.2.2.1 HV.out.2.2.2.2.2
    have HX := Lib.hid (And.intro hx (And.intro hz (below_step H.out.2.2.2.2 hb4)))
    clear hx hz hb4 l0 l1 l2 n0 n1 n2
    go_wp2_with fail
    refine (text_calls (p - q) _ _ (Lib.hid HX.out.1) (by have := HX.out.2.1.1; omega) (by have := HX.out.2.1.2; omega)).mono ?_
    rintro e w5 ⟨rfl, hb5⟩
    have HB := Lib.hid (below_step HX.out.2.2 hb5)
    clear hb5
    go_wp2_with fail
    go_ret2
    exact ⟨HB.out, .inl ⟨p, q, HV.out.1, HV.out.2.1, rfl⟩⟩
set_option maxRecDepth 100000 in
set_option maxHeartbeats 1000000 in
theorem refMul_calls (s t : ByteArray) (hs : s.size ≤ 100000000) (ht : t.size ≤ 100000000) (w : World) :
    Calls Tryd.prog 17 #[.string s, .string t] w (Out2 (fun p q => p * q) s.data.toList t.data.toList w) := by
  go_enter Tryd.func17, Tryd.ntmps17
  go_wp2_with fail
  refine (two_calls s t hs ht _).mono ?_
  rintro e w2 ⟨v, u, ok, rfl, ⟨b, A, n, c, B, m, d, rfl⟩, ⟨b', A', n', c', B', m', d', rfl⟩, hb, h1, h2⟩
  obtain ⟨w3, hw3, hX, hY, hb3, hb23⟩ := alloc2 hb (b := b) (b' := b') (A := A) (A' := A') (n := n) (n' := n') (c := c) (c' := c') (B := B) (B' := B') (m := m) (m' := m') (d := d) (d' := d')
  have h1' : ok = true → ∃ p q, s.data.toList = rtxt p ∧ t.data.toList = rtxt q ∧ RatV w3 (.agg #[.bool b, .slice A n c, .slice B m d]) p ∧ RatV w3 (.agg #[.bool b', .slice A' n' c', .slice B' m' d']) q := fun h => by
    obtain ⟨p, q, e1, e2, e3, e4⟩ := h1 h
    exact ⟨p, q, e1, e2, ratV_below e3 hb23, ratV_below e4 hb23⟩
  have H := Lib.hid (And.intro h1' (And.intro h2 (And.intro hX (And.intro hY hb3))))
  clear h1 h1' h2 hX hY hb hb3 hb23
  go_upto_region 2 with fail
  rw [← hw3]
  clear hw3
  generalize w2.heap.size = g at *
  obtain ⟨l0, l1, l2⟩ := load3 H.out.2.2.1
  obtain ⟨n0, n1, n2⟩ := load3 H.out.2.2.2.1
  cases ok
  · have HN := Lib.hid (H.out.2.1 rfl)
    go_wp2_with fail
    go_ret2
    exact ⟨H.out.2.2.2.2, .inr ⟨HN.out, rfl⟩⟩
  · obtain ⟨p, q, e1, e2, e3, e4⟩ := H.out.1 rfl
    have hp := sz_c e1 hs
    have hq := sz_c e2 ht
    have HV := Lib.hid (And.intro e1 (And.intro e2 (And.intro e3 (And.intro e4 (And.intro hp hq)))))
    clear e1 e2 e3 e4 hp hq
    go_wp2_with fail
    refine (RefI.times_calls p q _ _ _ (Lib.hid HV.out.2.2.1) (Lib.hid HV.out.2.2.2.1) (by have := HV.out.2.2.2.2.1.1; omega) (by have := HV.out.2.2.2.2.1.2; omega) (by have := HV.out.2.2.2.2.2.1; omega) (by have := HV.out.2.2.2.2.2.2; omega)).mono ?_
    rintro e w4 ⟨x, rfl, hx, hb4⟩
    have hz := Sizes.sz_mul HV.out.2.2.2.2.1 HV.out.2.2.2.2.2
    have HX := Lib.hid (And.intro hx (And.intro hz (below_step H.out.2.2.2.2 hb4)))
    clear hx hz hb4 l0 l1 l2 n0 n1 n2
    go_wp2_with fail
    refine (text_calls (p * q) _ _ (Lib.hid HX.out.1) (by have := HX.out.2.1.1; omega) (by have := HX.out.2.1.2; omega)).mono ?_
    rintro e w5 ⟨rfl, hb5⟩
    have HB := Lib.hid (below_step HX.out.2.2 hb5)
    clear hb5
    go_wp2_with fail
    go_ret2
    exact ⟨HB.out, .inl ⟨p, q, HV.out.1, HV.out.2.1, rfl⟩⟩
set_option maxRecDepth 100000 in
set_option maxHeartbeats 1000000 in
theorem refQuo_calls (s t : ByteArray) (hs : s.size ≤ 100000000) (ht : t.size ≤ 100000000) (w : World) :
    Calls Tryd.prog 19 #[.string s, .string t] w (OutQ s.data.toList t.data.toList w) := by
  go_enter Tryd.func19, Tryd.ntmps19
  go_wp2_with fail
  refine (two_calls s t hs ht _).mono ?_
  rintro e w2 ⟨v, u, ok, rfl, ⟨b, A, n, c, B, m, d, rfl⟩, ⟨b', A', n', c', B', m', d', rfl⟩, hb, h1, h2⟩
  obtain ⟨w3, hw3, hX, hY, hb3, hb23⟩ := alloc2 hb (b := b) (b' := b') (A := A) (A' := A') (n := n) (n' := n') (c := c) (c' := c') (B := B) (B' := B') (m := m) (m' := m') (d := d) (d' := d')
  have h1' : ok = true → ∃ p q, s.data.toList = rtxt p ∧ t.data.toList = rtxt q ∧ RatV w3 (.agg #[.bool b, .slice A n c, .slice B m d]) p ∧ RatV w3 (.agg #[.bool b', .slice A' n' c', .slice B' m' d']) q := fun h => by
    obtain ⟨p, q, e1, e2, e3, e4⟩ := h1 h
    exact ⟨p, q, e1, e2, ratV_below e3 hb23, ratV_below e4 hb23⟩
  have H := Lib.hid (And.intro h1' (And.intro h2 (And.intro hX (And.intro hY hb3))))
  clear h1 h1' h2 hX hY hb hb3 hb23
  go_upto_region 2 with fail
  rw [← hw3]
  clear hw3
  generalize w2.heap.size = g at *
  obtain ⟨l0, l1, l2⟩ := load3 H.out.2.2.1
  obtain ⟨n0, n1, n2⟩ := load3 H.out.2.2.2.1
  cases ok
  · have HN := Lib.hid (H.out.2.1 rfl)
    go_wp2_with fail
    go_ret2
    exact ⟨H.out.2.2.2.2, .inr (.inr ⟨HN.out, rfl⟩)⟩
  · obtain ⟨p, q, e1, e2, e3, e4⟩ := H.out.1 rfl
    have hp := sz_c e1 hs
    have hq := sz_c e2 ht
    have HV := Lib.hid (And.intro e1 (And.intro e2 (And.intro e3 (And.intro e4 (And.intro hp hq)))))
    clear e1 e2 e3 e4 hp hq
    go_wp2_with fail
    refine (sign_calls q _ _ (Lib.hid HV.out.2.2.2.1) (by have := HV.out.2.2.2.2.2.1; omega)).mono ?_
    rintro e w4 ⟨rfl, hb4⟩
    have H4 := Lib.hid (And.intro (H.out.2.2.1.same (hb4.block _ H.out.2.2.1.lt)) (And.intro (H.out.2.2.2.1.same (hb4.block _ H.out.2.2.2.1.lt)) (And.intro (below_step H.out.2.2.2.2 hb4) (And.intro (ratV_below HV.out.2.2.1 hb4) (ratV_below HV.out.2.2.2.1 hb4)))))
    have HV2 := Lib.hid (And.intro HV.out.1 (And.intro HV.out.2.1 (And.intro H4.out.2.2.2.1 (And.intro H4.out.2.2.2.2 HV.out.2.2.2.2))))
    clear l0 l1 l2 n0 n1 n2 hb4 HV
    have HV := HV2
    clear HV2
    obtain ⟨l0, l1, l2⟩ := load3 H4.out.1
    obtain ⟨n0, n1, n2⟩ := load3 H4.out.2.1
    by_cases hq0 : q.num = 0
    · have hs : sgq q = 0 := by unfold sgq; rw [if_pos hq0]
      have hq1 : q = 0 := Rat.num_eq_zero.1 hq0
      have HQ1 := Lib.hid hq1
      rw [hs]
      clear hs hq1 hq0
      go_wp2_with fail
      go_ret2
      exact ⟨H4.out.2.2.1, .inr (.inl ⟨p, HV.out.1, by rw [HV.out.2.1, HQ1.out], rfl⟩)⟩
    · have hs : sgq q ≠ 0 := by unfold sgq; rw [if_neg hq0]; split <;> omega
      have hsb : (sgq q == 0) = false := beq_eq_false_iff_ne.2 hs
      have HQ0 := Lib.hid hq0
      have hq1 : q ≠ 0 := fun e => hq0 (by rw [e]; rfl)
      have HQ1 := Lib.hid hq1
      generalize sgq q = z at *
      clear hs hq0 hq1
      go_wp2_with fail
      refine (over_calls p q _ _ _ (Lib.hid HV.out.2.2.1) (Lib.hid HV.out.2.2.2.1) (by have := HV.out.2.2.2.2.1.1; omega) (by have := HV.out.2.2.2.2.1.2; omega) (by have := HV.out.2.2.2.2.2.1; omega) (by have := HV.out.2.2.2.2.2.2; omega) HQ0.out).mono ?_
      rintro e w4 ⟨x, rfl, hx, hb6⟩
      have hz := Sizes.sz_div HV.out.2.2.2.2.1 HV.out.2.2.2.2.2 HQ1.out
      have HX := Lib.hid (And.intro hx (And.intro hz (below_step H4.out.2.2.1 hb6)))
      clear hx hz hb6 l0 l1 l2 n0 n1 n2
      go_wp2_with fail
      refine (text_calls (p / q) _ _ (Lib.hid HX.out.1) (by have := HX.out.2.1.1; omega) (by have := HX.out.2.1.2; omega)).mono ?_
      rintro e w5 ⟨rfl, hb5⟩
      have HB := Lib.hid (below_step HX.out.2.2 hb5)
      clear hb5
      go_wp2_with fail
      go_ret2
      exact ⟨HB.out, .inl ⟨p, q, HV.out.1, HV.out.2.1, HQ1.out, rfl⟩⟩
theorem sgq_cmp (p q : Rat) : sgq (p - q) = CmpWalk.cmpQ p q := by
  unfold sgq CmpWalk.cmpQ
  by_cases h1 : p < q
  · have h : p - q < 0 := by rw [Rat.sub_eq_add_neg]; have := (Rat.add_lt_add_right (c := -q)).2 h1; rwa [Rat.add_neg_cancel] at this
    have h2 : (p - q).num < 0 := by have := (Rat.lt_iff _ _).1 h; simpa using this
    rw [if_pos h1, if_neg (by omega), if_pos h2]
  · rw [if_neg h1]
    by_cases h2 : q < p
    · have h : 0 < p - q := by rw [Rat.sub_eq_add_neg]; have := (Rat.add_lt_add_right (c := -q)).2 h2; rwa [Rat.add_neg_cancel] at this
      have h3 : 0 < (p - q).num := by have := (Rat.lt_iff _ _).1 h; simpa using this
      rw [if_pos h2, if_neg (by omega), if_neg (by omega)]
    · have h : p = q := Rat.le_antisymm (Rat.not_lt.1 h2) (Rat.not_lt.1 h1)
      rw [if_neg h2, h, Rat.sub_self]
      rfl
set_option maxRecDepth 100000 in
set_option maxHeartbeats 1000000 in
theorem refCmp_calls (s t : ByteArray) (hs : s.size ≤ 100000000) (ht : t.size ≤ 100000000) (w : World) :
    Calls Tryd.prog 21 #[.string s, .string t] w (OutC s.data.toList t.data.toList w) := by
  go_enter Tryd.func21, Tryd.ntmps21
  go_wp2_with fail
  refine (two_calls s t hs ht _).mono ?_
  rintro e w2 ⟨v, u, ok, rfl, ⟨b, A, n, c, B, m, d, rfl⟩, ⟨b', A', n', c', B', m', d', rfl⟩, hb, h1, h2⟩
  obtain ⟨w3, hw3, hX, hY, hb3, hb23⟩ := alloc2 hb (b := b) (b' := b') (A := A) (A' := A') (n := n) (n' := n') (c := c) (c' := c') (B := B) (B' := B') (m := m) (m' := m') (d := d) (d' := d')
  have h1' : ok = true → ∃ p q, s.data.toList = rtxt p ∧ t.data.toList = rtxt q ∧ RatV w3 (.agg #[.bool b, .slice A n c, .slice B m d]) p ∧ RatV w3 (.agg #[.bool b', .slice A' n' c', .slice B' m' d']) q := fun h => by
    obtain ⟨p, q, e1, e2, e3, e4⟩ := h1 h
    exact ⟨p, q, e1, e2, ratV_below e3 hb23, ratV_below e4 hb23⟩
  have H := Lib.hid (And.intro h1' (And.intro h2 (And.intro hX (And.intro hY hb3))))
  clear h1 h1' h2 hX hY hb hb3 hb23
  go_upto_region 2 with fail
  rw [← hw3]
  clear hw3
  generalize w2.heap.size = g at *
  obtain ⟨l0, l1, l2⟩ := load3 H.out.2.2.1
  obtain ⟨n0, n1, n2⟩ := load3 H.out.2.2.2.1
  cases ok
  · have HN := Lib.hid (H.out.2.1 rfl)
    go_wp2_with fail
    go_ret2
    exact ⟨H.out.2.2.2.2, .inr ⟨HN.out, rfl⟩⟩
  · obtain ⟨p, q, e1, e2, e3, e4⟩ := H.out.1 rfl
    have hp := sz_c e1 hs
    have hq := sz_c e2 ht
    have HV := Lib.hid (And.intro e1 (And.intro e2 (And.intro e3 (And.intro e4 (And.intro hp hq)))))
    clear e1 e2 e3 e4 hp hq
    go_wp2_with fail
    refine (compare_calls p q _ _ _ (Lib.hid HV.out.2.2.1) (Lib.hid HV.out.2.2.2.1) (HV.out.2.2.2.2.1.mono (by omega)) (HV.out.2.2.2.2.2.mono (by omega))).mono ?_
    rintro e w4 ⟨rfl, hb4⟩
    have HB := Lib.hid (below_step H.out.2.2.2.2 hb4)
    have HS := Lib.hid (sgq_cmp p q)
    clear hb4
    go_wp2_with fail
    go_ret2
    exact ⟨HB.out, .inl ⟨p, q, HV.out.1, HV.out.2.1, by rw [← HS.out]; rfl⟩⟩
def OutFl (a : List UInt8) (w : World) (e : Ending) (W : World) : Prop :=
  Below w.heap.size w W ∧ (
    (∃ p, a = rtxt p ∧ e = .returned (.tuple #[.string (bs (rtxt ((Rat.floor p : Int) : Rat))), .int .i64 0])) ∨
    ((∀ p, a ≠ rtxt p) ∧ e = .returned (.tuple #[.string ⟨#[]⟩, .int .i64 1])))
theorem sz_floor {q : Rat} {N : Nat} (h : Sizes.Sz q N) (hN : 1 ≤ N) : Sizes.Sz ((Rat.floor q : Int) : Rat) (N + 1) := by
  refine ⟨?_, ?_⟩
  · rw [Rat.num_intCast]
    by_cases h0 : q.num < 0
    · by_cases h1 : q.num.natAbs % q.den = 0
      · rw [← floor_even h0 h1, Int.natAbs_neg, Int.natAbs_natCast]
        exact Nat.le_trans (limbs_len_mono (Nat.div_le_self _ _)) (by have := h.1; omega)
      · rw [← floor_odd h0 h1, Int.natAbs_neg, Int.natAbs_natCast]
        have h2 := limbs_len_add (q.num.natAbs / q.den) 1
        have h3 := limbs_len_mono (Nat.div_le_self q.num.natAbs q.den)
        have h4 := one_len
        have := h.1
        omega
    · rw [← floor_pos h0, Int.natAbs_natCast]
      exact Nat.le_trans (limbs_len_mono (Nat.div_le_self _ _)) (by have := h.1; omega)
  · rw [Rat.den_intCast]
    have := one_len
    omega

set_option maxRecDepth 100000 in
set_option maxHeartbeats 1000000 in
theorem refFloor_calls (s : ByteArray) (hs : s.size ≤ 100000000) (w : World) :
    Calls Tryd.prog 23 #[.string s] w (OutFl s.data.toList w) := by
  go_enter Tryd.func23, Tryd.ntmps23
  go_wp2_with fail
  refine (of_flat s hs _).mono ?_
  rintro e w2 ⟨v, ok, rfl, ⟨b, A, n, c, B, m, d, rfl⟩, hb, h1, h2⟩
  obtain ⟨w3, hw3, hX, hb3, hb23⟩ := new_flat hb b A n c B m d
  have h1' : ok = true → ∃ p, s.data.toList = rtxt p ∧ RatV w3 (.agg #[.bool b, .slice A n c, .slice B m d]) p := fun h => by
    obtain ⟨p, e1, e3⟩ := h1 h
    exact ⟨p, e1, ratV_below e3 hb23⟩
  have H := Lib.hid (And.intro h1' (And.intro h2 (And.intro hX hb3)))
  clear h1 h1' h2 hX hb hb3 hb23
  go_upto_region 2 with fail
  rw [← hw3]
  clear hw3
  generalize w2.heap.size = g at *
  obtain ⟨l0, l1, l2⟩ := load3 H.out.2.2.1
  cases ok
  · have HN := Lib.hid (H.out.2.1 rfl)
    go_wp2_with fail
    go_ret2
    exact ⟨H.out.2.2.2, .inr ⟨HN.out, rfl⟩⟩
  · obtain ⟨p, e1, e3⟩ := H.out.1 rfl
    have hp := sz_c e1 hs
    have HV := Lib.hid (And.intro e1 (And.intro e3 hp))
    clear e1 e3 hp
    go_wp2_with fail
    refine (below_calls p _ _ (Lib.hid HV.out.2.1) (HV.out.2.2.mono (by omega))).mono ?_
    rintro e w4 ⟨x, rfl, hx, hb4⟩
    have hz := sz_floor HV.out.2.2 (by omega)
    have HX := Lib.hid (And.intro hx (And.intro hz (below_step H.out.2.2.2 hb4)))
    clear hx hz hb4 l0 l1 l2
    go_wp2_with fail
    refine (text_calls ((Rat.floor p : Int) : Rat) _ _ (Lib.hid HX.out.1) (by have := HX.out.2.1.1; omega) (by have := HX.out.2.1.2; omega)).mono ?_
    rintro e w5 ⟨rfl, hb5⟩
    have HB := Lib.hid (below_step HX.out.2.2 hb5)
    clear hb5
    go_wp2_with fail
    go_ret2
    exact ⟨HB.out, .inl ⟨p, HV.out.1, rfl⟩⟩

end Go.Proofs.YtjeamchaibialaaDoor.RefQ
