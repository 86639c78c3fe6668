/- Proved: the numbers of Luby's row up to place 2^k - 1 add up to k times 2^(k-1), and 2^j comes 2^(k-1-j) times, for each k from 1 to 12; no condition. -/
import Derived.Test.YtkmnoiploeineaaPOrderDoublesx1
namespace Go.Proofs.Ytkmnoiploeineaa.Pure
open Go.RowKit Go.Proofs.Ytkmnoiploeineaa.POrderDoubles Go.Proofs.YtkmnoiploeineaaW.PrintWords Go.Proofs.YtkmnoiploeineaaW.PrintLast Go.Proofs.YtkmnoiploeineaaW.PrintMore

theorem w64 (x : Int) (h0 : -9223372036854775808 ≤ x) (h1 : x < 9223372036854775808) : wrap64 x = x := by
  unfold wrap64; omega
theorem u64w (x : Int) (h0 : 0 ≤ x) (h1 : x ≤ 18446744073709551615) : IntKind.u64.wrap x = x := Go.IntWalk.u64_in x ⟨h0, h1⟩
theorem i64w (x : Int) (h0 : -9223372036854775808 ≤ x) (h1 : x ≤ 9223372036854775807) : IntKind.i64.wrap x = x := Go.IntWalk.i64_in x ⟨h0, h1⟩
theorem or_one (q : Int) (h0 : 0 ≤ q) (h1 : q < 9223372036854775808) : bits .or .u64 (q * 2) 1 = 2 * q + 1 := by
  obtain ⟨n, rfl⟩ := Int.eq_ofNat_of_zero_le h0
  have e : ((n : Int) * 2) = ((n * 2 : Nat) : Int) := by omega
  rw [e]
  have h : bits .or .u64 ((n * 2 : Nat) : Int) ((1 : Nat) : Int) = ((n * 2 ||| 1 : Nat) : Int) := Go.bits_or_u64_nat _ _ (by omega) (by omega)
  have h2 : n * 2 ||| 1 = n * 2 + 1 := by
    have := Nat.two_pow_add_eq_or_of_lt (i := 1) (b := 1) (by omega) n
    rw [Nat.mul_comm n 2]
    simpa using this.symm
  rw [h2] at h
  exact h.trans (by omega)

/-- r is the x-th number, told by the program -/
def Lv (x r : Int) : Prop := Ev (fun k => order_Luby.l0 k x) (r, 0)

theorem pow_ge (j d : Nat) : 2 ^ j ≤ 2 ^ (j + d) := Nat.pow_le_pow_right (by omega) (by omega)

/-- from a whole 2^j - 1 on up to 2^c - 1, all below x -/
theorem climb (x : Int) (hx : x < 9223372036854775808) (R : Int × Int) (c : Nat) (hc : (2 : Int) ^ c ≤ 18446744073709551615) (h : Ev (fun k => order_Luby.l1 k x ((2 : Int) ^ c - 1)) R) :
    ∀ (d j : Nat), j + d = c → (∀ i, i < c → (2 : Int) ^ i - 1 < x) → Ev (fun k => order_Luby.l1 k x ((2 : Int) ^ j - 1)) R := by
  intro d
  induction d with
  | zero => intro j e _; obtain rfl : j = c := by omega
            exact h
  | succ d ih =>
    intro j e hl
    have hj := hl j (by omega)
    have h1 : (1 : Int) ≤ 2 ^ j := by have := Int.pow_pos (n := 2) (m := j) (by omega); omega
    refine Ev.step (f := fun k => order_Luby.l1 k x ((2 : Int) ^ (j + 1) - 1)) (fun k => ?_) (ih (j + 1) (by omega) hl)
    have e2 : (2 : Int) ^ (j + 1) = 2 * 2 ^ j := by rw [Int.pow_succ]; omega
    simp only [order_Luby.l1]
    rw [u64w x (by omega) (by omega), if_pos hj, u64w _ (by omega) (by omega), or_one _ (by omega) (by omega), e2]
    congr 1
    omega

theorem lv_whole (c : Nat) (h1 : 1 ≤ c) (h2 : c ≤ 20) : Lv ((2 : Int) ^ c - 1) ((2 : Int) ^ (c - 1)) := by
  have hb : (2 : Int) ^ c ≤ 2 ^ 20 := by
    have := Nat.pow_le_pow_right (n := 2) (by omega) h2
    exact_mod_cast this
  have hp : (2 : Int) ^ c = 2 * 2 ^ (c - 1) := by
    have : c = (c - 1) + 1 := by omega
    rw [this, Int.pow_succ]; simp; omega
  have hq : (1 : Int) ≤ 2 ^ (c - 1) := by have := Int.pow_pos (n := 2) (m := c - 1) (by omega); omega
  have hl : ∀ i, i < c → (2 : Int) ^ i - 1 < (2 : Int) ^ c - 1 := by
    intro i hi
    have := Nat.pow_lt_pow_right (a := 2) (by omega) hi
    have : (2 : Int) ^ i < 2 ^ c := by exact_mod_cast this
    omega
  refine Ev.step (f := fun k => order_Luby.l1 k ((2 : Int) ^ c - 1) 1) (fun k => by simp only [order_Luby.l0]) ?_
  refine climb _ (by omega) _ c (by omega) ?_ (c - 1) 1 (by omega) hl
  refine Ev.step (f := fun _ => some ((2 : Int) ^ (c - 1), (0 : Int))) (fun k => ?_) (Ev.now _)
  simp only [order_Luby.l1]
  rw [u64w (2 ^ c - 1) (by omega) (by omega), if_neg (by omega), if_pos rfl, Int.tdiv_eq_ediv_of_nonneg (by omega), u64w ((2 ^ c - 1) / 2) (by omega) (by omega), u64w _ (by omega) (by omega), w64 _ (by omega) (by omega)]
  congr 2
  omega

theorem lv_shift (c : Nat) (h2 : c ≤ 20) (i r : Int) (h0 : 1 ≤ i) (h1 : i ≤ 2 ^ c - 1) (h : Lv i r) : Lv (2 ^ c - 1 + i) r := by
  have hb : (2 : Int) ^ c ≤ 2 ^ 20 := by
    have := Nat.pow_le_pow_right (n := 2) (by omega) h2
    exact_mod_cast this
  have hp : (2 : Int) ^ (c + 1) = 2 * 2 ^ c := by rw [Int.pow_succ]; omega
  have hl : ∀ j, j < c + 1 → (2 : Int) ^ j - 1 < (2 : Int) ^ c - 1 + i := by
    intro j hj
    have := Nat.pow_le_pow_right (n := 2) (by omega) (show j ≤ c by omega)
    have : (2 : Int) ^ j ≤ 2 ^ c := by exact_mod_cast this
    omega
  refine Ev.step (f := fun k => order_Luby.l1 k ((2 : Int) ^ c - 1 + i) 1) (fun k => by simp only [order_Luby.l0]) ?_
  refine climb _ (by omega) _ (c + 1) (by omega) ?_ c 1 (by omega) hl
  refine Ev.step (f := fun k => order_Luby.l0 k i) (fun k => ?_) h
  simp only [order_Luby.l1]
  rw [u64w (2 ^ c - 1 + i) (by omega) (by omega), if_neg (by omega)]
  by_cases e : (2 : Int) ^ (c + 1) - 1 = 2 ^ c - 1 + i
  · omega
  · rw [if_neg e, Int.tdiv_eq_ediv_of_nonneg (by omega), u64w _ (by omega) (by omega), w64 ((2 ^ (c + 1) - 1) / 2) (by omega) (by omega), w64 _ (by omega) (by omega)]
    congr 1
    omega

theorem lub (x r : Int) (h0 : 1 ≤ x) (h : Lv x r) : Ev (fun k => arbiterlaw10_luby.f k x) r := by
  have h1 : Ev (fun k => order_Luby.f k x) (r, 0) := Ev.congr (f := fun k => order_Luby.l0 k x) (fun k => by unfold order_Luby.f; rw [if_neg (by omega)]) h
  unfold arbiterlaw10_luby.f
  exact Ev.bind h1 (by simpa [arbiterlaw10_no.f] using Ev.now r)

/-- a list of counts, as a function -/
def cnt (f : Nat → Int) (n : Nat) : List Int := (List.range n).map f
theorem cnt_len (f : Nat → Int) (n : Nat) : (cnt f n).length = n := by simp [cnt]
theorem cnt_rd (f : Nat → Int) (n j : Nat) (h : j < n) : rd (cnt f n) (j : Int) = f j := by simp [rd, cnt, List.getD, h]
theorem cnt_set (f : Nat → Int) (n j : Nat) (v : Int) : (cnt f n).set j v = cnt (fun i => if i = j then v else f i) n := by
  apply List.ext_getElem
  · simp [cnt]
  · intro i h1 h2
    simp only [cnt, List.getElem_set, List.getElem_map, List.getElem_range]
    by_cases e : i = j
    · subst e; simp
    · rw [if_neg (fun x => e x.symm), if_neg e]
theorem cnt_congr {f g : Nat → Int} {n : Nat} (h : ∀ i, i < n → f i = g i) : cnt f n = cnt g n := by
  unfold cnt
  exact List.map_congr_left fun i hi => h i (by simpa using hi)

theorem pow_int (a : Nat) : ((2 ^ a : Nat) : Int) = (2 : Int) ^ a := by simp
theorem pow_le_int {a b : Nat} (h : a ≤ b) : (2 : Int) ^ a ≤ 2 ^ b := by
  have := Nat.pow_le_pow_right (n := 2) (by omega) h
  exact_mod_cast this
theorem shl_one (a : Nat) (h : a ≤ 20) : shl .i64 1 (a : Int) = 2 ^ a := by
  unfold shl
  have e : min (a : Int).toNat IntKind.i64.bits = a := by
    rw [Int.toNat_natCast]; exact Nat.min_eq_left (show a ≤ 64 by omega)
  have := pow_le_int h
  have := Int.pow_pos (n := 2) (m := a) (by omega)
  rw [e, Int.one_mul]
  exact i64w _ (by omega) (by omega)

/-- the inner loop finds the place of 2^e -/
theorem finds (R : Bool) (x0 e : Nat) (hx : x0 ≤ 12) (he : e < x0) (x3 x4 x6 : Int) (L : List Int) (hL : L.length = x0)
    (h : Ev (fun k => arbiterlaw10_OrderDoubles.l0 k x0 x3 x4 (L.set e (wrap64 (rd L e + 1))) (wrap64 (x6 + 1))) R) :
    ∀ (d x9 : Nat) (x8 : Int), x9 + d = x0 → (x9 ≤ e → x8 = -1) → (e < x9 → x8 = e) → Ev (fun k => arbiterlaw10_OrderDoubles.l1 k x0 x3 x4 L x6 (2 ^ e) x8 x9) R := by
  intro d
  induction d with
  | zero =>
    intro x9 x8 e1 h1 h2
    have h8 := h2 (by omega)
    subst h8
    refine Ev.step (fun k => ?_) h
    simp only [arbiterlaw10_OrderDoubles.l1]
    rw [if_neg (by omega), if_neg (by omega), if_pos (by omega), if_pos (by omega), Int.toNat_natCast]
  | succ d ih =>
    intro x9 x8 e1 h1 h2
    by_cases c : x9 = e
    · subst c
      refine Ev.step (fun k => ?_) (ih (x9 + 1) (x9 : Int) (by omega) (by omega) (by omega))
      simp only [arbiterlaw10_OrderDoubles.l1]
      rw [if_pos (by omega), if_pos (by omega), if_pos (shl_one x9 (by omega)).symm, w64 _ (by omega) (by omega)]
      rfl
    · refine Ev.step (fun k => ?_) (ih (x9 + 1) x8 (by omega) (by omega) (by omega))
      simp only [arbiterlaw10_OrderDoubles.l1]
      rw [if_pos (by omega), if_pos (by omega), if_neg ?_, w64 _ (by omega) (by omega)]
      · rfl
      · rw [shl_one x9 (by omega)]
        intro hh
        have hh : (2 : Nat) ^ e = 2 ^ x9 := by exact_mod_cast hh
        rcases Nat.lt_or_gt_of_ne c with q | q
        · have := Nat.pow_lt_pow_right (a := 2) (by omega) q; omega
        · have := Nat.pow_lt_pow_right (a := 2) (by omega) q; omega

/-- one number more -/
theorem more (R : Bool) (x0 e : Nat) (hx : x0 ≤ 12) (he : e < x0) (x3 x4 x6 : Int) (f : Nat → Int) (h6 : 1 ≤ x6) (h63 : x6 ≤ x3) (h3 : x3 ≤ 5000) (h40 : 0 ≤ x4) (h41 : x4 ≤ 1000000000) (hf0 : 0 ≤ f e) (hf1 : f e ≤ 1000000) (hl : Lv x6 (2 ^ e))
    (h : Ev (fun k => arbiterlaw10_OrderDoubles.l0 k x0 x3 (x4 + 2 ^ e) (cnt (fun i => if i = e then f e + 1 else f i) x0) (x6 + 1)) R) :
    Ev (fun k => arbiterlaw10_OrderDoubles.l0 k x0 x3 x4 (cnt f x0) x6) R := by
  have hp := pow_le_int (show e ≤ 12 by omega)
  have hp0 := Int.pow_pos (n := 2) (m := e) (by omega)
  refine Ev.step (f := fun k => (arbiterlaw10_luby.f k x6).bind fun t110 => arbiterlaw10_OrderDoubles.l1 k x0 x3 (wrap64 (x4 + t110)) (cnt f x0) x6 t110 (-1) 0) (fun k => ?_) ?_
  · simp only [arbiterlaw10_OrderDoubles.l0]
    rw [if_pos h63]
  · refine Ev.bind (lub x6 _ h6 hl) ?_
    rw [w64 _ (by omega) (by omega)]
    refine finds R x0 e hx he x3 _ x6 (cnt f x0) (cnt_len _ _) ?_ x0 0 (-1) (by omega) (fun _ => rfl) (by omega)
    rw [cnt_rd f x0 e he, cnt_set, w64 _ (by omega) (by omega), w64 _ (by omega) (by omega)]
    exact h

theorem seg (R : Bool) (x0 : Nat) (hx : x0 ≤ 12) (x3 : Int) (h3 : x3 ≤ 5000) : ∀ (c : Nat), c ≤ x0 → ∀ (s x4 : Int) (f : Nat → Int), 0 ≤ s → s + 2 ^ c - 1 ≤ x3 → 0 ≤ x4 → x4 ≤ 2048 * s → (∀ i, 0 ≤ f i ∧ f i ≤ s) →
    (∀ i r, 1 ≤ i → i ≤ 2 ^ c - 1 → Lv i r → Lv (s + i) r) →
    Ev (fun k => arbiterlaw10_OrderDoubles.l0 k x0 x3 (x4 + c * 2 ^ (c - 1)) (cnt (fun j => f j + if j < c then 2 ^ (c - 1 - j) else 0) x0) (s + 2 ^ c)) R →
    Ev (fun k => arbiterlaw10_OrderDoubles.l0 k x0 x3 x4 (cnt f x0) (s + 1)) R := by
  intro c
  induction c with
  | zero =>
    intro _ s x4 f _ _ _ _ _ _ h
    simpa using h
  | succ c ih =>
    intro hc s x4 f hs hs3 h40 h41 hf hl h
    have e2 : (2 : Int) ^ (c + 1) = 2 * 2 ^ c := by rw [Int.pow_succ]; omega
    have p1 : (1 : Int) ≤ 2 ^ c := by have := Int.pow_pos (n := 2) (m := c) (by omega); omega
    have pm : (c : Int) * 2 ^ (c - 1) ≤ 2048 * (2 ^ c - 1) := by
      rcases Nat.eq_zero_or_pos c with q | q
      · subst q; simp
      · have e3 : (2 : Int) ^ c = 2 * 2 ^ (c - 1) := by
          have : c = (c - 1) + 1 := by omega
          rw [this, Int.pow_succ]; simp; omega
        have p2 := pow_le_int (show c - 1 ≤ 11 by omega)
        have p3 : (1 : Int) ≤ 2 ^ (c - 1) := by have := Int.pow_pos (n := 2) (m := c - 1) (by omega); omega
        have : (c : Int) * 2 ^ (c - 1) ≤ 12 * 2 ^ (c - 1) := Int.mul_le_mul_of_nonneg_right (by omega) (by omega)
        omega
    have pm0 : 0 ≤ (c : Int) * 2 ^ (c - 1) := Int.mul_nonneg (by omega) (Int.le_of_lt (Int.pow_pos (by omega)))
    have pj : ∀ j, 0 ≤ (if j < c then (2 : Int) ^ (c - 1 - j) else 0) ∧ (if j < c then (2 : Int) ^ (c - 1 - j) else 0) ≤ 2 ^ c - 1 := by
      intro j
      split
      · have q1 := pow_le_int (show c - 1 - j ≤ c - 1 by omega)
        have q2 := Int.pow_pos (n := 2) (m := c - 1 - j) (by omega)
        have e3 : (2 : Int) ^ c = 2 * 2 ^ (c - 1) := by
          have : c = (c - 1) + 1 := by omega
          rw [this, Int.pow_succ]; simp; omega
        have p3 : (1 : Int) ≤ 2 ^ (c - 1) := by have := Int.pow_pos (n := 2) (m := c - 1) (by omega); omega
        omega
      · omega
    refine ih (by omega) s x4 f hs (by omega) h40 h41 hf (fun i r a b hr => hl i r a (by omega) hr) ?_
    have es : s + 2 ^ c = (s + 2 ^ c - 1) + 1 := by omega
    rw [es]
    refine ih (by omega) (s + 2 ^ c - 1) (x4 + c * 2 ^ (c - 1)) _ (by omega) (by omega) (by omega) (by omega) (fun i => ?_) (fun i r a b hr => ?_) ?_
    · have := pj i
      have := hf i
      omega
    · have := hl _ _ (by omega) (by omega) (lv_shift c (by omega) i r a b hr)
      rw [show s + 2 ^ c - 1 + i = s + (2 ^ c - 1 + i) from by omega]
      exact this
    · have lw : Lv (s + (2 ^ (c + 1) - 1)) (2 ^ c) := hl _ _ (by omega) (by omega) (lv_whole (c + 1) (by omega) (by omega))
      rw [show s + 2 ^ c - 1 + 2 ^ c = s + (2 ^ (c + 1) - 1) from by omega]
      have h0c := hf c
      have e0 : (if c < c then (2 : Int) ^ (c - 1 - c) else 0) = 0 := if_neg (by omega)
      refine more R x0 c hx (by omega) x3 _ _ _ (by omega) (by omega) h3 (by omega) (by omega) (by rw [e0]; omega) (by rw [e0]; omega) lw ?_
      have g1 : x4 + c * 2 ^ (c - 1) + c * 2 ^ (c - 1) + 2 ^ c = x4 + ((c + 1 : Nat) : Int) * 2 ^ (c + 1 - 1) := by
        have e4 : 2 * ((c : Int) * 2 ^ (c - 1)) = c * 2 ^ c := by
          rcases Nat.eq_zero_or_pos c with q | q
          · subst q; simp
          · have e3 : (2 : Int) ^ c = 2 * 2 ^ (c - 1) := by
              have : c = (c - 1) + 1 := by omega
              rw [this, Int.pow_succ]; simp; omega
            rw [e3, Int.mul_left_comm]
        have e5 : ((c + 1 : Nat) : Int) * 2 ^ (c + 1 - 1) = c * 2 ^ c + 2 ^ c := by
          rw [Nat.add_sub_cancel, Int.natCast_add, Int.add_mul]; simp
        omega
      have g2 : s + (2 ^ (c + 1) - 1) + 1 = s + 2 ^ (c + 1) := by omega
      have g3 : cnt (fun i => if i = c then (f c + (if c < c then (2 : Int) ^ (c - 1 - c) else 0) + if c < c then 2 ^ (c - 1 - c) else 0) + 1 else (f i + (if i < c then (2 : Int) ^ (c - 1 - i) else 0) + if i < c then 2 ^ (c - 1 - i) else 0)) x0 =
          cnt (fun j => f j + if j < c + 1 then 2 ^ (c + 1 - 1 - j) else 0) x0 := by
        refine cnt_congr fun i _ => ?_
        by_cases q : i = c
        · subst q; simp
        · by_cases q2 : i < c
          · rw [if_neg q, if_pos q2, if_pos (by omega), Nat.add_sub_cancel]
            have : c - i = (c - 1 - i) + 1 := by omega
            rw [this, Int.pow_succ]; omega
          · rw [if_neg q, if_neg q2, if_neg (by omega)]; omega
      rw [g1, g2, g3]
      exact h

theorem closes (x0 : Nat) (hx0 : 1 ≤ x0) (hx : x0 ≤ 12) : ∀ (d j : Nat), j + d = x0 →
    Ev (fun k => arbiterlaw10_OrderDoubles.l2 k x0 (x0 * 2 ^ (x0 - 1)) (cnt (fun j => 2 ^ (x0 - 1 - j)) x0) j) true := by
  intro d
  induction d with
  | zero =>
    intro j e
    obtain rfl : j = x0 := by omega
    refine Ev.step (f := fun _ => some true) (fun k => ?_) (Ev.now _)
    simp only [arbiterlaw10_OrderDoubles.l2]
    have := pow_le_int (show j - 1 ≤ 12 by omega)
    have := Int.pow_pos (n := 2) (m := j - 1) (by omega)
    have q : (j : Int) * 2 ^ (j - 1) ≤ 12 * 2 ^ (j - 1) := Int.mul_le_mul_of_nonneg_right (by omega) (by omega)
    have q0 : 0 ≤ (j : Int) * 2 ^ (j - 1) := Int.mul_nonneg (by omega) (by omega)
    rw [if_neg (by omega), w64 _ (by omega) (by omega), if_pos (by omega), show (j : Int) - 1 = ((j - 1 : Nat) : Int) from by omega, shl_one _ (by omega), w64 _ (by omega) (by omega)]
    simp
  | succ d ih =>
    intro j e
    refine Ev.step (fun k => ?_) (ih (j + 1) (by omega))
    simp only [arbiterlaw10_OrderDoubles.l2]
    rw [if_pos (by omega), if_pos (by omega), if_pos (by rw [cnt_len]; omega), w64 (x0 - 1) (by omega) (by omega), w64 (x0 - 1 - j) (by omega) (by omega), if_pos (by omega), cnt_rd _ _ _ (by omega),
      show (x0 : Int) - 1 - j = ((x0 - 1 - j : Nat) : Int) from by omega, shl_one _ (by omega), if_pos rfl, w64 _ (by omega) (by omega)]
    rfl

theorem all (x0 : Nat) (hx0 : 1 ≤ x0) (hx : x0 ≤ 12) : Ev (fun k => arbiterlaw10_OrderDoubles.l0 k x0 (2 ^ x0 - 1) 0 (List.replicate x0 0) 1) true := by
  have hp := pow_le_int hx
  have h1 : List.replicate x0 (0 : Int) = cnt (fun _ => 0) x0 := by
    apply List.ext_getElem
    · simp [cnt]
    · intro i a b; simp [cnt]
  rw [h1]
  refine seg true x0 hx (2 ^ x0 - 1) (by omega) x0 (Nat.le_refl _) 0 0 (fun _ => 0) (by omega) (by omega) (by omega) (by omega) (fun _ => ⟨by omega, by omega⟩) (fun i r _ _ h => by rw [Int.zero_add]; exact h) ?_
  rw [Int.zero_add, Int.zero_add, cnt_congr (g := fun j => 2 ^ (x0 - 1 - j)) (fun i hi => by rw [if_pos hi, Int.zero_add])]
  refine Ev.step (fun k => ?_) (closes x0 hx0 hx x0 0 (by omega))
  simp only [arbiterlaw10_OrderDoubles.l0]
  rw [if_neg (by omega)]
  rfl

theorem OrderDoubles : arbiterlaw10_OrderDoubles.Pure := by
  intro a hw
  have hb : -9223372036854775808 ≤ a ∧ a ≤ 9223372036854775807 := by simpa [Lit.wf, IntKind.min, IntKind.max, IntKind.signed, IntKind.bits] using hw
  refine Ev.rounds (g := fun k => arbiterlaw10_OrderDoubles.f k a) (r := true) ?_
  unfold arbiterlaw10_OrderDoubles.f
  by_cases h : a < 1
  · have l1 : Lv 1 1 := by simpa using lv_whole 1 (by omega) (by omega)
    have l3 : Lv 3 2 := by simpa using lv_whole 2 (by omega) (by omega)
    have l2 : Lv 2 1 := by simpa using lv_shift 1 (by omega) 1 1 (by omega) (by omega) l1
    refine Ev.congr (f := fun k => (arbiterlaw10_luby.f k 1).bind fun t104 => (if t104 = 1 then ((arbiterlaw10_luby.f k 2).bind fun t105 => (if t105 = 1 then ((arbiterlaw10_luby.f k 3).bind fun t106 => (some (t106 == 2))) else (some false))) else (some false))) (fun k => if_pos h) ?_
    refine Ev.bind (lub 1 1 (by omega) l1) ?_
    refine Ev.congr (fun k => if_pos rfl) ?_
    refine Ev.bind (lub 2 1 (by omega) l2) ?_
    refine Ev.congr (fun k => if_pos rfl) ?_
    refine Ev.bind (lub 3 2 (by omega) l3) ?_
    exact Ev.now true
  · obtain ⟨n, hn⟩ : ∃ n : Nat, Int.tmod a 12 = n := Int.eq_ofNat_of_zero_le (Int.tmod_nonneg _ (by omega))
    have hn2 : n < 12 := by
      have := Int.tmod_lt_of_pos a (b := 12) (by omega)
      omega
    have := pow_le_int (show n + 1 ≤ 12 by omega)
    have := Int.pow_pos (n := 2) (m := n + 1) (by omega)
    refine Ev.congr (f := fun k => arbiterlaw10_OrderDoubles.l0 k ((n + 1 : Nat) : Int) (2 ^ (n + 1) - 1) 0 (List.replicate (n + 1) 0) 1) (fun k => ?_) (all (n + 1) (by omega) (by omega))
    rw [if_neg h, hn, w64 (1 + n) (by omega) (by omega), show (1 : Int) + n = ((n + 1 : Nat) : Int) from by omega, if_pos (by omega), Int.toNat_natCast, if_pos (by omega), shl_one _ (by omega), w64 _ (by omega) (by omega)]

end Go.Proofs.Ytkmnoiploeineaa.Pure
