/- Joined: Chain IntOps RegG Inv NegR Bound Step -/
import Derived.Test.YtjeamchaibialaaGreatDoorM3
import Derived.Test.YtjeamchaibialaaGreatDoorM4
import Derived.Deep.RegionHeld3
import Derived.RegionTactic
import Derived.OrdersHeld
set_option linter.unusedVariables false
set_option linter.unusedSimpArgs false
/- The simplest number between two bounds: plain facts. -/
namespace Go.Proofs.YtjeamchaibialaaGreatDoor.Chains

theorem sub_int (q : Rat) (k : Int) : (q - (k : Rat)).num = q.num - k * q.den ∧ (q - (k : Rat)).den = q.den := by
  have h1 : q - (k : Rat) = mkRat (q.num - k * q.den) q.den := by
    rw [Rat.mkRat_eq_div]
    have h2 : q = (q.num : Rat) / (q.den : Rat) := by
      have := Rat.mkRat_eq_div q.num q.den
      rw [Rat.mkRat_self] at this
      exact this
    have h3 : (q.den : Rat) ≠ 0 := by
      intro e
      have := q.den_nz
      rw [show (0 : Rat) = ((0 : Nat) : Rat) from rfl, Rat.natCast_inj] at e
      omega
    have h4 : ((q.num - k * q.den : Int) : Rat) = (q.num : Rat) - (k : Rat) * (q.den : Rat) := by
      rw [Rat.intCast_sub, Rat.intCast_mul]; rfl
    rw [h4]
    generalize (q.num : Rat) = n at *
    generalize (q.den : Rat) = d at *
    rw [h2]
    grind
  have hc : Nat.Coprime (q.num - k * q.den).natAbs q.den := by
    have h := q.reduced
    have : Int.gcd (q.num - k * q.den) q.den = Int.gcd q.num q.den := by
      rw [show q.num - k * (q.den : Int) = q.num + (-k) * q.den from by rw [Int.neg_mul]; omega]
      rw [Int.gcd_add_mul_right_left]
    have h1 : Int.gcd q.num q.den = Nat.gcd q.num.natAbs q.den := by unfold Int.gcd; rw [Int.natAbs_natCast]
    have h2 : Int.gcd (q.num - k * q.den) q.den = Nat.gcd (q.num - k * q.den).natAbs q.den := by unfold Int.gcd; rw [Int.natAbs_natCast]
    show Nat.gcd _ _ = 1
    rw [← h2, this, h1]
    exact h
  have h2 := Rat.mk_eq_mkRat (q.num - k * q.den) q.den q.den_nz hc
  rw [h1, ← h2]
  exact ⟨rfl, rfl⟩
theorem num_pos {q : Rat} (h : 0 < q) : 0 < q.num := by
  have := (Rat.lt_iff 0 q).1 h
  simpa using this
theorem pos_of_num {q : Rat} (h : 0 < q.num) : 0 < q := by
  refine (Rat.lt_iff 0 q).2 ?_
  simpa using h
theorem inv_pos {q : Rat} (h : 0 < q) : (1 / q).num = q.den ∧ (1 / q).den = q.num.natAbs ∧ 0 < q.num := by
  have h1 : 0 < q.num := num_pos h
  rw [Rat.div_def, Rat.one_mul, Rat.num_inv, Rat.den_inv, Int.sign_eq_one_of_pos h1, if_neg (by omega), Int.one_mul]
  exact ⟨rfl, rfl, h1⟩
theorem frac_pos {q : Rat} {k : Int} (h : (k : Rat) < q) : (1 / (q - k)).num = q.den ∧ ((1 / (q - k)).den : Int) = q.num - k * q.den ∧ 0 < 1 / (q - k) ∧ 0 < q.num - k * q.den := by
  have h0 : 0 < q - (k : Rat) := by grind
  obtain ⟨h1, h2, h3⟩ := inv_pos h0
  obtain ⟨s1, s2⟩ := sub_int q k
  rw [s1] at h3
  refine ⟨by rw [h1, s2], by rw [h2, s1]; omega, ?_, h3⟩
  rw [Rat.div_def, Rat.one_mul]
  exact Rat.inv_pos.2 h0

def Under (x : Rat) (hi : Option Rat) : Prop := ∀ h, hi = some h → x < h
def turn (lo : Rat) : Option Rat := if lo = (lo.floor : Rat) then none else some (1 / (lo - lo.floor))
inductive Pl : Rat → Option Rat → Rat → Prop
  | last {lo : Rat} {hi : Option Rat} : Under ((lo.floor + 1 : Int) : Rat) hi → Pl lo hi ((lo.floor + 1 : Int) : Rat)
  | more {lo h y : Rat} : lo < h → h ≤ ((lo.floor + 1 : Int) : Rat) → Pl (1 / (h - lo.floor)) (turn lo) y → Pl lo (some h) (lo.floor + 1 / y)

theorem Pl.uniq {lo : Rat} {hi : Option Rat} {x : Rat} (h : Pl lo hi x) : ∀ {x'}, Pl lo hi x' → x = x' := by
  induction h with
  | last hu =>
    intro x' h'
    cases h' with
    | last => rfl
    | more h1 h2 _ => exact absurd (hu _ rfl) (Rat.not_lt.2 h2)
  | more h1 h2 h3 ih =>
    intro x' h'
    cases h' with
    | last hu => exact absurd (hu _ rfl) (Rat.not_lt.2 h2)
    | more _ _ h6 => rw [ih h6]
theorem floor_fits (lo : Rat) : (lo.floor : Rat) ≤ lo ∧ lo < ((lo.floor + 1 : Int) : Rat) := ⟨Rat.floor_le lo, Rat.lt_floor_add_one lo⟩
theorem inv_lt {a b : Rat} (ha : 0 < a) (hab : a < b) : 1 / b < 1 / a := by
  have hb : 0 < b := by grind
  rw [Rat.div_lt_iff hb, show 1 / a * b = b / a from by rw [Rat.div_def, Rat.div_def, Rat.one_mul, Rat.mul_comm], Rat.lt_div_iff ha, Rat.one_mul]
  exact hab
theorem inv_inv (a : Rat) : 1 / (1 / a) = a := by rw [Rat.div_def, Rat.div_def, Rat.one_mul, Rat.one_mul, Rat.inv_inv]
theorem inv_posr {a : Rat} (h : 0 < a) : 0 < 1 / a := by rw [Rat.div_def, Rat.one_mul]; exact Rat.inv_pos.2 h
theorem turn_none {lo : Rat} (h : lo = (lo.floor : Rat)) : turn lo = none := if_pos h
theorem turn_some {lo : Rat} (h : lo ≠ (lo.floor : Rat)) : turn lo = some (1 / (lo - lo.floor)) := if_neg h
theorem left_pos {lo : Rat} (h : lo ≠ (lo.floor : Rat)) : 0 < lo - (lo.floor : Rat) := by
  have hl := (floor_fits lo).1
  generalize (lo.floor : Rat) = f at *
  grind
theorem turn_under {lo c : Rat} (h : lo < c) : Under (1 / (c - lo.floor)) (turn lo) := by
  intro x hx
  by_cases he : lo = (lo.floor : Rat)
  · rw [turn_none he] at hx; cases hx
  · rw [turn_some he] at hx
    injection hx with hx
    subst hx
    have h0 := left_pos he
    refine inv_lt h0 ?_
    generalize (lo.floor : Rat) = f at *
    grind

theorem Pl.some (N : Nat) : ∀ (lo h : Rat), lo < h → lo.den + h.den ≤ N → ∃ x, Pl lo (some h) x := by
  induction N using Nat.strongRecOn with
  | ind N ih =>
    intro lo h hlt hN
    by_cases hu : ((lo.floor + 1 : Int) : Rat) < h
    · exact ⟨_, .last (fun x hx => by injection hx with hx; subst hx; exact hu)⟩
    · have hle := Rat.not_lt.1 hu
      have hf : (lo.floor : Rat) < h := Std.lt_of_le_of_lt (floor_fits lo).1 hlt
      by_cases he : lo = (lo.floor : Rat)
      · refine ⟨_, .more hlt hle (.last (fun x hx => ?_))⟩
        rw [turn_none he] at hx; cases hx
      · have ht := turn_under hlt
        rw [turn_some he] at ht
        obtain ⟨a1, a2, a3, a4⟩ := frac_pos hf
        obtain ⟨b1, b2, b3, b4⟩ := frac_pos (q := lo) (k := lo.floor) (by have := left_pos he; generalize (lo.floor : Rat) = f at *; grind)
        have h1 : (1 / (h - (lo.floor : Rat))).den ≤ h.den := by
          have := (Rat.le_iff _ _).1 hle
          rw [Rat.num_intCast, Rat.den_intCast] at this
          have e : (lo.floor + 1) * (h.den : Int) = lo.floor * h.den + h.den := by rw [Int.add_mul, Int.one_mul]
          omega
        have h2 : (1 / (lo - (lo.floor : Rat))).den < lo.den := by
          have := (Rat.lt_iff _ _).1 (floor_fits lo).2
          rw [Rat.num_intCast, Rat.den_intCast] at this
          have e : (lo.floor + 1) * (lo.den : Int) = lo.floor * lo.den + lo.den := by rw [Int.add_mul, Int.one_mul]
          omega
        obtain ⟨y, hy⟩ := ih _ (by omega) (1 / (h - (lo.floor : Rat))) (1 / (lo - (lo.floor : Rat))) (ht _ rfl) (Nat.le_refl _)
        exact ⟨_, .more hlt hle (by rw [turn_some he]; exact hy)⟩
theorem Pl.ex {lo : Rat} {hi : Option Rat} (h : Under lo hi) : ∃ x, Pl lo hi x := by
  cases hi with
  | none => exact ⟨_, .last (fun x hx => by cases hx)⟩
  | some h' => exact Pl.some _ lo h' (h _ rfl) (Nat.le_refl _)

theorem Pl.best {lo : Rat} {hi : Option Rat} {x : Rat} (h : Pl lo hi x) : 0 ≤ lo → lo < x ∧ Under x hi ∧ ∀ c, lo < c → Under c hi → x.den ≤ c.den ∧ x.num ≤ c.num := by
  induction h with
  | @last lo hi hu =>
    intro h0
    refine ⟨(floor_fits lo).2, hu, fun c hc _ => ?_⟩
    rw [Rat.num_intCast, Rat.den_intCast]
    have hf : 0 ≤ lo.floor := Rat.le_floor_iff.2 h0
    have hfc : (lo.floor : Rat) < c := Std.lt_of_le_of_lt (floor_fits lo).1 hc
    have h1 := (Rat.lt_iff _ _).1 hfc
    rw [Rat.num_intCast, Rat.den_intCast] at h1
    have hd : 1 ≤ c.den := Nat.pos_of_ne_zero c.den_nz
    have h2 : lo.floor * 1 ≤ lo.floor * (c.den : Int) := Int.mul_le_mul_of_nonneg_left (by omega) hf
    exact ⟨hd, by omega⟩
  | @more lo h y hlt hle hp ih =>
    intro h0
    have hf0 : 0 ≤ lo.floor := Rat.le_floor_iff.2 h0
    have hff := (floor_fits lo).1
    have hfh : (lo.floor : Rat) < h := Std.lt_of_le_of_lt hff hlt
    have hh0 : 0 < h - (lo.floor : Rat) := by generalize (lo.floor : Rat) = f at *; grind
    have hlo' : 0 < 1 / (h - (lo.floor : Rat)) := inv_posr hh0
    obtain ⟨y1, y2, y3⟩ := ih (by grind)
    have hy0 : 0 < y := by grind
    have hiy : 0 < 1 / y := inv_posr hy0
    have hxl : 1 / y < h - (lo.floor : Rat) := by
      have := inv_lt hlo' y1
      rwa [inv_inv] at this
    have hxg : lo - (lo.floor : Rat) < 1 / y := by
      by_cases he : lo = (lo.floor : Rat)
      · generalize (lo.floor : Rat) = f at *; grind
      · have := y2 _ (turn_some he)
        have := inv_lt hy0 this
        rwa [inv_inv] at this
    refine ⟨by generalize (lo.floor : Rat) = f at *; grind, fun x hx => by injection hx with hx; subst hx; generalize (lo.floor : Rat) = f at *; grind, fun c hc hcu => ?_⟩
    have hch := hcu _ rfl
    have hfc : (lo.floor : Rat) < c := Std.lt_of_le_of_lt hff hc
    obtain ⟨c1, c2, c3, c4⟩ := frac_pos hfc
    have hcf : 0 < c - (lo.floor : Rat) := by generalize (lo.floor : Rat) = f at *; grind
    obtain ⟨z1, z2⟩ := y3 (1 / (c - (lo.floor : Rat))) (inv_lt hcf (by generalize (lo.floor : Rat) = f at *; grind)) (turn_under hc)
    obtain ⟨x1, x2⟩ := sub_int ((lo.floor : Rat) + 1 / y) lo.floor
    rw [show (lo.floor : Rat) + 1 / y - (lo.floor : Rat) = 1 / y from by generalize (lo.floor : Rat) = f; grind] at x1 x2
    obtain ⟨i1, i2, i3⟩ := inv_pos hy0
    rw [i1] at x1
    rw [i2] at x2
    rw [c1] at z2
    refine ⟨by omega, ?_⟩
    have e1 : lo.floor * (((lo.floor : Rat) + 1 / y).den : Int) = lo.floor * y.num := by rw [← x2]; congr 1; omega
    have e2 : lo.floor * y.num ≤ lo.floor * (c.den : Int) := Int.mul_le_mul_of_nonneg_left z2 hf0
    omega
def hn : Option Rat → Int
  | none => 1
  | some h => h.num
def hd : Option Rat → Nat
  | none => 0
  | some h => h.den
structure Chain (lo0 : Rat) (hi0 : Option Rat) (M : Nat) (lo : Rat) (hi : Option Rat) (n m d e : Nat) : Prop where
  low : 0 ≤ lo
  under : Under lo hi
  val : ∀ y, Pl lo hi y → Pl lo0 hi0 (((n : Rat) * y + m) / ((d : Rat) * y + e))
  one : 1 ≤ d + e
  a1 : (n : Int) * lo.num + m * lo.den ≤ M
  a2 : (d : Int) * lo.num + e * lo.den ≤ M
  a3 : (n : Int) * hn hi + m * hd hi ≤ M
  a4 : (d : Int) * hn hi + e * hd hi ≤ M
  b1 : lo.num ≤ M
  b2 : lo.den ≤ M
  b3 : hn hi ≤ M
  b4 : hd hi ≤ M
theorem Chain.start {lo : Rat} {hi : Option Rat} {M : Nat} (h0 : 0 ≤ lo) (h : Under lo hi) (b1 : lo.num ≤ M) (b2 : lo.den ≤ M) (b3 : hn hi ≤ M) (b4 : hd hi ≤ M) : Chain lo hi M lo hi 1 0 0 1 := by
  refine ⟨h0, h, fun y hy => ?_, by omega, by omega, by omega, by omega, by omega, b1, b2, b3, b4⟩
  have e : ((1 : Nat) : Rat) * y + ((0 : Nat) : Rat) = y ∧ ((0 : Nat) : Rat) * y + ((1 : Nat) : Rat) = 1 := by
    constructor <;> simp [Rat.add_zero, Rat.zero_add]
  rw [e.1, e.2, show y / 1 = y from by grind]
  exact hy
theorem hn_pos {lo : Rat} {hi : Option Rat} (h0 : 0 ≤ lo) (h : Under lo hi) : 1 ≤ hn hi := by
  cases hi with
  | none => exact Int.le_refl _
  | some x =>
    have := num_pos (q := x) (by have := h x rfl; grind)
    exact this
theorem Chain.small {lo0 : Rat} {hi0 : Option Rat} {M : Nat} {lo : Rat} {hi : Option Rat} {n m d e : Nat} (h : Chain lo0 hi0 M lo hi n m d e) : n ≤ M ∧ m ≤ M ∧ d ≤ M ∧ e ≤ M := by
  have h1 := hn_pos h.low h.under
  have h2 : (1 : Int) ≤ lo.den := by have := lo.den_nz; omega
  have h3 : 0 ≤ lo.num := Rat.num_nonneg.2 h.low
  have p1 : (n : Int) * 1 ≤ n * hn hi := Int.mul_le_mul_of_nonneg_left h1 (by omega)
  have p2 : (d : Int) * 1 ≤ d * hn hi := Int.mul_le_mul_of_nonneg_left h1 (by omega)
  have p3 : (m : Int) * 1 ≤ m * lo.den := Int.mul_le_mul_of_nonneg_left h2 (by omega)
  have p4 : (e : Int) * 1 ≤ e * lo.den := Int.mul_le_mul_of_nonneg_left h2 (by omega)
  have q1 : 0 ≤ (n : Int) * lo.num := Int.mul_nonneg (by omega) h3
  have q2 : 0 ≤ (d : Int) * lo.num := Int.mul_nonneg (by omega) h3
  have q3 : 0 ≤ (m : Int) * hd hi := Int.mul_nonneg (by omega) (by omega)
  have q4 : 0 ≤ (e : Int) * hd hi := Int.mul_nonneg (by omega) (by omega)
  have := h.a1; have := h.a2; have := h.a3; have := h.a4
  omega
theorem Chain.step {lo0 : Rat} {hi0 : Option Rat} {M : Nat} {lo h : Rat} {n m d e k : Nat} (hc : Chain lo0 hi0 M lo (some h) n m d e) (hk : (k : Int) = lo.floor) (hle : h ≤ ((lo.floor + 1 : Int) : Rat)) :
    Chain lo0 hi0 M (1 / (h - lo.floor)) (turn lo) (k * n + m) n (k * d + e) d := by
  have hlt := hc.under _ rfl
  have hff := (floor_fits lo).1
  have hfh : (lo.floor : Rat) < h := Std.lt_of_le_of_lt hff hlt
  have hh0 : 0 < h - (lo.floor : Rat) := by generalize (lo.floor : Rat) = f at *; grind
  have hlo' : 0 < 1 / (h - (lo.floor : Rat)) := inv_posr hh0
  obtain ⟨r1, r2, r3, r4⟩ := frac_pos hfh
  have hth : hn (turn lo) = lo.den ∧ (hd (turn lo) : Int) = lo.num - k * lo.den := by
    by_cases he : lo = (lo.floor : Rat)
    · rw [turn_none he]
      have h1 : lo.den = 1 := by rw [he, Rat.den_intCast]
      have h2 : lo.num = lo.floor := by
        have := congrArg Rat.num he
        rwa [Rat.num_intCast] at this
      refine ⟨by rw [h1]; rfl, ?_⟩
      show ((0 : Nat) : Int) = _
      rw [h1, h2, hk]; omega
    · rw [turn_some he]
      obtain ⟨t1, t2, t3, t4⟩ := frac_pos (q := lo) (k := lo.floor) (by have := left_pos he; generalize (lo.floor : Rat) = f at *; grind)
      exact ⟨t1, by rw [hk]; exact t2⟩
  have e1 : h.num - lo.floor * (h.den : Int) ≤ h.den := by
    have := (Rat.le_iff _ _).1 hle
    rw [Rat.num_intCast, Rat.den_intCast] at this
    have e : (lo.floor + 1) * (h.den : Int) = lo.floor * h.den + h.den := by rw [Int.add_mul, Int.one_mul]
    omega
  have e2 : lo.num - k * (lo.den : Int) ≤ lo.den := by
    have := (Rat.lt_iff _ _).1 (floor_fits lo).2
    rw [Rat.num_intCast, Rat.den_intCast, ← hk] at this
    have e : ((k : Int) + 1) * (lo.den : Int) = k * lo.den + lo.den := by rw [Int.add_mul, Int.one_mul]
    omega
  have a1 := hc.a1; have a2 := hc.a2; have a3 := hc.a3; have a4 := hc.a4
  have b1 := hc.b1; have b2 := hc.b2; have b3 := hc.b3; have b4 := hc.b4
  simp only [hn, hd] at a3 a4 b3 b4
  refine ⟨by grind, turn_under hlt, fun y hy => ?_, by have := hc.one; omega, ?_, ?_, ?_, ?_, ?_, ?_, ?_, ?_⟩
  · have h3 := hc.val _ (.more hlt hle hy)
    have hy0 : 0 < y := by
      have := (hy.best (by grind)).1
      grind
    have e : ((n : Rat) * ((lo.floor : Rat) + 1 / y) + m) / ((d : Rat) * ((lo.floor : Rat) + 1 / y) + e) = (((k * n + m : Nat) : Rat) * y + n) / (((k * d + e : Nat) : Rat) * y + d) := by
      have f1 : ((k * n + m : Nat) : Rat) = (lo.floor : Rat) * n + m := by rw [Rat.natCast_add, Rat.natCast_mul, ← hk]; rfl
      have f2 : ((k * d + e : Nat) : Rat) = (lo.floor : Rat) * d + e := by rw [Rat.natCast_add, Rat.natCast_mul, ← hk]; rfl
      rw [f1, f2]
      have hne : y ≠ 0 := by grind
      generalize (lo.floor : Rat) = f at *
      generalize (n : Rat) = n' at *
      generalize (m : Rat) = m' at *
      generalize (d : Rat) = d' at *
      generalize (e : Rat) = e' at *
      have g1 : n' * (f + 1 / y) + m' = ((f * n' + m') * y + n') * (1 / y) := by grind
      have g2 : d' * (f + 1 / y) + e' = ((f * d' + e') * y + d') * (1 / y) := by grind
      rw [g1, g2]
      generalize (f * n' + m') * y + n' = P at *
      generalize (f * d' + e') * y + d' = Q at *
      have hiy : (1 / y) ≠ 0 := by have := inv_posr hy0; grind
      generalize 1 / y = z at *
      by_cases hq : Q = 0
      · rw [hq]; grind
      · grind
    rw [← e]
    exact h3
  · rw [r1, r2, ← hk]; grind
  · rw [r1, r2, ← hk]; grind
  · rw [hth.1, hth.2]; grind
  · rw [hth.1, hth.2]; grind
  · rw [r1]; omega
  · omega
  · rw [hth.1]; omega
  · have := hth.2; omega
theorem Chain.last {lo0 : Rat} {hi0 : Option Rat} {M : Nat} {lo : Rat} {hi : Option Rat} {n m d e k : Nat} (hc : Chain lo0 hi0 M lo hi n m d e) (hk : (k : Int) = lo.floor) (hu : Under ((lo.floor + 1 : Int) : Rat) hi) :
    Pl lo0 hi0 (mkRat (((k + 1) * n + m : Nat) : Int) ((k + 1) * d + e)) ∧ (k + 1) * d + e ≠ 0 ∧ (k + 1) * n + m ≤ 2 * M ∧ (k + 1) * d + e ≤ 2 * M := by
  have hs := hc.small
  have h1 := hc.val _ (.last hu)
  have hone := hc.one
  have hkn : k ≤ lo.num := by
    have h2 : 0 ≤ lo.floor := by omega
    have h3 := (Rat.le_iff _ _).1 (floor_fits lo).1
    rw [Rat.num_intCast, Rat.den_intCast, ← hk] at h3
    have h4 : (1 : Int) ≤ lo.den := by have := lo.den_nz; omega
    have h5 : (k : Int) * 1 ≤ k * lo.den := Int.mul_le_mul_of_nonneg_left h4 (by omega)
    omega
  have h2 : (1 : Int) ≤ lo.den := by have := lo.den_nz; omega
  have p1 : (n : Int) * k ≤ n * lo.num := Int.mul_le_mul_of_nonneg_left hkn (by omega)
  have p2 : (d : Int) * k ≤ d * lo.num := Int.mul_le_mul_of_nonneg_left hkn (by omega)
  have p3 : (m : Int) * 1 ≤ m * lo.den := Int.mul_le_mul_of_nonneg_left h2 (by omega)
  have p4 : (e : Int) * 1 ≤ e * lo.den := Int.mul_le_mul_of_nonneg_left h2 (by omega)
  have a1 := hc.a1; have a2 := hc.a2
  have e1 : (((k + 1) * n + m : Nat) : Int) = n * k + n + m := by push_cast; grind
  have e2 : (((k + 1) * d + e : Nat) : Int) = d * k + d + e := by push_cast; grind
  refine ⟨?_, ?_, by omega, by omega⟩
  · rw [Rat.mkRat_eq_div]
    have f1 : ((((k + 1) * n + m : Nat) : Int) : Rat) = (n : Rat) * ((lo.floor + 1 : Int) : Rat) + m := by
      rw [e1, ← hk]; push_cast; grind
    have f2 : (((k + 1) * d + e : Nat) : Rat) = (d : Rat) * ((lo.floor + 1 : Int) : Rat) + e := by
      have : (((k + 1) * d + e : Nat) : Rat) = ((((k + 1) * d + e : Nat) : Int) : Rat) := rfl
      rw [this, e2, ← hk]; push_cast; grind
    rw [f1, f2]
    exact h1
  · have q2 : 0 ≤ (d : Int) * k := Int.mul_nonneg (by omega) (by omega)
    omega
end Go.Proofs.YtjeamchaibialaaGreatDoor.Chains

/- big's whole numbers and fractions: sums, products, taking over, turning over: the walks. -/
namespace Go.Proofs.YtjeamchaibialaaGreatDoor.IntOps
open Go.RowKit Go.Proofs.YtjeamchaibialaaGreatDoorW.PrintWords Go.Proofs.YtjeamchaibialaaGreatDoorW.PrintLast Go.Proofs.YtjeamchaibialaaGreatDoorW.PrintMore Fns Limbs Pure1 Nats Go.Proofs.YtjeamchaibialaaGreatDoor.Told ReadWalk Texts Rats Parses Heaps Go.Proofs.YtjeamchaibialaaGreatDoor.Ints Go.Proofs.YtjeamchaibialaaGreatDoor.PutWalk Go.Proofs.YtjeamchaibialaaGreatDoor.RatTell Go.Proofs.YtjeamchaibialaaGreatDoor.Ops

def FitI (w : World) (g : Nat) : Prop := ∃ b A n c, Blk w g #[.bool b, .slice A n c]
theorem FitI.lt {w : World} {g : Nat} (h : FitI w g) : g < w.heap.size := by
  obtain ⟨_, _, _, _, h⟩ := h
  exact h.lt
theorem FitI.below {w w' : World} {g : Nat} (h : FitI w g) (hb : Below w.heap.size w w') : FitI w' g := by
  obtain ⟨b, A, n, c, h⟩ := h
  exact ⟨b, A, n, c, h.same (hb.block g h.lt)⟩
theorem FitI.of {w : World} {g : Nat} {z : Int} (h : IntAt w g z) : FitI w g := by
  obtain ⟨A, c, h, _⟩ := h
  exact ⟨_, _, _, _, h⟩
def OutZ (z : Int) (g : Nat) (w : World) (e : Ending) (w' : World) : Prop := e = .returned (.pointer (some ⟨g, 0, none⟩)) ∧ IntAt w' g z ∧ Keeps w w' ∧ w.grownBy w' (some g)
theorem set_fit (neg : Bool) (n : Nat) (g : Nat) (v : Value) (w : World) (hB : FitI w g) (hv : IsU w v n) :
    Calls Tryz.prog 86 #[.pointer (some ⟨g, 0, none⟩), .bool neg, v] w (OutZ (sg neg n) g w) := by
  obtain ⟨b, A, n0, c, hB⟩ := hB
  exact set_calls neg n g b A n0 c v w hB (Lib.hid hv)
set_option maxRecDepth 100000 in
theorem sum_pos (n m : Nat) (hn : (limbs n).length ≤ 90000000) (hm : (limbs m).length ≤ 90000000) (vn vm : Value) (w : World) (hN : IsU w vn n) (hM : IsU w vm m) :
    Calls Tryz.prog 113 #[.bool false, vn, .bool false, vm] w fun e w' => ∃ v, e = .returned (.tuple #[.bool false, v]) ∧ IsU w' v (n + m) ∧ Below w.heap.size w w' := by
  have HN := Lib.hid hN
  have HM := Lib.hid hM
  clear hN hM
  go_enter Tryz.func113, Tryz.ntmps113
  go_wp2_with fail
  refine (PlusWalk.calls n m (by omega) (by omega) _ _ _ HN HM).mono ?_
  rintro e w1 ⟨v, rfl, hv, hb⟩
  have HV := Lib.hid (And.intro hv hb)
  clear hv hb
  go_wp2_with fail
  go_ret2
  exact ⟨v, rfl, HV.out⟩

structure TwoI (w : World) (g n d : Nat) (vn vd : Value) (W : World) : Prop where
  fit : FitI W g
  n : IsU W vn n
  d : IsU W vd d
  keeps : Keeps w W
  grown : w.grownBy W (some g)
section
variable {w : World} {g gx gy n d : Nat} {bx by_ vn vd : Value} {W W' : World}
theorem twoI_below (h : W.cell? ⟨gx, 0, none⟩ = some bx ∧ W.cell? ⟨gy, 0, none⟩ = some by_ ∧ W.cell? ⟨gx, 1, none⟩ = some vn ∧ W.cell? ⟨gy, 1, none⟩ = some vd ∧ TwoI w g n d vn vd W) (hb : Below W.heap.size W W') :
    W'.cell? ⟨gx, 0, none⟩ = some bx ∧ W'.cell? ⟨gy, 0, none⟩ = some by_ ∧ W'.cell? ⟨gx, 1, none⟩ = some vn ∧ W'.cell? ⟨gy, 1, none⟩ = some vd ∧ TwoI w g n d vn vd W' :=
  ⟨cell_below h.1 hb, cell_below h.2.1 hb, cell_below h.2.2.1 hb, cell_below h.2.2.2.1 hb, h.2.2.2.2.fit.below hb, h.2.2.2.2.n.below hb, h.2.2.2.2.d.below hb, h.2.2.2.2.keeps.trans (Keeps.below hb), h.2.2.2.2.grown.trans (grown_below hb)⟩
theorem twoI_put {z : Int} (h : W.cell? ⟨gx, 0, none⟩ = some bx ∧ W.cell? ⟨gy, 0, none⟩ = some by_ ∧ W.cell? ⟨gx, 1, none⟩ = some vn ∧ W.cell? ⟨gy, 1, none⟩ = some vd ∧ TwoI w g n d vn vd W) (h1 : g ≠ gx) (h2 : g ≠ gy) (hr : IntAt W' g z) (hk : Keeps W W') (hg : W.grownBy W' (some g)) :
    W'.cell? ⟨gx, 0, none⟩ = some bx ∧ W'.cell? ⟨gy, 0, none⟩ = some by_ ∧ W'.cell? ⟨gx, 1, none⟩ = some vn ∧ W'.cell? ⟨gy, 1, none⟩ = some vd ∧ TwoI w g n d vn vd W' :=
  ⟨cell_grown h.1 hg h1, cell_grown h.2.1 hg h2, cell_grown h.2.2.1 hg h1, cell_grown h.2.2.2.1 hg h2, FitI.of hr, IsU.keeps h.2.2.2.2.n hk, IsU.keeps h.2.2.2.2.d hk, h.2.2.2.2.keeps.trans hk, h.2.2.2.2.grown.trans hg⟩
theorem twoI_of (h : W.cell? ⟨gx, 0, none⟩ = some bx ∧ W.cell? ⟨gy, 0, none⟩ = some by_ ∧ W.cell? ⟨gx, 1, none⟩ = some vn ∧ W.cell? ⟨gy, 1, none⟩ = some vd ∧ TwoI w g n d vn vd W) : TwoI w g n d vn vd W := h.2.2.2.2
end
set_option maxRecDepth 100000 in
set_option maxHeartbeats 1000000 in
theorem add_calls (n d : Nat) (hln : (limbs n).length ≤ 90000000) (hld : (limbs d).length ≤ 90000000) (g gx gy : Nat) (h1 : g ≠ gx) (h2 : g ≠ gy) (w : World) (hg : FitI w g) (hx : IntAt w gx (n : Int)) (hy : IntAt w gy (d : Int)) :
    Calls Tryz.prog 71 #[.pointer (some ⟨g, 0, none⟩), .pointer (some ⟨gx, 0, none⟩), .pointer (some ⟨gy, 0, none⟩)] w (OutZ ((n + d : Nat) : Int) g w) := by
  obtain ⟨A, c, hX, hn⟩ := hx
  obtain ⟨B, c', hY, hd⟩ := hy
  rw [decide_eq_false (by omega : ¬ (n : Int) < 0), Int.natAbs_natCast] at hX
  rw [decide_eq_false (by omega : ¬ (d : Int) < 0), Int.natAbs_natCast] at hY
  rw [Int.natAbs_natCast] at hn hd
  obtain ⟨k1, hk1⟩ : ∃ k, k = (limbs n).length := ⟨_, rfl⟩
  obtain ⟨k2, hk2⟩ : ∃ k, k = (limbs d).length := ⟨_, rfl⟩
  rw [← hk1] at hX hn
  rw [← hk2] at hY hd
  have hS : w.cell? ⟨gx, 0, none⟩ = some (.bool false) ∧ w.cell? ⟨gy, 0, none⟩ = some (.bool false) ∧ w.cell? ⟨gx, 1, none⟩ = some (.slice A k1 c) ∧ w.cell? ⟨gy, 1, none⟩ = some (.slice B k2 c') ∧ TwoI w g n d (.slice A k1 c) (.slice B k2 c') w :=
    ⟨hX.cell 0, hY.cell 0, hX.cell 1, hY.cell 1, hg, hn, hd, Keeps.refl w, grown_below (Below.refl _ _)⟩
  clear hX hY hn hd hg hk1 hk2
  go_enter Tryz.func71, Tryz.ntmps71
  go_upto_region 1 with fail
  go_region_held3 (fun (W : World) => W.cell? ⟨gx, 0, none⟩ = some (.bool false) ∧ W.cell? ⟨gy, 0, none⟩ = some (.bool false) ∧ W.cell? ⟨gx, 1, none⟩ = some (.slice A k1 c) ∧ W.cell? ⟨gy, 1, none⟩ = some (.slice B k2 c') ∧ TwoI w g n d (.slice A k1 c) (.slice B k2 c') W)
    (first | exact twoI_below hS (Drawn0.below ⟨1, rfl⟩) | exact twoI_below (by assumption) (by assumption) | exact twoI_put (by assumption) h1 h2 (by assumption) (by assumption) (by assumption))
    (first
      | (go_at_call 113; refine (sum_pos n d hln hld _ _ _ (twoI_of (by assumption)).n (twoI_of (by assumption)).d).mono ?_; rintro e w2 ⟨v, rfl, hv, hb⟩)
      | (go_at_call 86; refine (set_fit false (n + d) g _ _ (twoI_of (by assumption)).fit ?_).mono ?_; (first | assumption | exact isU_below (by assumption) (by assumption)); rintro e w2 ⟨rfl, hr, hk, hg⟩))
  all_goals
    go_wp2_with fail
    go_ret
    exact ⟨rfl, by assumption, (twoI_of (by assumption)).keeps, (twoI_of (by assumption)).grown⟩
set_option maxRecDepth 100000 in
set_option maxHeartbeats 1000000 in
theorem mul_calls (n d : Nat) (hln : (limbs n).length ≤ 90000000) (hld : (limbs d).length ≤ 90000000) (g gx gy : Nat) (h1 : g ≠ gx) (h2 : g ≠ gy) (w : World) (hg : FitI w g) (hx : IntAt w gx (n : Int)) (hy : IntAt w gy (d : Int)) :
    Calls Tryz.prog 72 #[.pointer (some ⟨g, 0, none⟩), .pointer (some ⟨gx, 0, none⟩), .pointer (some ⟨gy, 0, none⟩)] w (OutZ ((n * d : Nat) : Int) g w) := by
  obtain ⟨A, c, hX, hn⟩ := hx
  obtain ⟨B, c', hY, hd⟩ := hy
  rw [decide_eq_false (by omega : ¬ (n : Int) < 0), Int.natAbs_natCast] at hX
  rw [decide_eq_false (by omega : ¬ (d : Int) < 0), Int.natAbs_natCast] at hY
  rw [Int.natAbs_natCast] at hn hd
  obtain ⟨k1, hk1⟩ : ∃ k, k = (limbs n).length := ⟨_, rfl⟩
  obtain ⟨k2, hk2⟩ : ∃ k, k = (limbs d).length := ⟨_, rfl⟩
  rw [← hk1] at hX hn
  rw [← hk2] at hY hd
  have hS : w.cell? ⟨gx, 0, none⟩ = some (.bool false) ∧ w.cell? ⟨gy, 0, none⟩ = some (.bool false) ∧ w.cell? ⟨gx, 1, none⟩ = some (.slice A k1 c) ∧ w.cell? ⟨gy, 1, none⟩ = some (.slice B k2 c') ∧ TwoI w g n d (.slice A k1 c) (.slice B k2 c') w :=
    ⟨hX.cell 0, hY.cell 0, hX.cell 1, hY.cell 1, hg, hn, hd, Keeps.refl w, grown_below (Below.refl _ _)⟩
  have l1 : (limbs n).length ≤ 30000000000 := by omega
  have l2 : (limbs d).length ≤ 30000000000 := by omega
  clear hX hY hn hd hg hk1 hk2
  go_enter Tryz.func72, Tryz.ntmps72
  go_upto_region 1 with fail
  go_region_held3 (fun (W : World) => W.cell? ⟨gx, 0, none⟩ = some (.bool false) ∧ W.cell? ⟨gy, 0, none⟩ = some (.bool false) ∧ W.cell? ⟨gx, 1, none⟩ = some (.slice A k1 c) ∧ W.cell? ⟨gy, 1, none⟩ = some (.slice B k2 c') ∧ TwoI w g n d (.slice A k1 c) (.slice B k2 c') W)
    (first | exact twoI_below hS (Drawn0.below ⟨1, rfl⟩) | exact twoI_below (by assumption) (by assumption) | exact twoI_put (by assumption) h1 h2 (by assumption) (by assumption) (by assumption))
    (first
      | (go_at_call 66; refine (times_calls n d l1 l2 _ _ _ (twoI_of (by assumption)).n (twoI_of (by assumption)).d).mono ?_; rintro e w2 ⟨v, rfl, hv, hb⟩)
      | (go_at_call 86; refine (set_fit false (n * d) g _ _ (twoI_of (by assumption)).fit ?_).mono ?_; (first | assumption | exact isU_below (by assumption) (by assumption)); rintro e w2 ⟨rfl, hr, hk, hg⟩))
  all_goals
    go_wp2_with fail
    go_ret
    exact ⟨rfl, by assumption, (twoI_of (by assumption)).keeps, (twoI_of (by assumption)).grown⟩
set_option maxRecDepth 100000 in
set_option maxHeartbeats 1000000 in
theorem setInt_calls (z : Int) (g gx : Nat) (h1 : g ≠ gx) (w : World) (hg : Fit w g) (hx : IntAt w gx z) :
    Calls Tryz.prog 74 #[.pointer (some ⟨g, 0, none⟩), .pointer (some ⟨gx, 0, none⟩)] w (Out (z : Rat) g w) := by
  obtain ⟨b0, A0, n0, c0, B0, m0, d0, hB⟩ := hg
  obtain ⟨A, c, hX, hn⟩ := hx
  obtain ⟨b, hb⟩ : ∃ b, b = decide (z < 0) := ⟨_, rfl⟩
  obtain ⟨k1, hk1⟩ : ∃ k, k = (limbs z.natAbs).length := ⟨_, rfl⟩
  rw [← hb, ← hk1] at hX
  rw [← hk1] at hn
  have x0 : w.cell? ⟨gx, 0, none⟩ = some (.bool b) := hX.cell 0
  have x1 : w.cell? ⟨gx, 1, none⟩ = some (.slice A k1 c) := hX.cell 1
  have c0' : w.cell? ⟨g, 0, none⟩ = some (.bool b0) := hB.cell 0
  have c1' : w.cell? ⟨g, 1, none⟩ = some (.slice A0 n0 c0) := hB.cell 1
  have c2' : w.cell? ⟨g, 2, none⟩ = some (.slice B0 m0 d0) := hB.cell 2
  have f0 := hB.frozen 0
  have f1 := hB.frozen 1
  have f2 := hB.frozen 2
  obtain ⟨s1, s2, s3⟩ := set3 (b' := b) (A' := A) (n' := k1) (c' := c) (B' := none) (m' := 0) (d' := 0) hB
  have HS := Lib.hid (And.intro s1 (And.intro s2 (And.intro s3 (And.intro hn (And.intro hb hk1)))))
  clear hX hn hB hb hk1 s1 s2 s3
  go_enter Tryz.func74, Tryz.ntmps74
  go_wp2_with fail
  go_region
  all_goals
    go_wp2_with fail
    go_ret
    have hd : ∀ W : World, Below W.heap.size W W.drew := fun W => Drawn0.below ⟨1, rfl⟩
    have hr : RatAt (((w.setCell ⟨g, 0, none⟩ (.bool b)).setCell ⟨g, 1, none⟩ (.slice A k1 c)).setCell ⟨g, 2, none⟩ (.slice none 0 0)) g (z : Rat) := by
      refine ⟨A, none, c, 0, ?_, ?_, ?_⟩
      · rw [Rat.num_intCast, Rat.den_intCast, ← HS.out.2.2.2.2.1, ← HS.out.2.2.2.2.2]; exact HS.out.1
      · rw [Rat.num_intCast, ← HS.out.2.2.2.2.2]; exact IsU.keeps HS.out.2.2.2.1 HS.out.2.1
      · rw [Rat.den_intCast]; exact NatV.nil _ _ _ _
    exact ⟨rfl, hr.below (hd _), HS.out.2.1.trans (Keeps.below (hd _)), HS.out.2.2.1.trans (grown_below (hd _))⟩
end Go.Proofs.YtjeamchaibialaaGreatDoor.IntOps

/- A load may be taken first where nobody that could come before it writes its cell: a law on regions, over any program. -/
namespace Go.Proofs.YtjeamchaibialaaGreatDoor.RegG
section
variable {P : Program} {ops : Array Oper} {Q : Exit → Act → World → Prop} {md : Region.Mode} {S : World → Prop} {L : List Nat}

def early (md : Region.Mode) (ops : Array Oper) (L : List Nat) (j : Nat) : Bool :=
  L.any fun i => i != j && (match ops[j]? with | none => true | some o => o.after.all fun e => !(Region.binds md e) || e.on != i)
theorem early_of {i j : Nat} {oj : Oper} (hi : i ∈ L) (hj : ops[j]? = some oj) (hij : i ≠ j) (h : ∀ e ∈ oj.after, Region.binds md e = true → e.on ≠ i) : early md ops L j = true := by
  unfold early
  rw [List.any_eq_true]
  refine ⟨i, hi, ?_⟩
  rw [hj, bne_iff_ne.2 hij, Bool.true_and]
  simp only []
  rw [Array.all_eq_true']
  intro e he
  by_cases hb : Region.binds md e = true
  · rw [bne_iff_ne.2 (h e he hb), Bool.or_true]
  · rw [Bool.not_eq_true] at hb
    rw [hb]; rfl

def wpAnyG (P : Program) (md : Region.Mode) (ops : Array Oper) (Q : Exit → Act → World → Prop) (S : World → Prop) (L : List Nat) : Nat → Array Bool → Act → World → Prop
  | 0, listed, a, w => Region.ready md ops listed = [] ∧ Q .normal a w
  | fuel + 1, listed, a, w =>
    (Region.ready md ops listed = [] → Q .normal a w) ∧
    ∀ i ∈ Region.ready md ops listed, wpOp P ops Q i (fun a' w' => (early md ops L i = true → S w') ∧ wpAnyG P md ops Q S L fuel (listed.setIfInBounds i true) a' w') a w
theorem wpAny_of_G : ∀ (fuel : Nat) (listed : Array Bool) (a : Act) (w : World), wpAnyG P md ops Q S L fuel listed a w → wpAny P md ops Q fuel listed a w
  | 0, _, _, _, h => h
  | fuel + 1, _, _, _, h => ⟨h.1, fun i hi => wpOp_mono (fun a' w' h' => wpAny_of_G fuel _ a' w' h'.2) (h.2 i hi)⟩

theorem wpAnyG_first {i : Nat} {oi : Oper} {v : Value} (hi : ops[i]? = some oi) (hL : i ∈ L) (hsel : ∀ (j : Nat) (o : Oper) cs b, ops[j]? = some o → o.op ≠ .select cs b)
    (hQ : ∀ c a w, Q (.panic c) (a.put oi.dst v) w → Q (.panic c) a w) :
    ∀ (fuel : Nat) (listed : Array Bool) (a : Act) (w : World),
      (∀ j oj, ops[j]? = some oj → j ≠ i → listed.getD j true = false → (∀ e ∈ oj.after, Region.binds md e = true → e.on ≠ i) → oi.apart ops oj = true) →
      i ∈ Region.ready md ops listed → YieldsIf P ops S oi v a → S w →
      wpAnyG P md ops Q S L fuel (listed.setIfInBounds i true) (a.put oi.dst v) w → wpAnyG P md ops Q S L (fuel + 1) listed a w := by
  intro fuel
  induction fuel with
  | zero =>
    intro listed a w _ hr hy hS H
    refine ⟨fun h => (by rw [h] at hr; cases hr), fun j hj => ?_⟩
    by_cases hji : j = i
    · subst hji; exact hy.wpOp hi hS ⟨fun _ => hS, H⟩
    · have := ready_mono hj hji
      rw [H.1] at this
      cases this
  | succ fuel ih =>
    intro listed a w hfree hr hy hS H
    refine ⟨fun h => (by rw [h] at hr; cases hr), fun j hj => ?_⟩
    by_cases hji : j = i
    · subst hji; exact hy.wpOp hi hS ⟨fun _ => hS, H⟩
    · have h1 := H.2 j (ready_mono hj hji)
      obtain ⟨hjun, oj, hoj, hall⟩ := mem_ready.1 hj
      have hnot : ∀ e ∈ oj.after, Region.binds md e = true → e.on ≠ i := fun e he hb heq => by
        have h1 := hall e he hb
        have h0 := (mem_ready.1 hr).1
        rw [heq] at h1
        rcases Nat.lt_or_ge i listed.size with h' | h'
        · simp [h'] at h0 h1; rw [h0] at h1; cases h1
        · simp [Array.getElem?_eq_none h'] at h1
      have hearly := early_of (md := md) hL hoj (Ne.symm hji) hnot
      have h2 := wpOp_putIf hoj (hfree j oj hoj hji hjun hnot) (fun cs b => hsel i oi cs b hi) (fun cs b => hsel j oj cs b hoj) hQ hy h1
      have hfree' : ∀ k ok, ops[k]? = some ok → k ≠ i → (listed.setIfInBounds j true).getD k true = false →
          (∀ e ∈ ok.after, Region.binds md e = true → e.on ≠ i) → oi.apart ops ok = true := fun k ok hk hki hun hno => by
        refine hfree k ok hk hki ?_ hno
        by_cases hjk : j = k
        · subst hjk; exact hjun
        · rw [getD_set_ne true hjk] at hun; exact hun
      refine wpOp_mono (fun a' w' h3 => ⟨h3.2.1, ih (listed.setIfInBounds j true) a' w' hfree' (ready_mono hr (Ne.symm hji)) h3.1 (h3.2.1 hearly) ?_⟩) h2
      rw [Array.setIfInBounds_comm _ _ hji]
      exact h3.2.2

theorem take {i : Nat} {oi : Oper} {v : Value} {fuel : Nat} {listed : Array Bool} {a : Act} {w : World} (hi : ops[i]? = some oi) (hL : L.contains i = true)
    (hs : Region.noSelect ops = true) (hf : Region.free md ops listed i = true) (hr : (Region.ready md ops listed).contains i = true)
    (hQ : ∀ c a w, Q (.panic c) (a.put oi.dst v) w → Q (.panic c) a w) (hy : YieldsIf P ops S oi v a) (hS : S w)
    (h : wpAnyG P md ops Q S L fuel (listed.setIfInBounds i true) (a.put oi.dst v) w) : wpAnyG P md ops Q S L (fuel + 1) listed a w :=
  wpAnyG_first hi (by simpa using hL) (Region.noSelect_spec hs) hQ fuel listed a w (Region.free_spec hi hf) (by simpa using hr) hy hS h
theorem all {rs : List Nat} {fuel : Nat} {listed : Array Bool} {a : Act} {w : World} (hr : Region.ready md ops listed = rs) (hne : rs ≠ [])
    (h : ∀ i ∈ rs, wpOp P ops Q i (fun a' w' => (early md ops L i = true → S w') ∧ wpAnyG P md ops Q S L fuel (listed.setIfInBounds i true) a' w') a w) : wpAnyG P md ops Q S L (fuel + 1) listed a w :=
  ⟨fun h0 => absurd (hr ▸ h0) hne, hr ▸ h⟩
theorem one {i : Nat} {o : Oper} {fuel : Nat} {listed : Array Bool} {a : Act} {w : World} (hr : Region.ready md ops listed = [i]) (ho : ops[i]? = some o)
    (h : ∀ K' : Act → World → Prop, (∀ a w, ((early md ops L i = true → S w) ∧ wpAnyG P md ops Q S L fuel (listed.setIfInBounds i true) a w) → K' a w) → if Region.wanted o (yielded ops a.tmps) = true then Oper.wp P o a w K' Q else K' (a.put o.dst undef) w) :
    wpAnyG P md ops Q S L (fuel + 1) listed a w :=
  all hr (by simp) (fun j hj => by
    rw [List.mem_singleton.1 hj]
    exact wpOp_step ho h)
theorem two {i j : Nat} {oi oj : Oper} {fuel : Nat} {listed : Array Bool} {a : Act} {w : World} (hr : Region.ready md ops listed = [i, j]) (hi : ops[i]? = some oi) (hj : ops[j]? = some oj)
    (h1 : ∀ K' : Act → World → Prop, (∀ a w, ((early md ops L i = true → S w) ∧ wpAnyG P md ops Q S L fuel (listed.setIfInBounds i true) a w) → K' a w) → if Region.wanted oi (yielded ops a.tmps) = true then Oper.wp P oi a w K' Q else K' (a.put oi.dst undef) w)
    (h2 : ∀ K' : Act → World → Prop, (∀ a w, ((early md ops L j = true → S w) ∧ wpAnyG P md ops Q S L fuel (listed.setIfInBounds j true) a w) → K' a w) → if Region.wanted oj (yielded ops a.tmps) = true then Oper.wp P oj a w K' Q else K' (a.put oj.dst undef) w) :
    wpAnyG P md ops Q S L (fuel + 1) listed a w :=
  all hr (by simp) (fun k hk => by
    rcases List.mem_cons.1 hk with rfl | hk
    · exact wpOp_step hi h1
    · rw [List.mem_singleton.1 hk]
      exact wpOp_step hj h2)
theorem done {listed : Array Bool} {a : Act} {w : World} (hr : Region.ready md ops listed = []) (h : Q .normal a w) : ∀ fuel, wpAnyG P md ops Q S L fuel listed a w
  | 0 => ⟨hr, h⟩
  | _ + 1 => ⟨fun _ => h, by rw [hr]; simp⟩
theorem start {id : Nat} {a : Act} {w : World} (S : World → Prop) (L : List Nat) (hm : P.follows .mixedOrders = true)
    (h : wpAnyG P .any ops Q S L ops.size (Array.replicate ops.size false) a w.drew) : (Code.region id ops true).wp P Q a w :=
  wp_region_any hm (wpAny_of_G _ _ _ _ h)
end
end Go.Proofs.YtjeamchaibialaaGreatDoor.RegG

/- big's fractions: turning over, turning the sign: the walks. -/
namespace Go.Proofs.YtjeamchaibialaaGreatDoor.IntOps
open Go.RowKit Go.Proofs.YtjeamchaibialaaGreatDoorW.PrintWords Go.Proofs.YtjeamchaibialaaGreatDoorW.PrintLast Go.Proofs.YtjeamchaibialaaGreatDoorW.PrintMore Fns Limbs Pure1 Nats Go.Proofs.YtjeamchaibialaaGreatDoor.Told ReadWalk Texts Rats Parses Heaps Go.Proofs.YtjeamchaibialaaGreatDoor.Ints Go.Proofs.YtjeamchaibialaaGreatDoor.PutWalk Go.Proofs.YtjeamchaibialaaGreatDoor.RatTell Go.Proofs.YtjeamchaibialaaGreatDoor.Ops

theorem inv_frac {q : Rat} (h : 0 < q.num) : frac false q.den q.num.natAbs = 1 / q := by
  unfold frac
  rw [sg_false, Rat.div_def, Rat.one_mul, Rat.inv_def, show (q.num : Int) = ((q.num.natAbs : Nat) : Int) from by omega, ← Rat.divInt_ofNat]
  rfl
set_option maxRecDepth 100000 in
set_option maxHeartbeats 1000000 in
theorem inv_calls (q : Rat) (hq : 0 < q.num) (hz : Sizes.Sz q 100000000) (g gx : Nat) (w : World) (hg : Fit w g) (hx : RatAt w gx q) :
    Calls Tryz.prog 76 #[.pointer (some ⟨g, 0, none⟩), .pointer (some ⟨gx, 0, none⟩)] w (Out (1 / q) g w) := by
  have hxx := hx
  obtain ⟨A, B, c, d, hB, hn, hd⟩ := hxx
  obtain ⟨v, hv⟩ : ∃ v, v = Value.slice A (limbs q.num.natAbs).length c := ⟨_, rfl⟩
  rw [← hv] at hB hn
  rw [decide_eq_false (by omega : ¬ q.num < 0)] at hB
  have x0 : w.cell? ⟨gx, 0, none⟩ = some (.bool false) := hB.cell 0
  have x1 : w.cell? ⟨gx, 1, none⟩ = some v := hB.cell 1
  have hlt := hB.lt
  have hdr : Below w.heap.size w w.drew := Drawn0.below ⟨1, rfl⟩
  have H := Lib.hid (And.intro (hg.below hdr) (And.intro (hx.below hdr) (And.intro (isU_below hn hdr) hdr)))
  have HZ := Lib.hid (And.intro hz hq)
  have HX := Lib.hid (And.intro (show w.drew.cell? ⟨gx, 1, none⟩ = some v from x1) (show w.drew.cell? ⟨gx, 0, none⟩ = some (.bool false) from x0))
  clear hB hn hd hv hg hx hdr hz hq
  go_enter Tryz.func76, Tryz.ntmps76
  go_wp2_with fail
  go_region_with (first
    | (go_at_call 67; refine (RatTell.low_calls q gx _ H.out.2.1).mono ?_; rintro e w2 ⟨u, rfl, hu, hb⟩; have x1' : w2.cell? ⟨gx, 1, none⟩ = some v := cell_below HX.out.1 hb; have x0' : w2.cell? ⟨gx, 0, none⟩ = some (.bool false) := cell_below HX.out.2 hb; have H2 := Lib.hid (And.intro hu (And.intro (H.out.1.below hb) (And.intro (isU_below H.out.2.2.1 hb) (below_step H.out.2.2.2 hb)))); clear hu hb)
    | (go_at_call 108; refine (put_fit false q.den q.num.natAbs (by have := HZ.out.2; omega) HZ.out.1.2 HZ.out.1.1 g _ _ _ H2.out.2.1 H2.out.1 H2.out.2.2.1).mono ?_; rintro e w3 ⟨rfl, h1, h2, h3⟩; have H3 := Lib.hid (And.intro h1 (And.intro ((Keeps.below H2.out.2.2.2).trans h2) ((grown_below H2.out.2.2.2).trans h3))); clear h1 h2 h3))
  all_goals
    go_wp2_with fail
    go_ret
    exact ⟨rfl, by rw [← inv_frac HZ.out.2]; exact H3.out.1, H3.out.2⟩
end Go.Proofs.YtjeamchaibialaaGreatDoor.IntOps

/- big's fractions: turning the sign: the walks. -/
namespace Go.Proofs.YtjeamchaibialaaGreatDoor.IntOps
open Go.RowKit Go.Proofs.YtjeamchaibialaaGreatDoorW.PrintWords Go.Proofs.YtjeamchaibialaaGreatDoorW.PrintLast Go.Proofs.YtjeamchaibialaaGreatDoorW.PrintMore Fns Limbs Pure1 Nats Go.Proofs.YtjeamchaibialaaGreatDoor.Told ReadWalk Texts Rats Parses Heaps Go.Proofs.YtjeamchaibialaaGreatDoor.Ints Go.Proofs.YtjeamchaibialaaGreatDoor.PutWalk Go.Proofs.YtjeamchaibialaaGreatDoor.RatTell Go.Proofs.YtjeamchaibialaaGreatDoor.Ops


theorem neg_at {w : World} {g : Nat} {q : Rat} {A B : Option Addr} {k1 c k2 d : Nat} (hB : Blk w g #[.bool (decide ((-q).num < 0)), .slice A k1 c, .slice B k2 d]) (h1 : k1 = (limbs q.num.natAbs).length) (h2 : k2 = (under q.den).length) (hn : IsU w (.slice A k1 c) q.num.natAbs) (hd : NatV .u32 w (.slice B k2 d) (under q.den)) : RatAt w g (-q) := by
  refine ⟨A, B, c, d, ?_, ?_, ?_⟩
  · rw [Rat.neg_den]
    rw [show (-q).num.natAbs = q.num.natAbs from by rw [Rat.neg_num, Int.natAbs_neg], ← h1, ← h2]
    exact hB
  · rw [show (-q).num.natAbs = q.num.natAbs from by rw [Rat.neg_num, Int.natAbs_neg], ← h1]; exact hn
  · rw [Rat.neg_den, ← h2]; exact hd
theorem neg_three (q : Rat) : (decide (q.num < 0) = true ∧ decide ((-q).num < 0) = false) ∨ (decide (q.num < 0) = false ∧ (limbs q.num.natAbs).length = 0 ∧ decide ((-q).num < 0) = false) ∨ (decide (q.num < 0) = false ∧ 0 < (limbs q.num.natAbs).length ∧ decide ((-q).num < 0) = true) := by
  rw [Rat.neg_num]
  by_cases h1 : q.num < 0
  · exact .inl ⟨decide_eq_true h1, decide_eq_false (by omega)⟩
  · by_cases h0 : q.num = 0
    · exact .inr (.inl ⟨decide_eq_false h1, by rw [h0, Int.natAbs_zero, limbs_zero]; rfl, decide_eq_false (by omega)⟩)
    · exact .inr (.inr ⟨decide_eq_false h1, limbs_len_pos (by omega), decide_eq_true (by omega)⟩)
set_option maxRecDepth 100000 in
set_option maxHeartbeats 2000000 in
theorem neg_calls (q : Rat) (g gx : Nat) (h1 : g ≠ gx) (w : World) (hg : Fit w g) (hx : RatAt w gx q) :
    Calls Tryz.prog 31 #[.pointer (some ⟨g, 0, none⟩), .pointer (some ⟨gx, 0, none⟩)] w (Out (-q) g w) := by
  obtain ⟨b0, A0, n0, c0, B0, m0, d0, hB⟩ := hg
  obtain ⟨A, B, c, d, hX, hn, hd⟩ := hx
  have h3 := neg_three q
  obtain ⟨b', hb'⟩ : ∃ b, b = decide ((-q).num < 0) := ⟨_, rfl⟩
  obtain ⟨b, hb⟩ : ∃ b, b = decide (q.num < 0) := ⟨_, rfl⟩
  obtain ⟨k1, hk1⟩ : ∃ k, k = (limbs q.num.natAbs).length := ⟨_, rfl⟩
  obtain ⟨k2, hk2⟩ : ∃ k, k = (under q.den).length := ⟨_, rfl⟩
  rw [← hb, ← hk1, ← hk2] at hX
  rw [← hk1] at hn
  rw [← hk2] at hd
  rw [← hb, ← hk1, ← hb'] at h3
  have x0 : w.cell? ⟨gx, 0, none⟩ = some (.bool b) := hX.cell 0
  have x1 : w.cell? ⟨gx, 1, none⟩ = some (.slice A k1 c) := hX.cell 1
  have x2 : w.cell? ⟨gx, 2, none⟩ = some (.slice B k2 d) := hX.cell 2
  have c0' : w.cell? ⟨g, 0, none⟩ = some (.bool b0) := hB.cell 0
  have c1' : w.cell? ⟨g, 1, none⟩ = some (.slice A0 n0 c0) := hB.cell 1
  have c2' : w.cell? ⟨g, 2, none⟩ = some (.slice B0 m0 d0) := hB.cell 2
  have f0 := hB.frozen 0
  have f1 := hB.frozen 1
  have f2 := hB.frozen 2
  obtain ⟨s1, s2, s3⟩ := set3 (b' := b') (A' := A) (n' := k1) (c' := c) (B' := B) (m' := k2) (d' := d) hB
  have hdr : ∀ W : World, Below W.heap.size W W.drew := fun W => Drawn0.below ⟨1, rfl⟩
  have hfin : Out (-q) g w (.returned (.pointer (some ⟨g, 0, none⟩))) (((w.setCell ⟨g, 0, none⟩ (.bool b')).setCell ⟨g, 1, none⟩ (.slice A k1 c)).setCell ⟨g, 2, none⟩ (.slice B k2 d)).drew := by
    refine ⟨rfl, RatAt.below (neg_at (hb' ▸ s1) hk1 hk2 (IsU.keeps hn s2) (NatV.keeps hd s2)) (hdr _), s2.trans (Keeps.below (hdr _)), s3.trans (grown_below (hdr _))⟩
  have HF := Lib.hid hfin
  clear hX hn hB hb hb' hk1 hk2 s1 s2 s3 hd hfin hdr
  obtain ⟨rfl, rfl⟩ | ⟨rfl, e0, rfl⟩ | ⟨rfl, e0, rfl⟩ := h3
  · go_enter Tryz.func31, Tryz.ntmps31
    go_wp2_with fail
    go_region
    all_goals
      go_wp2_with fail
      go_ret
      exact HF.out
  · subst e0
    go_enter Tryz.func31, Tryz.ntmps31
    go_wp2_with fail
    go_region
    all_goals
      go_wp2_with fail
      go_ret
      exact HF.out
  · have e1 : decide ((0 : Int) < (k1 : Int)) = true := decide_eq_true (by omega)
    go_enter Tryz.func31, Tryz.ntmps31
    go_wp2_with fail
    go_region
    all_goals
      go_wp2_with fail
      go_ret
      exact HF.out
set_option maxRecDepth 100000 in
set_option maxHeartbeats 2000000 in
theorem negSelf_calls (q : Rat) (g : Nat) (w : World) (hx : RatAt w g q) :
    Calls Tryz.prog 31 #[.pointer (some ⟨g, 0, none⟩), .pointer (some ⟨g, 0, none⟩)] w (Out (-q) g w) := by
  obtain ⟨A, B, c, d, hX, hn, hd⟩ := hx
  have h3 := neg_three q
  obtain ⟨b', hb'⟩ : ∃ b, b = decide ((-q).num < 0) := ⟨_, rfl⟩
  obtain ⟨b, hb⟩ : ∃ b, b = decide (q.num < 0) := ⟨_, rfl⟩
  obtain ⟨k1, hk1⟩ : ∃ k, k = (limbs q.num.natAbs).length := ⟨_, rfl⟩
  obtain ⟨k2, hk2⟩ : ∃ k, k = (under q.den).length := ⟨_, rfl⟩
  rw [← hb, ← hk1, ← hk2] at hX
  rw [← hk1] at hn
  rw [← hk2] at hd
  rw [← hb, ← hk1, ← hb'] at h3
  have x0 : w.cell? ⟨g, 0, none⟩ = some (.bool b) := hX.cell 0
  have x1 : w.cell? ⟨g, 1, none⟩ = some (.slice A k1 c) := hX.cell 1
  have x2 : w.cell? ⟨g, 2, none⟩ = some (.slice B k2 d) := hX.cell 2
  have f0 := hX.frozen 0
  have f1 := hX.frozen 1
  have f2 := hX.frozen 2
  obtain ⟨s1, s2, s3⟩ := set3 (b' := b') (A' := A) (n' := k1) (c' := c) (B' := B) (m' := k2) (d' := d) hX
  have hdr : ∀ W : World, Below W.heap.size W W.drew := fun W => Drawn0.below ⟨1, rfl⟩
  have hfin : Out (-q) g w (.returned (.pointer (some ⟨g, 0, none⟩))) (((w.setCell ⟨g, 0, none⟩ (.bool b')).setCell ⟨g, 1, none⟩ (.slice A k1 c)).setCell ⟨g, 2, none⟩ (.slice B k2 d)).drew := by
    refine ⟨rfl, RatAt.below (neg_at (hb' ▸ s1) hk1 hk2 (IsU.keeps hn s2) (NatV.keeps hd s2)) (hdr _), s2.trans (Keeps.below (hdr _)), s3.trans (grown_below (hdr _))⟩
  have HF := Lib.hid hfin
  clear hX hn hb hb' hk1 hk2 s1 s2 s3 hd hfin hdr
  obtain ⟨rfl, rfl⟩ | ⟨rfl, e0, rfl⟩ | ⟨rfl, e0, rfl⟩ := h3
  · go_enter Tryz.func31, Tryz.ntmps31
    go_wp2_with fail
    go_region
    all_goals
      go_wp2_with fail
      go_ret
      exact HF.out
  · subst e0
    go_enter Tryz.func31, Tryz.ntmps31
    go_wp2_with fail
    go_region
    all_goals
      go_wp2_with fail
      go_ret
      exact HF.out
  · have e1 : decide ((0 : Int) < (k1 : Int)) = true := decide_eq_true (by omega)
    go_enter Tryz.func31, Tryz.ntmps31
    go_wp2_with fail
    go_region
    all_goals
      go_wp2_with fail
      go_ret
      exact HF.out
end Go.Proofs.YtjeamchaibialaaGreatDoor.IntOps

/- num's bound: the walk. -/
namespace Go.Proofs.YtjeamchaibialaaGreatDoor.BoundWalk
open Go.RowKit Go.Proofs.YtjeamchaibialaaGreatDoorW.PrintWords Go.Proofs.YtjeamchaibialaaGreatDoorW.PrintLast Go.Proofs.YtjeamchaibialaaGreatDoorW.PrintMore Fns Limbs Nats Go.Proofs.YtjeamchaibialaaGreatDoor.Told ReadWalk Texts Rats Parses Heaps Go.Proofs.YtjeamchaibialaaGreatDoor.Splits

def Bd (l : List UInt8) : Option Rat → Prop
  | none => l = []
  | some q => l = rtxt q
def BdAt (w : World) (v : Value) : Option Rat → Prop
  | none => v = .pointer none
  | some q => ∃ g, v = .pointer (some ⟨g, 0, none⟩) ∧ RatAt w g q
theorem rtxt_ne (q : Rat) : rtxt q ≠ [] := by
  unfold rtxt
  intro e
  rw [List.append_eq_nil_iff, List.append_eq_nil_iff] at e
  exact txt_ne _ e.2.1
theorem Bd.uniq {l : List UInt8} {x y : Option Rat} (h : Bd l x) (k : Bd l y) : x = y := by
  cases x with
  | none =>
    cases y with
    | none => rfl
    | some q => exact absurd (k.symm.trans h) (rtxt_ne q)
  | some p =>
    cases y with
    | none => exact absurd (h.symm.trans k) (rtxt_ne p)
    | some q => rw [rtxt_inj (h.symm.trans k)]
theorem BdAt.below {w w' : World} {v : Value} {x : Option Rat} (h : BdAt w v x) (hb : Below w.heap.size w w') : BdAt w' v x := by
  cases x with
  | none => exact h
  | some q =>
    obtain ⟨g, e, h⟩ := h
    exact ⟨g, e, h.below hb⟩
def Out (l : List UInt8) (w : World) (e : Ending) (W : World) : Prop :=
  Below w.heap.size w W ∧ ((∃ x v, Bd l x ∧ e = .returned (.tuple #[v, .bool true]) ∧ BdAt W v x) ∨ ((∀ x, ¬ Bd l x) ∧ e = .returned (.tuple #[.pointer none, .bool false])))
set_option maxRecDepth 100000 in
set_option maxHeartbeats 400000 in
theorem calls (s : ByteArray) (hs : s.size ≤ 100000000) (w : World) (hok : Ok w) :
    Calls Tryz.prog 26 #[.string s] w (Out s.data.toList w) := by
  go_enter Tryz.func26, Tryz.ntmps26
  by_cases h0 : s.toList = []
  · have HB : Hid (Bd s.data.toList none) := Lib.hid (by show s.data.toList = []; rw [← Lib.toList_data]; exact h0)
    go_wp2_with fail
    go_ret2
    exact ⟨Below.refl _ _, .inl ⟨none, _, HB.out, rfl, rfl⟩⟩
  · have h0' : s.toList.isEmpty = false := List.isEmpty_eq_false_iff.2 h0
    have HN : Hid (¬ Bd s.data.toList none) := Lib.hid (fun e => h0 (by rw [Lib.toList_data]; exact e))
    clear h0
    go_wp2_with fail
    refine (ParseWalk.calls s hs _ hok).mono ?_
    rintro e w2 ⟨⟨q, g, h1, rfl, h2, h3⟩ | ⟨h1, rfl⟩, hb⟩
    · have H := Lib.hid (And.intro h1 (And.intro h2 hb))
      clear h1 h2 h3 hb
      go_wp2_with fail
      go_ret2
      exact ⟨H.out.2.2, .inl ⟨some q, _, H.out.1, rfl, g, rfl, H.out.2.1⟩⟩
    · have H := Lib.hid (And.intro h1 hb)
      clear h1 hb
      go_wp2_with fail
      go_ret2
      refine ⟨H.out.2, .inr ⟨fun x h => ?_, rfl⟩⟩
      cases x with
      | none => exact HN.out h
      | some q => exact H.out.1 q h
end Go.Proofs.YtjeamchaibialaaGreatDoor.BoundWalk

/- num's chain: a step of it: the walk. -/
namespace Go.Proofs.YtjeamchaibialaaGreatDoor.StepWalk
open Go.RowKit Go.Proofs.YtjeamchaibialaaGreatDoorW.PrintWords Go.Proofs.YtjeamchaibialaaGreatDoorW.PrintLast Go.Proofs.YtjeamchaibialaaGreatDoorW.PrintMore Fns Limbs Pure1 Nats Go.Proofs.YtjeamchaibialaaGreatDoor.Told ReadWalk Texts Rats Parses Heaps Go.Proofs.YtjeamchaibialaaGreatDoor.Ints Go.Proofs.YtjeamchaibialaaGreatDoor.PutWalk Go.Proofs.YtjeamchaibialaaGreatDoor.RatTell Go.Proofs.YtjeamchaibialaaGreatDoor.Ops Go.Proofs.YtjeamchaibialaaGreatDoor.IntOps

def Box (w : World) (b g : Nat) : Prop := Blk w b #[.pointer (some ⟨g, 0, none⟩)]
theorem flat1 {g : Nat} : Flat #[.pointer (some ⟨g, 0, none⟩)] := by
  intro i k z e
  match i with
  | 0 => simp at e
  | i + 1 => simp at e
theorem Box.put {w : World} {b g : Nat} (h : Box w b g) (g' : Nat) :
    Box (w.setCell ⟨b, 0, none⟩ (.pointer (some ⟨g', 0, none⟩))) b g' ∧ Keeps w (w.setCell ⟨b, 0, none⟩ (.pointer (some ⟨g', 0, none⟩))) ∧ w.grownBy (w.setCell ⟨b, 0, none⟩ (.pointer (some ⟨g', 0, none⟩))) (some b) :=
  ⟨h.set 0 _, Keeps.set h flat1 0 _, grown_set w b 0 _⟩
theorem Box.same {w w' : World} {b g : Nat} (h : Box w b g) (e : w'.heap[b]? = w.heap[b]?) : Box w' b g := Blk.same h e
theorem Box.below {w w' : World} {b g : Nat} (h : Box w b g) (hb : Below w.heap.size w w') : Box w' b g := h.same (hb.block b h.lt)
theorem Box.lt {w : World} {b g : Nat} (h : Box w b g) : b < w.heap.size := Blk.lt h

structure Touch (B : List Nat) (w w' : World) : Prop where
  os : w'.os = w.os
  tape : w'.tape = w.tape
  output : w'.output = w.output
  size : w.heap.size ≤ w'.heap.size
  block : ∀ k, k < w.heap.size → k ∉ B → w'.heap[k]? = w.heap[k]?
theorem Touch.of {w w' : World} (h : Below w.heap.size w w') : Touch [] w w' := ⟨h.os, h.tape, h.output, h.size, fun k hk _ => h.block k hk⟩
theorem Touch.trans {B B' : List Nat} {a b c : World} (h : Touch B a b) (k : Touch B' b c) : Touch (B ++ B') a c :=
  ⟨k.os.trans h.os, k.tape.trans h.tape, k.output.trans h.output, Nat.le_trans h.size k.size, fun x hx hn => by
    rw [List.mem_append, not_or] at hn
    exact (k.block x (Nat.lt_of_lt_of_le hx h.size) hn.2).trans (h.block x hx hn.1)⟩
theorem Touch.mono {B B' : List Nat} {a b : World} (h : Touch B a b) (hs : ∀ x ∈ B, x ∈ B') : Touch B' a b := ⟨h.os, h.tape, h.output, h.size, fun k hk hn => h.block k hk (fun e => hn (hs k e))⟩
theorem Touch.put {w : World} {b : Nat} (v : Value) : Touch [b] w (w.setCell ⟨b, 0, none⟩ v) := by
  have h := grown_set w b 0 v
  exact ⟨h.os, h.tape, h.output, h.size, fun k hk hn => h.block k hk (fun e => hn (by injection e with e; rw [e]; exact List.mem_singleton_self _))⟩
def Half (w : World) (bn bm gn r : Nat) (W : World) : Prop := ∃ g, Box W bn g ∧ IntAt W g (r : Int) ∧ Box W bm gn ∧ Keeps w W ∧ Touch [bn, bm] w W ∧ w.heap.size ≤ g
theorem half_of {w W : World} {bn bm gn gm g r : Nat} (hne : bn ≠ bm) (hbn : Box w bn gn) (hbm : Box w bm gm) (hb : Below w.heap.size w W) (hg : w.heap.size ≤ g) (hr : IntAt W g (r : Int)) :
    Half w bn bm gn r ((W.setCell ⟨bn, 0, none⟩ (.pointer (some ⟨g, 0, none⟩))).setCell ⟨bm, 0, none⟩ (.pointer (some ⟨gn, 0, none⟩))) := by
  have hbn' := hbn.same (hb.block bn hbn.lt)
  have hbm' := hbm.same (hb.block bm hbm.lt)
  obtain ⟨h1, h2, h3⟩ := hbn'.put g
  have hbm2 := hbm'.same (h3.block bm hbm'.lt (fun e => hne (by injection e with e; exact e.symm)))
  obtain ⟨k1, k2, k3⟩ := hbm2.put gn
  have hgn : g ≠ bn := fun e => by have := hbn.lt; omega
  have hgm : g ≠ bm := fun e => by have := hbm.lt; omega
  refine ⟨g, h1.same (k3.block bn h1.lt (fun e => hne (by injection e))), (hr.grown h2 h3 hgn).grown k2 k3 hgm, k1, (Keeps.below hb).trans (h2.trans k2), ?_, hg⟩
  refine (((Touch.of hb).trans (Touch.put _)).trans (Touch.put _)).mono (fun x hx => ?_)
  simpa using hx
theorem new_int (W : World) : FitI (W.alloc (.cells #[.bool false, .slice none 0 0] 62)) W.heap.size := ⟨_, _, _, _, Blk.alloc W _ _⟩
theorem new_below (W : World) (o : Obj) : Below W.heap.size W (W.alloc o) := (Below.refl _ _).alloc (Nat.le_refl _) o

-- THE WALK
theorem mul_in (k n : Nat) (hkl : (limbs k).length ≤ 30000000) (hnl : (limbs n).length ≤ 30000000) (gk gn g : Nat) (w W : World) (hb : Below w.heap.size w W) (hg : w.heap.size ≤ g) (hf : FitI W g) (hk : IntAt w gk k) (hn : IntAt w gn n) :
    Calls Tryz.prog 72 #[.pointer (some ⟨g, 0, none⟩), .pointer (some ⟨gk, 0, none⟩), .pointer (some ⟨gn, 0, none⟩)] W fun e W' => e = .returned (.pointer (some ⟨g, 0, none⟩)) ∧ Below w.heap.size w W' ∧ IntAt W' g ((k * n : Nat) : Int) ∧ ∀ g2, g2 ≠ g → FitI W g2 → FitI W' g2 := by
  have h1 := hk.lt
  have h2 := hn.lt
  refine (mul_calls k n (by omega) (by omega) g gk gn (by omega) (by omega) W hf (hk.below hb) (hn.below hb)).mono ?_
  rintro e W' ⟨rfl, h3, h4, h5⟩
  refine ⟨rfl, below_grown hb h5 hg, h3, fun g2 hne hf2 => ?_⟩
  obtain ⟨b, A, c, d, hB⟩ := hf2
  exact ⟨b, A, c, d, hB.same (h5.block _ hB.lt (fun e => hne (by injection e)))⟩
theorem add_in (r m : Nat) (hrl : (limbs r).length ≤ 90000000) (hml : (limbs m).length ≤ 30000000) (g g1 gm : Nat) (w W : World) (hb : Below w.heap.size w W) (hg : w.heap.size ≤ g) (hf : FitI W g) (hr : IntAt W g1 r) (hne : g ≠ g1) (hm : IntAt w gm m) :
    Calls Tryz.prog 71 #[.pointer (some ⟨g, 0, none⟩), .pointer (some ⟨g1, 0, none⟩), .pointer (some ⟨gm, 0, none⟩)] W fun e W' => e = .returned (.pointer (some ⟨g, 0, none⟩)) ∧ Below w.heap.size w W' ∧ IntAt W' g ((r + m : Nat) : Int) := by
  have h2 := hm.lt
  refine (add_calls r m hrl (by omega) g g1 gm hne (by omega) W hf hr (hm.below hb)).mono ?_
  rintro e W' ⟨rfl, h3, h4, h5⟩
  exact ⟨rfl, below_grown hb h5 hg, h3⟩
def OutS (w : World) (bn bm bd be gn gd r t : Nat) (e : Ending) (W : World) : Prop :=
  e = .returned (.tuple #[]) ∧ Keeps w W ∧ Touch [bn, bm, bd, be] w W ∧ (∃ g, Box W bn g ∧ IntAt W g (r : Int) ∧ w.heap.size ≤ g) ∧ Box W bm gn ∧ (∃ g, Box W bd g ∧ IntAt W g (t : Int) ∧ w.heap.size ≤ g) ∧ Box W be gd
theorem join {w wc W : World} {bn bm bd be gn gd r t : Nat} (H1 : Half w bn bm gn r wc) (H2 : Half wc bd be gd t W) (hd : bd < w.heap.size) (he : be < w.heap.size) (hne : [bn, bm, bd, be].Nodup) : OutS w bn bm bd be gn gd r t (.returned (.tuple #[])) W := by
  obtain ⟨g, a1, a2, a3, a4, a5, a6⟩ := H1
  obtain ⟨g', b1, b2, b3, b4, b5, b6⟩ := H2
  simp at hne
  refine ⟨rfl, a4.trans b4, (a5.trans b5).mono (fun x hx => by simpa using hx), ⟨g, a1.same (b5.block bn a1.lt (by simp; exact ⟨fun h => hne.1.2.1 h, fun h => hne.1.2.2 h⟩)), a2.same b4 (b5.block g a2.lt (by simp; omega)), a6⟩, a3.same (b5.block bm a3.lt (by simp; exact ⟨fun h => hne.2.1.1 h, fun h => hne.2.1.2 h⟩)), ⟨g', b1, b2, Nat.le_trans a5.size b6⟩, b3⟩
theorem Touch.same {B : List Nat} {w w' : World} (h : Touch B w w') {b : Nat} (hl : b < w.heap.size) (hn : b ∉ B) : w'.heap[b]? = w.heap[b]? := h.block b hl hn
set_option maxRecDepth 100000 in
set_option maxHeartbeats 4000000 in
theorem calls (k n m d e : Nat) (hkl : (limbs k).length ≤ 30000000) (hnl : (limbs n).length ≤ 30000000) (hml : (limbs m).length ≤ 30000000) (hdl : (limbs d).length ≤ 30000000) (hel : (limbs e).length ≤ 30000000) (gk gn gm gd ge bn bm bd be : Nat) (w : World)
    (hk : IntAt w gk k) (hn : IntAt w gn n) (hm : IntAt w gm m) (hdd : IntAt w gd d) (hee : IntAt w ge e) (hbn : Box w bn gn) (hbm : Box w bm gm) (hbd : Box w bd gd) (hbe : Box w be ge)
    (hne : [bn, bm, bd, be].Nodup) (hbox : ∀ x ∈ [bn, bm, bd, be], x ≠ gk ∧ x ≠ gn ∧ x ≠ gd ∧ x ≠ ge) :
    Calls Tryz.prog 70 #[.pointer (some ⟨gk, 0, none⟩), .pointer (some ⟨bn, 0, none⟩), .pointer (some ⟨bm, 0, none⟩), .pointer (some ⟨bd, 0, none⟩), .pointer (some ⟨be, 0, none⟩)] w (OutS w bn bm bd be gn gd (k * n + m) (k * d + e)) := by
  have h12 : bn ≠ bm := fun h => by subst h; simp at hne
  have h34 : bd ≠ be := fun h => by subst h; simp at hne
  have hkn : (limbs (k * n)).length ≤ 90000000 := by have := limbs_len_mul k n; omega
  have hkd : (limbs (k * d)).length ≤ 90000000 := by have := limbs_len_mul k d; omega
  have H := Lib.hid (And.intro hk (And.intro hn (And.intro hm (And.intro hdd (And.intro hee (And.intro hbn (And.intro hbm (And.intro hbd (And.intro hbe (And.intro h12 (And.intro h34 (And.intro hne hbox))))))))))))
  clear hk hn hm hdd hee hbn hbm hbd hbe h12 h34 hne hbox
  go_enter Tryz.func70, Tryz.ntmps70
  go_upto_region 0 with fail
  go_cut [] (fun wx => Hid (Half w bn bm gn (k * n + m) wx))
  case first =>
    have hd : Below w.heap.size w w.drew := Drawn0.below ⟨1, rfl⟩
    have HD := Lib.hid hd
    have HS : ∀ W, Below w.heap.size w W → W.cell? ⟨bn, 0, none⟩ = some (.pointer (some ⟨gn, 0, none⟩)) ∧ W.cell? ⟨bm, 0, none⟩ = some (.pointer (some ⟨gm, 0, none⟩)) := fun W h => ⟨(H.out.2.2.2.2.2.1.below h).cell 0, (H.out.2.2.2.2.2.2.1.below h).cell 0⟩
    have HFR := Lib.hid (fun W (h : Below w.heap.size w W) => And.intro (Blk.frozen (H.out.2.2.2.2.2.1.below h) 0) (Blk.frozen (H.out.2.2.2.2.2.2.1.below h) 0))
    have HSS := Lib.hid HS
    clear hd HS
    refine RegG.start (fun W => W.cell? ⟨bn, 0, none⟩ = some (.pointer (some ⟨gn, 0, none⟩)) ∧ W.cell? ⟨bm, 0, none⟩ = some (.pointer (some ⟨gm, 0, none⟩))) [2, 3, 5, 7] (by kernel_rfl) ?_
    obtain ⟨U, hU⟩ : ∃ U, U = w.drew := ⟨_, rfl⟩
    rw [← hU] at HD ⊢
    clear hU
    refine RegG.take (i := 2) (v := ?_) rfl (by kernel_rfl) (by kernel_rfl) (by kernel_rfl) (by kernel_rfl) (fun _ _ _ h => h) (Or.inl ⟨by rfl, ?_⟩) (HSS.out _ HD.out) ?_
    rotate_left
    · intro W _
      go_simp
      with_reducible rfl
    refine RegG.take (i := 3) (v := ?_) rfl (by kernel_rfl) (by kernel_rfl) (by kernel_rfl) (by kernel_rfl) (fun _ _ _ h => h) (Or.inl ⟨by rfl, ?_⟩) (HSS.out _ HD.out) ?_
    rotate_left
    · intro W hW
      have h1 := hW.1
      go_simp
      with_reducible rfl
    refine RegG.take (i := 5) (v := ?_) rfl (by kernel_rfl) (by kernel_rfl) (by kernel_rfl) (by kernel_rfl) (fun _ _ _ h => h) (Or.inl ⟨by rfl, ?_⟩) (HSS.out _ HD.out) ?_
    rotate_left
    · intro W hW
      have h1 := hW.2
      go_simp
      with_reducible rfl
    refine RegG.take (i := 7) (v := ?_) rfl (by kernel_rfl) (by kernel_rfl) (by kernel_rfl) (by kernel_rfl) (fun _ _ _ h => h) (Or.inl ⟨by rfl, ?_⟩) (HSS.out _ HD.out) ?_
    rotate_left
    · intro W hW
      have h1 := hW.1
      go_simp
      with_reducible rfl
    refine RegG.two (i := 0) (j := 1) (by kernel_rfl) rfl rfl (fun K hK => ?_) (fun K hK => ?_)
    · skip
      go_simp
      obtain ⟨g0, hg⟩ : ∃ g, g = (U).heap.size := ⟨_, rfl⟩
      obtain ⟨V0, hV⟩ : ∃ W, W = (U).alloc (.cells #[.bool false, .slice none 0 0] 62) := ⟨_, rfl⟩
      have HF0 := Lib.hid (show FitI V0 g0 by rw [hV, hg]; exact new_int _)
      have hbw : Below (U).heap.size (U) V0 := by rw [hV]; exact new_below _ _
      have HG0 := Lib.hid (show w.heap.size ≤ g0 by rw [hg]; exact HD.out.size)
      have HB0 := Lib.hid (below_step HD.out hbw)
      have hp : ∀ A : Prop, (A → A) := fun _ h => h
      simp only [← hg, ← hV]
      refine hK _ _ ⟨fun _ => HSS.out _ (by exact HB0.out), ?_⟩
      clear hK K hg hV hbw hp
      refine RegG.one (i := 1) (by kernel_rfl) rfl (fun K hK => ?_)
      go_simp
      obtain ⟨g1, hg⟩ : ∃ g, g = (V0).heap.size := ⟨_, rfl⟩
      obtain ⟨V1, hV⟩ : ∃ W, W = (V0).alloc (.cells #[.bool false, .slice none 0 0] 62) := ⟨_, rfl⟩
      have HF1 := Lib.hid (show FitI V1 g1 by rw [hV, hg]; exact new_int _)
      have hbw : Below (V0).heap.size (V0) V1 := by rw [hV]; exact new_below _ _
      have HG1 := Lib.hid (show w.heap.size ≤ g1 by rw [hg]; exact HB0.out.size)
      have HB1 := Lib.hid (below_step HB0.out hbw)
      have HE := Lib.hid (show g0 ≠ g1 by have := (HF0).out.lt; rw [← hg] at this; omega)
      have HO0 := Lib.hid (HF0.out.below hbw)
      have hp : ∀ A : Prop, (A → A) := fun _ h => h
      simp only [← hg, ← hV]
      refine hK _ _ ⟨fun _ => HSS.out _ (by exact HB1.out), ?_⟩
      clear hK K hg hV hbw hp
      refine RegG.one (i := 4) (by kernel_rfl) rfl (fun K hK => ?_)
      go_simp
      refine (mul_in k n hkl hnl gk gn g1 w V1 HB1.out HG1.out HF1.out H.out.1 H.out.2.1).mono ?_
      rintro e V4 ⟨rfl, hb4, hi4, hf4⟩
      have HB4 := Lib.hid hb4
      have HI4 := Lib.hid hi4
      have HF4 := Lib.hid (hf4 _ HE.out HO0.out)
      refine hK _ _ ⟨fun _ => HSS.out _ HB4.out, ?_⟩
      clear hK K hb4 hi4 hf4
      refine RegG.one (i := 6) (by kernel_rfl) rfl (fun K hK => ?_)
      go_simp
      refine (add_in (k * n) m hkn hml g0 g1 gm w V4 HB4.out HG0.out HF4.out HI4.out HE.out H.out.2.2.1).mono ?_
      rintro e V6 ⟨rfl, hb6, hi6⟩
      have HB6 := Lib.hid hb6
      have HI6 := Lib.hid hi6
      refine hK _ _ ⟨fun _ => HSS.out _ HB6.out, ?_⟩
      clear hK K hb6 hi6
      refine RegG.one (i := 8) (by kernel_rfl) rfl (fun K hK => ?_)
      obtain ⟨x1, x2⟩ := HSS.out _ HB6.out
      obtain ⟨f1, f2⟩ := HFR.out _ HB6.out
      have hbb := H.out.2.2.2.2.2.2.2.2.2.1
      have hbb' : bm ≠ bn := fun e => hbb e.symm
      go_simp
      refine hK _ _ ⟨(by intro h; exact absurd (h.symm.trans (show _ = false by kernel_rfl)) (by decide)), ?_⟩
      clear hK K
      refine RegG.one (i := 9) (by kernel_rfl) rfl (fun K hK => ?_)
      go_simp
      refine hK _ _ ⟨(by intro h; exact absurd (h.symm.trans (show _ = false by kernel_rfl)) (by decide)), ?_⟩
      clear hK K x1 x2 f1 f2 hbb hbb'
      refine RegG.done (by kernel_rfl) ?_ _
      go_wp2_with fail
      go_meet
      case rel => exact Lib.hid (half_of H.out.2.2.2.2.2.2.2.2.2.1 H.out.2.2.2.2.2.1 H.out.2.2.2.2.2.2.1 HB6.out HG0.out HI6.out)
    · skip
      go_simp
      obtain ⟨g1, hg⟩ : ∃ g, g = (U).heap.size := ⟨_, rfl⟩
      obtain ⟨V1, hV⟩ : ∃ W, W = (U).alloc (.cells #[.bool false, .slice none 0 0] 62) := ⟨_, rfl⟩
      have HF1 := Lib.hid (show FitI V1 g1 by rw [hV, hg]; exact new_int _)
      have hbw : Below (U).heap.size (U) V1 := by rw [hV]; exact new_below _ _
      have HG1 := Lib.hid (show w.heap.size ≤ g1 by rw [hg]; exact HD.out.size)
      have HB1 := Lib.hid (below_step HD.out hbw)
      have hp : ∀ A : Prop, (A → A) := fun _ h => h
      simp only [← hg, ← hV]
      refine hK _ _ ⟨fun _ => HSS.out _ (by exact HB1.out), ?_⟩
      clear hK K hg hV hbw hp
      refine RegG.two (i := 0) (j := 4) (by kernel_rfl) rfl rfl (fun K hK => ?_) (fun K hK => ?_)
      · skip
        go_simp
        obtain ⟨g0, hg⟩ : ∃ g, g = (V1).heap.size := ⟨_, rfl⟩
        obtain ⟨V0, hV⟩ : ∃ W, W = (V1).alloc (.cells #[.bool false, .slice none 0 0] 62) := ⟨_, rfl⟩
        have HF0 := Lib.hid (show FitI V0 g0 by rw [hV, hg]; exact new_int _)
        have hbw : Below (V1).heap.size (V1) V0 := by rw [hV]; exact new_below _ _
        have HG0 := Lib.hid (show w.heap.size ≤ g0 by rw [hg]; exact HB1.out.size)
        have HB0 := Lib.hid (below_step HB1.out hbw)
        have HE := Lib.hid (show g0 ≠ g1 by have := (HF1).out.lt; rw [← hg] at this; omega)
        have HO1 := Lib.hid (HF1.out.below hbw)
        have hp : ∀ A : Prop, (A → A) := fun _ h => h
        simp only [← hg, ← hV]
        refine hK _ _ ⟨fun _ => HSS.out _ (by exact HB0.out), ?_⟩
        clear hK K hg hV hbw hp
        refine RegG.one (i := 4) (by kernel_rfl) rfl (fun K hK => ?_)
        go_simp
        refine (mul_in k n hkl hnl gk gn g1 w V0 HB0.out HG1.out HO1.out H.out.1 H.out.2.1).mono ?_
        rintro e V4 ⟨rfl, hb4, hi4, hf4⟩
        have HB4 := Lib.hid hb4
        have HI4 := Lib.hid hi4
        have HF4 := Lib.hid (hf4 _ HE.out HF0.out)
        refine hK _ _ ⟨fun _ => HSS.out _ HB4.out, ?_⟩
        clear hK K hb4 hi4 hf4
        refine RegG.one (i := 6) (by kernel_rfl) rfl (fun K hK => ?_)
        go_simp
        refine (add_in (k * n) m hkn hml g0 g1 gm w V4 HB4.out HG0.out HF4.out HI4.out HE.out H.out.2.2.1).mono ?_
        rintro e V6 ⟨rfl, hb6, hi6⟩
        have HB6 := Lib.hid hb6
        have HI6 := Lib.hid hi6
        refine hK _ _ ⟨fun _ => HSS.out _ HB6.out, ?_⟩
        clear hK K hb6 hi6
        refine RegG.one (i := 8) (by kernel_rfl) rfl (fun K hK => ?_)
        obtain ⟨x1, x2⟩ := HSS.out _ HB6.out
        obtain ⟨f1, f2⟩ := HFR.out _ HB6.out
        have hbb := H.out.2.2.2.2.2.2.2.2.2.1
        have hbb' : bm ≠ bn := fun e => hbb e.symm
        go_simp
        refine hK _ _ ⟨(by intro h; exact absurd (h.symm.trans (show _ = false by kernel_rfl)) (by decide)), ?_⟩
        clear hK K
        refine RegG.one (i := 9) (by kernel_rfl) rfl (fun K hK => ?_)
        go_simp
        refine hK _ _ ⟨(by intro h; exact absurd (h.symm.trans (show _ = false by kernel_rfl)) (by decide)), ?_⟩
        clear hK K x1 x2 f1 f2 hbb hbb'
        refine RegG.done (by kernel_rfl) ?_ _
        go_wp2_with fail
        go_meet
        case rel => exact Lib.hid (half_of H.out.2.2.2.2.2.2.2.2.2.1 H.out.2.2.2.2.2.1 H.out.2.2.2.2.2.2.1 HB6.out HG0.out HI6.out)
      · skip
        go_simp
        refine (mul_in k n hkl hnl gk gn g1 w V1 HB1.out HG1.out HF1.out H.out.1 H.out.2.1).mono ?_
        rintro e V4 ⟨rfl, hb4, hi4, hf4⟩
        have HB4 := Lib.hid hb4
        have HI4 := Lib.hid hi4
        refine hK _ _ ⟨fun _ => HSS.out _ HB4.out, ?_⟩
        clear hK K hb4 hi4 hf4
        refine RegG.one (i := 0) (by kernel_rfl) rfl (fun K hK => ?_)
        go_simp
        obtain ⟨g0, hg⟩ : ∃ g, g = (V4).heap.size := ⟨_, rfl⟩
        obtain ⟨V0, hV⟩ : ∃ W, W = (V4).alloc (.cells #[.bool false, .slice none 0 0] 62) := ⟨_, rfl⟩
        have HF0 := Lib.hid (show FitI V0 g0 by rw [hV, hg]; exact new_int _)
        have hbw : Below (V4).heap.size (V4) V0 := by rw [hV]; exact new_below _ _
        have HG0 := Lib.hid (show w.heap.size ≤ g0 by rw [hg]; exact HB4.out.size)
        have HB0 := Lib.hid (below_step HB4.out hbw)
        have HE := Lib.hid (show g0 ≠ g1 by have := (HI4).out.lt; rw [← hg] at this; omega)
        have HJ := Lib.hid (HI4.out.below hbw)
        have hp : ∀ A : Prop, (A → A) := fun _ h => h
        simp only [← hg, ← hV]
        refine hK _ _ ⟨fun _ => HSS.out _ (by exact HB0.out), ?_⟩
        clear hK K hg hV hbw hp
        refine RegG.one (i := 6) (by kernel_rfl) rfl (fun K hK => ?_)
        go_simp
        refine (add_in (k * n) m hkn hml g0 g1 gm w V0 HB0.out HG0.out HF0.out HJ.out HE.out H.out.2.2.1).mono ?_
        rintro e V6 ⟨rfl, hb6, hi6⟩
        have HB6 := Lib.hid hb6
        have HI6 := Lib.hid hi6
        refine hK _ _ ⟨fun _ => HSS.out _ HB6.out, ?_⟩
        clear hK K hb6 hi6
        refine RegG.one (i := 8) (by kernel_rfl) rfl (fun K hK => ?_)
        obtain ⟨x1, x2⟩ := HSS.out _ HB6.out
        obtain ⟨f1, f2⟩ := HFR.out _ HB6.out
        have hbb := H.out.2.2.2.2.2.2.2.2.2.1
        have hbb' : bm ≠ bn := fun e => hbb e.symm
        go_simp
        refine hK _ _ ⟨(by intro h; exact absurd (h.symm.trans (show _ = false by kernel_rfl)) (by decide)), ?_⟩
        clear hK K
        refine RegG.one (i := 9) (by kernel_rfl) rfl (fun K hK => ?_)
        go_simp
        refine hK _ _ ⟨(by intro h; exact absurd (h.symm.trans (show _ = false by kernel_rfl)) (by decide)), ?_⟩
        clear hK K x1 x2 f1 f2 hbb hbb'
        refine RegG.done (by kernel_rfl) ?_ _
        go_wp2_with fail
        go_meet
        case rel => exact Lib.hid (half_of H.out.2.2.2.2.2.2.2.2.2.1 H.out.2.2.2.2.2.1 H.out.2.2.2.2.2.2.1 HB6.out HG0.out HI6.out)
  case rest =>
    have HC := Lib.hid hcut.out
    obtain ⟨gN, hN1, hN2, hN3, hN4, hN5, hN6⟩ := hcut.out
    have hnd := H.out.2.2.2.2.2.2.2.2.2.2.2.1
    have hbo := H.out.2.2.2.2.2.2.2.2.2.2.2.2
    have hd3 : bd ∉ [bn, bm] := by intro h; simp at h hnd; rcases h with rfl | rfl <;> simp_all
    have he3 : be ∉ [bn, bm] := by intro h; simp at h hnd; rcases h with rfl | rfl <;> simp_all
    have hgm2 : ∀ g, (∀ x ∈ [bn, bm, bd, be], x ≠ g) → g ∉ [bn, bm] := fun g h hg => h g (by simp at hg ⊢; rcases hg with rfl | rfl <;> simp) rfl
    have hbd' : Box wc bd gd := H.out.2.2.2.2.2.2.2.1.same (hN5.same H.out.2.2.2.2.2.2.2.1.lt hd3)
    have hbe' : Box wc be ge := H.out.2.2.2.2.2.2.2.2.1.same (hN5.same H.out.2.2.2.2.2.2.2.2.1.lt he3)
    have hk' : IntAt wc gk k := H.out.1.same hN4 (hN5.same H.out.1.lt (hgm2 gk (fun x hx => (hbo x hx).1)))
    have hd' : IntAt wc gd d := H.out.2.2.2.1.same hN4 (hN5.same H.out.2.2.2.1.lt (hgm2 gd (fun x hx => (hbo x hx).2.2.1)))
    have he' : IntAt wc ge e := H.out.2.2.2.2.1.same hN4 (hN5.same H.out.2.2.2.2.1.lt (hgm2 ge (fun x hx => (hbo x hx).2.2.2)))
    have H2 := Lib.hid (And.intro hk' (And.intro hd' (And.intro he' (And.intro hbd' hbe'))))
    have HH := Lib.hid (And.intro hN1 (And.intro hN2 (And.intro hN3 (And.intro hN4 (And.intro hN5 hN6)))))
    clear hN1 hN2 hN3 hN4 hN5 hN6 hnd hbo hd3 he3 hgm2 hbd' hbe' hk' hd' he' hcut
    go_upto_region 1 with fail
    have hd : Below wc.heap.size wc wc.drew := Drawn0.below ⟨1, rfl⟩
    have HD := Lib.hid hd
    have HS : ∀ W, Below wc.heap.size wc W → W.cell? ⟨bd, 0, none⟩ = some (.pointer (some ⟨gd, 0, none⟩)) ∧ W.cell? ⟨be, 0, none⟩ = some (.pointer (some ⟨ge, 0, none⟩)) := fun W h => ⟨(H2.out.2.2.2.1.below h).cell 0, (H2.out.2.2.2.2.below h).cell 0⟩
    have HFR := Lib.hid (fun W (h : Below wc.heap.size wc W) => And.intro (Blk.frozen (H2.out.2.2.2.1.below h) 0) (Blk.frozen (H2.out.2.2.2.2.below h) 0))
    have HSS := Lib.hid HS
    clear hd HS
    refine RegG.start (fun W => W.cell? ⟨bd, 0, none⟩ = some (.pointer (some ⟨gd, 0, none⟩)) ∧ W.cell? ⟨be, 0, none⟩ = some (.pointer (some ⟨ge, 0, none⟩))) [2, 3, 5, 7] (by kernel_rfl) ?_
    obtain ⟨U, hU⟩ : ∃ U, U = wc.drew := ⟨_, rfl⟩
    rw [← hU] at HD ⊢
    clear hU
    refine RegG.take (i := 2) (v := ?_) rfl (by kernel_rfl) (by kernel_rfl) (by kernel_rfl) (by kernel_rfl) (fun _ _ _ h => h) (Or.inl ⟨by rfl, ?_⟩) (HSS.out _ HD.out) ?_
    rotate_left
    · intro W _
      go_simp
      with_reducible rfl
    refine RegG.take (i := 3) (v := ?_) rfl (by kernel_rfl) (by kernel_rfl) (by kernel_rfl) (by kernel_rfl) (fun _ _ _ h => h) (Or.inl ⟨by rfl, ?_⟩) (HSS.out _ HD.out) ?_
    rotate_left
    · intro W hW
      have h1 := hW.1
      go_simp
      with_reducible rfl
    refine RegG.take (i := 5) (v := ?_) rfl (by kernel_rfl) (by kernel_rfl) (by kernel_rfl) (by kernel_rfl) (fun _ _ _ h => h) (Or.inl ⟨by rfl, ?_⟩) (HSS.out _ HD.out) ?_
    rotate_left
    · intro W hW
      have h1 := hW.2
      go_simp
      with_reducible rfl
    refine RegG.take (i := 7) (v := ?_) rfl (by kernel_rfl) (by kernel_rfl) (by kernel_rfl) (by kernel_rfl) (fun _ _ _ h => h) (Or.inl ⟨by rfl, ?_⟩) (HSS.out _ HD.out) ?_
    rotate_left
    · intro W hW
      have h1 := hW.1
      go_simp
      with_reducible rfl
    refine RegG.two (i := 0) (j := 1) (by kernel_rfl) rfl rfl (fun K hK => ?_) (fun K hK => ?_)
    · skip
      go_simp
      obtain ⟨g0, hg⟩ : ∃ g, g = (U).heap.size := ⟨_, rfl⟩
      obtain ⟨V0, hV⟩ : ∃ W, W = (U).alloc (.cells #[.bool false, .slice none 0 0] 62) := ⟨_, rfl⟩
      have HF0 := Lib.hid (show FitI V0 g0 by rw [hV, hg]; exact new_int _)
      have hbw : Below (U).heap.size (U) V0 := by rw [hV]; exact new_below _ _
      have HG0 := Lib.hid (show wc.heap.size ≤ g0 by rw [hg]; exact HD.out.size)
      have HB0 := Lib.hid (below_step HD.out hbw)
      have hp : ∀ A : Prop, (A → A) := fun _ h => h
      simp only [← hg, ← hV]
      refine hK _ _ ⟨fun _ => HSS.out _ (by exact HB0.out), ?_⟩
      clear hK K hg hV hbw hp
      refine RegG.one (i := 1) (by kernel_rfl) rfl (fun K hK => ?_)
      go_simp
      obtain ⟨g1, hg⟩ : ∃ g, g = (V0).heap.size := ⟨_, rfl⟩
      obtain ⟨V1, hV⟩ : ∃ W, W = (V0).alloc (.cells #[.bool false, .slice none 0 0] 62) := ⟨_, rfl⟩
      have HF1 := Lib.hid (show FitI V1 g1 by rw [hV, hg]; exact new_int _)
      have hbw : Below (V0).heap.size (V0) V1 := by rw [hV]; exact new_below _ _
      have HG1 := Lib.hid (show wc.heap.size ≤ g1 by rw [hg]; exact HB0.out.size)
      have HB1 := Lib.hid (below_step HB0.out hbw)
      have HE := Lib.hid (show g0 ≠ g1 by have := (HF0).out.lt; rw [← hg] at this; omega)
      have HO0 := Lib.hid (HF0.out.below hbw)
      have hp : ∀ A : Prop, (A → A) := fun _ h => h
      simp only [← hg, ← hV]
      refine hK _ _ ⟨fun _ => HSS.out _ (by exact HB1.out), ?_⟩
      clear hK K hg hV hbw hp
      refine RegG.one (i := 4) (by kernel_rfl) rfl (fun K hK => ?_)
      go_simp
      refine (mul_in k d hkl hdl gk gd g1 wc V1 HB1.out HG1.out HF1.out H2.out.1 H2.out.2.1).mono ?_
      rintro e V4 ⟨rfl, hb4, hi4, hf4⟩
      have HB4 := Lib.hid hb4
      have HI4 := Lib.hid hi4
      have HF4 := Lib.hid (hf4 _ HE.out HO0.out)
      refine hK _ _ ⟨fun _ => HSS.out _ HB4.out, ?_⟩
      clear hK K hb4 hi4 hf4
      refine RegG.one (i := 6) (by kernel_rfl) rfl (fun K hK => ?_)
      go_simp
      refine (add_in (k * d) e hkd hel g0 g1 ge wc V4 HB4.out HG0.out HF4.out HI4.out HE.out H2.out.2.2.1).mono ?_
      rintro e V6 ⟨rfl, hb6, hi6⟩
      have HB6 := Lib.hid hb6
      have HI6 := Lib.hid hi6
      refine hK _ _ ⟨fun _ => HSS.out _ HB6.out, ?_⟩
      clear hK K hb6 hi6
      refine RegG.one (i := 8) (by kernel_rfl) rfl (fun K hK => ?_)
      obtain ⟨x1, x2⟩ := HSS.out _ HB6.out
      obtain ⟨f1, f2⟩ := HFR.out _ HB6.out
      have hbb := H.out.2.2.2.2.2.2.2.2.2.2.1
      have hbb' : be ≠ bd := fun e => hbb e.symm
      go_simp
      refine hK _ _ ⟨(by intro h; exact absurd (h.symm.trans (show _ = false by kernel_rfl)) (by decide)), ?_⟩
      clear hK K
      refine RegG.one (i := 9) (by kernel_rfl) rfl (fun K hK => ?_)
      go_simp
      refine hK _ _ ⟨(by intro h; exact absurd (h.symm.trans (show _ = false by kernel_rfl)) (by decide)), ?_⟩
      clear hK K x1 x2 f1 f2 hbb hbb'
      refine RegG.done (by kernel_rfl) ?_ _
      have HL := Lib.hid (half_of H.out.2.2.2.2.2.2.2.2.2.2.1 H2.out.2.2.2.1 H2.out.2.2.2.2 HB6.out HG0.out HI6.out)
      go_wp2_with fail
      go_end0
      exact join HC.out HL.out H.out.2.2.2.2.2.2.2.1.lt H.out.2.2.2.2.2.2.2.2.1.lt H.out.2.2.2.2.2.2.2.2.2.2.2.1
    · skip
      go_simp
      obtain ⟨g1, hg⟩ : ∃ g, g = (U).heap.size := ⟨_, rfl⟩
      obtain ⟨V1, hV⟩ : ∃ W, W = (U).alloc (.cells #[.bool false, .slice none 0 0] 62) := ⟨_, rfl⟩
      have HF1 := Lib.hid (show FitI V1 g1 by rw [hV, hg]; exact new_int _)
      have hbw : Below (U).heap.size (U) V1 := by rw [hV]; exact new_below _ _
      have HG1 := Lib.hid (show wc.heap.size ≤ g1 by rw [hg]; exact HD.out.size)
      have HB1 := Lib.hid (below_step HD.out hbw)
      have hp : ∀ A : Prop, (A → A) := fun _ h => h
      simp only [← hg, ← hV]
      refine hK _ _ ⟨fun _ => HSS.out _ (by exact HB1.out), ?_⟩
      clear hK K hg hV hbw hp
      refine RegG.two (i := 0) (j := 4) (by kernel_rfl) rfl rfl (fun K hK => ?_) (fun K hK => ?_)
      · skip
        go_simp
        obtain ⟨g0, hg⟩ : ∃ g, g = (V1).heap.size := ⟨_, rfl⟩
        obtain ⟨V0, hV⟩ : ∃ W, W = (V1).alloc (.cells #[.bool false, .slice none 0 0] 62) := ⟨_, rfl⟩
        have HF0 := Lib.hid (show FitI V0 g0 by rw [hV, hg]; exact new_int _)
        have hbw : Below (V1).heap.size (V1) V0 := by rw [hV]; exact new_below _ _
        have HG0 := Lib.hid (show wc.heap.size ≤ g0 by rw [hg]; exact HB1.out.size)
        have HB0 := Lib.hid (below_step HB1.out hbw)
        have HE := Lib.hid (show g0 ≠ g1 by have := (HF1).out.lt; rw [← hg] at this; omega)
        have HO1 := Lib.hid (HF1.out.below hbw)
        have hp : ∀ A : Prop, (A → A) := fun _ h => h
        simp only [← hg, ← hV]
        refine hK _ _ ⟨fun _ => HSS.out _ (by exact HB0.out), ?_⟩
        clear hK K hg hV hbw hp
        refine RegG.one (i := 4) (by kernel_rfl) rfl (fun K hK => ?_)
        go_simp
        refine (mul_in k d hkl hdl gk gd g1 wc V0 HB0.out HG1.out HO1.out H2.out.1 H2.out.2.1).mono ?_
        rintro e V4 ⟨rfl, hb4, hi4, hf4⟩
        have HB4 := Lib.hid hb4
        have HI4 := Lib.hid hi4
        have HF4 := Lib.hid (hf4 _ HE.out HF0.out)
        refine hK _ _ ⟨fun _ => HSS.out _ HB4.out, ?_⟩
        clear hK K hb4 hi4 hf4
        refine RegG.one (i := 6) (by kernel_rfl) rfl (fun K hK => ?_)
        go_simp
        refine (add_in (k * d) e hkd hel g0 g1 ge wc V4 HB4.out HG0.out HF4.out HI4.out HE.out H2.out.2.2.1).mono ?_
        rintro e V6 ⟨rfl, hb6, hi6⟩
        have HB6 := Lib.hid hb6
        have HI6 := Lib.hid hi6
        refine hK _ _ ⟨fun _ => HSS.out _ HB6.out, ?_⟩
        clear hK K hb6 hi6
        refine RegG.one (i := 8) (by kernel_rfl) rfl (fun K hK => ?_)
        obtain ⟨x1, x2⟩ := HSS.out _ HB6.out
        obtain ⟨f1, f2⟩ := HFR.out _ HB6.out
        have hbb := H.out.2.2.2.2.2.2.2.2.2.2.1
        have hbb' : be ≠ bd := fun e => hbb e.symm
        go_simp
        refine hK _ _ ⟨(by intro h; exact absurd (h.symm.trans (show _ = false by kernel_rfl)) (by decide)), ?_⟩
        clear hK K
        refine RegG.one (i := 9) (by kernel_rfl) rfl (fun K hK => ?_)
        go_simp
        refine hK _ _ ⟨(by intro h; exact absurd (h.symm.trans (show _ = false by kernel_rfl)) (by decide)), ?_⟩
        clear hK K x1 x2 f1 f2 hbb hbb'
        refine RegG.done (by kernel_rfl) ?_ _
        have HL := Lib.hid (half_of H.out.2.2.2.2.2.2.2.2.2.2.1 H2.out.2.2.2.1 H2.out.2.2.2.2 HB6.out HG0.out HI6.out)
        go_wp2_with fail
        go_end0
        exact join HC.out HL.out H.out.2.2.2.2.2.2.2.1.lt H.out.2.2.2.2.2.2.2.2.1.lt H.out.2.2.2.2.2.2.2.2.2.2.2.1
      · skip
        go_simp
        refine (mul_in k d hkl hdl gk gd g1 wc V1 HB1.out HG1.out HF1.out H2.out.1 H2.out.2.1).mono ?_
        rintro e V4 ⟨rfl, hb4, hi4, hf4⟩
        have HB4 := Lib.hid hb4
        have HI4 := Lib.hid hi4
        refine hK _ _ ⟨fun _ => HSS.out _ HB4.out, ?_⟩
        clear hK K hb4 hi4 hf4
        refine RegG.one (i := 0) (by kernel_rfl) rfl (fun K hK => ?_)
        go_simp
        obtain ⟨g0, hg⟩ : ∃ g, g = (V4).heap.size := ⟨_, rfl⟩
        obtain ⟨V0, hV⟩ : ∃ W, W = (V4).alloc (.cells #[.bool false, .slice none 0 0] 62) := ⟨_, rfl⟩
        have HF0 := Lib.hid (show FitI V0 g0 by rw [hV, hg]; exact new_int _)
        have hbw : Below (V4).heap.size (V4) V0 := by rw [hV]; exact new_below _ _
        have HG0 := Lib.hid (show wc.heap.size ≤ g0 by rw [hg]; exact HB4.out.size)
        have HB0 := Lib.hid (below_step HB4.out hbw)
        have HE := Lib.hid (show g0 ≠ g1 by have := (HI4).out.lt; rw [← hg] at this; omega)
        have HJ := Lib.hid (HI4.out.below hbw)
        have hp : ∀ A : Prop, (A → A) := fun _ h => h
        simp only [← hg, ← hV]
        refine hK _ _ ⟨fun _ => HSS.out _ (by exact HB0.out), ?_⟩
        clear hK K hg hV hbw hp
        refine RegG.one (i := 6) (by kernel_rfl) rfl (fun K hK => ?_)
        go_simp
        refine (add_in (k * d) e hkd hel g0 g1 ge wc V0 HB0.out HG0.out HF0.out HJ.out HE.out H2.out.2.2.1).mono ?_
        rintro e V6 ⟨rfl, hb6, hi6⟩
        have HB6 := Lib.hid hb6
        have HI6 := Lib.hid hi6
        refine hK _ _ ⟨fun _ => HSS.out _ HB6.out, ?_⟩
        clear hK K hb6 hi6
        refine RegG.one (i := 8) (by kernel_rfl) rfl (fun K hK => ?_)
        obtain ⟨x1, x2⟩ := HSS.out _ HB6.out
        obtain ⟨f1, f2⟩ := HFR.out _ HB6.out
        have hbb := H.out.2.2.2.2.2.2.2.2.2.2.1
        have hbb' : be ≠ bd := fun e => hbb e.symm
        go_simp
        refine hK _ _ ⟨(by intro h; exact absurd (h.symm.trans (show _ = false by kernel_rfl)) (by decide)), ?_⟩
        clear hK K
        refine RegG.one (i := 9) (by kernel_rfl) rfl (fun K hK => ?_)
        go_simp
        refine hK _ _ ⟨(by intro h; exact absurd (h.symm.trans (show _ = false by kernel_rfl)) (by decide)), ?_⟩
        clear hK K x1 x2 f1 f2 hbb hbb'
        refine RegG.done (by kernel_rfl) ?_ _
        have HL := Lib.hid (half_of H.out.2.2.2.2.2.2.2.2.2.2.1 H2.out.2.2.2.1 H2.out.2.2.2.2 HB6.out HG0.out HI6.out)
        go_wp2_with fail
        go_end0
        exact join HC.out HL.out H.out.2.2.2.2.2.2.2.1.lt H.out.2.2.2.2.2.2.2.2.1.lt H.out.2.2.2.2.2.2.2.2.2.2.2.1
end Go.Proofs.YtjeamchaibialaaGreatDoor.StepWalk
