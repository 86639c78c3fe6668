/- Joined: Bins Nums -/
import Derived.Test.YtjeamchaibialaaGreatDoorM5
import Derived.Deep.RegionWith
set_option linter.unusedVariables false
set_option linter.unusedSimpArgs false
/- num's Add, Sub, Mul, Quo over texts: the walks. -/
namespace Go.Proofs.YtjeamchaibialaaGreatDoor.Bins
open Go.RowKit Go.Proofs.YtjeamchaibialaaGreatDoorW.PrintWords Go.Proofs.YtjeamchaibialaaGreatDoorW.PrintLast Go.Proofs.YtjeamchaibialaaGreatDoorW.PrintMore Fns Limbs Nats Go.Proofs.YtjeamchaibialaaGreatDoor.Told ReadWalk Texts Rats Parses Heaps Go.Proofs.YtjeamchaibialaaGreatDoor.Splits Go.Proofs.YtjeamchaibialaaGreatDoor.PutWalk Go.Proofs.YtjeamchaibialaaGreatDoor.PairWalk

abbrev bs (l : List UInt8) : ByteArray := ⟨l.toArray⟩
def Out2 (f : Rat → Rat → Rat) (a b : List UInt8) (w : World) (e : Ending) (W : World) : Prop :=
  Below w.heap.size w W ∧ (
    (∃ p q, a = rtxt p ∧ b = rtxt q ∧ e = .returned (.tuple #[.string (bs (rtxt (f p q))), .int .i64 0])) ∨
    (((∀ p, a ≠ rtxt p) ∨ (∀ q, b ≠ rtxt q)) ∧ e = .returned (.tuple #[.string ⟨#[]⟩, .int .i64 1])))
theorem sz_a {a : ByteArray} {p : Rat} (h : a.data.toList = rtxt p) (ha : a.size ≤ 100000000) : Sizes.Sz p 40000000 := by
  have h1 := Sizes.sz_rtxt p
  rw [← h, ← Lib.size_eq] at h1
  exact h1.mono (by omega)
theorem sz_b {a : ByteArray} {p : Rat} (h : a.data.toList = rtxt p) (ha : a.size ≤ 100000000) : Sizes.Sz p 40000000 := sz_a h ha

set_option maxRecDepth 100000 in
set_option maxHeartbeats 1000000 in
theorem bin_add (a b : ByteArray) (ha : a.size ≤ 100000000) (hb : b.size ≤ 100000000) (w : World) (hok : Ok w) :
    Calls Tryz.prog 109 #[.string a, .string b, .func (.func 110) #[] #[]] w (Out2 (fun p q => p + q) a.data.toList b.data.toList w) := by
  have HOK := Lib.hid hok
  clear hok
  go_enter Tryz.func109, Tryz.ntmps109
  go_wp2_with fail
  have hba : Below w.heap.size w (w.alloc (.cells #[.string a, .string b] 9)) := (Below.refl _ _).alloc (Nat.le_refl _) _
  have hBA : Blk (w.alloc (.cells #[.string a, .string b] 9)) w.heap.size #[.string a, .string b] := Blk.alloc _ _ _
  refine (PairWalk.calls a b ha hb _ _ (hBA.cell 0) (hBA.cell 1) (HOK.out.below hba)).mono ?_
  rintro e w2 ⟨hb2, ⟨p, q, g, k, L, hp, hq, rfl, hBL, hr, hr2, hg, hk⟩ | ⟨hn, rfl⟩⟩
  · have hnil : ∀ W : World, (binOp .eql 115 (.slice (some ⟨L, 0, none⟩) 2 2) (.slice none 0 0)).run Tryz.prog W = .ok (.bool false) W := fun _ => rfl
    have HQ := Lib.hid (And.intro hp hq)
    have HB2 := Lib.hid (below_step hba hb2)
    have hc0 : w2.cell? ⟨L, 0, none⟩ = some (P g) := hBL.cell 0
    have hc1 : w2.cell? ⟨L, 1, none⟩ = some (P k) := hBL.cell 1
    have hLlt := hBL.lt
    have hglt := hr.lt
    have hklt := hr2.lt
    have ha0 : ∀ o, (w2.alloc o).cell? ⟨L, 0, none⟩ = some (P g) := fun o => (World.cell?_alloc_lt _ _ _ hLlt).trans hc0
    have ha1 : ∀ o, (w2.alloc o).cell? ⟨L, 1, none⟩ = some (P k) := fun o => (World.cell?_alloc_lt _ _ _ hLlt).trans hc1
    have hbw : Below w2.heap.size w2 (w2.alloc (.cells #[.bool false, .slice none 0 0, .slice none 0 0] 47)).drew := below_new (Below.refl _ _) _
    have HBW := Lib.hid hbw
    have HF : Hid (Ops.Fit (w2.alloc (.cells #[.bool false, .slice none 0 0, .slice none 0 0] 47)).drew w2.heap.size) := Lib.hid ⟨_, _, _, _, _, _, _, (Blk.alloc w2 _ _).same rfl⟩
    have HR := Lib.hid (And.intro (hr.below hbw) (hr2.below hbw))
    have hne1 : w2.heap.size ≠ g := by omega
    have hne2 : w2.heap.size ≠ k := by omega
    clear hp hq hb2 hba hBA hBL hr hr2 hg hk hbw
    go_upto_region 4 with fail
    go_region_with (first
      | (go_at_call 110; refine (CmpWalk.add_calls p q (sz_a HQ.out.1 ha) (sz_b HQ.out.2 hb) g k w2.heap.size hne1 hne2 _ HR.out.1 HR.out.2 HF.out).mono ?_; rintro e w3 ⟨rfl, h1, h2, h3⟩)
      | (go_at_call 30; refine (RatTell.text_calls (p + q) ((Sizes.sz_add (sz_a HQ.out.1 ha) (sz_b HQ.out.2 hb)).mono (by omega)) _ _ (by assumption)).mono ?_; rintro e w4 ⟨rfl, h4⟩))
    all_goals
      have H := Lib.hid (And.intro h3 h4)
      clear h1 h2 h3 h4 ha0 ha1 hc0 hc1
      go_wp2_with fail
      go_ret2
      exact ⟨below_step (below_grown (below_step HB2.out HBW.out) H.out.1 HB2.out.size) H.out.2, .inl ⟨p, q, HQ.out.1, HQ.out.2, rfl⟩⟩
  · have hnil : ∀ W : World, (binOp .eql 115 (.slice none 0 0) (.slice none 0 0)).run Tryz.prog W = .ok (.bool true) W := fun _ => rfl
    have HB2 := Lib.hid (And.intro (below_step hba hb2) hn)
    clear hba hb2 hBA hn
    go_wp2_with fail
    go_ret2
    exact ⟨HB2.out.1, .inr ⟨HB2.out.2, rfl⟩⟩

set_option maxRecDepth 100000 in
set_option maxHeartbeats 1000000 in
theorem bin_mul (a b : ByteArray) (ha : a.size ≤ 100000000) (hb : b.size ≤ 100000000) (w : World) (hok : Ok w) :
    Calls Tryz.prog 109 #[.string a, .string b, .func (.func 131) #[] #[]] w (Out2 (fun p q => p * q) a.data.toList b.data.toList w) := by
  have HOK := Lib.hid hok
  clear hok
  go_enter Tryz.func109, Tryz.ntmps109
  go_wp2_with fail
  have hba : Below w.heap.size w (w.alloc (.cells #[.string a, .string b] 9)) := (Below.refl _ _).alloc (Nat.le_refl _) _
  have hBA : Blk (w.alloc (.cells #[.string a, .string b] 9)) w.heap.size #[.string a, .string b] := Blk.alloc _ _ _
  refine (PairWalk.calls a b ha hb _ _ (hBA.cell 0) (hBA.cell 1) (HOK.out.below hba)).mono ?_
  rintro e w2 ⟨hb2, ⟨p, q, g, k, L, hp, hq, rfl, hBL, hr, hr2, hg, hk⟩ | ⟨hn, rfl⟩⟩
  · have hnil : ∀ W : World, (binOp .eql 115 (.slice (some ⟨L, 0, none⟩) 2 2) (.slice none 0 0)).run Tryz.prog W = .ok (.bool false) W := fun _ => rfl
    have HQ := Lib.hid (And.intro hp hq)
    have HB2 := Lib.hid (below_step hba hb2)
    have hc0 : w2.cell? ⟨L, 0, none⟩ = some (P g) := hBL.cell 0
    have hc1 : w2.cell? ⟨L, 1, none⟩ = some (P k) := hBL.cell 1
    have hLlt := hBL.lt
    have hglt := hr.lt
    have hklt := hr2.lt
    have ha0 : ∀ o, (w2.alloc o).cell? ⟨L, 0, none⟩ = some (P g) := fun o => (World.cell?_alloc_lt _ _ _ hLlt).trans hc0
    have ha1 : ∀ o, (w2.alloc o).cell? ⟨L, 1, none⟩ = some (P k) := fun o => (World.cell?_alloc_lt _ _ _ hLlt).trans hc1
    have hbw : Below w2.heap.size w2 (w2.alloc (.cells #[.bool false, .slice none 0 0, .slice none 0 0] 47)).drew := below_new (Below.refl _ _) _
    have HBW := Lib.hid hbw
    have HF : Hid (Ops.Fit (w2.alloc (.cells #[.bool false, .slice none 0 0, .slice none 0 0] 47)).drew w2.heap.size) := Lib.hid ⟨_, _, _, _, _, _, _, (Blk.alloc w2 _ _).same rfl⟩
    have HR := Lib.hid (And.intro (hr.below hbw) (hr2.below hbw))
    have hne1 : w2.heap.size ≠ g := by omega
    have hne2 : w2.heap.size ≠ k := by omega
    clear hp hq hb2 hba hBA hBL hr hr2 hg hk hbw
    go_upto_region 4 with fail
    go_region_with (first
      | (go_at_call 131; refine (MulWalk.calls p q (sz_a HQ.out.1 ha) (sz_b HQ.out.2 hb) g k w2.heap.size hne1 hne2 _ HR.out.1 HR.out.2 HF.out).mono ?_; rintro e w3 ⟨rfl, h1, h2, h3⟩)
      | (go_at_call 30; refine (RatTell.text_calls (p * q) ((Sizes.sz_mul (sz_a HQ.out.1 ha) (sz_b HQ.out.2 hb)).mono (by omega)) _ _ (by assumption)).mono ?_; rintro e w4 ⟨rfl, h4⟩))
    all_goals
      have H := Lib.hid (And.intro h3 h4)
      clear h1 h2 h3 h4 ha0 ha1 hc0 hc1
      go_wp2_with fail
      go_ret2
      exact ⟨below_step (below_grown (below_step HB2.out HBW.out) H.out.1 HB2.out.size) H.out.2, .inl ⟨p, q, HQ.out.1, HQ.out.2, rfl⟩⟩
  · have hnil : ∀ W : World, (binOp .eql 115 (.slice none 0 0) (.slice none 0 0)).run Tryz.prog W = .ok (.bool true) W := fun _ => rfl
    have HB2 := Lib.hid (And.intro (below_step hba hb2) hn)
    clear hba hb2 hBA hn
    go_wp2_with fail
    go_ret2
    exact ⟨HB2.out.1, .inr ⟨HB2.out.2, rfl⟩⟩

set_option maxRecDepth 100000 in
set_option maxHeartbeats 1000000 in
theorem bin_quo (a b : ByteArray) (ha : a.size ≤ 100000000) (hb : b.size ≤ 100000000) (h0 : b.data.toList ≠ rtxt 0) (w : World) (hok : Ok w) :
    Calls Tryz.prog 109 #[.string a, .string b, .func (.func 111) #[] #[]] w (Out2 (fun p q => p / q) a.data.toList b.data.toList w) := by
  have HOK := Lib.hid hok
  clear hok
  go_enter Tryz.func109, Tryz.ntmps109
  go_wp2_with fail
  have hba : Below w.heap.size w (w.alloc (.cells #[.string a, .string b] 9)) := (Below.refl _ _).alloc (Nat.le_refl _) _
  have hBA : Blk (w.alloc (.cells #[.string a, .string b] 9)) w.heap.size #[.string a, .string b] := Blk.alloc _ _ _
  refine (PairWalk.calls a b ha hb _ _ (hBA.cell 0) (hBA.cell 1) (HOK.out.below hba)).mono ?_
  rintro e w2 ⟨hb2, ⟨p, q, g, k, L, hp, hq, rfl, hBL, hr, hr2, hg, hk⟩ | ⟨hn, rfl⟩⟩
  · have hnil : ∀ W : World, (binOp .eql 115 (.slice (some ⟨L, 0, none⟩) 2 2) (.slice none 0 0)).run Tryz.prog W = .ok (.bool false) W := fun _ => rfl
    have HQ := Lib.hid (And.intro hp hq)
    have HQ0 : Hid (q ≠ 0) := Lib.hid (fun e => h0 (by rw [hq, e]))
    have HB2 := Lib.hid (below_step hba hb2)
    have hc0 : w2.cell? ⟨L, 0, none⟩ = some (P g) := hBL.cell 0
    have hc1 : w2.cell? ⟨L, 1, none⟩ = some (P k) := hBL.cell 1
    have hLlt := hBL.lt
    have hglt := hr.lt
    have hklt := hr2.lt
    have ha0 : ∀ o, (w2.alloc o).cell? ⟨L, 0, none⟩ = some (P g) := fun o => (World.cell?_alloc_lt _ _ _ hLlt).trans hc0
    have ha1 : ∀ o, (w2.alloc o).cell? ⟨L, 1, none⟩ = some (P k) := fun o => (World.cell?_alloc_lt _ _ _ hLlt).trans hc1
    have hbw : Below w2.heap.size w2 (w2.alloc (.cells #[.bool false, .slice none 0 0, .slice none 0 0] 47)).drew := below_new (Below.refl _ _) _
    have HBW := Lib.hid hbw
    have HF : Hid (Ops.Fit (w2.alloc (.cells #[.bool false, .slice none 0 0, .slice none 0 0] 47)).drew w2.heap.size) := Lib.hid ⟨_, _, _, _, _, _, _, (Blk.alloc w2 _ _).same rfl⟩
    have HR := Lib.hid (And.intro (hr.below hbw) (hr2.below hbw))
    have hne1 : w2.heap.size ≠ g := by omega
    have hne2 : w2.heap.size ≠ k := by omega
    clear hp hq hb2 hba hBA hBL hr hr2 hg hk hbw
    go_upto_region 4 with fail
    go_region_with (first
      | (go_at_call 111; refine (QuoWalk.calls p q HQ0.out (sz_a HQ.out.1 ha) (sz_b HQ.out.2 hb) g k w2.heap.size hne1 hne2 _ HR.out.1 HR.out.2 HF.out).mono ?_; rintro e w3 ⟨rfl, h1, h2, h3⟩)
      | (go_at_call 30; refine (RatTell.text_calls (p / q) ((Sizes.sz_div (sz_a HQ.out.1 ha) (sz_b HQ.out.2 hb) HQ0.out).mono (by omega)) _ _ (by assumption)).mono ?_; rintro e w4 ⟨rfl, h4⟩))
    all_goals
      have H := Lib.hid (And.intro h3 h4)
      clear h1 h2 h3 h4 ha0 ha1 hc0 hc1
      go_wp2_with fail
      go_ret2
      exact ⟨below_step (below_grown (below_step HB2.out HBW.out) H.out.1 HB2.out.size) H.out.2, .inl ⟨p, q, HQ.out.1, HQ.out.2, rfl⟩⟩
  · have hnil : ∀ W : World, (binOp .eql 115 (.slice none 0 0) (.slice none 0 0)).run Tryz.prog W = .ok (.bool true) W := fun _ => rfl
    have HB2 := Lib.hid (And.intro (below_step hba hb2) hn)
    clear hba hb2 hBA hn
    go_wp2_with fail
    go_ret2
    exact ⟨HB2.out.1, .inr ⟨HB2.out.2, rfl⟩⟩

end Go.Proofs.YtjeamchaibialaaGreatDoor.Bins

/- num's calls over two texts: the walks. -/
namespace Go.Proofs.YtjeamchaibialaaGreatDoor.Nums
open Go.RowKit Go.Proofs.YtjeamchaibialaaGreatDoorW.PrintWords Go.Proofs.YtjeamchaibialaaGreatDoorW.PrintLast Go.Proofs.YtjeamchaibialaaGreatDoorW.PrintMore Fns Limbs Nats Go.Proofs.YtjeamchaibialaaGreatDoor.Told ReadWalk Texts Rats Parses Heaps Go.Proofs.YtjeamchaibialaaGreatDoor.Splits Go.Proofs.YtjeamchaibialaaGreatDoor.PutWalk Go.Proofs.YtjeamchaibialaaGreatDoor.PairWalk Go.Proofs.YtjeamchaibialaaGreatDoor.Bins

set_option maxRecDepth 100000 in
theorem add_calls (a b : ByteArray) (ha : a.size ≤ 100000000) (hb : b.size ≤ 100000000) (w : World) (hok : Ok w) :
    Calls Tryz.prog 64 #[.string a, .string b] w (Out2 (fun p q => p + q) a.data.toList b.data.toList w) := by
  go_enter Tryz.func64, Tryz.ntmps64
  go_wp2_with fail
  refine (bin_add a b ha hb _ hok).mono ?_
  rintro e w2 ⟨hb2, ⟨p, q, hp, hq, rfl⟩ | ⟨hn, rfl⟩⟩
  · have H := Lib.hid (And.intro hb2 (And.intro hp hq))
    clear hb2 hp hq
    go_wp2_with fail
    go_ret2
    exact ⟨H.out.1, .inl ⟨p, q, H.out.2.1, H.out.2.2, rfl⟩⟩
  · have H := Lib.hid (And.intro hb2 hn)
    clear hb2 hn
    go_wp2_with fail
    go_ret2
    exact ⟨H.out.1, .inr ⟨H.out.2, rfl⟩⟩

set_option maxRecDepth 100000 in
theorem mul_calls (a b : ByteArray) (ha : a.size ≤ 100000000) (hb : b.size ≤ 100000000) (w : World) (hok : Ok w) :
    Calls Tryz.prog 98 #[.string a, .string b] w (Out2 (fun p q => p * q) a.data.toList b.data.toList w) := by
  go_enter Tryz.func98, Tryz.ntmps98
  go_wp2_with fail
  refine (bin_mul a b ha hb _ hok).mono ?_
  rintro e w2 ⟨hb2, ⟨p, q, hp, hq, rfl⟩ | ⟨hn, rfl⟩⟩
  · have H := Lib.hid (And.intro hb2 (And.intro hp hq))
    clear hb2 hp hq
    go_wp2_with fail
    go_ret2
    exact ⟨H.out.1, .inl ⟨p, q, H.out.2.1, H.out.2.2, rfl⟩⟩
  · have H := Lib.hid (And.intro hb2 hn)
    clear hb2 hn
    go_wp2_with fail
    go_ret2
    exact ⟨H.out.1, .inr ⟨H.out.2, rfl⟩⟩

def OutQ (a b : List UInt8) (w : World) (e : Ending) (W : World) : Prop :=
  Below w.heap.size w W ∧ (
    (∃ p q, a = rtxt p ∧ b = rtxt q ∧ q ≠ 0 ∧ e = .returned (.tuple #[.string (bs (rtxt (p / q))), .int .i64 0])) ∨
    (∃ p, a = rtxt p ∧ b = rtxt 0 ∧ e = .returned (.tuple #[.string ⟨#[]⟩, .int .i64 2])) ∨
    (((∀ p, a ≠ rtxt p) ∨ (∀ q, b ≠ rtxt q)) ∧ e = .returned (.tuple #[.string ⟨#[]⟩, .int .i64 1])))
theorem rtxt_zero : rtxt 0 = [48] := by
  unfold rtxt
  simp [txt_small]
  rfl
set_option maxRecDepth 100000 in
set_option maxHeartbeats 400000 in
theorem quo_calls (a b : ByteArray) (ha : a.size ≤ 100000000) (hb : b.size ≤ 100000000) (w : World) (hok : Ok w) :
    Calls Tryz.prog 65 #[.string a, .string b] w (OutQ a.data.toList b.data.toList w) := by
  have HOK := Lib.hid hok
  clear hok
  go_enter Tryz.func65, Tryz.ntmps65
  go_wp2_with fail
  refine (ParseWalk.calls a ha _ HOK.out).mono ?_
  rintro e w2 ⟨ho, hb2⟩
  rcases ho with ⟨p, g, hp, rfl, hr, hg⟩ | ⟨hn, rfl⟩
  · have HP := Lib.hid hp
    have HB2 := Lib.hid hb2
    have HOK2 := Lib.hid (HOK.out.below hb2)
    clear hp hr hg hb2
    by_cases h0 : b.toList = [48]
    · have H0 : Hid (b.data.toList = rtxt 0) := Lib.hid (by rw [rtxt_zero, ← Lib.toList_data]; exact h0)
      go_wp2_with fail
      go_ret2
      exact ⟨HB2.out, .inr (.inl ⟨p, HP.out, H0.out, rfl⟩)⟩
    · have h0b : (b.toList == [48]) = false := beq_eq_false_iff_ne.2 h0
      have H0 : Hid (b.data.toList ≠ rtxt 0) := Lib.hid (by rw [rtxt_zero, ← Lib.toList_data]; exact h0)
      go_wp2_with fail
      refine (bin_quo a b ha hb H0.out _ HOK2.out).mono ?_
      rintro e w3 ⟨hb3, ⟨p', q, hp', hq, rfl⟩ | ⟨hn, rfl⟩⟩
      · have H := Lib.hid (And.intro (below_step HB2.out hb3) (And.intro hp' hq))
        clear hb3 hp' hq
        go_wp2_with fail
        go_ret2
        exact ⟨H.out.1, .inl ⟨p', q, H.out.2.1, H.out.2.2, fun e => H0.out (by rw [H.out.2.2, e]), rfl⟩⟩
      · have H := Lib.hid (And.intro (below_step HB2.out hb3) hn)
        clear hb3 hn
        go_wp2_with fail
        go_ret2
        exact ⟨H.out.1, .inr (.inr ⟨H.out.2, rfl⟩)⟩
  · have H := Lib.hid (And.intro hb2 hn)
    clear hb2 hn
    go_wp2_with fail
    go_ret2
    exact ⟨H.out.1, .inr (.inr ⟨.inl H.out.2, rfl⟩)⟩

def OutC (a b : List UInt8) (w : World) (e : Ending) (W : World) : Prop :=
  Below w.heap.size w W ∧ (
    (∃ p q, a = rtxt p ∧ b = rtxt q ∧ e = .returned (.tuple #[.int .i64 (CmpWalk.cmpQ p q), .int .i64 0])) ∨
    (((∀ p, a ≠ rtxt p) ∨ (∀ q, b ≠ rtxt q)) ∧ e = .returned (.tuple #[.int .i64 0, .int .i64 1])))
set_option maxRecDepth 100000 in
set_option maxHeartbeats 1000000 in
theorem cmp_calls (a b : ByteArray) (ha : a.size ≤ 100000000) (hb : b.size ≤ 100000000) (w : World) (hok : Ok w) :
    Calls Tryz.prog 54 #[.string a, .string b] w (OutC a.data.toList b.data.toList w) := by
  have HOK := Lib.hid hok
  clear hok
  go_enter Tryz.func54, Tryz.ntmps54
  go_wp2_with fail
  have hba : Below w.heap.size w (w.alloc (.cells #[.string a, .string b] 9)) := (Below.refl _ _).alloc (Nat.le_refl _) _
  have hBA : Blk (w.alloc (.cells #[.string a, .string b] 9)) w.heap.size #[.string a, .string b] := Blk.alloc _ _ _
  refine (PairWalk.calls a b ha hb _ _ (hBA.cell 0) (hBA.cell 1) (HOK.out.below hba)).mono ?_
  rintro e w2 ⟨hb2, ⟨p, q, g, k, L, hp, hq, rfl, hBL, hr, hr2, hg, hk⟩ | ⟨hn, rfl⟩⟩
  · have hnil : ∀ W : World, (binOp .eql 115 (.slice (some ⟨L, 0, none⟩) 2 2) (.slice none 0 0)).run Tryz.prog W = .ok (.bool false) W := fun _ => rfl
    have HQ := Lib.hid (And.intro hp hq)
    have HB2 := Lib.hid (below_step hba hb2)
    have hc0 : w2.cell? ⟨L, 0, none⟩ = some (P g) := hBL.cell 0
    have hc1 : w2.cell? ⟨L, 1, none⟩ = some (P k) := hBL.cell 1
    have hd : Below w2.heap.size w2 w2.drew := Drawn0.below ⟨1, rfl⟩
    have HR := Lib.hid (And.intro (hr.below hd) (And.intro (hr2.below hd) hd))
    clear hp hq hb2 hba hBA hBL hr hr2 hg hk hd
    go_upto_region 4 with fail
    go_region_with (go_at_call 27; refine (CmpWalk.calls p q (sz_a HQ.out.1 ha) (sz_b HQ.out.2 hb) g k _ HR.out.1 HR.out.2.1).mono ?_; rintro e w3 ⟨rfl, h1⟩)
    all_goals
      have H := Lib.hid h1
      clear h1 hc0 hc1
      go_wp2_with fail
      go_ret2
      exact ⟨below_step (below_step HB2.out HR.out.2.2) H.out, .inl ⟨p, q, HQ.out.1, HQ.out.2, rfl⟩⟩
  · have hnil : ∀ W : World, (binOp .eql 115 (.slice none 0 0) (.slice none 0 0)).run Tryz.prog W = .ok (.bool true) W := fun _ => rfl
    have HB2 := Lib.hid (And.intro (below_step hba hb2) hn)
    clear hba hb2 hBA hn
    go_wp2_with fail
    go_ret2
    exact ⟨HB2.out.1, .inr ⟨HB2.out.2, rfl⟩⟩

end Go.Proofs.YtjeamchaibialaaGreatDoor.Nums
