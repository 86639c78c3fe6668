/- Joined: Bins Nums Laws Sums Top -/
import Derived.Test.YtjeamchaibialaaDoorM5
import Derived.Deep.RegionWith
import Derived.Test.YtjeamchaibialaaDoorM4
set_option linter.unusedVariables false
set_option linter.unusedSimpArgs false
/- num's Add, Sub, Mul, Quo over texts: the walks. -/
namespace Go.Proofs.YtjeamchaibialaaDoor.Bins
open Go.RowKit Go.Proofs.YtjeamchaibialaaDoorW.PrintWords Go.Proofs.YtjeamchaibialaaDoorW.PrintLast Go.Proofs.YtjeamchaibialaaDoorW.PrintMore Go.Proofs.YtjeamchaibialaaDoor.Fns Go.Proofs.YtjeamchaibialaaDoor.Limbs Go.Proofs.YtjeamchaibialaaDoor.Nats Go.Proofs.YtjeamchaibialaaDoor.Told Go.Proofs.YtjeamchaibialaaDoor.ReadWalk Go.Proofs.YtjeamchaibialaaDoor.Texts Go.Proofs.YtjeamchaibialaaDoor.Rats Go.Proofs.YtjeamchaibialaaDoor.Parses Go.Proofs.YtjeamchaibialaaDoor.Heaps Go.Proofs.YtjeamchaibialaaDoor.Splits Go.Proofs.YtjeamchaibialaaDoor.PutWalk Go.Proofs.YtjeamchaibialaaDoor.PairWalk

/-- a text -/
abbrev bs (l : List UInt8) : ByteArray := ⟨l.toArray⟩
/-- what a call over two texts answers -/
def Out2 (f : Rat → Rat → Rat) (a b : List UInt8) (w : World) (e : Ending) (W : World) : Prop :=
  Below w.heap.size w W ∧ (
    (∃ p q, a = rtxt p ∧ b = rtxt q ∧ e = .returned (.tuple #[.string (bs (rtxt (f p q))), .int .i64 0])) ∨
    (((∀ p, a ≠ rtxt p) ∨ (∀ q, b ≠ rtxt q)) ∧ e = .returned (.tuple #[.string ⟨#[]⟩, .int .i64 1])))
theorem sz_a {a : ByteArray} {p : Rat} (h : a.data.toList = rtxt p) (ha : a.size ≤ 100000000) : Sizes.Sz p 40000000 := by
  have h1 := Sizes.sz_rtxt p
  rw [← h, ← Lib.size_eq] at h1
  exact h1.mono (by omega)
theorem sz_b {a : ByteArray} {p : Rat} (h : a.data.toList = rtxt p) (ha : a.size ≤ 100000000) : Sizes.Sz p 40000000 := sz_a h ha

set_option maxRecDepth 100000 in
set_option maxHeartbeats 1000000 in
theorem bin_add (a b : ByteArray) (ha : a.size ≤ 100000000) (hb : b.size ≤ 100000000) (w : World) (hok : Ok w) :
    Calls Tryd.prog 55 #[.string a, .string b, .func (.func 70) #[] #[]] w (Out2 (fun p q => p + q) a.data.toList b.data.toList w) := by
  have HOK := Lib.hid hok
  clear hok
  go_enter Tryd.func55, Tryd.ntmps55
  go_wp2_with fail
  have hba : Below w.heap.size w (w.alloc (.cells #[.string a, .string b] 9)) := (Below.refl _ _).alloc (Nat.le_refl _) _
  have hBA : Blk (w.alloc (.cells #[.string a, .string b] 9)) w.heap.size #[.string a, .string b] := Blk.alloc _ _ _
  refine (PairWalk.calls a b ha hb _ _ (hBA.cell 0) (hBA.cell 1) (HOK.out.below hba)).mono ?_
  rintro e w2 ⟨hb2, ⟨p, q, g, k, L, hp, hq, rfl, hBL, hr, hr2, hg, hk⟩ | ⟨hn, rfl⟩⟩
  · have hnil : ∀ W : World, (binOp .eql 76 (.slice (some ⟨L, 0, none⟩) 2 2) (.slice none 0 0)).run Tryd.prog W = .ok (.bool false) W := fun _ => rfl
    have HQ := Lib.hid (And.intro hp hq)
    have HB2 := Lib.hid (below_step hba hb2)
    have hc0 : w2.cell? ⟨L, 0, none⟩ = some (P g) := hBL.cell 0
    have hc1 : w2.cell? ⟨L, 1, none⟩ = some (P k) := hBL.cell 1
    have hLlt := hBL.lt
    have hglt := hr.lt
    have hklt := hr2.lt
    have ha0 : ∀ o, (w2.alloc o).cell? ⟨L, 0, none⟩ = some (P g) := fun o => (World.cell?_alloc_lt _ _ _ hLlt).trans hc0
    have ha1 : ∀ o, (w2.alloc o).cell? ⟨L, 1, none⟩ = some (P k) := fun o => (World.cell?_alloc_lt _ _ _ hLlt).trans hc1
    have hbw : Below w2.heap.size w2 (w2.alloc (.cells #[.bool false, .slice none 0 0, .slice none 0 0] 48)).drew := below_new (Below.refl _ _) _
    have HBW := Lib.hid hbw
    have HF : Hid (Ops.Fit (w2.alloc (.cells #[.bool false, .slice none 0 0, .slice none 0 0] 48)).drew w2.heap.size) := Lib.hid ⟨_, _, _, _, _, _, _, (Blk.alloc w2 _ _).same rfl⟩
    have HR := Lib.hid (And.intro (hr.below hbw) (hr2.below hbw))
    have hne1 : w2.heap.size ≠ g := by omega
    have hne2 : w2.heap.size ≠ k := by omega
    clear hp hq hb2 hba hBA hBL hr hr2 hg hk hbw
    go_upto_region 4 with fail
    go_region_with (first
      | (go_at_call 70; refine (CmpWalk.add_calls p q (sz_a HQ.out.1 ha) (sz_b HQ.out.2 hb) g k w2.heap.size hne1 hne2 _ HR.out.1 HR.out.2 HF.out).mono ?_; rintro e w3 ⟨rfl, h1, h2, h3⟩)
      | (go_at_call 44; refine (RatTell.text_calls (p + q) ((Sizes.sz_add (sz_a HQ.out.1 ha) (sz_b HQ.out.2 hb)).mono (by omega)) _ _ (by assumption)).mono ?_; rintro e w4 ⟨rfl, h4⟩))
    all_goals
      have H := Lib.hid (And.intro h3 h4)
      clear h1 h2 h3 h4 ha0 ha1 hc0 hc1
      go_wp2_with fail
      go_ret2
      exact ⟨below_step (below_grown (below_step HB2.out HBW.out) H.out.1 HB2.out.size) H.out.2, .inl ⟨p, q, HQ.out.1, HQ.out.2, rfl⟩⟩
  · have hnil : ∀ W : World, (binOp .eql 76 (.slice none 0 0) (.slice none 0 0)).run Tryd.prog W = .ok (.bool true) W := fun _ => rfl
    have HB2 := Lib.hid (And.intro (below_step hba hb2) hn)
    clear hba hb2 hBA hn
    go_wp2_with fail
    go_ret2
    exact ⟨HB2.out.1, .inr ⟨HB2.out.2, rfl⟩⟩

set_option maxRecDepth 100000 in
set_option maxHeartbeats 1000000 in
theorem bin_sub (a b : ByteArray) (ha : a.size ≤ 100000000) (hb : b.size ≤ 100000000) (w : World) (hok : Ok w) :
    Calls Tryd.prog 55 #[.string a, .string b, .func (.func 72) #[] #[]] w (Out2 (fun p q => p - q) a.data.toList b.data.toList w) := by
  have HOK := Lib.hid hok
  clear hok
  go_enter Tryd.func55, Tryd.ntmps55
  go_wp2_with fail
  have hba : Below w.heap.size w (w.alloc (.cells #[.string a, .string b] 9)) := (Below.refl _ _).alloc (Nat.le_refl _) _
  have hBA : Blk (w.alloc (.cells #[.string a, .string b] 9)) w.heap.size #[.string a, .string b] := Blk.alloc _ _ _
  refine (PairWalk.calls a b ha hb _ _ (hBA.cell 0) (hBA.cell 1) (HOK.out.below hba)).mono ?_
  rintro e w2 ⟨hb2, ⟨p, q, g, k, L, hp, hq, rfl, hBL, hr, hr2, hg, hk⟩ | ⟨hn, rfl⟩⟩
  · have hnil : ∀ W : World, (binOp .eql 76 (.slice (some ⟨L, 0, none⟩) 2 2) (.slice none 0 0)).run Tryd.prog W = .ok (.bool false) W := fun _ => rfl
    have HQ := Lib.hid (And.intro hp hq)
    have HB2 := Lib.hid (below_step hba hb2)
    have hc0 : w2.cell? ⟨L, 0, none⟩ = some (P g) := hBL.cell 0
    have hc1 : w2.cell? ⟨L, 1, none⟩ = some (P k) := hBL.cell 1
    have hLlt := hBL.lt
    have hglt := hr.lt
    have hklt := hr2.lt
    have ha0 : ∀ o, (w2.alloc o).cell? ⟨L, 0, none⟩ = some (P g) := fun o => (World.cell?_alloc_lt _ _ _ hLlt).trans hc0
    have ha1 : ∀ o, (w2.alloc o).cell? ⟨L, 1, none⟩ = some (P k) := fun o => (World.cell?_alloc_lt _ _ _ hLlt).trans hc1
    have hbw : Below w2.heap.size w2 (w2.alloc (.cells #[.bool false, .slice none 0 0, .slice none 0 0] 48)).drew := below_new (Below.refl _ _) _
    have HBW := Lib.hid hbw
    have HF : Hid (Ops.Fit (w2.alloc (.cells #[.bool false, .slice none 0 0, .slice none 0 0] 48)).drew w2.heap.size) := Lib.hid ⟨_, _, _, _, _, _, _, (Blk.alloc w2 _ _).same rfl⟩
    have HR := Lib.hid (And.intro (hr.below hbw) (hr2.below hbw))
    have hne1 : w2.heap.size ≠ g := by omega
    have hne2 : w2.heap.size ≠ k := by omega
    clear hp hq hb2 hba hBA hBL hr hr2 hg hk hbw
    go_upto_region 4 with fail
    go_region_with (first
      | (go_at_call 72; refine (CmpWalk.sub_calls p q (sz_a HQ.out.1 ha) (sz_b HQ.out.2 hb) g k w2.heap.size hne1 hne2 _ HR.out.1 HR.out.2 HF.out).mono ?_; rintro e w3 ⟨rfl, h1, h2, h3⟩)
      | (go_at_call 44; refine (RatTell.text_calls (p - q) ((Sizes.sz_sub (sz_a HQ.out.1 ha) (sz_b HQ.out.2 hb)).mono (by omega)) _ _ (by assumption)).mono ?_; rintro e w4 ⟨rfl, h4⟩))
    all_goals
      have H := Lib.hid (And.intro h3 h4)
      clear h1 h2 h3 h4 ha0 ha1 hc0 hc1
      go_wp2_with fail
      go_ret2
      exact ⟨below_step (below_grown (below_step HB2.out HBW.out) H.out.1 HB2.out.size) H.out.2, .inl ⟨p, q, HQ.out.1, HQ.out.2, rfl⟩⟩
  · have hnil : ∀ W : World, (binOp .eql 76 (.slice none 0 0) (.slice none 0 0)).run Tryd.prog W = .ok (.bool true) W := fun _ => rfl
    have HB2 := Lib.hid (And.intro (below_step hba hb2) hn)
    clear hba hb2 hBA hn
    go_wp2_with fail
    go_ret2
    exact ⟨HB2.out.1, .inr ⟨HB2.out.2, rfl⟩⟩

set_option maxRecDepth 100000 in
set_option maxHeartbeats 1000000 in
theorem bin_mul (a b : ByteArray) (ha : a.size ≤ 100000000) (hb : b.size ≤ 100000000) (w : World) (hok : Ok w) :
    Calls Tryd.prog 55 #[.string a, .string b, .func (.func 56) #[] #[]] w (Out2 (fun p q => p * q) a.data.toList b.data.toList w) := by
  have HOK := Lib.hid hok
  clear hok
  go_enter Tryd.func55, Tryd.ntmps55
  go_wp2_with fail
  have hba : Below w.heap.size w (w.alloc (.cells #[.string a, .string b] 9)) := (Below.refl _ _).alloc (Nat.le_refl _) _
  have hBA : Blk (w.alloc (.cells #[.string a, .string b] 9)) w.heap.size #[.string a, .string b] := Blk.alloc _ _ _
  refine (PairWalk.calls a b ha hb _ _ (hBA.cell 0) (hBA.cell 1) (HOK.out.below hba)).mono ?_
  rintro e w2 ⟨hb2, ⟨p, q, g, k, L, hp, hq, rfl, hBL, hr, hr2, hg, hk⟩ | ⟨hn, rfl⟩⟩
  · have hnil : ∀ W : World, (binOp .eql 76 (.slice (some ⟨L, 0, none⟩) 2 2) (.slice none 0 0)).run Tryd.prog W = .ok (.bool false) W := fun _ => rfl
    have HQ := Lib.hid (And.intro hp hq)
    have HB2 := Lib.hid (below_step hba hb2)
    have hc0 : w2.cell? ⟨L, 0, none⟩ = some (P g) := hBL.cell 0
    have hc1 : w2.cell? ⟨L, 1, none⟩ = some (P k) := hBL.cell 1
    have hLlt := hBL.lt
    have hglt := hr.lt
    have hklt := hr2.lt
    have ha0 : ∀ o, (w2.alloc o).cell? ⟨L, 0, none⟩ = some (P g) := fun o => (World.cell?_alloc_lt _ _ _ hLlt).trans hc0
    have ha1 : ∀ o, (w2.alloc o).cell? ⟨L, 1, none⟩ = some (P k) := fun o => (World.cell?_alloc_lt _ _ _ hLlt).trans hc1
    have hbw : Below w2.heap.size w2 (w2.alloc (.cells #[.bool false, .slice none 0 0, .slice none 0 0] 48)).drew := below_new (Below.refl _ _) _
    have HBW := Lib.hid hbw
    have HF : Hid (Ops.Fit (w2.alloc (.cells #[.bool false, .slice none 0 0, .slice none 0 0] 48)).drew w2.heap.size) := Lib.hid ⟨_, _, _, _, _, _, _, (Blk.alloc w2 _ _).same rfl⟩
    have HR := Lib.hid (And.intro (hr.below hbw) (hr2.below hbw))
    have hne1 : w2.heap.size ≠ g := by omega
    have hne2 : w2.heap.size ≠ k := by omega
    clear hp hq hb2 hba hBA hBL hr hr2 hg hk hbw
    go_upto_region 4 with fail
    go_region_with (first
      | (go_at_call 56; refine (MulWalk.calls p q (sz_a HQ.out.1 ha) (sz_b HQ.out.2 hb) g k w2.heap.size hne1 hne2 _ HR.out.1 HR.out.2 HF.out).mono ?_; rintro e w3 ⟨rfl, h1, h2, h3⟩)
      | (go_at_call 44; refine (RatTell.text_calls (p * q) ((Sizes.sz_mul (sz_a HQ.out.1 ha) (sz_b HQ.out.2 hb)).mono (by omega)) _ _ (by assumption)).mono ?_; rintro e w4 ⟨rfl, h4⟩))
    all_goals
      have H := Lib.hid (And.intro h3 h4)
      clear h1 h2 h3 h4 ha0 ha1 hc0 hc1
      go_wp2_with fail
      go_ret2
      exact ⟨below_step (below_grown (below_step HB2.out HBW.out) H.out.1 HB2.out.size) H.out.2, .inl ⟨p, q, HQ.out.1, HQ.out.2, rfl⟩⟩
  · have hnil : ∀ W : World, (binOp .eql 76 (.slice none 0 0) (.slice none 0 0)).run Tryd.prog W = .ok (.bool true) W := fun _ => rfl
    have HB2 := Lib.hid (And.intro (below_step hba hb2) hn)
    clear hba hb2 hBA hn
    go_wp2_with fail
    go_ret2
    exact ⟨HB2.out.1, .inr ⟨HB2.out.2, rfl⟩⟩

set_option maxRecDepth 100000 in
set_option maxHeartbeats 1000000 in
theorem bin_quo (a b : ByteArray) (ha : a.size ≤ 100000000) (hb : b.size ≤ 100000000) (h0 : b.data.toList ≠ rtxt 0) (w : World) (hok : Ok w) :
    Calls Tryd.prog 55 #[.string a, .string b, .func (.func 60) #[] #[]] w (Out2 (fun p q => p / q) a.data.toList b.data.toList w) := by
  have HOK := Lib.hid hok
  clear hok
  go_enter Tryd.func55, Tryd.ntmps55
  go_wp2_with fail
  have hba : Below w.heap.size w (w.alloc (.cells #[.string a, .string b] 9)) := (Below.refl _ _).alloc (Nat.le_refl _) _
  have hBA : Blk (w.alloc (.cells #[.string a, .string b] 9)) w.heap.size #[.string a, .string b] := Blk.alloc _ _ _
  refine (PairWalk.calls a b ha hb _ _ (hBA.cell 0) (hBA.cell 1) (HOK.out.below hba)).mono ?_
  rintro e w2 ⟨hb2, ⟨p, q, g, k, L, hp, hq, rfl, hBL, hr, hr2, hg, hk⟩ | ⟨hn, rfl⟩⟩
  · have hnil : ∀ W : World, (binOp .eql 76 (.slice (some ⟨L, 0, none⟩) 2 2) (.slice none 0 0)).run Tryd.prog W = .ok (.bool false) W := fun _ => rfl
    have HQ := Lib.hid (And.intro hp hq)
    have HQ0 : Hid (q ≠ 0) := Lib.hid (fun e => h0 (by rw [hq, e]))
    have HB2 := Lib.hid (below_step hba hb2)
    have hc0 : w2.cell? ⟨L, 0, none⟩ = some (P g) := hBL.cell 0
    have hc1 : w2.cell? ⟨L, 1, none⟩ = some (P k) := hBL.cell 1
    have hLlt := hBL.lt
    have hglt := hr.lt
    have hklt := hr2.lt
    have ha0 : ∀ o, (w2.alloc o).cell? ⟨L, 0, none⟩ = some (P g) := fun o => (World.cell?_alloc_lt _ _ _ hLlt).trans hc0
    have ha1 : ∀ o, (w2.alloc o).cell? ⟨L, 1, none⟩ = some (P k) := fun o => (World.cell?_alloc_lt _ _ _ hLlt).trans hc1
    have hbw : Below w2.heap.size w2 (w2.alloc (.cells #[.bool false, .slice none 0 0, .slice none 0 0] 48)).drew := below_new (Below.refl _ _) _
    have HBW := Lib.hid hbw
    have HF : Hid (Ops.Fit (w2.alloc (.cells #[.bool false, .slice none 0 0, .slice none 0 0] 48)).drew w2.heap.size) := Lib.hid ⟨_, _, _, _, _, _, _, (Blk.alloc w2 _ _).same rfl⟩
    have HR := Lib.hid (And.intro (hr.below hbw) (hr2.below hbw))
    have hne1 : w2.heap.size ≠ g := by omega
    have hne2 : w2.heap.size ≠ k := by omega
    clear hp hq hb2 hba hBA hBL hr hr2 hg hk hbw
    go_upto_region 4 with fail
    go_region_with (first
      | (go_at_call 60; refine (QuoWalk.calls p q HQ0.out (sz_a HQ.out.1 ha) (sz_b HQ.out.2 hb) g k w2.heap.size hne1 hne2 _ HR.out.1 HR.out.2 HF.out).mono ?_; rintro e w3 ⟨rfl, h1, h2, h3⟩)
      | (go_at_call 44; refine (RatTell.text_calls (p / q) ((Sizes.sz_div (sz_a HQ.out.1 ha) (sz_b HQ.out.2 hb) HQ0.out).mono (by omega)) _ _ (by assumption)).mono ?_; rintro e w4 ⟨rfl, h4⟩))
    all_goals
      have H := Lib.hid (And.intro h3 h4)
      clear h1 h2 h3 h4 ha0 ha1 hc0 hc1
      go_wp2_with fail
      go_ret2
      exact ⟨below_step (below_grown (below_step HB2.out HBW.out) H.out.1 HB2.out.size) H.out.2, .inl ⟨p, q, HQ.out.1, HQ.out.2, rfl⟩⟩
  · have hnil : ∀ W : World, (binOp .eql 76 (.slice none 0 0) (.slice none 0 0)).run Tryd.prog W = .ok (.bool true) W := fun _ => rfl
    have HB2 := Lib.hid (And.intro (below_step hba hb2) hn)
    clear hba hb2 hBA hn
    go_wp2_with fail
    go_ret2
    exact ⟨HB2.out.1, .inr ⟨HB2.out.2, rfl⟩⟩

end Go.Proofs.YtjeamchaibialaaDoor.Bins

/- num's calls over two texts: the walks. -/
namespace Go.Proofs.YtjeamchaibialaaDoor.Nums
open Go.RowKit Go.Proofs.YtjeamchaibialaaDoorW.PrintWords Go.Proofs.YtjeamchaibialaaDoorW.PrintLast Go.Proofs.YtjeamchaibialaaDoorW.PrintMore Go.Proofs.YtjeamchaibialaaDoor.Fns Go.Proofs.YtjeamchaibialaaDoor.Limbs Go.Proofs.YtjeamchaibialaaDoor.Nats Go.Proofs.YtjeamchaibialaaDoor.Told Go.Proofs.YtjeamchaibialaaDoor.ReadWalk Go.Proofs.YtjeamchaibialaaDoor.Texts Go.Proofs.YtjeamchaibialaaDoor.Rats Go.Proofs.YtjeamchaibialaaDoor.Parses Go.Proofs.YtjeamchaibialaaDoor.Heaps Go.Proofs.YtjeamchaibialaaDoor.Splits Go.Proofs.YtjeamchaibialaaDoor.PutWalk Go.Proofs.YtjeamchaibialaaDoor.PairWalk Go.Proofs.YtjeamchaibialaaDoor.Bins

set_option maxRecDepth 100000 in
theorem add_calls (a b : ByteArray) (ha : a.size ≤ 100000000) (hb : b.size ≤ 100000000) (w : World) (hok : Ok w) :
    Calls Tryd.prog 24 #[.string a, .string b] w (Out2 (fun p q => p + q) a.data.toList b.data.toList w) := by
  go_enter Tryd.func24, Tryd.ntmps24
  go_wp2_with fail
  refine (bin_add a b ha hb _ hok).mono ?_
  rintro e w2 ⟨hb2, ⟨p, q, hp, hq, rfl⟩ | ⟨hn, rfl⟩⟩
  · have H := Lib.hid (And.intro hb2 (And.intro hp hq))
    clear hb2 hp hq
    go_wp2_with fail
    go_ret2
    exact ⟨H.out.1, .inl ⟨p, q, H.out.2.1, H.out.2.2, rfl⟩⟩
  · have H := Lib.hid (And.intro hb2 hn)
    clear hb2 hn
    go_wp2_with fail
    go_ret2
    exact ⟨H.out.1, .inr ⟨H.out.2, rfl⟩⟩

set_option maxRecDepth 100000 in
theorem sub_calls (a b : ByteArray) (ha : a.size ≤ 100000000) (hb : b.size ≤ 100000000) (w : World) (hok : Ok w) :
    Calls Tryd.prog 26 #[.string a, .string b] w (Out2 (fun p q => p - q) a.data.toList b.data.toList w) := by
  go_enter Tryd.func26, Tryd.ntmps26
  go_wp2_with fail
  refine (bin_sub a b ha hb _ hok).mono ?_
  rintro e w2 ⟨hb2, ⟨p, q, hp, hq, rfl⟩ | ⟨hn, rfl⟩⟩
  · have H := Lib.hid (And.intro hb2 (And.intro hp hq))
    clear hb2 hp hq
    go_wp2_with fail
    go_ret2
    exact ⟨H.out.1, .inl ⟨p, q, H.out.2.1, H.out.2.2, rfl⟩⟩
  · have H := Lib.hid (And.intro hb2 hn)
    clear hb2 hn
    go_wp2_with fail
    go_ret2
    exact ⟨H.out.1, .inr ⟨H.out.2, rfl⟩⟩

set_option maxRecDepth 100000 in
theorem mul_calls (a b : ByteArray) (ha : a.size ≤ 100000000) (hb : b.size ≤ 100000000) (w : World) (hok : Ok w) :
    Calls Tryd.prog 16 #[.string a, .string b] w (Out2 (fun p q => p * q) a.data.toList b.data.toList w) := by
  go_enter Tryd.func16, Tryd.ntmps16
  go_wp2_with fail
  refine (bin_mul a b ha hb _ hok).mono ?_
  rintro e w2 ⟨hb2, ⟨p, q, hp, hq, rfl⟩ | ⟨hn, rfl⟩⟩
  · have H := Lib.hid (And.intro hb2 (And.intro hp hq))
    clear hb2 hp hq
    go_wp2_with fail
    go_ret2
    exact ⟨H.out.1, .inl ⟨p, q, H.out.2.1, H.out.2.2, rfl⟩⟩
  · have H := Lib.hid (And.intro hb2 hn)
    clear hb2 hn
    go_wp2_with fail
    go_ret2
    exact ⟨H.out.1, .inr ⟨H.out.2, rfl⟩⟩

/-- what Quo answers -/
def OutQ (a b : List UInt8) (w : World) (e : Ending) (W : World) : Prop :=
  Below w.heap.size w W ∧ (
    (∃ p q, a = rtxt p ∧ b = rtxt q ∧ q ≠ 0 ∧ e = .returned (.tuple #[.string (bs (rtxt (p / q))), .int .i64 0])) ∨
    (∃ p, a = rtxt p ∧ b = rtxt 0 ∧ e = .returned (.tuple #[.string ⟨#[]⟩, .int .i64 2])) ∨
    (((∀ p, a ≠ rtxt p) ∨ (∀ q, b ≠ rtxt q)) ∧ e = .returned (.tuple #[.string ⟨#[]⟩, .int .i64 1])))
theorem rtxt_zero : rtxt 0 = [48] := by
  unfold rtxt
  simp [txt_small]
  rfl
set_option maxRecDepth 100000 in
set_option maxHeartbeats 400000 in
theorem quo_calls (a b : ByteArray) (ha : a.size ≤ 100000000) (hb : b.size ≤ 100000000) (w : World) (hok : Ok w) :
    Calls Tryd.prog 18 #[.string a, .string b] w (OutQ a.data.toList b.data.toList w) := by
  have HOK := Lib.hid hok
  clear hok
  go_enter Tryd.func18, Tryd.ntmps18
  go_wp2_with fail
  refine (ParseWalk.calls a ha _ HOK.out).mono ?_
  rintro e w2 ⟨ho, hb2⟩
  rcases ho with ⟨p, g, hp, rfl, hr, hg⟩ | ⟨hn, rfl⟩
  · have HP := Lib.hid hp
    have HB2 := Lib.hid hb2
    have HOK2 := Lib.hid (HOK.out.below hb2)
    clear hp hr hg hb2
    by_cases h0 : b.toList = [48]
    · have H0 : Hid (b.data.toList = rtxt 0) := Lib.hid (by rw [rtxt_zero, ← Lib.toList_data]; exact h0)
      go_wp2_with fail
      go_ret2
      exact ⟨HB2.out, .inr (.inl ⟨p, HP.out, H0.out, rfl⟩)⟩
    · have h0b : (b.toList == [48]) = false := beq_eq_false_iff_ne.2 h0
      have H0 : Hid (b.data.toList ≠ rtxt 0) := Lib.hid (by rw [rtxt_zero, ← Lib.toList_data]; exact h0)
      go_wp2_with fail
      refine (bin_quo a b ha hb H0.out _ HOK2.out).mono ?_
      rintro e w3 ⟨hb3, ⟨p', q, hp', hq, rfl⟩ | ⟨hn, rfl⟩⟩
      · have H := Lib.hid (And.intro (below_step HB2.out hb3) (And.intro hp' hq))
        clear hb3 hp' hq
        go_wp2_with fail
        go_ret2
        exact ⟨H.out.1, .inl ⟨p', q, H.out.2.1, H.out.2.2, fun e => H0.out (by rw [H.out.2.2, e]), rfl⟩⟩
      · have H := Lib.hid (And.intro (below_step HB2.out hb3) hn)
        clear hb3 hn
        go_wp2_with fail
        go_ret2
        exact ⟨H.out.1, .inr (.inr ⟨H.out.2, rfl⟩)⟩
  · have H := Lib.hid (And.intro hb2 hn)
    clear hb2 hn
    go_wp2_with fail
    go_ret2
    exact ⟨H.out.1, .inr (.inr ⟨.inl H.out.2, rfl⟩)⟩

/-- what Cmp answers -/
def OutC (a b : List UInt8) (w : World) (e : Ending) (W : World) : Prop :=
  Below w.heap.size w W ∧ (
    (∃ p q, a = rtxt p ∧ b = rtxt q ∧ e = .returned (.tuple #[.int .i64 (CmpWalk.cmpQ p q), .int .i64 0])) ∨
    (((∀ p, a ≠ rtxt p) ∨ (∀ q, b ≠ rtxt q)) ∧ e = .returned (.tuple #[.int .i64 0, .int .i64 1])))
set_option maxRecDepth 100000 in
set_option maxHeartbeats 1000000 in
theorem cmp_calls (a b : ByteArray) (ha : a.size ≤ 100000000) (hb : b.size ≤ 100000000) (w : World) (hok : Ok w) :
    Calls Tryd.prog 20 #[.string a, .string b] w (OutC a.data.toList b.data.toList w) := by
  have HOK := Lib.hid hok
  clear hok
  go_enter Tryd.func20, Tryd.ntmps20
  go_wp2_with fail
  have hba : Below w.heap.size w (w.alloc (.cells #[.string a, .string b] 9)) := (Below.refl _ _).alloc (Nat.le_refl _) _
  have hBA : Blk (w.alloc (.cells #[.string a, .string b] 9)) w.heap.size #[.string a, .string b] := Blk.alloc _ _ _
  refine (PairWalk.calls a b ha hb _ _ (hBA.cell 0) (hBA.cell 1) (HOK.out.below hba)).mono ?_
  rintro e w2 ⟨hb2, ⟨p, q, g, k, L, hp, hq, rfl, hBL, hr, hr2, hg, hk⟩ | ⟨hn, rfl⟩⟩
  · have hnil : ∀ W : World, (binOp .eql 76 (.slice (some ⟨L, 0, none⟩) 2 2) (.slice none 0 0)).run Tryd.prog W = .ok (.bool false) W := fun _ => rfl
    have HQ := Lib.hid (And.intro hp hq)
    have HB2 := Lib.hid (below_step hba hb2)
    have hc0 : w2.cell? ⟨L, 0, none⟩ = some (P g) := hBL.cell 0
    have hc1 : w2.cell? ⟨L, 1, none⟩ = some (P k) := hBL.cell 1
    have hd : Below w2.heap.size w2 w2.drew := Drawn0.below ⟨1, rfl⟩
    have HR := Lib.hid (And.intro (hr.below hd) (And.intro (hr2.below hd) hd))
    clear hp hq hb2 hba hBA hBL hr hr2 hg hk hd
    go_upto_region 4 with fail
    go_region_with (go_at_call 64; refine (CmpWalk.calls p q (sz_a HQ.out.1 ha) (sz_b HQ.out.2 hb) g k _ HR.out.1 HR.out.2.1).mono ?_; rintro e w3 ⟨rfl, h1⟩)
    all_goals
      have H := Lib.hid h1
      clear h1 hc0 hc1
      go_wp2_with fail
      go_ret2
      exact ⟨below_step (below_step HB2.out HR.out.2.2) H.out, .inl ⟨p, q, HQ.out.1, HQ.out.2, rfl⟩⟩
  · have hnil : ∀ W : World, (binOp .eql 76 (.slice none 0 0) (.slice none 0 0)).run Tryd.prog W = .ok (.bool true) W := fun _ => rfl
    have HB2 := Lib.hid (And.intro (below_step hba hb2) hn)
    clear hba hb2 hBA hn
    go_wp2_with fail
    go_ret2
    exact ⟨HB2.out.1, .inr ⟨HB2.out.2, rfl⟩⟩

end Go.Proofs.YtjeamchaibialaaDoor.Nums

/- The laws' own calls: the walks. -/
namespace Go.Proofs.YtjeamchaibialaaDoor.Laws
open Go.RowKit Go.Proofs.YtjeamchaibialaaDoorW.PrintWords Go.Proofs.YtjeamchaibialaaDoorW.PrintLast Go.Proofs.YtjeamchaibialaaDoorW.PrintMore Go.Proofs.YtjeamchaibialaaDoor.Fns Go.Proofs.YtjeamchaibialaaDoor.Limbs Go.Proofs.YtjeamchaibialaaDoor.Nats Go.Proofs.YtjeamchaibialaaDoor.Told Go.Proofs.YtjeamchaibialaaDoor.ReadWalk Go.Proofs.YtjeamchaibialaaDoor.Texts Go.Proofs.YtjeamchaibialaaDoor.Rats Go.Proofs.YtjeamchaibialaaDoor.Parses Go.Proofs.YtjeamchaibialaaDoor.Heaps Go.Proofs.YtjeamchaibialaaDoor.Splits Go.Proofs.YtjeamchaibialaaDoor.Nums

/-- the text of p, which has N limbs at most -/
structure Is (N : Nat) (a : ByteArray) (p : Rat) : Prop where
  txt : a.data.toList = rtxt p
  sz : Sizes.Sz p N
theorem Is.mono {N M : Nat} {a : ByteArray} {p : Rat} (h : Is N a p) (hm : N ≤ M) : Is M a p := ⟨h.txt, h.sz.mono hm⟩
theorem Is.same {N M : Nat} {a b : ByteArray} {p q : Rat} (h : Is N a p) (k : Is M b q) (e : q = p) : b = a := by
  apply ByteArray.ext
  apply Array.toList_inj.1
  rw [h.txt, k.txt, e]
theorem Is.long {N : Nat} {a : ByteArray} {p : Rat} (h : Is N a p) : a.size ≤ 18 * N + 4 := by
  rw [Lib.size_eq, h.txt]; exact Sizes.rtxt_long h.sz
theorem Is.ne {N M : Nat} {a b : ByteArray} {p q : Rat} (h : Is N a p) (k : Is M b q) (e : p ≠ q) : a.toList ≠ b.toList := by
  rw [Lib.toList_data, Lib.toList_data, h.txt, k.txt]
  exact fun h => e (rtxt_inj h)
theorem Is.of {a : ByteArray} {p : Rat} (h : a.data.toList = rtxt p) (hs : a.size ≤ 1048576) : Is 120000 a p :=
  ⟨h, (Sizes.sz_rtxt p).mono (by rw [← h, ← Lib.size_eq]; omega)⟩
/-- the text of no number -/
def No (a : ByteArray) : Prop := ∀ p, a.data.toList ≠ rtxt p
theorem No.nil : No ⟨#[]⟩ := by
  intro p h
  have : rtxt p ≠ [] := by
    unfold rtxt
    intro e
    rw [List.append_eq_nil_iff, List.append_eq_nil_iff] at e
    exact txt_ne _ e.2.1
  exact this h.symm

set_option maxRecDepth 100000 in
theorem no_calls (z : Int) (h0 : 0 ≤ z) (h1 : z ≤ 3) (w : World) :
    Calls Tryd.prog 13 #[.int .i64 z] w fun e w' => e = .returned (.int .i64 z) ∧ w' = w := by
  have hw : IntKind.i64.wrap z = z := IntWalk.i64_in _ (by omega)
  go_enter Tryd.func13, Tryd.ntmps13
  go_wp2_with fail
  go_ret
  exact ⟨rfl, rfl⟩
set_option maxRecDepth 100000 in
theorem told_yes (s : ByteArray) (w : World) : Calls Tryd.prog 75 #[.string s, .int .i64 0] w fun e w' => e = .returned (.string s) ∧ w' = w := by
  go_enter Tryd.func75, Tryd.ntmps75
  go_wp2_with fail
  refine (no_calls 0 (by omega) (by omega) _).mono ?_
  rintro e w' ⟨rfl, rfl⟩
  go_wp2_with fail
  go_ret
  exact ⟨rfl, rfl⟩
set_option maxRecDepth 100000 in
theorem told_no (s : ByteArray) (z : Int) (h0 : 0 < z) (h1 : z ≤ 3) (w : World) : Calls Tryd.prog 75 #[.string s, .int .i64 z] w fun e w' => e = .returned (.string ⟨#[]⟩) ∧ w' = w := by
  have hz : (z == 0) = false := beq_eq_false_iff_ne.2 (by omega)
  go_enter Tryd.func75, Tryd.ntmps75
  go_wp2_with fail
  refine (no_calls z (by omega) h1 _).mono ?_
  rintro e w' ⟨rfl, rfl⟩
  go_wp2_with fail
  go_ret
  exact ⟨rfl, rfl⟩

/-- the answer is the text of r -/
def Tells (N : Nat) (r : Rat) (w : World) (e : Ending) (w' : World) : Prop := ∃ v, e = .returned (.string v) ∧ Is N v r ∧ Below w.heap.size w w'
def Mute (w : World) (e : Ending) (w' : World) : Prop := e = .returned (.string ⟨#[]⟩) ∧ Below w.heap.size w w'
set_option maxRecDepth 100000 in
theorem add_yes (N : Nat) (hN : N ≤ 1600000) (a b : ByteArray) (p q : Rat) (ha : Is N a p) (hb : Is N b q) (w : World) (hok : Ok w) :
    Calls Tryd.prog 30 #[.string a, .string b] w (Tells (2 * N + 1) (p + q) w) := by
  have hsa := ha.long
  have hsb := hb.long
  go_enter Tryd.func30, Tryd.ntmps30
  go_wp2_with fail
  refine (Nums.add_calls a b (by omega) (by omega) _ hok).mono ?_
  rintro e w1 ⟨hb1, ⟨p', q', hp, hq, rfl⟩ | ⟨hn, rfl⟩⟩
  · have hpp : p' = p := rtxt_inj (by rw [← hp, ha.txt])
    have hqq : q' = q := rtxt_inj (by rw [← hq, hb.txt])
    subst hpp hqq
    have HB := Lib.hid hb1
    obtain ⟨v, hv⟩ : ∃ v : ByteArray, v = Bins.bs (rtxt (p' + q')) := ⟨_, rfl⟩
    rw [← hv]
    have HV : Hid (Is (2 * N + 1) v (p' + q')) := Lib.hid ⟨by rw [hv], (Sizes.sz_add ha.sz hb.sz).mono (by omega)⟩
    clear hb1 hp hq hv
    go_wp2_with fail
    refine (told_yes v _).mono ?_
    rintro e w2 ⟨rfl, rfl⟩
    go_wp2_with fail
    go_ret
    exact ⟨_, rfl, HV.out, HB.out⟩
  · rcases hn with h | h
    · exact absurd ha.txt (h p)
    · exact absurd hb.txt (h q)
set_option maxRecDepth 100000 in
theorem add_no (a b : ByteArray) (ha : a.size ≤ 100000000) (hb : b.size ≤ 100000000) (hn : No a ∨ No b) (w : World) (hok : Ok w) :
    Calls Tryd.prog 30 #[.string a, .string b] w (Mute w) := by
  go_enter Tryd.func30, Tryd.ntmps30
  go_wp2_with fail
  refine (Nums.add_calls a b ha hb _ hok).mono ?_
  rintro e w1 ⟨hb1, ⟨p', q', hp, hq, rfl⟩ | ⟨_, rfl⟩⟩
  · rcases hn with h | h
    · exact absurd hp (h p')
    · exact absurd hq (h q')
  · have HB := Lib.hid hb1
    clear hb1 hn
    go_wp2_with fail
    refine (told_no ⟨#[]⟩ 1 (by omega) (by omega) _).mono ?_
    rintro e w2 ⟨rfl, rfl⟩
    go_wp2_with fail
    go_ret
    exact ⟨rfl, HB.out⟩
set_option maxRecDepth 100000 in
theorem sub_yes (N : Nat) (hN : N ≤ 1600000) (a b : ByteArray) (p q : Rat) (ha : Is N a p) (hb : Is N b q) (w : World) (hok : Ok w) :
    Calls Tryd.prog 34 #[.string a, .string b] w (Tells (2 * N + 1) (p - q) w) := by
  have hsa := ha.long
  have hsb := hb.long
  go_enter Tryd.func34, Tryd.ntmps34
  go_wp2_with fail
  refine (Nums.sub_calls a b (by omega) (by omega) _ hok).mono ?_
  rintro e w1 ⟨hb1, ⟨p', q', hp, hq, rfl⟩ | ⟨hn, rfl⟩⟩
  · have hpp : p' = p := rtxt_inj (by rw [← hp, ha.txt])
    have hqq : q' = q := rtxt_inj (by rw [← hq, hb.txt])
    subst hpp hqq
    have HB := Lib.hid hb1
    obtain ⟨v, hv⟩ : ∃ v : ByteArray, v = Bins.bs (rtxt (p' - q')) := ⟨_, rfl⟩
    rw [← hv]
    have HV : Hid (Is (2 * N + 1) v (p' - q')) := Lib.hid ⟨by rw [hv], (Sizes.sz_sub ha.sz hb.sz).mono (by omega)⟩
    clear hb1 hp hq hv
    go_wp2_with fail
    refine (told_yes v _).mono ?_
    rintro e w2 ⟨rfl, rfl⟩
    go_wp2_with fail
    go_ret
    exact ⟨_, rfl, HV.out, HB.out⟩
  · rcases hn with h | h
    · exact absurd ha.txt (h p)
    · exact absurd hb.txt (h q)
set_option maxRecDepth 100000 in
theorem mul_yes (N : Nat) (hN : N ≤ 1600000) (a b : ByteArray) (p q : Rat) (ha : Is N a p) (hb : Is N b q) (w : World) (hok : Ok w) :
    Calls Tryd.prog 35 #[.string a, .string b] w (Tells (2 * N + 1) (p * q) w) := by
  have hsa := ha.long
  have hsb := hb.long
  go_enter Tryd.func35, Tryd.ntmps35
  go_wp2_with fail
  refine (Nums.mul_calls a b (by omega) (by omega) _ hok).mono ?_
  rintro e w1 ⟨hb1, ⟨p', q', hp, hq, rfl⟩ | ⟨hn, rfl⟩⟩
  · have hpp : p' = p := rtxt_inj (by rw [← hp, ha.txt])
    have hqq : q' = q := rtxt_inj (by rw [← hq, hb.txt])
    subst hpp hqq
    have HB := Lib.hid hb1
    obtain ⟨v, hv⟩ : ∃ v : ByteArray, v = Bins.bs (rtxt (p' * q')) := ⟨_, rfl⟩
    rw [← hv]
    have HV : Hid (Is (2 * N + 1) v (p' * q')) := Lib.hid ⟨by rw [hv], (Sizes.sz_mul ha.sz hb.sz).mono (by omega)⟩
    clear hb1 hp hq hv
    go_wp2_with fail
    refine (told_yes v _).mono ?_
    rintro e w2 ⟨rfl, rfl⟩
    go_wp2_with fail
    go_ret
    exact ⟨_, rfl, HV.out, HB.out⟩
  · rcases hn with h | h
    · exact absurd ha.txt (h p)
    · exact absurd hb.txt (h q)
/-- what cmp answers -/
def Lies (z : Int) (w : World) (e : Ending) (w' : World) : Prop := e = .returned (.int .i64 z) ∧ Below w.heap.size w w'
set_option maxRecDepth 100000 in
theorem cmp_yes (N : Nat) (hN : N ≤ 1600000) (a b : ByteArray) (p q : Rat) (ha : Is N a p) (hb : Is N b q) (w : World) (hok : Ok w) :
    Calls Tryd.prog 33 #[.string a, .string b] w (Lies (CmpWalk.cmpQ p q) w) := by
  have hsa := ha.long
  have hsb := hb.long
  go_enter Tryd.func33, Tryd.ntmps33
  go_wp2_with fail
  refine (Nums.cmp_calls a b (by omega) (by omega) _ hok).mono ?_
  rintro e w1 ⟨hb1, ⟨p', q', hp, hq, rfl⟩ | ⟨hn, rfl⟩⟩
  · have hpp : p' = p := rtxt_inj (by rw [← hp, ha.txt])
    have hqq : q' = q := rtxt_inj (by rw [← hq, hb.txt])
    subst hpp hqq
    have HB := Lib.hid hb1
    clear hb1 hp hq
    go_wp2_with fail
    refine (no_calls 0 (by omega) (by omega) _).mono ?_
    rintro e w2 ⟨rfl, rfl⟩
    go_wp2_with fail
    go_ret
    exact ⟨rfl, HB.out⟩
  · rcases hn with h | h
    · exact absurd ha.txt (h p)
    · exact absurd hb.txt (h q)
set_option maxRecDepth 100000 in
theorem cmp_no (a b : ByteArray) (ha : a.size ≤ 100000000) (hb : b.size ≤ 100000000) (hn : No a ∨ No b) (w : World) (hok : Ok w) :
    Calls Tryd.prog 33 #[.string a, .string b] w (Lies 2 w) := by
  go_enter Tryd.func33, Tryd.ntmps33
  go_wp2_with fail
  refine (Nums.cmp_calls a b ha hb _ hok).mono ?_
  rintro e w1 ⟨hb1, ⟨p', q', hp, hq, rfl⟩ | ⟨_, rfl⟩⟩
  · rcases hn with h | h
    · exact absurd hp (h p')
    · exact absurd hq (h q')
  · have HB := Lib.hid hb1
    clear hb1 hn
    go_wp2_with fail
    refine (no_calls 1 (by omega) (by omega) _).mono ?_
    rintro e w2 ⟨rfl, rfl⟩
    go_wp2_with fail
    go_ret
    exact ⟨rfl, HB.out⟩

set_option maxRecDepth 100000 in
theorem quo_yes (N : Nat) (hN : N ≤ 1600000) (a b : ByteArray) (p q : Rat) (h0 : q ≠ 0) (ha : Is N a p) (hb : Is N b q) (w : World) (hok : Ok w) :
    Calls Tryd.prog 74 #[.string a, .string b] w (Tells (2 * N + 1) (p / q) w) := by
  have hsa := ha.long
  have hsb := hb.long
  go_enter Tryd.func74, Tryd.ntmps74
  go_wp2_with fail
  refine (Nums.quo_calls a b (by omega) (by omega) _ hok).mono ?_
  rintro e w1 ⟨hb1, ⟨p', q', hp, hq, hq0, rfl⟩ | ⟨p', hp, hq, rfl⟩ | ⟨hn, rfl⟩⟩
  · have hpp : p' = p := rtxt_inj (by rw [← hp, ha.txt])
    have hqq : q' = q := rtxt_inj (by rw [← hq, hb.txt])
    subst hpp hqq
    have HB := Lib.hid hb1
    obtain ⟨v, hv⟩ : ∃ v : ByteArray, v = Bins.bs (rtxt (p' / q')) := ⟨_, rfl⟩
    rw [← hv]
    have HV : Hid (Is (2 * N + 1) v (p' / q')) := Lib.hid ⟨by rw [hv], (Sizes.sz_div ha.sz hb.sz h0).mono (by omega)⟩
    clear hb1 hp hq hv hq0 h0
    go_wp2_with fail
    refine (told_yes v _).mono ?_
    rintro e w2 ⟨rfl, rfl⟩
    go_wp2_with fail
    go_ret
    exact ⟨_, rfl, HV.out, HB.out⟩
  · exact absurd (rtxt_inj (hb.txt.symm.trans hq)) h0
  · rcases hn with h | h
    · exact absurd ha.txt (h p)
    · exact absurd hb.txt (h q)

/-- canon -/
def Says (b : Bool) (w : World) (e : Ending) (w' : World) : Prop := e = .returned (.bool b) ∧ Below w.heap.size w w'
theorem loose_is {l : List UInt8} {p : Rat} (h : l = rtxt p) : CanonWalk.Loose l ∧ ¬ CanonWalk.Zero l ∧ ratOf l = p := by
  obtain ⟨h1, h2, _⟩ := ParseWalk.parts rfl rfl h
  refine ⟨⟨h1.figs, fun hs => (h2 hs).1.figs⟩, fun hz => (h2 hz.1).2 hz.2, ?_⟩
  rw [h]; exact ratOf_rtxt p
set_option maxRecDepth 100000 in
theorem canon_yes (N : Nat) (hN : N ≤ 1600000) (a : ByteArray) (p : Rat) (ha : Is N a p) (w : World) (hok : Ok w) :
    Calls Tryd.prog 29 #[.string a] w (Says true w) := by
  have hsa := ha.long
  obtain ⟨l1, l2, l3⟩ := loose_is ha.txt
  go_enter Tryd.func29, Tryd.ntmps29
  go_wp2_with fail
  refine (CanonWalk.calls a (by omega) _ hok).mono ?_
  rintro e w1 ⟨hb1, ⟨h, _⟩ | ⟨_, h, _⟩ | ⟨_, _, rfl⟩⟩
  · exact absurd l1 h
  · exact absurd h l2
  · have HB := Lib.hid hb1
    rw [l3, ← ha.txt]
    have he : CanonWalk.bs a.data.toList = a := rfl
    rw [he]
    clear hb1 l1 l2 l3 ha he
    go_wp2_with fail
    refine (no_calls 0 (by omega) (by omega) _).mono ?_
    rintro e w2 ⟨rfl, rfl⟩
    go_wp2_with fail
    go_ret
    exact ⟨rfl, HB.out⟩
set_option maxRecDepth 100000 in
theorem canon_no (a : ByteArray) (ha : a.size ≤ 30000000) (hn : No a) (w : World) (hok : Ok w) :
    Calls Tryd.prog 29 #[.string a] w (Says false w) := by
  go_enter Tryd.func29, Tryd.ntmps29
  go_wp2_with fail
  refine (CanonWalk.calls a ha _ hok).mono ?_
  rintro e w1 ⟨hb1, ⟨_, rfl⟩ | ⟨_, _, rfl⟩ | ⟨_, _, rfl⟩⟩
  · have HB := Lib.hid hb1
    clear hb1 hn
    go_wp2_with fail
    refine (no_calls 1 (by omega) (by omega) _).mono ?_
    rintro e w2 ⟨rfl, rfl⟩
    go_wp2_with fail
    go_ret
    exact ⟨rfl, HB.out⟩
  · have HB := Lib.hid hb1
    clear hb1 hn
    go_wp2_with fail
    refine (no_calls 2 (by omega) (by omega) _).mono ?_
    rintro e w2 ⟨rfl, rfl⟩
    go_wp2_with fail
    go_ret
    exact ⟨rfl, HB.out⟩
  · have HB := Lib.hid hb1
    obtain ⟨v, hv⟩ : ∃ v : ByteArray, v = CanonWalk.bs (rtxt (ratOf a.data.toList)) := ⟨_, rfl⟩
    have hne : v.toList ≠ a.toList := by
      rw [Lib.toList_data, Lib.toList_data, hv]
      exact fun h => hn _ h.symm
    have hnb : (v.toList == a.toList) = false := beq_eq_false_iff_ne.2 hne
    rw [← hv]
    clear hb1 hn hv
    go_wp2_with fail
    refine (no_calls 0 (by omega) (by omega) _).mono ?_
    rintro e w2 ⟨rfl, rfl⟩
    go_wp2_with fail
    go_ret
    exact ⟨rfl, HB.out⟩

end Go.Proofs.YtjeamchaibialaaDoor.Laws

/- The laws of sums and products: the walks. -/
namespace Go.Proofs.YtjeamchaibialaaDoor.Sums
open Go.RowKit Go.Proofs.YtjeamchaibialaaDoorW.PrintWords Go.Proofs.YtjeamchaibialaaDoorW.PrintLast Go.Proofs.YtjeamchaibialaaDoorW.PrintMore Go.Proofs.YtjeamchaibialaaDoor.Fns Go.Proofs.YtjeamchaibialaaDoor.Limbs Go.Proofs.YtjeamchaibialaaDoor.Nats Go.Proofs.YtjeamchaibialaaDoor.Told Go.Proofs.YtjeamchaibialaaDoor.ReadWalk Go.Proofs.YtjeamchaibialaaDoor.Texts Go.Proofs.YtjeamchaibialaaDoor.Rats Go.Proofs.YtjeamchaibialaaDoor.Parses Go.Proofs.YtjeamchaibialaaDoor.Heaps Go.Proofs.YtjeamchaibialaaDoor.Splits Go.Proofs.YtjeamchaibialaaDoor.Laws

theorem rtxt_of (q : Rat) (n : Int) (d : Nat) (hn : q.num = n) (hd : q.den = d) : rtxt q = (if n < 0 then [45] else []) ++ (txt n.natAbs ++ (if d = 1 then [] else 47 :: txt d)) := by
  unfold rtxt; rw [hn, hd]
theorem txt1 : txt 1 = [49] := txt_small (by omega)
theorem txt2 : txt 2 = [50] := txt_small (by omega)
theorem txt3 : txt 3 = [51] := txt_small (by omega)
theorem txt5 : txt 5 = [53] := txt_small (by omega)
theorem txt6 : txt 6 = [54] := txt_small (by omega)
theorem txt12 : txt 12 = [49, 50] := by rw [txt_big (by omega)]; simp [txt1]; rfl
theorem is_of {a : ByteArray} {p : Rat} (h : a.data.toList = rtxt p) (hs : a.size ≤ 100) : Is 120000 a p := Is.of h (by omega)
theorem k_half : Is 120000 ⟨#[49, 47, 50]⟩ (1 / 2) := is_of (by rw [rtxt_of _ 1 2 (by decide +kernel) (by decide +kernel)]; simp [txt1, txt2]) (by decide)
theorem k_third : Is 120000 ⟨#[49, 47, 51]⟩ (1 / 3) := is_of (by rw [rtxt_of _ 1 3 (by decide +kernel) (by decide +kernel)]; simp [txt1, txt3]) (by decide)
theorem k_five6 : Is 120000 ⟨#[53, 47, 54]⟩ (5 / 6) := is_of (by rw [rtxt_of _ 5 6 (by decide +kernel) (by decide +kernel)]; simp [txt5, txt6]) (by decide)
theorem k_m23 : Is 120000 ⟨#[45, 50, 47, 51]⟩ (-2 / 3) := is_of (by rw [rtxt_of _ (-2) 3 (by decide +kernel) (by decide +kernel)]; simp [txt2, txt3]) (by decide)
theorem k_32 : Is 120000 ⟨#[51, 47, 50]⟩ (3 / 2) := is_of (by rw [rtxt_of _ 3 2 (by decide +kernel) (by decide +kernel)]; simp [txt2, txt3]) (by decide)
theorem k_m1 : Is 120000 ⟨#[45, 49]⟩ (-1) := is_of (by rw [rtxt_of _ (-1) 1 (by decide +kernel) (by decide +kernel)]; simp [txt1]) (by decide)
theorem k_m3 : Is 120000 ⟨#[45, 51]⟩ (-3) := is_of (by rw [rtxt_of _ (-3) 1 (by decide +kernel) (by decide +kernel)]; simp [txt3]) (by decide)
theorem k_m125 : Is 120000 ⟨#[45, 49, 50, 47, 53]⟩ (-12 / 5) := is_of (by rw [rtxt_of _ (-12) 5 (by decide +kernel) (by decide +kernel)]; simp [txt12, txt5]) (by decide)
theorem k_mhalf : Is 120000 ⟨#[45, 49, 47, 50]⟩ (-1 / 2) := is_of (by rw [rtxt_of _ (-1) 2 (by decide +kernel) (by decide +kernel)]; simp [txt1, txt2]) (by decide)
theorem k_mthird : Is 120000 ⟨#[45, 49, 47, 51]⟩ (-1 / 3) := is_of (by rw [rtxt_of _ (-1) 3 (by decide +kernel) (by decide +kernel)]; simp [txt1, txt3]) (by decide)
theorem k_0 : Is 120000 ⟨#[48]⟩ 0 := is_of (by rw [Nums.rtxt_zero]) (by decide)
theorem k_1 : Is 120000 ⟨#[49]⟩ 1 := is_of (by rw [rtxt_of _ 1 1 (by decide +kernel) (by decide +kernel)]; simp [txt1]) (by decide)
theorem k_2 : Is 120000 ⟨#[50]⟩ 2 := is_of (by rw [rtxt_of _ 2 1 (by decide +kernel) (by decide +kernel)]; simp [txt2]) (by decide)
theorem no_01 : No ⟨#[48, 49]⟩ := by
  intro p h
  have h1 : ratOf (rtxt p) = p := ratOf_rtxt p
  rw [← h] at h1
  have h2 : ratOf [48, 49] = 1 := by decide +kernel
  have h3 : p = 1 := h1.symm.trans h2
  subst h3
  rw [k_1.txt.symm] at h
  exact absurd h (by decide)
theorem loose_42 : CanonWalk.Loose [52, 47, 50] ∧ ¬ CanonWalk.Zero [52, 47, 50] ∧ ratOf [52, 47, 50] = 2 := by
  have hc : Lib.cut (Lib.trimPrefix [52, 47, 50] [45]) [47] = ([52], [50], true) := by decide +kernel
  unfold CanonWalk.Loose CanonWalk.Zero
  rw [hc]
  refine ⟨⟨⟨by simp, ?_⟩, fun _ => ⟨by simp, ?_⟩⟩, fun h => absurd h.2 (by decide +kernel), by decide +kernel⟩
  · intro b hb; rw [List.mem_singleton.1 hb]; decide
  · intro b hb; rw [List.mem_singleton.1 hb]; decide

set_option maxRecDepth 100000 in
set_option maxHeartbeats 2000000 in
theorem sums_yes (a b c : ByteArray) (p q r : Rat) (ha : Is 120000 a p) (hb : Is 120000 b q) (hc : Is 120000 c r) (w : World) (hok : Ok w) :
    Calls Tryd.prog 31 #[.string a, .string b, .string c] w (Says true w) := by
  have H_a := Lib.hid ha
  have H_b := Lib.hid hb
  have H_c := Lib.hid hc
  have H_z := Lib.hid k_0
  have H_u := Lib.hid k_1
  have HOK := Lib.hid hok
  have HB := Lib.hid (Below.refl w.heap.size w)
  clear ha hb hc hok
  go_enter Tryd.func31, Tryd.ntmps31
  go_wp2_with fail
  refine (add_yes 120000 (by omega) _ _ _ _ (H_a.out.mono (by omega)) (H_b.out.mono (by omega)) _ HOK.out).mono ?_
  rintro e w1 ⟨ab, rfl, hv, hb⟩
  have H_ab := Lib.hid hv
  have HOK' := Lib.hid (HOK.out.below hb)
  have HB' := Lib.hid (below_step HB.out hb)
  clear hv hb HOK HB
  have HOK := HOK'
  have HB := HB'
  clear HOK' HB'
  go_wp2_with fail
  refine (canon_yes 240001 (by omega) _ _ (H_ab.out.mono (by omega)) _ HOK.out).mono ?_
  rintro e w2 ⟨rfl, hb⟩
  have HOK' := Lib.hid (HOK.out.below hb)
  have HB' := Lib.hid (below_step HB.out hb)
  clear hb HOK HB
  have HOK := HOK'
  have HB := HB'
  clear HOK' HB'
  go_wp2_with fail
  refine (add_yes 120000 (by omega) _ _ _ _ (H_b.out.mono (by omega)) (H_a.out.mono (by omega)) _ HOK.out).mono ?_
  rintro e w3 ⟨v, rfl, hv, hb⟩
  have hsame := H_ab.out.same hv (Rat.add_comm q p)
  subst hsame
  have HOK' := Lib.hid (HOK.out.below hb)
  have HB' := Lib.hid (below_step HB.out hb)
  clear hv hb HOK HB
  have HOK := HOK'
  have HB := HB'
  clear HOK' HB'
  go_wp2_with fail
  refine (add_yes 240001 (by omega) _ _ _ _ (H_ab.out.mono (by omega)) (H_c.out.mono (by omega)) _ HOK.out).mono ?_
  rintro e w4 ⟨abc, rfl, hv, hb⟩
  have H_abc := Lib.hid hv
  have HOK' := Lib.hid (HOK.out.below hb)
  have HB' := Lib.hid (below_step HB.out hb)
  clear hv hb HOK HB
  have HOK := HOK'
  have HB := HB'
  clear HOK' HB'
  go_wp2_with fail
  refine (add_yes 120000 (by omega) _ _ _ _ (H_b.out.mono (by omega)) (H_c.out.mono (by omega)) _ HOK.out).mono ?_
  rintro e w5 ⟨bc, rfl, hv, hb⟩
  have H_bc := Lib.hid hv
  have HOK' := Lib.hid (HOK.out.below hb)
  have HB' := Lib.hid (below_step HB.out hb)
  clear hv hb HOK HB
  have HOK := HOK'
  have HB := HB'
  clear HOK' HB'
  go_wp2_with fail
  refine (add_yes 240001 (by omega) _ _ _ _ (H_a.out.mono (by omega)) (H_bc.out.mono (by omega)) _ HOK.out).mono ?_
  rintro e w6 ⟨v, rfl, hv, hb⟩
  have hsame := H_abc.out.same hv ((Rat.add_assoc p q r).symm)
  subst hsame
  have HOK' := Lib.hid (HOK.out.below hb)
  have HB' := Lib.hid (below_step HB.out hb)
  clear hv hb HOK HB
  have HOK := HOK'
  have HB := HB'
  clear HOK' HB'
  go_wp2_with fail
  refine (add_yes 120000 (by omega) _ _ _ _ (H_a.out.mono (by omega)) (H_z.out.mono (by omega)) _ HOK.out).mono ?_
  rintro e w7 ⟨v, rfl, hv, hb⟩
  have hsame := H_a.out.same hv (Rat.add_zero p)
  subst hsame
  have HOK' := Lib.hid (HOK.out.below hb)
  have HB' := Lib.hid (below_step HB.out hb)
  clear hv hb HOK HB
  have HOK := HOK'
  have HB := HB'
  clear HOK' HB'
  go_wp2_with fail
  refine (sub_yes 240001 (by omega) _ _ _ _ (H_ab.out.mono (by omega)) (H_b.out.mono (by omega)) _ HOK.out).mono ?_
  rintro e w8 ⟨v, rfl, hv, hb⟩
  have hsame := H_a.out.same hv (Rat.add_sub_cancel)
  subst hsame
  have HOK' := Lib.hid (HOK.out.below hb)
  have HB' := Lib.hid (below_step HB.out hb)
  clear hv hb HOK HB
  have HOK := HOK'
  have HB := HB'
  clear HOK' HB'
  go_wp2_with fail
  refine (sub_yes 120000 (by omega) _ _ _ _ (H_a.out.mono (by omega)) (H_b.out.mono (by omega)) _ HOK.out).mono ?_
  rintro e w9 ⟨d, rfl, hv, hb⟩
  have H_d := Lib.hid hv
  have HOK' := Lib.hid (HOK.out.below hb)
  have HB' := Lib.hid (below_step HB.out hb)
  clear hv hb HOK HB
  have HOK := HOK'
  have HB := HB'
  clear HOK' HB'
  go_wp2_with fail
  refine (add_yes 240001 (by omega) _ _ _ _ (H_d.out.mono (by omega)) (H_b.out.mono (by omega)) _ HOK.out).mono ?_
  rintro e w10 ⟨v, rfl, hv, hb⟩
  have hsame := H_a.out.same hv (Rat.sub_add_cancel)
  subst hsame
  have HOK' := Lib.hid (HOK.out.below hb)
  have HB' := Lib.hid (below_step HB.out hb)
  clear hv hb HOK HB
  have HOK := HOK'
  have HB := HB'
  clear HOK' HB'
  go_wp2_with fail
  refine (sub_yes 120000 (by omega) _ _ _ _ (H_a.out.mono (by omega)) (H_a.out.mono (by omega)) _ HOK.out).mono ?_
  rintro e w11 ⟨v, rfl, hv, hb⟩
  have hsame := H_z.out.same hv (Rat.sub_self)
  subst hsame
  have HOK' := Lib.hid (HOK.out.below hb)
  have HB' := Lib.hid (below_step HB.out hb)
  clear hv hb HOK HB
  have HOK := HOK'
  have HB := HB'
  clear HOK' HB'
  go_wp2_with fail
  go_ret
  exact ⟨rfl, HB.out⟩

set_option maxRecDepth 100000 in
set_option maxHeartbeats 2000000 in
theorem products_yes (a b c : ByteArray) (p q r : Rat) (ha : Is 120000 a p) (hb : Is 120000 b q) (hc : Is 120000 c r) (hq : q ≠ 0) (w : World) (hok : Ok w) :
    Calls Tryd.prog 32 #[.string a, .string b, .string c] w (Says true w) := by
  have H_a := Lib.hid ha
  have H_b := Lib.hid hb
  have H_c := Lib.hid hc
  have H_z := Lib.hid k_0
  have H_u := Lib.hid k_1
  have HOK := Lib.hid hok
  have HB := Lib.hid (Below.refl w.heap.size w)
  clear ha hb hc hok
  have HQ0 := Lib.hid hq
  have hb48 : b.toList ≠ [48] := by have h := H_b.out.ne k_0 hq; rw [Lib.toList_data ⟨#[48]⟩] at h; exact h
  have hb48b : (b.toList == [48]) = false := beq_eq_false_iff_ne.2 hb48
  clear hq
  go_enter Tryd.func32, Tryd.ntmps32
  go_wp2_with fail
  refine (mul_yes 120000 (by omega) _ _ _ _ (H_a.out.mono (by omega)) (H_b.out.mono (by omega)) _ HOK.out).mono ?_
  rintro e w1 ⟨ab, rfl, hv, hb⟩
  have H_ab := Lib.hid hv
  have HOK' := Lib.hid (HOK.out.below hb)
  have HB' := Lib.hid (below_step HB.out hb)
  clear hv hb HOK HB
  have HOK := HOK'
  have HB := HB'
  clear HOK' HB'
  go_wp2_with fail
  refine (canon_yes 240001 (by omega) _ _ (H_ab.out.mono (by omega)) _ HOK.out).mono ?_
  rintro e w2 ⟨rfl, hb⟩
  have HOK' := Lib.hid (HOK.out.below hb)
  have HB' := Lib.hid (below_step HB.out hb)
  clear hb HOK HB
  have HOK := HOK'
  have HB := HB'
  clear HOK' HB'
  go_wp2_with fail
  refine (mul_yes 120000 (by omega) _ _ _ _ (H_b.out.mono (by omega)) (H_a.out.mono (by omega)) _ HOK.out).mono ?_
  rintro e w3 ⟨v, rfl, hv, hb⟩
  have hsame := H_ab.out.same hv (Rat.mul_comm q p)
  subst hsame
  have HOK' := Lib.hid (HOK.out.below hb)
  have HB' := Lib.hid (below_step HB.out hb)
  clear hv hb HOK HB
  have HOK := HOK'
  have HB := HB'
  clear HOK' HB'
  go_wp2_with fail
  refine (mul_yes 240001 (by omega) _ _ _ _ (H_ab.out.mono (by omega)) (H_c.out.mono (by omega)) _ HOK.out).mono ?_
  rintro e w4 ⟨abc, rfl, hv, hb⟩
  have H_abc := Lib.hid hv
  have HOK' := Lib.hid (HOK.out.below hb)
  have HB' := Lib.hid (below_step HB.out hb)
  clear hv hb HOK HB
  have HOK := HOK'
  have HB := HB'
  clear HOK' HB'
  go_wp2_with fail
  refine (mul_yes 120000 (by omega) _ _ _ _ (H_b.out.mono (by omega)) (H_c.out.mono (by omega)) _ HOK.out).mono ?_
  rintro e w5 ⟨bc, rfl, hv, hb⟩
  have H_bc := Lib.hid hv
  have HOK' := Lib.hid (HOK.out.below hb)
  have HB' := Lib.hid (below_step HB.out hb)
  clear hv hb HOK HB
  have HOK := HOK'
  have HB := HB'
  clear HOK' HB'
  go_wp2_with fail
  refine (mul_yes 240001 (by omega) _ _ _ _ (H_a.out.mono (by omega)) (H_bc.out.mono (by omega)) _ HOK.out).mono ?_
  rintro e w6 ⟨v, rfl, hv, hb⟩
  have hsame := H_abc.out.same hv ((Rat.mul_assoc p q r).symm)
  subst hsame
  have HOK' := Lib.hid (HOK.out.below hb)
  have HB' := Lib.hid (below_step HB.out hb)
  clear hv hb HOK HB
  have HOK := HOK'
  have HB := HB'
  clear HOK' HB'
  go_wp2_with fail
  refine (mul_yes 120000 (by omega) _ _ _ _ (H_a.out.mono (by omega)) (H_u.out.mono (by omega)) _ HOK.out).mono ?_
  rintro e w7 ⟨v, rfl, hv, hb⟩
  have hsame := H_a.out.same hv (Rat.mul_one p)
  subst hsame
  have HOK' := Lib.hid (HOK.out.below hb)
  have HB' := Lib.hid (below_step HB.out hb)
  clear hv hb HOK HB
  have HOK := HOK'
  have HB := HB'
  clear HOK' HB'
  go_wp2_with fail
  refine (add_yes 120000 (by omega) _ _ _ _ (H_b.out.mono (by omega)) (H_c.out.mono (by omega)) _ HOK.out).mono ?_
  rintro e w8 ⟨s, rfl, hv, hb⟩
  have H_s := Lib.hid hv
  have HOK' := Lib.hid (HOK.out.below hb)
  have HB' := Lib.hid (below_step HB.out hb)
  clear hv hb HOK HB
  have HOK := HOK'
  have HB := HB'
  clear HOK' HB'
  go_wp2_with fail
  refine (mul_yes 240001 (by omega) _ _ _ _ (H_a.out.mono (by omega)) (H_s.out.mono (by omega)) _ HOK.out).mono ?_
  rintro e w9 ⟨ps, rfl, hv, hb⟩
  have H_ps := Lib.hid hv
  have HOK' := Lib.hid (HOK.out.below hb)
  have HB' := Lib.hid (below_step HB.out hb)
  clear hv hb HOK HB
  have HOK := HOK'
  have HB := HB'
  clear HOK' HB'
  go_wp2_with fail
  refine (mul_yes 120000 (by omega) _ _ _ _ (H_a.out.mono (by omega)) (H_c.out.mono (by omega)) _ HOK.out).mono ?_
  rintro e w10 ⟨ac, rfl, hv, hb⟩
  have H_ac := Lib.hid hv
  have HOK' := Lib.hid (HOK.out.below hb)
  have HB' := Lib.hid (below_step HB.out hb)
  clear hv hb HOK HB
  have HOK := HOK'
  have HB := HB'
  clear HOK' HB'
  go_wp2_with fail
  refine (add_yes 240001 (by omega) _ _ _ _ (H_ab.out.mono (by omega)) (H_ac.out.mono (by omega)) _ HOK.out).mono ?_
  rintro e w11 ⟨v, rfl, hv, hb⟩
  have hsame := H_ps.out.same hv ((Rat.mul_add p q r).symm)
  subst hsame
  have HOK' := Lib.hid (HOK.out.below hb)
  have HB' := Lib.hid (below_step HB.out hb)
  clear hv hb HOK HB
  have HOK := HOK'
  have HB := HB'
  clear HOK' HB'
  go_wp2_with fail
  refine (quo_yes 240001 (by omega) _ _ _ _ (HQ0.out) (H_ab.out.mono (by omega)) (H_b.out.mono (by omega)) _ HOK.out).mono ?_
  rintro e w12 ⟨v, rfl, hv, hb⟩
  have hsame := H_a.out.same hv (Rat.mul_div_cancel HQ0.out)
  subst hsame
  have HOK' := Lib.hid (HOK.out.below hb)
  have HB' := Lib.hid (below_step HB.out hb)
  clear hv hb HOK HB
  have HOK := HOK'
  have HB := HB'
  clear HOK' HB'
  go_wp2_with fail
  refine (quo_yes 120000 (by omega) _ _ _ _ (HQ0.out) (H_a.out.mono (by omega)) (H_b.out.mono (by omega)) _ HOK.out).mono ?_
  rintro e w13 ⟨d, rfl, hv, hb⟩
  have H_d := Lib.hid hv
  have HOK' := Lib.hid (HOK.out.below hb)
  have HB' := Lib.hid (below_step HB.out hb)
  clear hv hb HOK HB
  have HOK := HOK'
  have HB := HB'
  clear HOK' HB'
  go_wp2_with fail
  refine (mul_yes 240001 (by omega) _ _ _ _ (H_d.out.mono (by omega)) (H_b.out.mono (by omega)) _ HOK.out).mono ?_
  rintro e w14 ⟨v, rfl, hv, hb⟩
  have hsame := H_a.out.same hv (Rat.div_mul_cancel HQ0.out)
  subst hsame
  have HOK' := Lib.hid (HOK.out.below hb)
  have HB' := Lib.hid (below_step HB.out hb)
  clear hv hb HOK HB
  have HOK := HOK'
  have HB := HB'
  clear HOK' HB'
  go_wp2_with fail
  go_ret
  exact ⟨rfl, HB.out⟩

set_option maxRecDepth 100000 in
set_option maxHeartbeats 2000000 in
theorem products_zero (a b c : ByteArray) (p q r : Rat) (ha : Is 120000 a p) (hb : Is 120000 b q) (hc : Is 120000 c r) (hq : q = 0) (w : World) (hok : Ok w) :
    Calls Tryd.prog 32 #[.string a, .string b, .string c] w (Says true w) := by
  have H_a := Lib.hid ha
  have H_b := Lib.hid hb
  have H_c := Lib.hid hc
  have H_z := Lib.hid k_0
  have H_u := Lib.hid k_1
  have HOK := Lib.hid hok
  have HB := Lib.hid (Below.refl w.heap.size w)
  clear ha hb hc hok
  have HQ0 := Lib.hid hq
  have hb48 : b = ⟨#[48]⟩ := by subst hq; exact k_0.same H_b.out rfl
  subst hb48
  clear hq
  go_enter Tryd.func32, Tryd.ntmps32
  go_wp2_with fail
  refine (mul_yes 120000 (by omega) _ _ _ _ (H_a.out.mono (by omega)) (H_b.out.mono (by omega)) _ HOK.out).mono ?_
  rintro e w1 ⟨ab, rfl, hv, hb⟩
  have H_ab := Lib.hid hv
  have HOK' := Lib.hid (HOK.out.below hb)
  have HB' := Lib.hid (below_step HB.out hb)
  clear hv hb HOK HB
  have HOK := HOK'
  have HB := HB'
  clear HOK' HB'
  go_wp2_with fail
  refine (canon_yes 240001 (by omega) _ _ (H_ab.out.mono (by omega)) _ HOK.out).mono ?_
  rintro e w2 ⟨rfl, hb⟩
  have HOK' := Lib.hid (HOK.out.below hb)
  have HB' := Lib.hid (below_step HB.out hb)
  clear hb HOK HB
  have HOK := HOK'
  have HB := HB'
  clear HOK' HB'
  go_wp2_with fail
  refine (mul_yes 120000 (by omega) _ _ _ _ (H_b.out.mono (by omega)) (H_a.out.mono (by omega)) _ HOK.out).mono ?_
  rintro e w3 ⟨v, rfl, hv, hb⟩
  have hsame := H_ab.out.same hv (Rat.mul_comm q p)
  subst hsame
  have HOK' := Lib.hid (HOK.out.below hb)
  have HB' := Lib.hid (below_step HB.out hb)
  clear hv hb HOK HB
  have HOK := HOK'
  have HB := HB'
  clear HOK' HB'
  go_wp2_with fail
  refine (mul_yes 240001 (by omega) _ _ _ _ (H_ab.out.mono (by omega)) (H_c.out.mono (by omega)) _ HOK.out).mono ?_
  rintro e w4 ⟨abc, rfl, hv, hb⟩
  have H_abc := Lib.hid hv
  have HOK' := Lib.hid (HOK.out.below hb)
  have HB' := Lib.hid (below_step HB.out hb)
  clear hv hb HOK HB
  have HOK := HOK'
  have HB := HB'
  clear HOK' HB'
  go_wp2_with fail
  refine (mul_yes 120000 (by omega) _ _ _ _ (H_b.out.mono (by omega)) (H_c.out.mono (by omega)) _ HOK.out).mono ?_
  rintro e w5 ⟨bc, rfl, hv, hb⟩
  have H_bc := Lib.hid hv
  have HOK' := Lib.hid (HOK.out.below hb)
  have HB' := Lib.hid (below_step HB.out hb)
  clear hv hb HOK HB
  have HOK := HOK'
  have HB := HB'
  clear HOK' HB'
  go_wp2_with fail
  refine (mul_yes 240001 (by omega) _ _ _ _ (H_a.out.mono (by omega)) (H_bc.out.mono (by omega)) _ HOK.out).mono ?_
  rintro e w6 ⟨v, rfl, hv, hb⟩
  have hsame := H_abc.out.same hv ((Rat.mul_assoc p q r).symm)
  subst hsame
  have HOK' := Lib.hid (HOK.out.below hb)
  have HB' := Lib.hid (below_step HB.out hb)
  clear hv hb HOK HB
  have HOK := HOK'
  have HB := HB'
  clear HOK' HB'
  go_wp2_with fail
  refine (mul_yes 120000 (by omega) _ _ _ _ (H_a.out.mono (by omega)) (H_u.out.mono (by omega)) _ HOK.out).mono ?_
  rintro e w7 ⟨v, rfl, hv, hb⟩
  have hsame := H_a.out.same hv (Rat.mul_one p)
  subst hsame
  have HOK' := Lib.hid (HOK.out.below hb)
  have HB' := Lib.hid (below_step HB.out hb)
  clear hv hb HOK HB
  have HOK := HOK'
  have HB := HB'
  clear HOK' HB'
  go_wp2_with fail
  refine (add_yes 120000 (by omega) _ _ _ _ (H_b.out.mono (by omega)) (H_c.out.mono (by omega)) _ HOK.out).mono ?_
  rintro e w8 ⟨s, rfl, hv, hb⟩
  have H_s := Lib.hid hv
  have HOK' := Lib.hid (HOK.out.below hb)
  have HB' := Lib.hid (below_step HB.out hb)
  clear hv hb HOK HB
  have HOK := HOK'
  have HB := HB'
  clear HOK' HB'
  go_wp2_with fail
  refine (mul_yes 240001 (by omega) _ _ _ _ (H_a.out.mono (by omega)) (H_s.out.mono (by omega)) _ HOK.out).mono ?_
  rintro e w9 ⟨ps, rfl, hv, hb⟩
  have H_ps := Lib.hid hv
  have HOK' := Lib.hid (HOK.out.below hb)
  have HB' := Lib.hid (below_step HB.out hb)
  clear hv hb HOK HB
  have HOK := HOK'
  have HB := HB'
  clear HOK' HB'
  go_wp2_with fail
  refine (mul_yes 120000 (by omega) _ _ _ _ (H_a.out.mono (by omega)) (H_c.out.mono (by omega)) _ HOK.out).mono ?_
  rintro e w10 ⟨ac, rfl, hv, hb⟩
  have H_ac := Lib.hid hv
  have HOK' := Lib.hid (HOK.out.below hb)
  have HB' := Lib.hid (below_step HB.out hb)
  clear hv hb HOK HB
  have HOK := HOK'
  have HB := HB'
  clear HOK' HB'
  go_wp2_with fail
  refine (add_yes 240001 (by omega) _ _ _ _ (H_ab.out.mono (by omega)) (H_ac.out.mono (by omega)) _ HOK.out).mono ?_
  rintro e w11 ⟨v, rfl, hv, hb⟩
  have hsame := H_ps.out.same hv ((Rat.mul_add p q r).symm)
  subst hsame
  have HOK' := Lib.hid (HOK.out.below hb)
  have HB' := Lib.hid (below_step HB.out hb)
  clear hv hb HOK HB
  have HOK := HOK'
  have HB := HB'
  clear HOK' HB'
  go_wp2_with fail
  have hsa := H_a.out.long
  refine (Nums.quo_calls _ _ (by omega) (by decide) _ HOK.out).mono ?_
  rintro e w20 ⟨hb1, ⟨p', q', hp, hq, hq0, rfl⟩ | ⟨p', hp, hq, rfl⟩ | ⟨hn, rfl⟩⟩
  · exact absurd (rtxt_inj (hq.symm.trans k_0.txt)) hq0
  · have HB' := Lib.hid (below_step HB.out hb1)
    clear hb1 hp hq HB
    go_wp2_with fail
    refine (no_calls 2 (by omega) (by omega) _).mono ?_
    rintro e w2 ⟨rfl, rfl⟩
    go_wp2_with fail
    go_ret
    exact ⟨rfl, HB'.out⟩
  · rcases hn with h | h
    · exact absurd H_a.out.txt (h p)
    · exact absurd k_0.txt (h 0)

set_option maxRecDepth 100000 in
set_option maxHeartbeats 2000000 in
theorem heads_yes (w : World) (hok : Ok w) :
    Calls Tryd.prog 28 #[] w (Says true w) := by
  have H_half := Lib.hid k_half
  have H_third := Lib.hid k_third
  have H_five6 := Lib.hid k_five6
  have H_m23 := Lib.hid k_m23
  have H_k32 := Lib.hid k_32
  have H_m1 := Lib.hid k_m1
  have H_m3 := Lib.hid k_m3
  have H_m125 := Lib.hid k_m125
  have H_mhalf := Lib.hid k_mhalf
  have H_mthird := Lib.hid k_mthird
  have HOK := Lib.hid hok
  have HB := Lib.hid (Below.refl w.heap.size w)
  clear hok
  go_enter Tryd.func28, Tryd.ntmps28
  go_wp2_with fail
  refine (add_yes 120000 (by omega) _ _ _ _ (H_half.out.mono (by omega)) (H_third.out.mono (by omega)) _ HOK.out).mono ?_
  rintro e w1 ⟨v, rfl, hv, hb⟩
  have hsame := H_five6.out.same hv (show (1 / 2 : Rat) + 1 / 3 = 5 / 6 by decide +kernel)
  subst hsame
  have HOK' := Lib.hid (HOK.out.below hb)
  have HB' := Lib.hid (below_step HB.out hb)
  clear hv hb HOK HB
  have HOK := HOK'
  have HB := HB'
  clear HOK' HB'
  go_wp2_with fail
  refine (mul_yes 120000 (by omega) _ _ _ _ (H_m23.out.mono (by omega)) (H_k32.out.mono (by omega)) _ HOK.out).mono ?_
  rintro e w2 ⟨v, rfl, hv, hb⟩
  have hsame := H_m1.out.same hv (show (-2 / 3 : Rat) * (3 / 2) = -1 by decide +kernel)
  subst hsame
  have HOK' := Lib.hid (HOK.out.below hb)
  have HB' := Lib.hid (below_step HB.out hb)
  clear hv hb HOK HB
  have HOK := HOK'
  have HB := HB'
  clear HOK' HB'
  go_wp2_with fail
  refine (quo_yes 120000 (by omega) _ _ _ _ (show (1 / 3 : Rat) ≠ 0 by decide +kernel) (H_m1.out.mono (by omega)) (H_third.out.mono (by omega)) _ HOK.out).mono ?_
  rintro e w3 ⟨v, rfl, hv, hb⟩
  have hsame := H_m3.out.same hv (show (-1 : Rat) / (1 / 3) = -3 by decide +kernel)
  subst hsame
  have HOK' := Lib.hid (HOK.out.below hb)
  have HB' := Lib.hid (below_step HB.out hb)
  clear hv hb HOK HB
  have HOK := HOK'
  have HB := HB'
  clear HOK' HB'
  go_wp2_with fail
  refine (CanonWalk.calls _ (by decide) _ HOK.out).mono ?_
  rintro e w9 ⟨hb, ⟨h, _⟩ | ⟨_, h, _⟩ | ⟨_, _, rfl⟩⟩
  · exact absurd loose_42.1 h
  · exact absurd h loose_42.2.1
  rw [show (⟨#[52, 47, 50]⟩ : ByteArray).data.toList = [52, 47, 50] from rfl, loose_42.2.2, ← k_2.txt, show CanonWalk.bs (⟨#[50]⟩ : ByteArray).data.toList = ⟨#[50]⟩ from rfl]
  have HOK' := Lib.hid (HOK.out.below hb)
  have HB' := Lib.hid (below_step HB.out hb)
  clear hb HOK HB
  have HOK := HOK'
  have HB := HB'
  clear HOK' HB'
  go_wp2_with fail
  refine (no_calls 0 (by omega) (by omega) _).mono ?_
  rintro e w10 ⟨rfl, rfl⟩
  go_wp2_with fail
  refine (canon_yes 120000 (by omega) _ _ (H_m125.out.mono (by omega)) _ HOK.out).mono ?_
  rintro e w5 ⟨rfl, hb⟩
  have HOK' := Lib.hid (HOK.out.below hb)
  have HB' := Lib.hid (below_step HB.out hb)
  clear hb HOK HB
  have HOK := HOK'
  have HB := HB'
  clear HOK' HB'
  go_wp2_with fail
  refine (canon_no _ (by decide) (no_01) _ HOK.out).mono ?_
  rintro e w6 ⟨rfl, hb⟩
  have HOK' := Lib.hid (HOK.out.below hb)
  have HB' := Lib.hid (below_step HB.out hb)
  clear hb HOK HB
  have HOK := HOK'
  have HB := HB'
  clear HOK' HB'
  go_wp2_with fail
  refine (cmp_yes 120000 (by omega) _ _ _ _ (H_mhalf.out.mono (by omega)) (H_mthird.out.mono (by omega)) _ HOK.out).mono ?_
  rintro e w7 ⟨rfl, hb⟩
  have HOK' := Lib.hid (HOK.out.below hb)
  have HB' := Lib.hid (below_step HB.out hb)
  clear hb HOK HB
  have HOK := HOK'
  have HB := HB'
  clear HOK' HB'
  have hcm : CmpWalk.cmpQ (-1 / 2) (-1 / 3) = -1 := by decide +kernel
  rw [hcm]
  clear hcm
  go_wp2_with fail
  go_ret
  exact ⟨rfl, HB.out⟩

end Go.Proofs.YtjeamchaibialaaDoor.Sums

/- NumField and NumOrder: the walks. -/
namespace Go.Proofs.YtjeamchaibialaaDoor.Tops
open Go.RowKit Go.Proofs.YtjeamchaibialaaDoorW.PrintWords Go.Proofs.YtjeamchaibialaaDoorW.PrintLast Go.Proofs.YtjeamchaibialaaDoorW.PrintMore Go.Proofs.YtjeamchaibialaaDoor.Fns Go.Proofs.YtjeamchaibialaaDoor.Limbs Go.Proofs.YtjeamchaibialaaDoor.Nats Go.Proofs.YtjeamchaibialaaDoor.Told Go.Proofs.YtjeamchaibialaaDoor.ReadWalk Go.Proofs.YtjeamchaibialaaDoor.Texts Go.Proofs.YtjeamchaibialaaDoor.Rats Go.Proofs.YtjeamchaibialaaDoor.Parses Go.Proofs.YtjeamchaibialaaDoor.Heaps Go.Proofs.YtjeamchaibialaaDoor.Splits Go.Proofs.YtjeamchaibialaaDoor.Laws Go.Proofs.YtjeamchaibialaaDoor.Sums Go.Proofs.YtjeamchaibialaaDoor.CmpWalk

/-- a text is a number's or none's -/
theorem is_or (a : ByteArray) (hs : a.size ≤ 1048576) : (∃ p, Is 120000 a p) ∨ No a := by
  by_cases h : ∃ p, a.data.toList = rtxt p
  · obtain ⟨p, h⟩ := h
    exact .inl ⟨p, Is.of h hs⟩
  · exact .inr fun p e => h ⟨p, e⟩
/-- what add answers at any two texts -/
def Any2 (b c : ByteArray) (w : World) (e : Ending) (w' : World) : Prop := ∃ v : ByteArray, e = .returned (.string v) ∧ v.size ≤ 100000000 ∧ (No b ∨ No c → No v) ∧ Below w.heap.size w w'
theorem add_any (b c : ByteArray) (hb : b.size ≤ 1048576) (hc : c.size ≤ 1048576) (w : World) (hok : Ok w) :
    Calls Tryd.prog 30 #[.string b, .string c] w (Any2 b c w) := by
  rcases is_or b hb with ⟨q, h1⟩ | h1
  · rcases is_or c hc with ⟨r, h2⟩ | h2
    · refine (add_yes 120000 (by omega) b c q r h1 h2 w hok).mono ?_
      rintro e w' ⟨v, rfl, hv, hb⟩
      refine ⟨v, rfl, by have := hv.long; omega, fun h => ?_, hb⟩
      rcases h with h | h
      · exact absurd h1.txt (h q)
      · exact absurd h2.txt (h r)
    · refine (add_no b c (by omega) (by omega) (.inr h2) w hok).mono ?_
      rintro e w' ⟨rfl, hb⟩
      exact ⟨_, rfl, by decide, fun _ => No.nil, hb⟩
  · refine (add_no b c (by omega) (by omega) (.inl h1) w hok).mono ?_
    rintro e w' ⟨rfl, hb⟩
    exact ⟨_, rfl, by decide, fun _ => No.nil, hb⟩

/-! ### the order -/
theorem cmp_lt {p q : Rat} (h : p < q) : cmpQ p q = -1 := if_pos h
theorem cmp_gt {p q : Rat} (h : q < p) : cmpQ p q = 1 := by
  unfold cmpQ
  rw [if_neg (fun h2 => Rat.lt_irrefl (Std.lt_trans h h2)), if_pos h]
theorem cmp_eq (p : Rat) : cmpQ p p = 0 := by
  unfold cmpQ
  rw [if_neg Rat.lt_irrefl, if_neg Rat.lt_irrefl]
theorem three (p q : Rat) : p < q ∨ p = q ∨ q < p := by
  by_cases h : p < q
  · exact .inl h
  · rcases Rat.le_iff_lt_or_eq.1 (Rat.not_lt.1 h) with h | h
    · exact .inr (.inr h)
    · exact .inr (.inl h.symm)
theorem cmp_range (p q : Rat) : -1 ≤ cmpQ p q ∧ cmpQ p q ≤ 1 := by
  rcases three p q with h | h | h
  · rw [cmp_lt h]; omega
  · rw [h, cmp_eq]; omega
  · rw [cmp_gt h]; omega
theorem cmp_le {p q : Rat} : cmpQ p q ≤ 0 ↔ p ≤ q := by
  rcases three p q with h | h | h
  · rw [cmp_lt h]; exact ⟨fun _ => Rat.le_of_lt h, fun _ => by omega⟩
  · rw [h, cmp_eq]; exact ⟨fun _ => Rat.le_refl, fun _ => by omega⟩
  · rw [cmp_gt h]; exact ⟨fun h2 => by omega, fun h2 => absurd h (Rat.not_lt.2 h2)⟩
theorem cmp_sub (p q : Rat) : cmpQ (p - q) 0 = cmpQ p q := by
  rcases three p q with h | h | h
  · rw [cmp_lt h]
    refine cmp_lt ?_
    rw [Rat.sub_lt_iff, Rat.zero_add]; exact h
  · rw [h, Rat.sub_self, cmp_eq, cmp_eq]
  · rw [cmp_gt h]
    exact cmp_gt ((Rat.lt_iff_sub_pos q p).1 h)
theorem cmp_add (p q r : Rat) : cmpQ (p + r) (q + r) = cmpQ p q := by
  rcases three p q with h | h | h
  · rw [cmp_lt h]; exact cmp_lt (Rat.add_lt_add_right.2 h)
  · rw [h, cmp_eq, cmp_eq]
  · rw [cmp_gt h]; exact cmp_gt (Rat.add_lt_add_right.2 h)
theorem neg_lt_mul {a b c : Rat} (h : a < b) (hc : c < 0) : b * c < a * c := by
  have h1 : 0 < -c := by rw [Rat.lt_neg_iff]; exact hc
  have h2 := Rat.mul_lt_mul_of_pos_right h h1
  rw [Rat.mul_neg, Rat.mul_neg] at h2
  exact Rat.neg_lt_neg_iff.1 h2
theorem cmp_mul (p q r : Rat) : cmpQ (p * r) (q * r) = cmpQ p q * cmpQ r 0 := by
  rcases three r 0 with hr | hr | hr
  · rw [cmp_lt hr]
    rcases three p q with h | h | h
    · rw [cmp_lt h, cmp_gt (neg_lt_mul h hr)]; rfl
    · rw [h, cmp_eq, cmp_eq]; rfl
    · rw [cmp_gt h, cmp_lt (neg_lt_mul h hr)]; rfl
  · rw [hr, cmp_eq, Rat.mul_zero, Rat.mul_zero, cmp_eq, Int.mul_zero]
  · rw [cmp_gt hr, Int.mul_one]
    rcases three p q with h | h | h
    · rw [cmp_lt h]; exact cmp_lt (Rat.mul_lt_mul_of_pos_right h hr)
    · rw [h, cmp_eq, cmp_eq]
    · rw [cmp_gt h]; exact cmp_gt (Rat.mul_lt_mul_of_pos_right h hr)

set_option maxRecDepth 100000 in
set_option maxHeartbeats 2000000 in
theorem field_yes (a b c : ByteArray) (p q r : Rat) (ha : Is 120000 a p) (hb : Is 120000 b q) (hc : Is 120000 c r) (w : World) (hok : Ok w) :
    Calls Tryd.prog 8 #[.string a, .string b, .string c] w (Says true w) := by
  have H_a := Lib.hid ha
  have H_b := Lib.hid hb
  have H_c := Lib.hid hc
  clear ha hb hc
  have HOK := Lib.hid hok
  have HB := Lib.hid (Below.refl w.heap.size w)
  clear hok
  go_enter Tryd.func8, Tryd.ntmps8
  go_wp2_with fail
  refine (heads_yes _ HOK.out).mono ?_
  rintro e w0 ⟨rfl, hb⟩
  have HOK' := Lib.hid (HOK.out.below hb)
  have HB' := Lib.hid (below_step HB.out hb)
  clear hb HOK HB
  have HOK := HOK'
  have HB := HB'
  clear HOK' HB'
  go_wp2_with fail
  refine (canon_yes 120000 (by omega) _ _ H_a.out _ HOK.out).mono ?_
  rintro e w1 ⟨rfl, hb⟩
  have HOK' := Lib.hid (HOK.out.below hb)
  have HB' := Lib.hid (below_step HB.out hb)
  clear hb HOK HB
  have HOK := HOK'
  have HB := HB'
  clear HOK' HB'
  go_wp2_with fail
  refine (canon_yes 120000 (by omega) _ _ H_b.out _ HOK.out).mono ?_
  rintro e w1 ⟨rfl, hb⟩
  have HOK' := Lib.hid (HOK.out.below hb)
  have HB' := Lib.hid (below_step HB.out hb)
  clear hb HOK HB
  have HOK := HOK'
  have HB := HB'
  clear HOK' HB'
  go_wp2_with fail
  refine (canon_yes 120000 (by omega) _ _ H_c.out _ HOK.out).mono ?_
  rintro e w1 ⟨rfl, hb⟩
  have HOK' := Lib.hid (HOK.out.below hb)
  have HB' := Lib.hid (below_step HB.out hb)
  clear hb HOK HB
  have HOK := HOK'
  have HB := HB'
  clear HOK' HB'
  go_wp2_with fail
  refine (sums_yes _ _ _ p q r H_a.out H_b.out H_c.out _ HOK.out).mono ?_
  rintro e w1 ⟨rfl, hb⟩
  have HOK' := Lib.hid (HOK.out.below hb)
  have HB' := Lib.hid (below_step HB.out hb)
  clear hb HOK HB
  have HOK := HOK'
  have HB := HB'
  clear HOK' HB'
  go_wp2_with fail
  have hprod : Calls Tryd.prog 32 #[.string a, .string b, .string c] w1 (Says true w1) := by
    by_cases hq : q = 0
    · exact products_zero _ _ _ p q r H_a.out H_b.out H_c.out hq _ HOK.out
    · exact products_yes _ _ _ p q r H_a.out H_b.out H_c.out hq _ HOK.out
  refine hprod.mono ?_
  rintro e w9 ⟨rfl, hb⟩
  have HOK' := Lib.hid (HOK.out.below hb)
  have HB' := Lib.hid (below_step HB.out hb)
  clear hb HOK HB
  have HOK := HOK'
  have HB := HB'
  clear HOK' HB'
  go_wp2_with fail
  go_ret
  exact ⟨rfl, HB.out⟩

set_option maxRecDepth 100000 in
set_option maxHeartbeats 2000000 in
theorem field_a (a b c : ByteArray) (ha : a.size ≤ 1048576) (hb : b.size ≤ 1048576) (hc : c.size ≤ 1048576) (hn : No a) (w : World) (hok : Ok w) :
    Calls Tryd.prog 8 #[.string a, .string b, .string c] w (Says true w) := by
  have HSZ := Lib.hid (And.intro ha (And.intro hb hc))
  have HN := Lib.hid hn
  clear hn
  have HOK := Lib.hid hok
  have HB := Lib.hid (Below.refl w.heap.size w)
  clear hok
  go_enter Tryd.func8, Tryd.ntmps8
  go_wp2_with fail
  refine (heads_yes _ HOK.out).mono ?_
  rintro e w0 ⟨rfl, hb⟩
  have HOK' := Lib.hid (HOK.out.below hb)
  have HB' := Lib.hid (below_step HB.out hb)
  clear hb HOK HB
  have HOK := HOK'
  have HB := HB'
  clear HOK' HB'
  go_wp2_with fail
  refine (canon_no _ (by omega) HN.out _ HOK.out).mono ?_
  rintro e w1 ⟨rfl, hb⟩
  have HOK' := Lib.hid (HOK.out.below hb)
  have HB' := Lib.hid (below_step HB.out hb)
  clear hb HOK HB
  have HOK := HOK'
  have HB := HB'
  clear HOK' HB'
  go_wp2_with fail
  refine (add_any b c HSZ.out.2.1 HSZ.out.2.2 _ HOK.out).mono ?_
  rintro e w8 ⟨v, rfl, hvs, hvn, hb⟩
  have HVN := Lib.hid hvn
  clear hvn
  have HOK' := Lib.hid (HOK.out.below hb)
  have HB' := Lib.hid (below_step HB.out hb)
  clear hb HOK HB
  have HOK := HOK'
  have HB := HB'
  clear HOK' HB'
  go_wp2_with fail
  refine (add_no a v (by have := HSZ.out.1; omega) hvs (.inl HN.out) _ HOK.out).mono ?_
  rintro e w9 ⟨rfl, hb⟩
  have HOK' := Lib.hid (HOK.out.below hb)
  have HB' := Lib.hid (below_step HB.out hb)
  clear hb HOK HB
  have HOK := HOK'
  have HB := HB'
  clear HOK' HB'
  go_wp2_with fail
  go_ret
  exact ⟨rfl, HB.out⟩

set_option maxRecDepth 100000 in
set_option maxHeartbeats 2000000 in
theorem field_b (a b c : ByteArray) (ha : a.size ≤ 1048576) (hb : b.size ≤ 1048576) (hc : c.size ≤ 1048576) (p : Rat) (hp : Is 120000 a p) (hn : No b) (w : World) (hok : Ok w) :
    Calls Tryd.prog 8 #[.string a, .string b, .string c] w (Says true w) := by
  have HSZ := Lib.hid (And.intro ha (And.intro hb hc))
  have HN := Lib.hid hn
  have H_a := Lib.hid hp
  clear hn hp
  have HOK := Lib.hid hok
  have HB := Lib.hid (Below.refl w.heap.size w)
  clear hok
  go_enter Tryd.func8, Tryd.ntmps8
  go_wp2_with fail
  refine (heads_yes _ HOK.out).mono ?_
  rintro e w0 ⟨rfl, hb⟩
  have HOK' := Lib.hid (HOK.out.below hb)
  have HB' := Lib.hid (below_step HB.out hb)
  clear hb HOK HB
  have HOK := HOK'
  have HB := HB'
  clear HOK' HB'
  go_wp2_with fail
  refine (canon_yes 120000 (by omega) _ _ H_a.out _ HOK.out).mono ?_
  rintro e w1 ⟨rfl, hb⟩
  have HOK' := Lib.hid (HOK.out.below hb)
  have HB' := Lib.hid (below_step HB.out hb)
  clear hb HOK HB
  have HOK := HOK'
  have HB := HB'
  clear HOK' HB'
  go_wp2_with fail
  refine (canon_no _ (by omega) HN.out _ HOK.out).mono ?_
  rintro e w1 ⟨rfl, hb⟩
  have HOK' := Lib.hid (HOK.out.below hb)
  have HB' := Lib.hid (below_step HB.out hb)
  clear hb HOK HB
  have HOK := HOK'
  have HB := HB'
  clear HOK' HB'
  go_wp2_with fail
  refine (add_any b c HSZ.out.2.1 HSZ.out.2.2 _ HOK.out).mono ?_
  rintro e w8 ⟨v, rfl, hvs, hvn, hb⟩
  have HVN := Lib.hid hvn
  clear hvn
  have HOK' := Lib.hid (HOK.out.below hb)
  have HB' := Lib.hid (below_step HB.out hb)
  clear hb HOK HB
  have HOK := HOK'
  have HB := HB'
  clear HOK' HB'
  go_wp2_with fail
  refine (add_no a v (by have := HSZ.out.1; omega) hvs (.inr (HVN.out (.inl HN.out))) _ HOK.out).mono ?_
  rintro e w9 ⟨rfl, hb⟩
  have HOK' := Lib.hid (HOK.out.below hb)
  have HB' := Lib.hid (below_step HB.out hb)
  clear hb HOK HB
  have HOK := HOK'
  have HB := HB'
  clear HOK' HB'
  go_wp2_with fail
  go_ret
  exact ⟨rfl, HB.out⟩

set_option maxRecDepth 100000 in
set_option maxHeartbeats 2000000 in
theorem field_c (a b c : ByteArray) (ha : a.size ≤ 1048576) (hb : b.size ≤ 1048576) (hc : c.size ≤ 1048576) (p q : Rat) (hp : Is 120000 a p) (hq : Is 120000 b q) (hn : No c) (w : World) (hok : Ok w) :
    Calls Tryd.prog 8 #[.string a, .string b, .string c] w (Says true w) := by
  have HSZ := Lib.hid (And.intro ha (And.intro hb hc))
  have HN := Lib.hid hn
  have H_a := Lib.hid hp
  have H_b := Lib.hid hq
  clear hn hp hq
  have HOK := Lib.hid hok
  have HB := Lib.hid (Below.refl w.heap.size w)
  clear hok
  go_enter Tryd.func8, Tryd.ntmps8
  go_wp2_with fail
  refine (heads_yes _ HOK.out).mono ?_
  rintro e w0 ⟨rfl, hb⟩
  have HOK' := Lib.hid (HOK.out.below hb)
  have HB' := Lib.hid (below_step HB.out hb)
  clear hb HOK HB
  have HOK := HOK'
  have HB := HB'
  clear HOK' HB'
  go_wp2_with fail
  refine (canon_yes 120000 (by omega) _ _ H_a.out _ HOK.out).mono ?_
  rintro e w1 ⟨rfl, hb⟩
  have HOK' := Lib.hid (HOK.out.below hb)
  have HB' := Lib.hid (below_step HB.out hb)
  clear hb HOK HB
  have HOK := HOK'
  have HB := HB'
  clear HOK' HB'
  go_wp2_with fail
  refine (canon_yes 120000 (by omega) _ _ H_b.out _ HOK.out).mono ?_
  rintro e w1 ⟨rfl, hb⟩
  have HOK' := Lib.hid (HOK.out.below hb)
  have HB' := Lib.hid (below_step HB.out hb)
  clear hb HOK HB
  have HOK := HOK'
  have HB := HB'
  clear HOK' HB'
  go_wp2_with fail
  refine (canon_no _ (by omega) HN.out _ HOK.out).mono ?_
  rintro e w1 ⟨rfl, hb⟩
  have HOK' := Lib.hid (HOK.out.below hb)
  have HB' := Lib.hid (below_step HB.out hb)
  clear hb HOK HB
  have HOK := HOK'
  have HB := HB'
  clear HOK' HB'
  go_wp2_with fail
  refine (add_any b c HSZ.out.2.1 HSZ.out.2.2 _ HOK.out).mono ?_
  rintro e w8 ⟨v, rfl, hvs, hvn, hb⟩
  have HVN := Lib.hid hvn
  clear hvn
  have HOK' := Lib.hid (HOK.out.below hb)
  have HB' := Lib.hid (below_step HB.out hb)
  clear hb HOK HB
  have HOK := HOK'
  have HB := HB'
  clear HOK' HB'
  go_wp2_with fail
  refine (add_no a v (by have := HSZ.out.1; omega) hvs (.inr (HVN.out (.inr HN.out))) _ HOK.out).mono ?_
  rintro e w9 ⟨rfl, hb⟩
  have HOK' := Lib.hid (HOK.out.below hb)
  have HB' := Lib.hid (below_step HB.out hb)
  clear hb HOK HB
  have HOK := HOK'
  have HB := HB'
  clear HOK' HB'
  go_wp2_with fail
  go_ret
  exact ⟨rfl, HB.out⟩

/-- NumField answers true -/
theorem field (a b c : ByteArray) (ha : a.size ≤ 1048576) (hb : b.size ≤ 1048576) (hc : c.size ≤ 1048576) (w : World) (hok : Ok w) :
    Calls Tryd.prog 8 #[.string a, .string b, .string c] w (Says true w) := by
  rcases is_or a ha with ⟨p, h1⟩ | h1
  · rcases is_or b hb with ⟨q, h2⟩ | h2
    · rcases is_or c hc with ⟨r, h3⟩ | h3
      · exact field_yes a b c p q r h1 h2 h3 w hok
      · exact field_c a b c ha hb hc p q h1 h2 h3 w hok
    · exact field_b a b c ha hb hc p h1 h2 w hok
  · exact field_a a b c ha hb hc h1 w hok

set_option maxRecDepth 100000 in
set_option maxHeartbeats 2000000 in
theorem order_a (a b c : ByteArray) (ha : a.size ≤ 1048576) (hb : b.size ≤ 1048576) (hc : c.size ≤ 1048576) (hn : No a) (w : World) (hok : Ok w) :
    Calls Tryd.prog 9 #[.string a, .string b, .string c] w (Says true w) := by
  have HN := Lib.hid hn
  clear hn
  have HOK := Lib.hid hok
  have HB := Lib.hid (Below.refl w.heap.size w)
  clear hok
  go_enter Tryd.func9, Tryd.ntmps9
  go_wp2_with fail
  refine (heads_yes _ HOK.out).mono ?_
  rintro e w0 ⟨rfl, hb⟩
  have HOK' := Lib.hid (HOK.out.below hb)
  have HB' := Lib.hid (below_step HB.out hb)
  clear hb HOK HB
  have HOK := HOK'
  have HB := HB'
  clear HOK' HB'
  go_wp2_with fail
  refine (canon_no _ (by omega) HN.out _ HOK.out).mono ?_
  rintro e w1 ⟨rfl, hb⟩
  have HOK' := Lib.hid (HOK.out.below hb)
  have HB' := Lib.hid (below_step HB.out hb)
  clear hb HOK HB
  have HOK := HOK'
  have HB := HB'
  clear HOK' HB'
  go_wp2_with fail
  refine (cmp_no _ _ (by omega) (by omega) (.inl HN.out) _ HOK.out).mono ?_
  rintro e w1 ⟨rfl, hb⟩
  have HOK' := Lib.hid (HOK.out.below hb)
  have HB' := Lib.hid (below_step HB.out hb)
  clear hb HOK HB
  have HOK := HOK'
  have HB := HB'
  clear HOK' HB'
  go_wp2_with fail
  go_ret
  exact ⟨rfl, HB.out⟩

set_option maxRecDepth 100000 in
set_option maxHeartbeats 2000000 in
theorem order_b (a b c : ByteArray) (ha : a.size ≤ 1048576) (hb : b.size ≤ 1048576) (hc : c.size ≤ 1048576) (p : Rat) (hp : Is 120000 a p) (hn : No b) (w : World) (hok : Ok w) :
    Calls Tryd.prog 9 #[.string a, .string b, .string c] w (Says true w) := by
  have HN := Lib.hid hn
  have H_a := Lib.hid hp
  clear hn hp
  have HOK := Lib.hid hok
  have HB := Lib.hid (Below.refl w.heap.size w)
  clear hok
  go_enter Tryd.func9, Tryd.ntmps9
  go_wp2_with fail
  refine (heads_yes _ HOK.out).mono ?_
  rintro e w0 ⟨rfl, hb⟩
  have HOK' := Lib.hid (HOK.out.below hb)
  have HB' := Lib.hid (below_step HB.out hb)
  clear hb HOK HB
  have HOK := HOK'
  have HB := HB'
  clear HOK' HB'
  go_wp2_with fail
  refine (canon_yes 120000 (by omega) _ _ H_a.out _ HOK.out).mono ?_
  rintro e w1 ⟨rfl, hb⟩
  have HOK' := Lib.hid (HOK.out.below hb)
  have HB' := Lib.hid (below_step HB.out hb)
  clear hb HOK HB
  have HOK := HOK'
  have HB := HB'
  clear HOK' HB'
  go_wp2_with fail
  refine (canon_no _ (by omega) HN.out _ HOK.out).mono ?_
  rintro e w1 ⟨rfl, hb⟩
  have HOK' := Lib.hid (HOK.out.below hb)
  have HB' := Lib.hid (below_step HB.out hb)
  clear hb HOK HB
  have HOK := HOK'
  have HB := HB'
  clear HOK' HB'
  go_wp2_with fail
  refine (cmp_no _ _ (by omega) (by omega) (.inr HN.out) _ HOK.out).mono ?_
  rintro e w1 ⟨rfl, hb⟩
  have HOK' := Lib.hid (HOK.out.below hb)
  have HB' := Lib.hid (below_step HB.out hb)
  clear hb HOK HB
  have HOK := HOK'
  have HB := HB'
  clear HOK' HB'
  go_wp2_with fail
  go_ret
  exact ⟨rfl, HB.out⟩

set_option maxRecDepth 100000 in
set_option maxHeartbeats 2000000 in
theorem order_c (a b c : ByteArray) (ha : a.size ≤ 1048576) (hb : b.size ≤ 1048576) (hc : c.size ≤ 1048576) (p q : Rat) (hp : Is 120000 a p) (hq : Is 120000 b q) (hn : No c) (w : World) (hok : Ok w) :
    Calls Tryd.prog 9 #[.string a, .string b, .string c] w (Says true w) := by
  have HN := Lib.hid hn
  have H_a := Lib.hid hp
  have H_b := Lib.hid hq
  clear hn hp hq
  have HOK := Lib.hid hok
  have HB := Lib.hid (Below.refl w.heap.size w)
  clear hok
  go_enter Tryd.func9, Tryd.ntmps9
  go_wp2_with fail
  refine (heads_yes _ HOK.out).mono ?_
  rintro e w0 ⟨rfl, hb⟩
  have HOK' := Lib.hid (HOK.out.below hb)
  have HB' := Lib.hid (below_step HB.out hb)
  clear hb HOK HB
  have HOK := HOK'
  have HB := HB'
  clear HOK' HB'
  go_wp2_with fail
  refine (canon_yes 120000 (by omega) _ _ H_a.out _ HOK.out).mono ?_
  rintro e w1 ⟨rfl, hb⟩
  have HOK' := Lib.hid (HOK.out.below hb)
  have HB' := Lib.hid (below_step HB.out hb)
  clear hb HOK HB
  have HOK := HOK'
  have HB := HB'
  clear HOK' HB'
  go_wp2_with fail
  refine (canon_yes 120000 (by omega) _ _ H_b.out _ HOK.out).mono ?_
  rintro e w1 ⟨rfl, hb⟩
  have HOK' := Lib.hid (HOK.out.below hb)
  have HB' := Lib.hid (below_step HB.out hb)
  clear hb HOK HB
  have HOK := HOK'
  have HB := HB'
  clear HOK' HB'
  go_wp2_with fail
  refine (canon_no _ (by omega) HN.out _ HOK.out).mono ?_
  rintro e w1 ⟨rfl, hb⟩
  have HOK' := Lib.hid (HOK.out.below hb)
  have HB' := Lib.hid (below_step HB.out hb)
  clear hb HOK HB
  have HOK := HOK'
  have HB := HB'
  clear HOK' HB'
  go_wp2_with fail
  refine (cmp_yes 120000 (by omega) _ _ _ _ (H_a.out.mono (by omega)) (H_b.out.mono (by omega)) _ HOK.out).mono ?_
  rintro e w1 ⟨rfl, hb⟩
  have HOK' := Lib.hid (HOK.out.below hb)
  have HB' := Lib.hid (below_step HB.out hb)
  clear hb HOK HB
  have HOK := HOK'
  have HB := HB'
  clear HOK' HB'
  have hz9 := cmp_range p q
  generalize cmpQ p q = z at *
  have hz : (z == 2) = false := beq_eq_false_iff_ne.2 (by omega)
  go_wp2_with fail
  refine (cmp_no _ _ (by omega) (by omega) (.inr HN.out) _ HOK.out).mono ?_
  rintro e w1 ⟨rfl, hb⟩
  have HOK' := Lib.hid (HOK.out.below hb)
  have HB' := Lib.hid (below_step HB.out hb)
  clear hb HOK HB
  have HOK := HOK'
  have HB := HB'
  clear HOK' HB'
  go_wp2_with fail
  go_ret
  exact ⟨rfl, HB.out⟩

set_option maxRecDepth 100000 in
set_option maxHeartbeats 2000000 in
theorem order_lt (a b c : ByteArray) (p q r : Rat) (ha : Is 120000 a p) (hb : Is 120000 b q) (hc : Is 120000 c r) (hlt : p < q) (w : World) (hok : Ok w) :
    Calls Tryd.prog 9 #[.string a, .string b, .string c] w (Says true w) := by
  have H_a := Lib.hid ha
  have H_b := Lib.hid hb
  have H_c := Lib.hid hc
  clear ha hb hc
  have H_z := Lib.hid k_0
  have hab : a.toList ≠ b.toList := H_a.out.ne H_b.out (Rat.ne_of_lt hlt)
  have habb : (a.toList == b.toList) = false := beq_eq_false_iff_ne.2 hab
  have HLT := Lib.hid hlt
  clear hlt
  have HOK := Lib.hid hok
  have HB := Lib.hid (Below.refl w.heap.size w)
  clear hok
  go_enter Tryd.func9, Tryd.ntmps9
  go_wp2_with fail
  refine (heads_yes _ HOK.out).mono ?_
  rintro e w0 ⟨rfl, hb⟩
  have HOK' := Lib.hid (HOK.out.below hb)
  have HB' := Lib.hid (below_step HB.out hb)
  clear hb HOK HB
  have HOK := HOK'
  have HB := HB'
  clear HOK' HB'
  go_wp2_with fail
  refine (canon_yes 120000 (by omega) _ _ H_a.out _ HOK.out).mono ?_
  rintro e w1 ⟨rfl, hb⟩
  have HOK' := Lib.hid (HOK.out.below hb)
  have HB' := Lib.hid (below_step HB.out hb)
  clear hb HOK HB
  have HOK := HOK'
  have HB := HB'
  clear HOK' HB'
  go_wp2_with fail
  refine (canon_yes 120000 (by omega) _ _ H_b.out _ HOK.out).mono ?_
  rintro e w1 ⟨rfl, hb⟩
  have HOK' := Lib.hid (HOK.out.below hb)
  have HB' := Lib.hid (below_step HB.out hb)
  clear hb HOK HB
  have HOK := HOK'
  have HB := HB'
  clear HOK' HB'
  go_wp2_with fail
  refine (canon_yes 120000 (by omega) _ _ H_c.out _ HOK.out).mono ?_
  rintro e w1 ⟨rfl, hb⟩
  have HOK' := Lib.hid (HOK.out.below hb)
  have HB' := Lib.hid (below_step HB.out hb)
  clear hb HOK HB
  have HOK := HOK'
  have HB := HB'
  clear HOK' HB'
  go_wp2_with fail
  refine (cmp_yes 120000 (by omega) _ _ _ _ (H_a.out.mono (by omega)) (H_b.out.mono (by omega)) _ HOK.out).mono ?_
  rintro e w1 ⟨rfl, hb⟩
  have HOK' := Lib.hid (HOK.out.below hb)
  have HB' := Lib.hid (below_step HB.out hb)
  clear hb HOK HB
  have HOK := HOK'
  have HB := HB'
  clear HOK' HB'
  rw [cmp_lt HLT.out]
  go_wp2_with fail
  refine (cmp_yes 120000 (by omega) _ _ _ _ (H_b.out.mono (by omega)) (H_c.out.mono (by omega)) _ HOK.out).mono ?_
  rintro e w2 ⟨rfl, hb⟩
  have HOK' := Lib.hid (HOK.out.below hb)
  have HB' := Lib.hid (below_step HB.out hb)
  clear hb HOK HB
  have HOK := HOK'
  have HB := HB'
  clear HOK' HB'
  have hy9 := cmp_range q r
  have HY : Hid (cmpQ q r ≤ 0 → q ≤ r) := Lib.hid cmp_le.1
  generalize cmpQ q r = y at *
  go_wp2_with fail
  refine (cmp_yes 120000 (by omega) _ _ _ _ (H_b.out.mono (by omega)) (H_a.out.mono (by omega)) _ HOK.out).mono ?_
  rintro e w3 ⟨rfl, hb⟩
  have HOK' := Lib.hid (HOK.out.below hb)
  have HB' := Lib.hid (below_step HB.out hb)
  clear hb HOK HB
  have HOK := HOK'
  have HB := HB'
  clear HOK' HB'
  rw [cmp_gt HLT.out]
  go_wp2_with fail
  refine (sub_yes 120000 (by omega) _ _ _ _ (H_a.out.mono (by omega)) (H_b.out.mono (by omega)) _ HOK.out).mono ?_
  rintro e w4 ⟨d, rfl, hv, hb⟩
  have H_d := Lib.hid hv
  have HOK' := Lib.hid (HOK.out.below hb)
  have HB' := Lib.hid (below_step HB.out hb)
  clear hv hb HOK HB
  have HOK := HOK'
  have HB := HB'
  clear HOK' HB'
  go_wp2_with fail
  refine (cmp_yes 240001 (by omega) _ _ _ _ (H_d.out.mono (by omega)) (H_z.out.mono (by omega)) _ HOK.out).mono ?_
  rintro e w5 ⟨rfl, hb⟩
  have HOK' := Lib.hid (HOK.out.below hb)
  have HB' := Lib.hid (below_step HB.out hb)
  clear hb HOK HB
  have HOK := HOK'
  have HB := HB'
  clear HOK' HB'
  rw [cmp_sub, cmp_lt HLT.out]
  by_cases hy : y ≤ 0
  · have HZ : Hid (cmpQ p r ≤ 0) := Lib.hid (cmp_le.2 (Rat.le_trans (Rat.le_of_lt HLT.out) (HY.out hy)))
    go_wp2_with fail
    refine (cmp_yes 120000 (by omega) _ _ _ _ (H_a.out.mono (by omega)) (H_c.out.mono (by omega)) _ HOK.out).mono ?_
    rintro e w1 ⟨rfl, hb⟩
    have HOK' := Lib.hid (HOK.out.below hb)
    have HB' := Lib.hid (below_step HB.out hb)
    clear hb HOK HB
    have HOK := HOK'
    have HB := HB'
    clear HOK' HB'
    have hz9 := cmp_range p r
    have hz8 := HZ.out
    generalize cmpQ p r = z9 at *
    go_wp2_with fail
    refine (add_yes 120000 (by omega) _ _ _ _ (H_a.out.mono (by omega)) (H_c.out.mono (by omega)) _ HOK.out).mono ?_
    rintro e w1 ⟨ac, rfl, hv, hb⟩
    have H_ac := Lib.hid hv
    have HOK' := Lib.hid (HOK.out.below hb)
    have HB' := Lib.hid (below_step HB.out hb)
    clear hv hb HOK HB
    have HOK := HOK'
    have HB := HB'
    clear HOK' HB'
    go_wp2_with fail
    refine (add_yes 120000 (by omega) _ _ _ _ (H_b.out.mono (by omega)) (H_c.out.mono (by omega)) _ HOK.out).mono ?_
    rintro e w2 ⟨bc, rfl, hv, hb⟩
    have H_bc := Lib.hid hv
    have HOK' := Lib.hid (HOK.out.below hb)
    have HB' := Lib.hid (below_step HB.out hb)
    clear hv hb HOK HB
    have HOK := HOK'
    have HB := HB'
    clear HOK' HB'
    go_wp2_with fail
    refine (cmp_yes 240001 (by omega) _ _ _ _ (H_ac.out.mono (by omega)) (H_bc.out.mono (by omega)) _ HOK.out).mono ?_
    rintro e w3 ⟨rfl, hb⟩
    have HOK' := Lib.hid (HOK.out.below hb)
    have HB' := Lib.hid (below_step HB.out hb)
    clear hb HOK HB
    have HOK := HOK'
    have HB := HB'
    clear HOK' HB'
    rw [cmp_add, cmp_lt HLT.out]
    go_wp2_with fail
    refine (mul_yes 120000 (by omega) _ _ _ _ (H_a.out.mono (by omega)) (H_c.out.mono (by omega)) _ HOK.out).mono ?_
    rintro e w4 ⟨mac, rfl, hv, hb⟩
    have H_mac := Lib.hid hv
    have HOK' := Lib.hid (HOK.out.below hb)
    have HB' := Lib.hid (below_step HB.out hb)
    clear hv hb HOK HB
    have HOK := HOK'
    have HB := HB'
    clear HOK' HB'
    go_wp2_with fail
    refine (mul_yes 120000 (by omega) _ _ _ _ (H_b.out.mono (by omega)) (H_c.out.mono (by omega)) _ HOK.out).mono ?_
    rintro e w5 ⟨mbc, rfl, hv, hb⟩
    have H_mbc := Lib.hid hv
    have HOK' := Lib.hid (HOK.out.below hb)
    have HB' := Lib.hid (below_step HB.out hb)
    clear hv hb HOK HB
    have HOK := HOK'
    have HB := HB'
    clear HOK' HB'
    go_wp2_with fail
    refine (cmp_yes 240001 (by omega) _ _ _ _ (H_mac.out.mono (by omega)) (H_mbc.out.mono (by omega)) _ HOK.out).mono ?_
    rintro e w6 ⟨rfl, hb⟩
    have HOK' := Lib.hid (HOK.out.below hb)
    have HB' := Lib.hid (below_step HB.out hb)
    clear hb HOK HB
    have HOK := HOK'
    have HB := HB'
    clear HOK' HB'
    rw [cmp_mul, cmp_lt HLT.out]
    go_wp2_with fail
    refine (cmp_yes 120000 (by omega) _ _ _ _ (H_c.out.mono (by omega)) (H_z.out.mono (by omega)) _ HOK.out).mono ?_
    rintro e w7 ⟨rfl, hb⟩
    have HOK' := Lib.hid (HOK.out.below hb)
    have HB' := Lib.hid (below_step HB.out hb)
    clear hb HOK HB
    have HOK := HOK'
    have HB := HB'
    clear HOK' HB'
    have ht9 := cmp_range r 0
    generalize cmpQ r 0 = t at *
    have hw : IntKind.i64.wrap ((-1) * t) = (-1) * t := IntWalk.i64_in _ (by omega)
    go_wp2_with fail
    go_ret
    exact ⟨rfl, HB.out⟩
  · have hy2 : ¬ y ≤ 0 := hy
    go_wp2_with fail
    refine (add_yes 120000 (by omega) _ _ _ _ (H_a.out.mono (by omega)) (H_c.out.mono (by omega)) _ HOK.out).mono ?_
    rintro e w1 ⟨ac, rfl, hv, hb⟩
    have H_ac := Lib.hid hv
    have HOK' := Lib.hid (HOK.out.below hb)
    have HB' := Lib.hid (below_step HB.out hb)
    clear hv hb HOK HB
    have HOK := HOK'
    have HB := HB'
    clear HOK' HB'
    go_wp2_with fail
    refine (add_yes 120000 (by omega) _ _ _ _ (H_b.out.mono (by omega)) (H_c.out.mono (by omega)) _ HOK.out).mono ?_
    rintro e w2 ⟨bc, rfl, hv, hb⟩
    have H_bc := Lib.hid hv
    have HOK' := Lib.hid (HOK.out.below hb)
    have HB' := Lib.hid (below_step HB.out hb)
    clear hv hb HOK HB
    have HOK := HOK'
    have HB := HB'
    clear HOK' HB'
    go_wp2_with fail
    refine (cmp_yes 240001 (by omega) _ _ _ _ (H_ac.out.mono (by omega)) (H_bc.out.mono (by omega)) _ HOK.out).mono ?_
    rintro e w3 ⟨rfl, hb⟩
    have HOK' := Lib.hid (HOK.out.below hb)
    have HB' := Lib.hid (below_step HB.out hb)
    clear hb HOK HB
    have HOK := HOK'
    have HB := HB'
    clear HOK' HB'
    rw [cmp_add, cmp_lt HLT.out]
    go_wp2_with fail
    refine (mul_yes 120000 (by omega) _ _ _ _ (H_a.out.mono (by omega)) (H_c.out.mono (by omega)) _ HOK.out).mono ?_
    rintro e w4 ⟨mac, rfl, hv, hb⟩
    have H_mac := Lib.hid hv
    have HOK' := Lib.hid (HOK.out.below hb)
    have HB' := Lib.hid (below_step HB.out hb)
    clear hv hb HOK HB
    have HOK := HOK'
    have HB := HB'
    clear HOK' HB'
    go_wp2_with fail
    refine (mul_yes 120000 (by omega) _ _ _ _ (H_b.out.mono (by omega)) (H_c.out.mono (by omega)) _ HOK.out).mono ?_
    rintro e w5 ⟨mbc, rfl, hv, hb⟩
    have H_mbc := Lib.hid hv
    have HOK' := Lib.hid (HOK.out.below hb)
    have HB' := Lib.hid (below_step HB.out hb)
    clear hv hb HOK HB
    have HOK := HOK'
    have HB := HB'
    clear HOK' HB'
    go_wp2_with fail
    refine (cmp_yes 240001 (by omega) _ _ _ _ (H_mac.out.mono (by omega)) (H_mbc.out.mono (by omega)) _ HOK.out).mono ?_
    rintro e w6 ⟨rfl, hb⟩
    have HOK' := Lib.hid (HOK.out.below hb)
    have HB' := Lib.hid (below_step HB.out hb)
    clear hb HOK HB
    have HOK := HOK'
    have HB := HB'
    clear HOK' HB'
    rw [cmp_mul, cmp_lt HLT.out]
    go_wp2_with fail
    refine (cmp_yes 120000 (by omega) _ _ _ _ (H_c.out.mono (by omega)) (H_z.out.mono (by omega)) _ HOK.out).mono ?_
    rintro e w7 ⟨rfl, hb⟩
    have HOK' := Lib.hid (HOK.out.below hb)
    have HB' := Lib.hid (below_step HB.out hb)
    clear hb HOK HB
    have HOK := HOK'
    have HB := HB'
    clear HOK' HB'
    have ht9 := cmp_range r 0
    generalize cmpQ r 0 = t at *
    have hw : IntKind.i64.wrap ((-1) * t) = (-1) * t := IntWalk.i64_in _ (by omega)
    go_wp2_with fail
    go_ret
    exact ⟨rfl, HB.out⟩

set_option maxRecDepth 100000 in
set_option maxHeartbeats 2000000 in
theorem order_gt (a b c : ByteArray) (p q r : Rat) (ha : Is 120000 a p) (hb : Is 120000 b q) (hc : Is 120000 c r) (hlt : q < p) (w : World) (hok : Ok w) :
    Calls Tryd.prog 9 #[.string a, .string b, .string c] w (Says true w) := by
  have H_a := Lib.hid ha
  have H_b := Lib.hid hb
  have H_c := Lib.hid hc
  clear ha hb hc
  have H_z := Lib.hid k_0
  have hab : a.toList ≠ b.toList := H_a.out.ne H_b.out (Rat.ne_of_gt hlt)
  have habb : (a.toList == b.toList) = false := beq_eq_false_iff_ne.2 hab
  have HLT := Lib.hid hlt
  clear hlt
  have HOK := Lib.hid hok
  have HB := Lib.hid (Below.refl w.heap.size w)
  clear hok
  go_enter Tryd.func9, Tryd.ntmps9
  go_wp2_with fail
  refine (heads_yes _ HOK.out).mono ?_
  rintro e w0 ⟨rfl, hb⟩
  have HOK' := Lib.hid (HOK.out.below hb)
  have HB' := Lib.hid (below_step HB.out hb)
  clear hb HOK HB
  have HOK := HOK'
  have HB := HB'
  clear HOK' HB'
  go_wp2_with fail
  refine (canon_yes 120000 (by omega) _ _ H_a.out _ HOK.out).mono ?_
  rintro e w1 ⟨rfl, hb⟩
  have HOK' := Lib.hid (HOK.out.below hb)
  have HB' := Lib.hid (below_step HB.out hb)
  clear hb HOK HB
  have HOK := HOK'
  have HB := HB'
  clear HOK' HB'
  go_wp2_with fail
  refine (canon_yes 120000 (by omega) _ _ H_b.out _ HOK.out).mono ?_
  rintro e w1 ⟨rfl, hb⟩
  have HOK' := Lib.hid (HOK.out.below hb)
  have HB' := Lib.hid (below_step HB.out hb)
  clear hb HOK HB
  have HOK := HOK'
  have HB := HB'
  clear HOK' HB'
  go_wp2_with fail
  refine (canon_yes 120000 (by omega) _ _ H_c.out _ HOK.out).mono ?_
  rintro e w1 ⟨rfl, hb⟩
  have HOK' := Lib.hid (HOK.out.below hb)
  have HB' := Lib.hid (below_step HB.out hb)
  clear hb HOK HB
  have HOK := HOK'
  have HB := HB'
  clear HOK' HB'
  go_wp2_with fail
  refine (cmp_yes 120000 (by omega) _ _ _ _ (H_a.out.mono (by omega)) (H_b.out.mono (by omega)) _ HOK.out).mono ?_
  rintro e w1 ⟨rfl, hb⟩
  have HOK' := Lib.hid (HOK.out.below hb)
  have HB' := Lib.hid (below_step HB.out hb)
  clear hb HOK HB
  have HOK := HOK'
  have HB := HB'
  clear HOK' HB'
  rw [cmp_gt HLT.out]
  go_wp2_with fail
  refine (cmp_yes 120000 (by omega) _ _ _ _ (H_b.out.mono (by omega)) (H_c.out.mono (by omega)) _ HOK.out).mono ?_
  rintro e w2 ⟨rfl, hb⟩
  have HOK' := Lib.hid (HOK.out.below hb)
  have HB' := Lib.hid (below_step HB.out hb)
  clear hb HOK HB
  have HOK := HOK'
  have HB := HB'
  clear HOK' HB'
  have hy9 := cmp_range q r
  have HY : Hid (cmpQ q r ≤ 0 → q ≤ r) := Lib.hid cmp_le.1
  generalize cmpQ q r = y at *
  go_wp2_with fail
  refine (cmp_yes 120000 (by omega) _ _ _ _ (H_b.out.mono (by omega)) (H_a.out.mono (by omega)) _ HOK.out).mono ?_
  rintro e w3 ⟨rfl, hb⟩
  have HOK' := Lib.hid (HOK.out.below hb)
  have HB' := Lib.hid (below_step HB.out hb)
  clear hb HOK HB
  have HOK := HOK'
  have HB := HB'
  clear HOK' HB'
  rw [cmp_lt HLT.out]
  go_wp2_with fail
  refine (sub_yes 120000 (by omega) _ _ _ _ (H_a.out.mono (by omega)) (H_b.out.mono (by omega)) _ HOK.out).mono ?_
  rintro e w4 ⟨d, rfl, hv, hb⟩
  have H_d := Lib.hid hv
  have HOK' := Lib.hid (HOK.out.below hb)
  have HB' := Lib.hid (below_step HB.out hb)
  clear hv hb HOK HB
  have HOK := HOK'
  have HB := HB'
  clear HOK' HB'
  go_wp2_with fail
  refine (cmp_yes 240001 (by omega) _ _ _ _ (H_d.out.mono (by omega)) (H_z.out.mono (by omega)) _ HOK.out).mono ?_
  rintro e w5 ⟨rfl, hb⟩
  have HOK' := Lib.hid (HOK.out.below hb)
  have HB' := Lib.hid (below_step HB.out hb)
  clear hb HOK HB
  have HOK := HOK'
  have HB := HB'
  clear HOK' HB'
  rw [cmp_sub, cmp_gt HLT.out]
  go_wp2_with fail
  refine (add_yes 120000 (by omega) _ _ _ _ (H_a.out.mono (by omega)) (H_c.out.mono (by omega)) _ HOK.out).mono ?_
  rintro e w1 ⟨ac, rfl, hv, hb⟩
  have H_ac := Lib.hid hv
  have HOK' := Lib.hid (HOK.out.below hb)
  have HB' := Lib.hid (below_step HB.out hb)
  clear hv hb HOK HB
  have HOK := HOK'
  have HB := HB'
  clear HOK' HB'
  go_wp2_with fail
  refine (add_yes 120000 (by omega) _ _ _ _ (H_b.out.mono (by omega)) (H_c.out.mono (by omega)) _ HOK.out).mono ?_
  rintro e w2 ⟨bc, rfl, hv, hb⟩
  have H_bc := Lib.hid hv
  have HOK' := Lib.hid (HOK.out.below hb)
  have HB' := Lib.hid (below_step HB.out hb)
  clear hv hb HOK HB
  have HOK := HOK'
  have HB := HB'
  clear HOK' HB'
  go_wp2_with fail
  refine (cmp_yes 240001 (by omega) _ _ _ _ (H_ac.out.mono (by omega)) (H_bc.out.mono (by omega)) _ HOK.out).mono ?_
  rintro e w3 ⟨rfl, hb⟩
  have HOK' := Lib.hid (HOK.out.below hb)
  have HB' := Lib.hid (below_step HB.out hb)
  clear hb HOK HB
  have HOK := HOK'
  have HB := HB'
  clear HOK' HB'
  rw [cmp_add, cmp_gt HLT.out]
  go_wp2_with fail
  refine (mul_yes 120000 (by omega) _ _ _ _ (H_a.out.mono (by omega)) (H_c.out.mono (by omega)) _ HOK.out).mono ?_
  rintro e w4 ⟨mac, rfl, hv, hb⟩
  have H_mac := Lib.hid hv
  have HOK' := Lib.hid (HOK.out.below hb)
  have HB' := Lib.hid (below_step HB.out hb)
  clear hv hb HOK HB
  have HOK := HOK'
  have HB := HB'
  clear HOK' HB'
  go_wp2_with fail
  refine (mul_yes 120000 (by omega) _ _ _ _ (H_b.out.mono (by omega)) (H_c.out.mono (by omega)) _ HOK.out).mono ?_
  rintro e w5 ⟨mbc, rfl, hv, hb⟩
  have H_mbc := Lib.hid hv
  have HOK' := Lib.hid (HOK.out.below hb)
  have HB' := Lib.hid (below_step HB.out hb)
  clear hv hb HOK HB
  have HOK := HOK'
  have HB := HB'
  clear HOK' HB'
  go_wp2_with fail
  refine (cmp_yes 240001 (by omega) _ _ _ _ (H_mac.out.mono (by omega)) (H_mbc.out.mono (by omega)) _ HOK.out).mono ?_
  rintro e w6 ⟨rfl, hb⟩
  have HOK' := Lib.hid (HOK.out.below hb)
  have HB' := Lib.hid (below_step HB.out hb)
  clear hb HOK HB
  have HOK := HOK'
  have HB := HB'
  clear HOK' HB'
  rw [cmp_mul, cmp_gt HLT.out]
  go_wp2_with fail
  refine (cmp_yes 120000 (by omega) _ _ _ _ (H_c.out.mono (by omega)) (H_z.out.mono (by omega)) _ HOK.out).mono ?_
  rintro e w7 ⟨rfl, hb⟩
  have HOK' := Lib.hid (HOK.out.below hb)
  have HB' := Lib.hid (below_step HB.out hb)
  clear hb HOK HB
  have HOK := HOK'
  have HB := HB'
  clear HOK' HB'
  have ht9 := cmp_range r 0
  generalize cmpQ r 0 = t at *
  have hw : IntKind.i64.wrap (1 * t) = 1 * t := IntWalk.i64_in _ (by omega)
  go_wp2_with fail
  go_ret
  exact ⟨rfl, HB.out⟩

set_option maxRecDepth 100000 in
set_option maxHeartbeats 2000000 in
theorem order_eq (a c : ByteArray) (p r : Rat) (ha : Is 120000 a p) (hc : Is 120000 c r) (w : World) (hok : Ok w) :
    Calls Tryd.prog 9 #[.string a, .string a, .string c] w (Says true w) := by
  have H_a := Lib.hid ha
  have H_c := Lib.hid hc
  clear ha hc
  have H_z := Lib.hid k_0
  have HOK := Lib.hid hok
  have HB := Lib.hid (Below.refl w.heap.size w)
  clear hok
  go_enter Tryd.func9, Tryd.ntmps9
  go_wp2_with fail
  refine (heads_yes _ HOK.out).mono ?_
  rintro e w0 ⟨rfl, hb⟩
  have HOK' := Lib.hid (HOK.out.below hb)
  have HB' := Lib.hid (below_step HB.out hb)
  clear hb HOK HB
  have HOK := HOK'
  have HB := HB'
  clear HOK' HB'
  go_wp2_with fail
  refine (canon_yes 120000 (by omega) _ _ H_a.out _ HOK.out).mono ?_
  rintro e w1 ⟨rfl, hb⟩
  have HOK' := Lib.hid (HOK.out.below hb)
  have HB' := Lib.hid (below_step HB.out hb)
  clear hb HOK HB
  have HOK := HOK'
  have HB := HB'
  clear HOK' HB'
  go_wp2_with fail
  refine (canon_yes 120000 (by omega) _ _ H_a.out _ HOK.out).mono ?_
  rintro e w1 ⟨rfl, hb⟩
  have HOK' := Lib.hid (HOK.out.below hb)
  have HB' := Lib.hid (below_step HB.out hb)
  clear hb HOK HB
  have HOK := HOK'
  have HB := HB'
  clear HOK' HB'
  go_wp2_with fail
  refine (canon_yes 120000 (by omega) _ _ H_c.out _ HOK.out).mono ?_
  rintro e w1 ⟨rfl, hb⟩
  have HOK' := Lib.hid (HOK.out.below hb)
  have HB' := Lib.hid (below_step HB.out hb)
  clear hb HOK HB
  have HOK := HOK'
  have HB := HB'
  clear HOK' HB'
  go_wp2_with fail
  refine (cmp_yes 120000 (by omega) _ _ _ _ (H_a.out.mono (by omega)) (H_a.out.mono (by omega)) _ HOK.out).mono ?_
  rintro e w1 ⟨rfl, hb⟩
  have HOK' := Lib.hid (HOK.out.below hb)
  have HB' := Lib.hid (below_step HB.out hb)
  clear hb HOK HB
  have HOK := HOK'
  have HB := HB'
  clear HOK' HB'
  rw [cmp_eq p]
  go_wp2_with fail
  refine (cmp_yes 120000 (by omega) _ _ _ _ (H_a.out.mono (by omega)) (H_c.out.mono (by omega)) _ HOK.out).mono ?_
  rintro e w2 ⟨rfl, hb⟩
  have HOK' := Lib.hid (HOK.out.below hb)
  have HB' := Lib.hid (below_step HB.out hb)
  clear hb HOK HB
  have HOK := HOK'
  have HB := HB'
  clear HOK' HB'
  have hy9 := cmp_range p r
  have HY : Hid (cmpQ p r ≤ 0 → p ≤ r) := Lib.hid cmp_le.1
  generalize cmpQ p r = y at *
  go_wp2_with fail
  refine (cmp_yes 120000 (by omega) _ _ _ _ (H_a.out.mono (by omega)) (H_a.out.mono (by omega)) _ HOK.out).mono ?_
  rintro e w3 ⟨rfl, hb⟩
  have HOK' := Lib.hid (HOK.out.below hb)
  have HB' := Lib.hid (below_step HB.out hb)
  clear hb HOK HB
  have HOK := HOK'
  have HB := HB'
  clear HOK' HB'
  rw [cmp_eq p]
  go_wp2_with fail
  refine (sub_yes 120000 (by omega) _ _ _ _ (H_a.out.mono (by omega)) (H_a.out.mono (by omega)) _ HOK.out).mono ?_
  rintro e w4 ⟨d, rfl, hv, hb⟩
  have H_d := Lib.hid hv
  have HOK' := Lib.hid (HOK.out.below hb)
  have HB' := Lib.hid (below_step HB.out hb)
  clear hv hb HOK HB
  have HOK := HOK'
  have HB := HB'
  clear HOK' HB'
  go_wp2_with fail
  refine (cmp_yes 240001 (by omega) _ _ _ _ (H_d.out.mono (by omega)) (H_z.out.mono (by omega)) _ HOK.out).mono ?_
  rintro e w5 ⟨rfl, hb⟩
  have HOK' := Lib.hid (HOK.out.below hb)
  have HB' := Lib.hid (below_step HB.out hb)
  clear hb HOK HB
  have HOK := HOK'
  have HB := HB'
  clear HOK' HB'
  rw [cmp_sub, cmp_eq p]
  by_cases hy : y ≤ 0
  · have HZ : Hid (cmpQ p r ≤ 0) := Lib.hid (cmp_le.2 (Rat.le_trans (Rat.le_refl) (HY.out hy)))
    go_wp2_with fail
    refine (cmp_yes 120000 (by omega) _ _ _ _ (H_a.out.mono (by omega)) (H_c.out.mono (by omega)) _ HOK.out).mono ?_
    rintro e w1 ⟨rfl, hb⟩
    have HOK' := Lib.hid (HOK.out.below hb)
    have HB' := Lib.hid (below_step HB.out hb)
    clear hb HOK HB
    have HOK := HOK'
    have HB := HB'
    clear HOK' HB'
    have hz9 := cmp_range p r
    have hz8 := HZ.out
    generalize cmpQ p r = z9 at *
    go_wp2_with fail
    refine (add_yes 120000 (by omega) _ _ _ _ (H_a.out.mono (by omega)) (H_c.out.mono (by omega)) _ HOK.out).mono ?_
    rintro e w1 ⟨ac, rfl, hv, hb⟩
    have H_ac := Lib.hid hv
    have HOK' := Lib.hid (HOK.out.below hb)
    have HB' := Lib.hid (below_step HB.out hb)
    clear hv hb HOK HB
    have HOK := HOK'
    have HB := HB'
    clear HOK' HB'
    go_wp2_with fail
    refine (add_yes 120000 (by omega) _ _ _ _ (H_a.out.mono (by omega)) (H_c.out.mono (by omega)) _ HOK.out).mono ?_
    rintro e w2 ⟨bc, rfl, hv, hb⟩
    have H_bc := Lib.hid hv
    have HOK' := Lib.hid (HOK.out.below hb)
    have HB' := Lib.hid (below_step HB.out hb)
    clear hv hb HOK HB
    have HOK := HOK'
    have HB := HB'
    clear HOK' HB'
    go_wp2_with fail
    refine (cmp_yes 240001 (by omega) _ _ _ _ (H_ac.out.mono (by omega)) (H_bc.out.mono (by omega)) _ HOK.out).mono ?_
    rintro e w3 ⟨rfl, hb⟩
    have HOK' := Lib.hid (HOK.out.below hb)
    have HB' := Lib.hid (below_step HB.out hb)
    clear hb HOK HB
    have HOK := HOK'
    have HB := HB'
    clear HOK' HB'
    rw [cmp_add, cmp_eq p]
    go_wp2_with fail
    refine (mul_yes 120000 (by omega) _ _ _ _ (H_a.out.mono (by omega)) (H_c.out.mono (by omega)) _ HOK.out).mono ?_
    rintro e w4 ⟨mac, rfl, hv, hb⟩
    have H_mac := Lib.hid hv
    have HOK' := Lib.hid (HOK.out.below hb)
    have HB' := Lib.hid (below_step HB.out hb)
    clear hv hb HOK HB
    have HOK := HOK'
    have HB := HB'
    clear HOK' HB'
    go_wp2_with fail
    refine (mul_yes 120000 (by omega) _ _ _ _ (H_a.out.mono (by omega)) (H_c.out.mono (by omega)) _ HOK.out).mono ?_
    rintro e w5 ⟨mbc, rfl, hv, hb⟩
    have H_mbc := Lib.hid hv
    have HOK' := Lib.hid (HOK.out.below hb)
    have HB' := Lib.hid (below_step HB.out hb)
    clear hv hb HOK HB
    have HOK := HOK'
    have HB := HB'
    clear HOK' HB'
    go_wp2_with fail
    refine (cmp_yes 240001 (by omega) _ _ _ _ (H_mac.out.mono (by omega)) (H_mbc.out.mono (by omega)) _ HOK.out).mono ?_
    rintro e w6 ⟨rfl, hb⟩
    have HOK' := Lib.hid (HOK.out.below hb)
    have HB' := Lib.hid (below_step HB.out hb)
    clear hb HOK HB
    have HOK := HOK'
    have HB := HB'
    clear HOK' HB'
    rw [cmp_mul, cmp_eq p]
    go_wp2_with fail
    refine (cmp_yes 120000 (by omega) _ _ _ _ (H_c.out.mono (by omega)) (H_z.out.mono (by omega)) _ HOK.out).mono ?_
    rintro e w7 ⟨rfl, hb⟩
    have HOK' := Lib.hid (HOK.out.below hb)
    have HB' := Lib.hid (below_step HB.out hb)
    clear hb HOK HB
    have HOK := HOK'
    have HB := HB'
    clear HOK' HB'
    have ht9 := cmp_range r 0
    generalize cmpQ r 0 = t at *
    have hw : IntKind.i64.wrap (0 * t) = 0 * t := IntWalk.i64_in _ (by omega)
    go_wp2_with fail
    go_ret
    exact ⟨rfl, HB.out⟩
  · have hy2 : ¬ y ≤ 0 := hy
    go_wp2_with fail
    refine (add_yes 120000 (by omega) _ _ _ _ (H_a.out.mono (by omega)) (H_c.out.mono (by omega)) _ HOK.out).mono ?_
    rintro e w1 ⟨ac, rfl, hv, hb⟩
    have H_ac := Lib.hid hv
    have HOK' := Lib.hid (HOK.out.below hb)
    have HB' := Lib.hid (below_step HB.out hb)
    clear hv hb HOK HB
    have HOK := HOK'
    have HB := HB'
    clear HOK' HB'
    go_wp2_with fail
    refine (add_yes 120000 (by omega) _ _ _ _ (H_a.out.mono (by omega)) (H_c.out.mono (by omega)) _ HOK.out).mono ?_
    rintro e w2 ⟨bc, rfl, hv, hb⟩
    have H_bc := Lib.hid hv
    have HOK' := Lib.hid (HOK.out.below hb)
    have HB' := Lib.hid (below_step HB.out hb)
    clear hv hb HOK HB
    have HOK := HOK'
    have HB := HB'
    clear HOK' HB'
    go_wp2_with fail
    refine (cmp_yes 240001 (by omega) _ _ _ _ (H_ac.out.mono (by omega)) (H_bc.out.mono (by omega)) _ HOK.out).mono ?_
    rintro e w3 ⟨rfl, hb⟩
    have HOK' := Lib.hid (HOK.out.below hb)
    have HB' := Lib.hid (below_step HB.out hb)
    clear hb HOK HB
    have HOK := HOK'
    have HB := HB'
    clear HOK' HB'
    rw [cmp_add, cmp_eq p]
    go_wp2_with fail
    refine (mul_yes 120000 (by omega) _ _ _ _ (H_a.out.mono (by omega)) (H_c.out.mono (by omega)) _ HOK.out).mono ?_
    rintro e w4 ⟨mac, rfl, hv, hb⟩
    have H_mac := Lib.hid hv
    have HOK' := Lib.hid (HOK.out.below hb)
    have HB' := Lib.hid (below_step HB.out hb)
    clear hv hb HOK HB
    have HOK := HOK'
    have HB := HB'
    clear HOK' HB'
    go_wp2_with fail
    refine (mul_yes 120000 (by omega) _ _ _ _ (H_a.out.mono (by omega)) (H_c.out.mono (by omega)) _ HOK.out).mono ?_
    rintro e w5 ⟨mbc, rfl, hv, hb⟩
    have H_mbc := Lib.hid hv
    have HOK' := Lib.hid (HOK.out.below hb)
    have HB' := Lib.hid (below_step HB.out hb)
    clear hv hb HOK HB
    have HOK := HOK'
    have HB := HB'
    clear HOK' HB'
    go_wp2_with fail
    refine (cmp_yes 240001 (by omega) _ _ _ _ (H_mac.out.mono (by omega)) (H_mbc.out.mono (by omega)) _ HOK.out).mono ?_
    rintro e w6 ⟨rfl, hb⟩
    have HOK' := Lib.hid (HOK.out.below hb)
    have HB' := Lib.hid (below_step HB.out hb)
    clear hb HOK HB
    have HOK := HOK'
    have HB := HB'
    clear HOK' HB'
    rw [cmp_mul, cmp_eq p]
    go_wp2_with fail
    refine (cmp_yes 120000 (by omega) _ _ _ _ (H_c.out.mono (by omega)) (H_z.out.mono (by omega)) _ HOK.out).mono ?_
    rintro e w7 ⟨rfl, hb⟩
    have HOK' := Lib.hid (HOK.out.below hb)
    have HB' := Lib.hid (below_step HB.out hb)
    clear hb HOK HB
    have HOK := HOK'
    have HB := HB'
    clear HOK' HB'
    have ht9 := cmp_range r 0
    generalize cmpQ r 0 = t at *
    have hw : IntKind.i64.wrap (0 * t) = 0 * t := IntWalk.i64_in _ (by omega)
    go_wp2_with fail
    go_ret
    exact ⟨rfl, HB.out⟩

/-- NumOrder answers true -/
theorem order (a b c : ByteArray) (ha : a.size ≤ 1048576) (hb : b.size ≤ 1048576) (hc : c.size ≤ 1048576) (w : World) (hok : Ok w) :
    Calls Tryd.prog 9 #[.string a, .string b, .string c] w (Says true w) := by
  rcases is_or a ha with ⟨p, h1⟩ | h1
  · rcases is_or b hb with ⟨q, h2⟩ | h2
    · rcases is_or c hc with ⟨r, h3⟩ | h3
      · rcases three p q with h | h | h
        · exact order_lt a b c p q r h1 h2 h3 h w hok
        · obtain rfl := h1.same h2 h.symm
          exact order_eq b c p r h1 h3 w hok
        · exact order_gt a b c p q r h1 h2 h3 h w hok
      · exact order_c a b c ha hb hc p q h1 h2 h3 w hok
    · exact order_b a b c ha hb hc p h1 h2 w hok
  · exact order_a a b c ha hb hc h1 w hok

end Go.Proofs.YtjeamchaibialaaDoor.Tops
