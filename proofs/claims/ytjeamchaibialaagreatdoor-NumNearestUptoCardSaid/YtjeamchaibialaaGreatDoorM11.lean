/- Joined: Laws -/
import Derived.Test.YtjeamchaibialaaGreatDoorM6
import Derived.Test.YtjeamchaibialaaGreatDoorM4
set_option linter.unusedVariables false
set_option linter.unusedSimpArgs false
/- The laws' own calls: the walks. -/
namespace Go.Proofs.YtjeamchaibialaaGreatDoor.Laws
open Go.RowKit Go.Proofs.YtjeamchaibialaaGreatDoorW.PrintWords Go.Proofs.YtjeamchaibialaaGreatDoorW.PrintLast Go.Proofs.YtjeamchaibialaaGreatDoorW.PrintMore Fns Limbs Nats Go.Proofs.YtjeamchaibialaaGreatDoor.Told ReadWalk Texts Rats Parses Heaps Go.Proofs.YtjeamchaibialaaGreatDoor.Splits Go.Proofs.YtjeamchaibialaaGreatDoor.Nums

structure Is (N : Nat) (a : ByteArray) (p : Rat) : Prop where
  txt : a.data.toList = rtxt p
  sz : Sizes.Sz p N
theorem Is.mono {N M : Nat} {a : ByteArray} {p : Rat} (h : Is N a p) (hm : N ≤ M) : Is M a p := ⟨h.txt, h.sz.mono hm⟩
theorem Is.same {N M : Nat} {a b : ByteArray} {p q : Rat} (h : Is N a p) (k : Is M b q) (e : q = p) : b = a := by
  apply ByteArray.ext
  apply Array.toList_inj.1
  rw [h.txt, k.txt, e]
theorem Is.long {N : Nat} {a : ByteArray} {p : Rat} (h : Is N a p) : a.size ≤ 18 * N + 4 := by
  rw [Lib.size_eq, h.txt]; exact Sizes.rtxt_long h.sz
theorem Is.ne {N M : Nat} {a b : ByteArray} {p q : Rat} (h : Is N a p) (k : Is M b q) (e : p ≠ q) : a.toList ≠ b.toList := by
  rw [Lib.toList_data, Lib.toList_data, h.txt, k.txt]
  exact fun h => e (rtxt_inj h)
theorem Is.of {a : ByteArray} {p : Rat} (h : a.data.toList = rtxt p) (hs : a.size ≤ 1048576) : Is 120000 a p :=
  ⟨h, (Sizes.sz_rtxt p).mono (by rw [← h, ← Lib.size_eq]; omega)⟩
def No (a : ByteArray) : Prop := ∀ p, a.data.toList ≠ rtxt p
theorem No.nil : No ⟨#[]⟩ := by
  intro p h
  have : rtxt p ≠ [] := by
    unfold rtxt
    intro e
    rw [List.append_eq_nil_iff, List.append_eq_nil_iff] at e
    exact txt_ne _ e.2.1
  exact this h.symm

set_option maxRecDepth 100000 in
theorem no_calls (z : Int) (h0 : 0 ≤ z) (h1 : z ≤ 3) (w : World) :
    Calls Tryz.prog 9 #[.int .i64 z] w fun e w' => e = .returned (.int .i64 z) ∧ w' = w := by
  have hw : IntKind.i64.wrap z = z := IntWalk.i64_in _ (by omega)
  go_enter Tryz.func9, Tryz.ntmps9
  go_wp2_with fail
  go_ret
  exact ⟨rfl, rfl⟩
set_option maxRecDepth 100000 in
theorem told_yes (s : ByteArray) (w : World) : Calls Tryz.prog 56 #[.string s, .int .i64 0] w fun e w' => e = .returned (.string s) ∧ w' = w := by
  go_enter Tryz.func56, Tryz.ntmps56
  go_wp2_with fail
  refine (no_calls 0 (by omega) (by omega) _).mono ?_
  rintro e w' ⟨rfl, rfl⟩
  go_wp2_with fail
  go_ret
  exact ⟨rfl, rfl⟩
set_option maxRecDepth 100000 in
theorem told_no (s : ByteArray) (z : Int) (h0 : 0 < z) (h1 : z ≤ 3) (w : World) : Calls Tryz.prog 56 #[.string s, .int .i64 z] w fun e w' => e = .returned (.string ⟨#[]⟩) ∧ w' = w := by
  have hz : (z == 0) = false := beq_eq_false_iff_ne.2 (by omega)
  go_enter Tryz.func56, Tryz.ntmps56
  go_wp2_with fail
  refine (no_calls z (by omega) h1 _).mono ?_
  rintro e w' ⟨rfl, rfl⟩
  go_wp2_with fail
  go_ret
  exact ⟨rfl, rfl⟩

def Tells (N : Nat) (r : Rat) (w : World) (e : Ending) (w' : World) : Prop := ∃ v, e = .returned (.string v) ∧ Is N v r ∧ Below w.heap.size w w'
def Mute (w : World) (e : Ending) (w' : World) : Prop := e = .returned (.string ⟨#[]⟩) ∧ Below w.heap.size w w'
set_option maxRecDepth 100000 in
theorem add_yes (N : Nat) (hN : N ≤ 1600000) (a b : ByteArray) (p q : Rat) (ha : Is N a p) (hb : Is N b q) (w : World) (hok : Ok w) :
    Calls Tryz.prog 24 #[.string a, .string b] w (Tells (2 * N + 1) (p + q) w) := by
  have hsa := ha.long
  have hsb := hb.long
  go_enter Tryz.func24, Tryz.ntmps24
  go_wp2_with fail
  refine (Nums.add_calls a b (by omega) (by omega) _ hok).mono ?_
  rintro e w1 ⟨hb1, ⟨p', q', hp, hq, rfl⟩ | ⟨hn, rfl⟩⟩
  · have hpp : p' = p := rtxt_inj (by rw [← hp, ha.txt])
    have hqq : q' = q := rtxt_inj (by rw [← hq, hb.txt])
    subst hpp hqq
    have HB := Lib.hid hb1
    obtain ⟨v, hv⟩ : ∃ v : ByteArray, v = Bins.bs (rtxt (p' + q')) := ⟨_, rfl⟩
    rw [← hv]
    have HV : Hid (Is (2 * N + 1) v (p' + q')) := Lib.hid ⟨by rw [hv], (Sizes.sz_add ha.sz hb.sz).mono (by omega)⟩
    clear hb1 hp hq hv
    go_wp2_with fail
    refine (told_yes v _).mono ?_
    rintro e w2 ⟨rfl, rfl⟩
    go_wp2_with fail
    go_ret
    exact ⟨_, rfl, HV.out, HB.out⟩
  · rcases hn with h | h
    · exact absurd ha.txt (h p)
    · exact absurd hb.txt (h q)
set_option maxRecDepth 100000 in
theorem add_no (a b : ByteArray) (ha : a.size ≤ 100000000) (hb : b.size ≤ 100000000) (hn : No a ∨ No b) (w : World) (hok : Ok w) :
    Calls Tryz.prog 24 #[.string a, .string b] w (Mute w) := by
  go_enter Tryz.func24, Tryz.ntmps24
  go_wp2_with fail
  refine (Nums.add_calls a b ha hb _ hok).mono ?_
  rintro e w1 ⟨hb1, ⟨p', q', hp, hq, rfl⟩ | ⟨_, rfl⟩⟩
  · rcases hn with h | h
    · exact absurd hp (h p')
    · exact absurd hq (h q')
  · have HB := Lib.hid hb1
    clear hb1 hn
    go_wp2_with fail
    refine (told_no ⟨#[]⟩ 1 (by omega) (by omega) _).mono ?_
    rintro e w2 ⟨rfl, rfl⟩
    go_wp2_with fail
    go_ret
    exact ⟨rfl, HB.out⟩
set_option maxRecDepth 100000 in
theorem mul_yes (N : Nat) (hN : N ≤ 1600000) (a b : ByteArray) (p q : Rat) (ha : Is N a p) (hb : Is N b q) (w : World) (hok : Ok w) :
    Calls Tryz.prog 52 #[.string a, .string b] w (Tells (2 * N + 1) (p * q) w) := by
  have hsa := ha.long
  have hsb := hb.long
  go_enter Tryz.func52, Tryz.ntmps52
  go_wp2_with fail
  refine (Nums.mul_calls a b (by omega) (by omega) _ hok).mono ?_
  rintro e w1 ⟨hb1, ⟨p', q', hp, hq, rfl⟩ | ⟨hn, rfl⟩⟩
  · have hpp : p' = p := rtxt_inj (by rw [← hp, ha.txt])
    have hqq : q' = q := rtxt_inj (by rw [← hq, hb.txt])
    subst hpp hqq
    have HB := Lib.hid hb1
    obtain ⟨v, hv⟩ : ∃ v : ByteArray, v = Bins.bs (rtxt (p' * q')) := ⟨_, rfl⟩
    rw [← hv]
    have HV : Hid (Is (2 * N + 1) v (p' * q')) := Lib.hid ⟨by rw [hv], (Sizes.sz_mul ha.sz hb.sz).mono (by omega)⟩
    clear hb1 hp hq hv
    go_wp2_with fail
    refine (told_yes v _).mono ?_
    rintro e w2 ⟨rfl, rfl⟩
    go_wp2_with fail
    go_ret
    exact ⟨_, rfl, HV.out, HB.out⟩
  · rcases hn with h | h
    · exact absurd ha.txt (h p)
    · exact absurd hb.txt (h q)
def Lies (z : Int) (w : World) (e : Ending) (w' : World) : Prop := e = .returned (.int .i64 z) ∧ Below w.heap.size w w'
set_option maxRecDepth 100000 in
theorem cmp_yes (N : Nat) (hN : N ≤ 1600000) (a b : ByteArray) (p q : Rat) (ha : Is N a p) (hb : Is N b q) (w : World) (hok : Ok w) :
    Calls Tryz.prog 16 #[.string a, .string b] w (Lies (CmpWalk.cmpQ p q) w) := by
  have hsa := ha.long
  have hsb := hb.long
  go_enter Tryz.func16, Tryz.ntmps16
  go_wp2_with fail
  refine (Nums.cmp_calls a b (by omega) (by omega) _ hok).mono ?_
  rintro e w1 ⟨hb1, ⟨p', q', hp, hq, rfl⟩ | ⟨hn, rfl⟩⟩
  · have hpp : p' = p := rtxt_inj (by rw [← hp, ha.txt])
    have hqq : q' = q := rtxt_inj (by rw [← hq, hb.txt])
    subst hpp hqq
    have HB := Lib.hid hb1
    clear hb1 hp hq
    go_wp2_with fail
    refine (no_calls 0 (by omega) (by omega) _).mono ?_
    rintro e w2 ⟨rfl, rfl⟩
    go_wp2_with fail
    go_ret
    exact ⟨rfl, HB.out⟩
  · rcases hn with h | h
    · exact absurd ha.txt (h p)
    · exact absurd hb.txt (h q)
set_option maxRecDepth 100000 in
theorem cmp_no (a b : ByteArray) (ha : a.size ≤ 100000000) (hb : b.size ≤ 100000000) (hn : No a ∨ No b) (w : World) (hok : Ok w) :
    Calls Tryz.prog 16 #[.string a, .string b] w (Lies 2 w) := by
  go_enter Tryz.func16, Tryz.ntmps16
  go_wp2_with fail
  refine (Nums.cmp_calls a b ha hb _ hok).mono ?_
  rintro e w1 ⟨hb1, ⟨p', q', hp, hq, rfl⟩ | ⟨_, rfl⟩⟩
  · rcases hn with h | h
    · exact absurd hp (h p')
    · exact absurd hq (h q')
  · have HB := Lib.hid hb1
    clear hb1 hn
    go_wp2_with fail
    refine (no_calls 1 (by omega) (by omega) _).mono ?_
    rintro e w2 ⟨rfl, rfl⟩
    go_wp2_with fail
    go_ret
    exact ⟨rfl, HB.out⟩

set_option maxRecDepth 100000 in
theorem quo_yes (N : Nat) (hN : N ≤ 1600000) (a b : ByteArray) (p q : Rat) (h0 : q ≠ 0) (ha : Is N a p) (hb : Is N b q) (w : World) (hok : Ok w) :
    Calls Tryz.prog 25 #[.string a, .string b] w (Tells (2 * N + 1) (p / q) w) := by
  have hsa := ha.long
  have hsb := hb.long
  go_enter Tryz.func25, Tryz.ntmps25
  go_wp2_with fail
  refine (Nums.quo_calls a b (by omega) (by omega) _ hok).mono ?_
  rintro e w1 ⟨hb1, ⟨p', q', hp, hq, hq0, rfl⟩ | ⟨p', hp, hq, rfl⟩ | ⟨hn, rfl⟩⟩
  · have hpp : p' = p := rtxt_inj (by rw [← hp, ha.txt])
    have hqq : q' = q := rtxt_inj (by rw [← hq, hb.txt])
    subst hpp hqq
    have HB := Lib.hid hb1
    obtain ⟨v, hv⟩ : ∃ v : ByteArray, v = Bins.bs (rtxt (p' / q')) := ⟨_, rfl⟩
    rw [← hv]
    have HV : Hid (Is (2 * N + 1) v (p' / q')) := Lib.hid ⟨by rw [hv], (Sizes.sz_div ha.sz hb.sz h0).mono (by omega)⟩
    clear hb1 hp hq hv hq0 h0
    go_wp2_with fail
    refine (told_yes v _).mono ?_
    rintro e w2 ⟨rfl, rfl⟩
    go_wp2_with fail
    go_ret
    exact ⟨_, rfl, HV.out, HB.out⟩
  · exact absurd (rtxt_inj (hb.txt.symm.trans hq)) h0
  · rcases hn with h | h
    · exact absurd ha.txt (h p)
    · exact absurd hb.txt (h q)

def Says (b : Bool) (w : World) (e : Ending) (w' : World) : Prop := e = .returned (.bool b) ∧ Below w.heap.size w w'
theorem loose_is {l : List UInt8} {p : Rat} (h : l = rtxt p) : CanonWalk.Loose l ∧ ¬ CanonWalk.Zero l ∧ ratOf l = p := by
  obtain ⟨h1, h2, _⟩ := ParseWalk.parts rfl rfl h
  refine ⟨⟨h1.figs, fun hs => (h2 hs).1.figs⟩, fun hz => (h2 hz.1).2 hz.2, ?_⟩
  rw [h]; exact ratOf_rtxt p
set_option maxRecDepth 100000 in
theorem canon_yes (N : Nat) (hN : N ≤ 1600000) (a : ByteArray) (p : Rat) (ha : Is N a p) (w : World) (hok : Ok w) :
    Calls Tryz.prog 15 #[.string a] w (Says true w) := by
  have hsa := ha.long
  obtain ⟨l1, l2, l3⟩ := loose_is ha.txt
  go_enter Tryz.func15, Tryz.ntmps15
  go_wp2_with fail
  refine (CanonWalk.calls a (by omega) _ hok).mono ?_
  rintro e w1 ⟨hb1, ⟨h, _⟩ | ⟨_, h, _⟩ | ⟨_, _, rfl⟩⟩
  · exact absurd l1 h
  · exact absurd h l2
  · have HB := Lib.hid hb1
    rw [l3, ← ha.txt]
    have he : CanonWalk.bs a.data.toList = a := rfl
    rw [he]
    clear hb1 l1 l2 l3 ha he
    go_wp2_with fail
    refine (no_calls 0 (by omega) (by omega) _).mono ?_
    rintro e w2 ⟨rfl, rfl⟩
    go_wp2_with fail
    go_ret
    exact ⟨rfl, HB.out⟩
set_option maxRecDepth 100000 in
theorem canon_no (a : ByteArray) (ha : a.size ≤ 30000000) (hn : No a) (w : World) (hok : Ok w) :
    Calls Tryz.prog 15 #[.string a] w (Says false w) := by
  go_enter Tryz.func15, Tryz.ntmps15
  go_wp2_with fail
  refine (CanonWalk.calls a ha _ hok).mono ?_
  rintro e w1 ⟨hb1, ⟨_, rfl⟩ | ⟨_, _, rfl⟩ | ⟨_, _, rfl⟩⟩
  · have HB := Lib.hid hb1
    clear hb1 hn
    go_wp2_with fail
    refine (no_calls 1 (by omega) (by omega) _).mono ?_
    rintro e w2 ⟨rfl, rfl⟩
    go_wp2_with fail
    go_ret
    exact ⟨rfl, HB.out⟩
  · have HB := Lib.hid hb1
    clear hb1 hn
    go_wp2_with fail
    refine (no_calls 2 (by omega) (by omega) _).mono ?_
    rintro e w2 ⟨rfl, rfl⟩
    go_wp2_with fail
    go_ret
    exact ⟨rfl, HB.out⟩
  · have HB := Lib.hid hb1
    obtain ⟨v, hv⟩ : ∃ v : ByteArray, v = CanonWalk.bs (rtxt (ratOf a.data.toList)) := ⟨_, rfl⟩
    have hne : v.toList ≠ a.toList := by
      rw [Lib.toList_data, Lib.toList_data, hv]
      exact fun h => hn _ h.symm
    have hnb : (v.toList == a.toList) = false := beq_eq_false_iff_ne.2 hne
    rw [← hv]
    clear hb1 hn hv
    go_wp2_with fail
    refine (no_calls 0 (by omega) (by omega) _).mono ?_
    rintro e w2 ⟨rfl, rfl⟩
    go_wp2_with fail
    go_ret
    exact ⟨rfl, HB.out⟩

end Go.Proofs.YtjeamchaibialaaGreatDoor.Laws
