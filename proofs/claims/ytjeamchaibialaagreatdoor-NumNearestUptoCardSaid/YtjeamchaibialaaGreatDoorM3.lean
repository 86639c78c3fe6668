/- Joined: Trims Read Text Digits Rats Parse Size Heap Split Ints Put Flr -/
import Derived.Test.YtjeamchaibialaaGreatDoorProg
import Derived.WalkKit
import Derived.Test.YtjeamchaibialaaGreatDoorShelf
import Derived.Shelf.Strings.SlTrimAscii
import Derived.Test.YtjeamchaibialaaGreatDoorM2
import Derived.Lib.ConvBytes
import Derived.Laws.IdiomStrings
import Derived.Lib.IndexMore
import Derived.Lib.SlTrimSet
import Derived.Lib.Strings
import Derived.Maps.AppendAt
import Derived.Shelf.Strings.Prefix
import Derived.Shelf.Strings.Cut
import Derived.Deep.DeepCutAuto
set_option linter.unusedVariables false
set_option linter.unusedSimpArgs false
/- strings.TrimLeft and strings.Trim, laid at this program. -/
namespace Go.Proofs.YtjeamchaibialaaGreatDoor.Trims
open Go.RowKit Go.Shelf Go.Lib
set_option maxHeartbeats 1000000 in
theorem left_zero (s : ByteArray) (w : World) :
    Calls Tryz.prog 116 #[.string s, .string ⟨#[48]⟩] w fun e w' => e = .returned (.string ⟨(Lib.trimLeftS s.data.toList [48]).toArray⟩) ∧ Below w.heap.size w w' := by
  have hcon := Any.strings_TrimLeft_laid Tryz.lays161 (by kernel_rfl) s ⟨#[48]⟩ w (by decide) (ascii_of_all (by decide))
  exact hcon
set_option maxHeartbeats 1000000 in
theorem trim_digits (s : ByteArray) (w : World) (hs : s.size ≤ 9223372036854775807) :
    Calls Tryz.prog 99 #[.string s, .string ⟨#[48, 49, 50, 51, 52, 53, 54, 55, 56, 57]⟩] w fun e w' => e = .returned (.string ⟨(Lib.trimS s.data.toList [48, 49, 50, 51, 52, 53, 54, 55, 56, 57]).toArray⟩) ∧ Below w.heap.size w w' := by
  have hcon := Any.strings_Trim_laid Tryz.lays160 (by kernel_rfl) s ⟨#[48, 49, 50, 51, 52, 53, 54, 55, 56, 57]⟩ w hs (by decide) (ascii_of_all (by decide))
  exact hcon
end Go.Proofs.YtjeamchaibialaaGreatDoor.Trims

/- big's read: the walk. -/
namespace Go.Proofs.YtjeamchaibialaaGreatDoor.ReadWalk
open Go.RowKit Go.Proofs.YtjeamchaibialaaGreatDoorW.PrintWords Go.Proofs.YtjeamchaibialaaGreatDoorW.PrintLast Go.Proofs.YtjeamchaibialaaGreatDoorW.PrintMore Fns Limbs Pure1 Pure3 Nats Arrs Go.Proofs.YtjeamchaibialaaGreatDoor.Told Go.Proofs.YtjeamchaibialaaGreatDoor.LongWalk

def dig (b : UInt8) : Nat := b.toNat - 48
def dec (l : List UInt8) : Nat := l.foldl (fun a b => a * 10 + dig b) 0
def Dig (l : List UInt8) : Prop := ∀ b ∈ l, 48 ≤ b.toNat ∧ b.toNat ≤ 57

theorem dec_go (l : List UInt8) : ∀ a, l.foldl (fun a b => a * 10 + dig b) a = a * 10 ^ l.length + dec l := by
  induction l with
  | nil => intro a; simp [dec]
  | cons x l ih =>
    intro a
    simp only [List.foldl_cons, List.length_cons, dec]
    rw [ih, ih (0 * 10 + dig x), Nat.pow_succ]
    grind
theorem dec_append (a b : List UInt8) : dec (a ++ b) = dec a * 10 ^ b.length + dec b := by
  unfold dec
  rw [List.foldl_append, dec_go]
  rfl
theorem dec_snoc (a : List UInt8) (x : UInt8) : dec (a ++ [x]) = dec a * 10 + dig x := by
  rw [dec_append]; simp [dec]
theorem dec_cons (x : UInt8) (l : List UInt8) : dec (x :: l) = dig x * 10 ^ l.length + dec l := by
  have := dec_append [x] l
  simpa [dec] using this
theorem dec_lt : ∀ {l : List UInt8}, Dig l → dec l < 10 ^ l.length
  | [], _ => by simp [dec]
  | x :: l, h => by
    rw [dec_cons, List.length_cons, Nat.pow_succ]
    have h1 := dec_lt (l := l) (fun b hb => h b (List.mem_cons_of_mem _ hb))
    have h2 := h x List.mem_cons_self
    have h3 : dig x ≤ 9 := by unfold dig; omega
    have h4 : dig x * 10 ^ l.length ≤ 9 * 10 ^ l.length := Nat.mul_le_mul_right _ h3
    omega
theorem dec_zeros (l : List UInt8) : dec (Lib.trimLeftS l [48]) = dec l := by
  induction l with
  | nil => rfl
  | cons x l ih =>
    unfold Lib.trimLeftS at *
    rw [List.dropWhile_cons]
    by_cases hx : x = 48
    · subst hx
      rw [if_pos (by decide), ih]
      simp [dec, dig]
    · rw [if_neg (by simpa using hx)]
theorem dig_zeros {l : List UInt8} (h : Dig l) : Dig (Lib.trimLeftS l [48]) := fun b hb => h b ((List.dropWhile_sublist _).subset hb)

def Rel (w : World) (l : List UInt8) (v3 v4 : Value) (wr : World) : Prop :=
  ∃ (i : Nat) (z : Int) (out : List Int), v4 = .int .i64 z ∧ z = (l.length : Int) - 9 * i ∧ -9 < z ∧ out.length = i ∧ Lim out ∧ val out = (dec (l.drop (l.length - 9 * i)) : Nat) ∧
    (Kd.int .u32).R 106 wr w.heap.size (fun _ => True) v3 out ∧ Below w.heap.size w wr

theorem chunk (r : ByteArray) (l : List UInt8) (lo hi : Nat) (h : r.data.toList = l) (hl : lo ≤ hi) (hh : hi ≤ l.length) : (r.extract lo hi).data.toList = (l.take hi).drop lo ∧ (r.extract lo hi).size = hi - lo := by
  have e : (r.extract lo hi).data.toList = (l.take hi).drop lo := by
    rw [ByteArray.data_extract, Array.toList_extract, h, List.extract_eq_take_drop, List.drop_take]
  refine ⟨e, ?_⟩
  show (r.extract lo hi).data.size = _
  rw [← Array.length_toList, e, List.length_drop, List.length_take]
  omega
theorem dec_chunk {l : List UInt8} {lo hi : Nat} (hl : lo ≤ hi) (hh : hi ≤ l.length) : dec (l.drop lo) = dec ((l.take hi).drop lo) * 10 ^ (l.length - hi) + dec (l.drop hi) := by
  have e : l.drop lo = (l.take hi).drop lo ++ l.drop hi := by
    have h1 : l = l.take hi ++ l.drop hi := (List.take_append_drop hi l).symm
    have h2 : (l.take hi ++ l.drop hi).drop lo = (l.take hi).drop lo ++ l.drop hi := by
      rw [List.drop_append_of_le_length (by rw [List.length_take]; omega)]
    rw [← h2, ← h1]
  rw [e, dec_append, List.length_drop]

theorem rel_step {w w2 : World} {l : List UInt8} {i hi lo dd : Nat} {out : List Int} {v1 : Value} (hz : (hi : Int) = (l.length : Int) - 9 * i) (hlo : lo = hi - 9) (hh : hi ≤ l.length ∧ 0 < hi) (ho : out.length = i) (hl : Lim out) (hv : val out = (dec (l.drop (l.length - 9 * i)) : Nat)) (hd : dd < 1000000000)
    (hc : dec (l.drop lo) = dd * 10 ^ (l.length - hi) + dec (l.drop hi)) (hR : (Kd.int .u32).R 106 w2 w.heap.size (fun _ => True) v1 (out ++ [(dd : Int)])) (hb : Below w.heap.size w w2) : Rel w l v1 (.int .i64 ((hi : Int) - 9)) w2 := by
  have e1 : l.length - 9 * (i + 1) = lo := by omega
  have e2 : l.length - 9 * i = hi := by omega
  have e3 : l.length - hi = 9 * i := by omega
  have e4 : val (out ++ [(dd : Int)]) = (dec (l.drop (l.length - 9 * (i + 1))) : Nat) := by
    rw [val_snoc, e1, hc, hv, ho, e2, e3, pw_ten, Int.natCast_add, Int.natCast_mul]
    rw [Int.mul_comm, Int.add_comm]
  have e5 : (out ++ [(dd : Int)]).length = i + 1 := by rw [List.length_append, ho, List.length_singleton]
  have e6 : Lim (out ++ [(dd : Int)]) := lim_append.2 ⟨hl, lim_cons.2 ⟨⟨Int.natCast_nonneg _, by omega⟩, lim_nil⟩⟩
  exact ⟨i + 1, (hi : Int) - 9, out ++ [(dd : Int)], rfl, by omega, by omega, e5, e6, e4, hR, hb⟩

set_option maxRecDepth 100000 in
set_option maxHeartbeats 400000 in
theorem calls (s : ByteArray) (hs : s.size ≤ 100000000000) (hd : Hid (Dig s.data.toList)) (w : World) :
    Calls Tryz.prog 104 #[.string s] w fun e w' => ∃ v, e = .returned v ∧ IsU w' v (dec s.data.toList) ∧ Below w.heap.size w w' := by
  go_enter Tryz.func104, Tryz.ntmps104
  go_wp2_with fail
  refine (Trims.left_zero s _).mono ?_
  rintro e w1 ⟨rfl, hb⟩
  have HB := Lib.hid hb
  have hd1 := Lib.hid (dig_zeros hd.out)
  have hv1 := Lib.hid (dec_zeros s.data.toList)
  have hl1 : (Lib.trimLeftS s.data.toList [48]).length ≤ 100000000000 := Nat.le_trans (List.dropWhile_sublist _).length_le (by simpa using hs)
  clear hb
  generalize Lib.trimLeftS s.data.toList [48] = l at *
  obtain ⟨r, hr⟩ : ∃ r : ByteArray, r = ⟨l.toArray⟩ := ⟨_, rfl⟩
  have hrs : r.size = l.length := by rw [hr]; rfl
  have hrl : r.data.toList = l := by rw [hr]
  rw [← hr]
  clear hr
  obtain ⟨n, hn⟩ : ∃ n, n = l.length / 9 := ⟨_, rfl⟩
  have Y1 : Int.tdiv (r.size : Int) 9 = n := by rw [Int.tdiv_eq_ediv_of_nonneg (by omega)]; omega
  have Y1' : (r.size : Int) / 9 = n := by omega
  have hn9 : n ≤ 20000000000 := by omega
  have W2 : IntKind.i64.wrap ((n : Int) + 1) = (n : Int) + 1 := IntWalk.i64_in _ (by omega)
  have hmk : ∀ W : World, (Instr.makeSlice 45 (.int .i64 0) (.int .i64 ((n : Int) + 1))).run Tryz.prog W = .ok (.slice (some ⟨W.heap.size, 0, none⟩) 0 (n + 1)) (W.alloc (.cells (madeCells #[.int .u32 0] (n + 1)) 106)) := fun W => run_make0 (n + 1) (by omega) W
  have HRS := Lib.hid hrs
  have HRL := Lib.hid hrl
  have hr9 : r.size ≤ 100000000000 := by omega
  clear hrs hrl hn
  go_wp2_with fail
  go_loopw [3, 4] (fun v3 v4 wr => Rel w l v3 v4 wr) (fun _ v4 _ => (intOf v4).toNat)
  case atStart => exact ⟨0, l.length, [], by rw [HRS.out], by omega, by omega, rfl, lim_nil, by simp [dec, val], made0_row w w1 (n + 1) (by omega) HB.out, belowA HB.out _⟩
  case round =>
    obtain ⟨i, z, out, rfl, hz, hz9, ho, hl, hv, hR, hb⟩ := hrel
    obtain ⟨A3, c3, rfl, hc3, _⟩ := Kd.R_reads hR
    have HR := Lib.hid hR
    have HBR := Lib.hid hb
    have HV := Lib.hid hv
    have HO := Lib.hid ho
    have HZ := Lib.hid hz
    clear hR hb hv ho hz hmk
    by_cases hz0 : 0 < z
    · obtain ⟨hi, hhi⟩ : ∃ hi : Nat, z = hi := ⟨z.toNat, by omega⟩
      obtain ⟨lo, hlo⟩ : ∃ lo : Nat, lo = hi - 9 := ⟨_, rfl⟩
      subst hhi
      have hhl : hi ≤ r.size := by have := HZ.out; have := HRS.out; omega
      have W3 : IntKind.i64.wrap ((hi : Int) - 9) = (hi : Int) - 9 := IntWalk.i64_in _ (by omega)
      have hconv : ∀ (W : World) (t : ByteArray), (convert 9 113 (.string t)).run Tryz.prog W = .ok (.slice (some ⟨W.heap.size, 0, none⟩) t.size (grownCap W t.size 0 5)) (Lib.bytesWorld W 5 t) := fun W t => Lib.run_convert_string_bytes W 9 113 5 t Tryz.underlying9 Tryz.underlying113 Tryz.underlying5
      have hmx : max (0 : Int) ((hi : Int) - 9) = (lo : Int) := by omega
      have hlh : lo ≤ hi := by omega
      have hls : lo ≤ r.size := by omega
      have hlo9 : hi ≤ lo + 9 := by omega
      have HLO := Lib.hid hlo
      clear hlo
      obtain ⟨hch, hcz⟩ := chunk r l lo hi HRL.out hlh (by have := HRS.out; omega)
      obtain ⟨ex, hex⟩ : ∃ ex, ex = r.extract lo hi := ⟨_, rfl⟩
      rw [← hex] at hch hcz
      have HEX := Lib.hid hex
      clear hex
      go_wp2_with fail
      have hcl : ∀ j, j < hi - lo → (Lib.bytesWorld wr 5 (r.extract lo hi)).cell? ⟨wr.heap.size, j, none⟩ = some (.int .u8 ((((l.take hi).drop lo).getD j 0).toNat : Int)) := fun j hj => by
        have := Lib.bytesWorld_cell wr 5 (r.extract lo hi) j (by rw [← HEX.out, hcz]; exact hj)
        rw [← HEX.out, hch] at this
        rw [← HEX.out]
        exact this
      have hbw : Below wr.heap.size wr (Lib.bytesWorld wr 5 (r.extract lo hi)) := ⟨rfl, rfl, rfl, by rw [Lib.bytesWorld_size]; omega, fun k hk => Lib.bytesWorld_at_old wr 5 _ k hk⟩
      have HCL := Lib.hid hcl
      have HBW := Lib.hid hbw
      clear hcl hbw
      generalize Lib.bytesWorld wr 5 (r.extract lo hi) = wb at *
      have hq9 : hi - lo ≤ 9 := by omega
      have hcsl : ((l.take hi).drop lo).length = hi - lo := by rw [List.length_drop, List.length_take]; have := HRS.out; omega
      have hcd : Dig ((l.take hi).drop lo) := fun b hb => hd1.out b (List.mem_of_mem_take (List.mem_of_mem_drop hb))
      have HCS := Lib.hid (dec_chunk (l := l) hlh (by have := HRS.out; omega))
      generalize (l.take hi).drop lo = cs at *
      obtain ⟨q, hq⟩ : ∃ q, q = hi - lo := ⟨_, rfl⟩
      rw [← hq] at HCL hq9 hcsl ⊢
      have HQ := Lib.hid hq
      have HCSL := Lib.hid hcsl
      clear hq hch hcz hcsl
      go_loopw [5, 29] (fun v5 v29 ws => ∃ (j : Nat), j ≤ q ∧ v29 = .int .i64 j ∧ v5 = .int .u32 (dec (cs.take j) : Nat) ∧ ws = wb) (fun _ v29 _ => q - (intOf v29).toNat)
      case atStart => exact ⟨0, Nat.zero_le _, rfl, by simp [dec], rfl⟩
      case round =>
        obtain ⟨j, hj, rfl, rfl, rfl⟩ := hrel
        by_cases hjq : j < q
        · have hc := HCL.out j hjq
          have hx : 48 ≤ (cs.getD j 0).toNat ∧ (cs.getD j 0).toNat ≤ 57 := by
            have hl' : j < cs.length := by have := HCSL.out; omega
            have := hcd _ (List.getElem_mem hl')
            simpa [List.getD, hl'] using this
          have hd8 : dec (cs.take j) < 100000000 := by
            have h1 := dec_lt (l := cs.take j) (fun b hb => hcd b (List.mem_of_mem_take hb))
            have h2 : (10 : Nat) ^ (cs.take j).length ≤ 10 ^ 8 := Nat.pow_le_pow_right (by omega) (by rw [List.length_take]; omega)
            omega
          have hnx : dec (cs.take (j + 1)) = dec (cs.take j) * 10 + ((cs.getD j 0).toNat - 48) := by
            have hl' : j < cs.length := by have := HCSL.out; omega
            rw [List.take_succ_eq_append_getElem hl', dec_snoc]
            simp [dig, List.getD, hl']
          obtain ⟨dd, hdd⟩ : ∃ dd, dd = dec (cs.take j) := ⟨_, rfl⟩
          rw [← hdd] at hd8 hnx ⊢
          have HDD := Lib.hid hdd
          clear hdd
          generalize (cs.getD j 0).toNat = xb at *
          have X1 : IntKind.u8.wrap ((xb : Int) - 48) = (xb : Int) - 48 := by rw [IntWalk.u8_in _ (by omega)]
          have X2 : IntKind.u32.wrap ((xb : Int) - 48) = (xb : Int) - 48 := by rw [IntWalk.u32_in _ (by omega)]
          have X3 : IntKind.u32.wrap ((dd : Int) * 10) = (dd : Int) * 10 := by rw [IntWalk.u32_in _ (by omega)]
          have X4 : IntKind.u32.wrap ((dd : Int) * 10 + ((xb : Int) - 48)) = (dd : Int) * 10 + ((xb : Int) - 48) := by rw [IntWalk.u32_in _ (by omega)]
          have HNX := Lib.hid hnx
          clear hnx
          go_wp2_with fail
          go_roundw
          case rel => exact ⟨j + 1, by omega, by rfl, congrArg (Value.int .u32) (by rw [HNX.out]; omega), trivial⟩
          case measure => simp [intOf]; omega
        · have hje : j = q := by omega
          subst hje
          have hd9 : dec (cs.take j) < 1000000000 := by
            have h1 := dec_lt (l := cs.take j) (fun b hb => hcd b (List.mem_of_mem_take hb))
            have h2 : (10 : Nat) ^ (cs.take j).length ≤ 10 ^ 9 := Nat.pow_le_pow_right (by omega) (by rw [List.length_take]; omega)
            omega
          have hdc : Hid (dec (cs.take j) = dec cs) := by
            show dec (cs.take j) = dec cs
            rw [List.take_of_length_le (by have := HCSL.out; omega)]
          generalize dec (cs.take j) = dd at *
          have hol : out.length ≤ 20000000000 := by have := HO.out; have := HZ.out; have := HRS.out; omega
          have HR2 := Lib.hid (Kd.R_below HR.out HBW.out)
          have HB2 := Lib.hid (below_step HBR.out HBW.out)
          go_wp2_with ((at_builtin; refine Kd.R_append (Kd.int .u32) (w0 := w) w.heap.size rfl (.tmp 40) (.tmp 42) 45 106 (.int .u32 0) 4 rfl Tryz.underlying45 info106 rfl (by decide) (by omega) (.slice A3 out.length c3) out (dd : Int) [.int .u32 (dd : Int)] (fun _ => True) (fun _ => False) rfl rfl ?aP (fun _ hk => hk.elim) ?aF ?aO ?aB ?aS ?aL ?_; (case aP => exact rfl); (case aF => exact (fun _ _ => trivial)); (case aO => exact HR2.out); (case aB => exact HB2.out); (case aS => exact HB2.out.size); (case aL => omega); intro v1 w2 h1 h2 _ _; have H1 := Lib.hid h1; have H2 := Lib.hid h2; clear h1 h2))
          go_roundw
          case rel =>
            exact rel_step HZ.out HLO.out (by have := HRS.out; omega) HO.out hl HV.out hd9 (by rw [hdc.out]; exact HCS.out) H1.out H2.out
          case measure => simp [intOf]; omega
    · go_wp2_with fail
      refine (trim_calls out hl (by have := HO.out; have := HZ.out; omega) _ _ (NatV.ofR HR.out)).mono ?_
      rintro e w2 ⟨v, rfl, h, ⟨dn, rfl⟩⟩
      have H := Lib.hid h
      clear h
      go_wp2_with fail
      go_ret
      refine ⟨_, rfl, ?_, below_step HBR.out (Drawn0.below ⟨dn, rfl⟩)⟩
      have := H.out
      rw [HV.out, show l.length - 9 * i = 0 from by have := HZ.out; omega, List.drop_zero, hv1.out, Int.toNat_natCast] at this
      exact this

end Go.Proofs.YtjeamchaibialaaGreatDoor.ReadWalk

/- The decimal text of a whole number. -/
namespace Go.Proofs.YtjeamchaibialaaGreatDoor.Texts
open Go.RowKit Limbs ReadWalk

def chr (d : Nat) : UInt8 := UInt8.ofNat (48 + d)
theorem chr_toNat {d : Nat} (h : d < 10) : (chr d).toNat = 48 + d := by
  unfold chr
  rw [UInt8.toNat_ofNat']
  omega
theorem dig_chr {d : Nat} (h : d < 10) : dig (chr d) = d := by unfold dig; rw [chr_toNat h]; omega
theorem chr_dig {x : UInt8} (h : 48 ≤ x.toNat ∧ x.toNat ≤ 57) : chr (dig x) = x := by
  apply UInt8.toNat_inj.1
  rw [chr_toNat (by unfold dig; omega)]
  unfold dig; omega
def txt (n : Nat) : List UInt8 := if _h : n < 10 then [chr n] else txt (n / 10) ++ [chr (n % 10)]
termination_by n
theorem txt_small {n : Nat} (h : n < 10) : txt n = [chr n] := by rw [txt, dif_pos h]
theorem txt_big {n : Nat} (h : 10 ≤ n) : txt n = txt (n / 10) ++ [chr (n % 10)] := by rw [txt, dif_neg (by omega)]
theorem txt_ne (n : Nat) : txt n ≠ [] := by
  rw [txt]; split <;> simp
theorem txt_dig (n : Nat) : Dig (txt n) := by
  induction n using Nat.strongRecOn with
  | _ n ih =>
    by_cases h : n < 10
    · rw [txt_small h]
      intro b hb
      rw [List.mem_singleton.1 hb, chr_toNat h]
      omega
    · rw [txt_big (by omega)]
      intro b hb
      rcases List.mem_append.1 hb with hb | hb
      · exact ih (n / 10) (by omega) b hb
      · rw [List.mem_singleton.1 hb, chr_toNat (Nat.mod_lt _ (by omega))]
        omega
theorem dec_txt (n : Nat) : dec (txt n) = n := by
  induction n using Nat.strongRecOn with
  | _ n ih =>
    by_cases h : n < 10
    · rw [txt_small h]
      simp [dec, dig_chr h]
    · rw [txt_big (by omega), dec_snoc, ih (n / 10) (by omega), dig_chr (Nat.mod_lt _ (by omega))]
      omega
theorem head_app {a b : List UInt8} (h : a ≠ []) : (a ++ b).head? = a.head? := by
  cases a with
  | nil => exact absurd rfl h
  | cons x a => rfl
theorem txt_head {n : Nat} (h0 : n ≠ 0) : (txt n).head? ≠ some 48 := by
  induction n using Nat.strongRecOn with
  | _ n ih =>
    by_cases h : n < 10
    · rw [txt_small h]
      intro e
      have e1 : chr n = 48 := by simpa using e
      have := chr_toNat h
      rw [e1] at this
      simp at this
      omega
    · rw [txt_big (by omega), head_app (txt_ne _)]
      exact ih (n / 10) (by omega) (by omega)
theorem dec_pos {l : List UInt8} (hd : Dig l) (hne : l ≠ []) (hh : l.head? ≠ some 48) : 0 < dec l := by
  cases l with
  | nil => exact absurd rfl hne
  | cons x l =>
    rw [dec_cons]
    have hx := hd x List.mem_cons_self
    have h48 : x ≠ 48 := fun e => hh (by rw [e]; rfl)
    have hxn : x.toNat ≠ 48 := fun e => h48 (UInt8.toNat_inj.1 (by rw [e]; rfl))
    have h1 : 1 ≤ dig x := by unfold dig; omega
    have := Nat.mul_le_mul h1 (Nat.one_le_iff_ne_zero.2 (Nat.ne_of_gt (Nat.pow_pos (n := l.length) (show 0 < 10 by omega))))
    omega
theorem txt_uniq : ∀ (n : Nat) (l : List UInt8), l.length = n → Dig l → l ≠ [] → l.head? ≠ some 48 → l = txt (dec l) := by
  intro n
  induction n with
  | zero => intro l hl _ hne; exact absurd (List.length_eq_zero_iff.1 hl) hne
  | succ n ih =>
    intro l hl hd hne hh
    have e : l = l.dropLast ++ [l.getLast hne] := (List.dropLast_concat_getLast hne).symm
    generalize l.getLast hne = x at e
    generalize hat : l.dropLast = a at e
    subst e
    have hx := hd x (by simp)
    have hda : Dig a := fun b hb => hd b (List.mem_append_left _ hb)
    rw [dec_snoc]
    by_cases ha : a = []
    · subst ha
      have h9 : dig x < 10 := by unfold dig; omega
      rw [show dec [] * 10 + dig x = dig x from by simp [dec], txt_small h9, chr_dig hx]
      rfl
    · have hha : a.head? ≠ some 48 := by rw [head_app ha] at hh; exact hh
      have hp := dec_pos hda ha hha
      have h9 : dig x < 10 := by unfold dig; omega
      rw [txt_big (by omega), show (dec a * 10 + dig x) / 10 = dec a from by omega, show (dec a * 10 + dig x) % 10 = dig x from by omega, chr_dig hx, ← ih a (by simpa using hl) hda ha hha]
theorem trim_txt {l : List UInt8} (hd : Dig l) (h0 : dec l ≠ 0) : Lib.trimLeftS l [48] = txt (dec l) := by
  have h1 := dig_zeros hd
  have h2 := dec_zeros l
  have h3 : Lib.trimLeftS l [48] ≠ [] := fun e => by rw [e] at h2; exact h0 (by rw [← h2]; rfl)
  have h4 : (Lib.trimLeftS l [48]).head? ≠ some 48 := by
    unfold Lib.trimLeftS
    intro e
    have := List.head?_dropWhile_not (fun b => [(48 : UInt8)].contains b) l
    rw [e] at this
    simp at this
  rw [txt_uniq _ _ rfl h1 h3 h4, h2]

end Go.Proofs.YtjeamchaibialaaGreatDoor.Texts

/- big's digits: the walk. -/
namespace Go.Proofs.YtjeamchaibialaaGreatDoor.DigitsWalk
open Go.RowKit Go.Proofs.YtjeamchaibialaaGreatDoorW.PrintWords Go.Proofs.YtjeamchaibialaaGreatDoorW.PrintLast Go.Proofs.YtjeamchaibialaaGreatDoorW.PrintMore Fns Limbs Pure1 Pure3 Nats Arrs Go.Proofs.YtjeamchaibialaaGreatDoor.Told Go.Proofs.YtjeamchaibialaaGreatDoor.LongWalk ReadWalk Texts

def nums8 (bs : List UInt8) : List Int := bs.map (fun b => (b.toNat : Int))
theorem nums8_len (bs : List UInt8) : (nums8 bs).length = bs.length := List.length_map ..
theorem nums8_set (bs : List UInt8) (i : Nat) (b : UInt8) : (nums8 bs).set i (b.toNat : Int) = nums8 (bs.set i b) := by
  unfold nums8; rw [List.map_set]
theorem run_makeB (n : Nat) (hn : n ≤ 70000000000) (W : World) : (Instr.makeSlice 113 (.int .i64 (n : Int)) (.int .i64 (n : Int))).run Tryz.prog W = .ok (.slice (some ⟨W.heap.size, 0, none⟩) n n) (W.alloc (.cells (madeCells #[.int .u8 0] n) 5)) := by
  obtain ⟨i, hi, hz0, hz1, hz2⟩ := info_parts info5
  have h := run_make (P := Tryz.prog) W 113 5 i (.int .u8 0) Tryz.underlying113 hi hz0 .i64 .i64 n n (by omega) (by omega) (by rw [hz2]; omega) (by omega)
  simp only [Int.toNat_natCast, hz1, Nat.mul_one] at h
  exact h
theorem made8 (w : World) (n : Nat) : Arr .u8 5 (w.alloc (.cells (madeCells #[.int .u8 0] n) 5)) w.heap.size (nums8 (List.replicate n 0)) := by
  have := Arr.made .u8 5 w n
  unfold nums8
  rw [List.map_replicate]
  exact this

structure St (w : World) (g N : Nat) (at_ : Nat) (V : Int) (wr : World) (bs : List UInt8) : Prop where
  len : bs.length = N
  le : at_ ≤ N
  dig : Dig (bs.drop at_)
  dec : ((dec (bs.drop at_) : Nat) : Int) = V
  arr : Arr .u8 5 wr g (nums8 bs)
  below : Below w.heap.size w wr
theorem St.step {w wr : World} {g N a : Nat} {V : Int} {bs : List UInt8} (S : St w g N (a + 1) V wr bs) (hg : w.heap.size ≤ g) {d : Nat} (hd : d < 10) :
    St w g N a ((d : Int) * (10 ^ (N - (a + 1)) : Nat) + V) (wr.setCell ⟨g, a, none⟩ (.int .u8 (48 + (d : Int)))) (bs.set a (chr d)) := by
  have hl := S.len
  have hle := S.le
  have e : (bs.set a (chr d)).drop a = chr d :: bs.drop (a + 1) := by
    rw [List.drop_eq_getElem_cons (by rw [List.length_set]; omega), List.getElem_set_self, List.drop_set_of_lt (by omega)]
  have ha := S.arr.set a ((chr d).toNat : Int) (by rw [nums8_len]; omega)
  rw [nums8_set, chr_toNat hd] at ha
  refine ⟨by rw [List.length_set]; exact hl, by omega, ?_, ?_, ha, S.below.setCell hg _⟩
  · rw [e]
    intro b hb
    rcases List.mem_cons.1 hb with rfl | hb
    · rw [chr_toNat hd]; omega
    · exact S.dig b hb
  · rw [e, dec_cons, dig_chr hd, List.length_drop, hl, Int.natCast_add, Int.natCast_mul, S.dec]

theorem St.cong {w wr : World} {g N a : Nat} {V V' : Int} {bs : List UInt8} (S : St w g N a V wr bs) (h : V = V') : St w g N a V' wr bs := h ▸ S
theorem val_step {x : List Int} {i j L m : Nat} (hj : j < 9) (hL : L / 10 ^ j % 10 = m) : (m : Int) * (10 ^ (9 * i + j) : Nat) + (val (x.take i) + pw i * ((L % 10 ^ j : Nat) : Int)) = val (x.take i) + pw i * ((L % 10 ^ (j + 1) : Nat) : Int) := by
  rw [Nat.mod_pow_succ, hL, pw_ten, Nat.pow_add, Int.natCast_add, Int.natCast_mul, Int.natCast_mul]
  grind
set_option maxRecDepth 100000 in
set_option maxHeartbeats 400000 in
theorem calls (n : Nat) (hlen : (limbs n).length ≤ 1000000000) (v : Value) (w : World) (hA : Hid (IsU w v n)) :
    Calls Tryz.prog 78 #[v] w fun e w' => e = .returned (.string ⟨(txt n).toArray⟩) ∧ Below w.heap.size w w' := by
  obtain ⟨A, c, rfl, hc⟩ := hA.out.form
  by_cases hn0 : n = 0
  · subst hn0
    have e0 : (limbs 0).length = 0 := by rw [limbs_zero]; rfl
    rw [e0]
    go_enter Tryz.func78, Tryz.ntmps78
    go_wp2_with fail
    go_ret
    exact ⟨by rw [txt_small (by omega)]; rfl, Below.refl _ _⟩
  · have hlp := limbs_len_pos hn0
    have HXL := Lib.hid (limbs_lim n)
    have HVX := Lib.hid (val_limbs n)
    have hA' : Hid (NatV .u32 w (.slice A (limbs n).length c) (limbs n)) := hA
    obtain ⟨m, hm⟩ : ∃ m, m = (limbs n).length := ⟨_, rfl⟩
    rw [← hm] at hlen hlp hA' hc ⊢
    have HM := Lib.hid hm
    clear hm hA
    obtain ⟨N, hN⟩ : ∃ N, N = m * 9 := ⟨_, rfl⟩
    have W1 : IntKind.i64.wrap ((m : Int) * 9) = (N : Int) := by rw [IntWalk.i64_in _ (by omega)]; omega
    have hmk : ∀ W : World, (Instr.makeSlice 113 (.int .i64 (N : Int)) (.int .i64 (N : Int))).run Tryz.prog W = .ok (.slice (some ⟨W.heap.size, 0, none⟩) N N) (W.alloc (.cells (madeCells #[.int .u8 0] N) 5)) := fun W => run_makeB N (by omega) W
    have hN9 : N ≤ 9000000000 := by omega
    have HN := Lib.hid hN
    clear hN
    have hm0 : ((m : Int) == 0) = false := beq_eq_false_iff_ne.2 (by omega)
    go_enter Tryz.func78, Tryz.ntmps78
    go_wp2_with fail
    clear hmk W1
    go_loopw [4, 18] (fun v4 v18 wr => ∃ (i a : Nat) (bs : List UInt8), i ≤ m ∧ v18 = .int .i64 i ∧ v4 = .int .i64 a ∧ Hid (a + 9 * i = N) ∧ St w w.heap.size N a (val ((limbs n).take i)) wr bs) (fun _ v18 _ => m - (intOf v18).toNat)
    case atStart => exact ⟨0, N, List.replicate N 0, Nat.zero_le _, rfl, rfl, Lib.hid (by omega), ⟨List.length_replicate, Nat.le_refl _, by simp [Dig], by simp [ReadWalk.dec, val], made8 w N, belowA (Below.refl _ _) _⟩⟩
    case round =>
      obtain ⟨i, a, bs, hi, rfl, rfl, hai, hS⟩ := hrel
      have HS := Lib.hid hS
      clear hS
      by_cases him : i < m
      · obtain ⟨ad, rfl, hcell⟩ := (hA'.out.below HS.out.below).cell i (by omega)
        have hrl := lim_rd HXL.out i
        obtain ⟨L, hL⟩ := Int.eq_ofNat_of_zero_le hrl.1
        rw [hL] at hcell hrl
        have hL9 : L < 1000000000 := by omega
        have HL := Lib.hid hL
        clear hL hrl
        go_wp2_with fail
        go_loopw [4, 6, 22] (fun v4 v6 v22 ws => ∃ (j a : Nat) (bs : List UInt8), j ≤ 9 ∧ v22 = .int .i64 j ∧ v4 = .int .i64 a ∧ v6 = .int .u32 (L / 10 ^ j : Nat) ∧ Hid (a + (9 * i + j) = N) ∧ St w w.heap.size N a (val ((limbs n).take i) + pw i * ((L % 10 ^ j : Nat) : Int)) ws bs) (fun _ _ v22 _ => 9 - (intOf v22).toNat)
        case atStart => exact ⟨0, a, bs, Nat.zero_le _, rfl, rfl, by simp, Lib.hid (by have := hai.out; omega), HS.out.cong (by simp [Nat.mod_one])⟩
        case round =>
          clear HS
          obtain ⟨j, a, bs, hj, rfl, rfl, rfl, haj, hS⟩ := hrel
          have HS := Lib.hid hS
          clear hS
          by_cases hj9 : j < 9
          · obtain ⟨b, rfl⟩ : ∃ b, a = b + 1 := ⟨a - 1, by have := haj.out; have := HN.out; omega⟩
            obtain ⟨q, hq⟩ : ∃ q, q = L / 10 ^ j := ⟨_, rfl⟩
            have hqn : L / 10 ^ (j + 1) = q / 10 := by rw [Nat.pow_succ, ← Nat.div_div_eq_div_mul, ← hq]
            have hq9 : q < 1000000000 := by rw [hq]; exact Nat.lt_of_le_of_lt (Nat.div_le_self _ _) hL9
            obtain ⟨d, hd⟩ : ∃ d, d = q % 10 := ⟨_, rfl⟩
            have hd9 : d < 10 := by omega
            have hbN : b < N := by have := HS.out.le; omega
            have hbl : b < (nums8 bs).length := by rw [nums8_len, HS.out.len]; exact hbN
            have hce := HS.out.arr.cell b hbl
            have hfr := HS.out.arr.frozen b
            have hst := HS.out.step (Nat.le_refl _) hd9
            have hvs := val_step (x := limbs n) (i := i) hj9 (show L / 10 ^ j % 10 = d by rw [← hq]; exact hd.symm)
            rw [show N - (b + 1) = 9 * i + j from by have := haj.out; omega, hvs] at hst
            rw [← hq]
            have HST := Lib.hid hst
            have HQN := Lib.hid hqn
            have X0 : IntKind.i64.wrap ((b : Int) + 1 - 1) = (b : Int) := by rw [IntWalk.i64_in _ (by omega)]; omega
            have X1 : (q : Int) % 10 = d := by omega
            have X2 : IntKind.u32.wrap (48 + (d : Int)) = 48 + (d : Int) := by rw [IntWalk.u32_in _ (by omega)]
            have X3 : IntKind.u8.wrap (48 + (d : Int)) = 48 + (d : Int) := by rw [IntWalk.u8_in _ (by omega)]
            have X4 : Int.tmod (q : Int) 10 = d := by rw [Int.tmod_eq_emod_of_nonneg (by omega)]; exact X1
            have X5 : Int.tdiv (q : Int) 10 = ((q / 10 : Nat) : Int) := by rw [Int.tdiv_eq_ediv_of_nonneg (by omega)]; omega
            have HD := Lib.hid hd
            clear hst hvs hqn hq hd
            go_wp2_with fail
            go_roundw
            case rel => exact ⟨j + 1, b, bs.set b (chr d), by omega, by rfl, rfl, congrArg (Value.int .u32) (by rw [HQN.out]; omega), Lib.hid (by have := haj.out; omega), HST.out⟩
            case measure => simp [intOf]; omega
          · have hje : j = 9 := by omega
            subst hje
            have hst := HS.out.cong (V' := val ((limbs n).take (i + 1))) (by rw [val_take_next, HL.out, Nat.mod_eq_of_lt (show L < 10 ^ 9 from hL9)])
            have HST := Lib.hid hst
            clear hst
            go_wp2_with fail
            go_roundw
            case rel => exact ⟨i + 1, a, bs, by omega, by rfl, rfl, Lib.hid (by have := haj.out; omega), HST.out⟩
            case measure => simp [intOf]; omega
      · have hie : i = m := by omega
        subst hie
        have ha0 : a = 0 := by have := hai.out; have := HN.out; omega
        subst ha0
        have hdb := HS.out.dig
        have hdc := HS.out.dec
        rw [List.drop_zero] at hdb hdc
        rw [List.take_of_length_le (by have := HM.out; omega), HVX.out] at hdc
        have hdn : dec bs = n := by omega
        have hconv : (convert 113 9 (.slice (some ⟨w.heap.size, 0, none⟩) N N)).run Tryz.prog wr = .ok (.string ⟨bs.toArray⟩) wr := by
          have := run_convert_bytes_back (P := Tryz.prog) wr 113 9 5 ⟨w.heap.size, 0, none⟩ N bs Tryz.underlying113 Tryz.underlying5 Tryz.underlying9 (fun j hj => by
            have h1 := HS.out.arr.cell j (by rw [nums8_len]; exact hj)
            have e : (⟨w.heap.size, 0, none⟩ : Addr).add j = ⟨w.heap.size, j, none⟩ := by unfold Addr.add; simp; omega
            rw [e, h1]
            simp [rd, nums8, List.getD, hj])
          rw [HS.out.len] at this
          exact this
        have HDB := Lib.hid hdb
        have HDN := Lib.hid hdn
        clear hdb hdc hdn
        go_wp2_with fail
        refine (Trims.left_zero ⟨bs.toArray⟩ _).mono ?_
        rintro e w2 ⟨rfl, hb⟩
        have HB := Lib.hid hb
        have ht := trim_txt HDB.out (by rw [HDN.out]; exact hn0)
        rw [HDN.out] at ht
        rw [show (⟨bs.toArray⟩ : ByteArray).data.toList = bs from rfl, ht]
        clear hb
        go_wp2_with fail
        go_ret
        exact ⟨rfl, below_step HS.out.below HB.out⟩

end Go.Proofs.YtjeamchaibialaaGreatDoor.DigitsWalk

/- Rationals and their texts: plain facts. -/
namespace Go.Proofs.YtjeamchaibialaaGreatDoor.Rats
open ReadWalk Texts

def sg (neg : Bool) (n : Nat) : Int := if neg then -(n : Int) else n
theorem sg_false (n : Nat) : sg false n = n := rfl
theorem sg_zero (b : Bool) : sg b 0 = 0 := by cases b <;> rfl
theorem sg_abs (b : Bool) (n : Nat) : (sg b n).natAbs = n := by cases b <;> simp [sg]
theorem sg_neg {b : Bool} {n : Nat} (h : n ≠ 0) : decide (sg b n < 0) = b := by
  cases b
  · rw [sg_false]; exact decide_eq_false (by omega)
  · exact decide_eq_true (by simp only [sg, if_true]; omega)
theorem sg_self (z : Int) : sg (decide (z < 0)) z.natAbs = z := by
  by_cases h : z < 0
  · rw [decide_eq_true h]; simp only [sg, if_true]; omega
  · rw [decide_eq_false h, sg_false]; omega
theorem sg_mul (a b : Bool) (n m : Nat) : sg a n * sg b m = sg (a != b) (n * m) := by
  cases a <;> cases b <;> simp [sg, Int.neg_mul, Int.mul_neg]
theorem sg_opp (a : Bool) (n : Nat) : -sg a n = sg (!a) n := by cases a <;> simp [sg]
theorem sg_sub (a b : Bool) (n m : Nat) : sg a n - sg b m = sg a n + sg (!b) m := by rw [← sg_opp, Int.sub_eq_add_neg]

def frac (neg : Bool) (n d : Nat) : Rat := mkRat (sg neg n) d
theorem frac_zero (b : Bool) (d : Nat) : frac b 0 d = 0 := by unfold frac; rw [sg_zero, Rat.zero_mkRat]
theorem frac_num {neg : Bool} {n d : Nat} (hd : d ≠ 0) : (frac neg n d).num = sg neg (n / Nat.gcd n d) := by
  unfold frac
  rw [Rat.num_mkRat, if_neg hd, sg_abs, Nat.gcd_comm]
  have hg : ((Nat.gcd n d : Nat) : Int) ∣ (n : Int) := Int.natCast_dvd_natCast.2 (Nat.gcd_dvd_left n d)
  cases neg
  · rw [sg_false, sg_false, Int.natCast_ediv]
  · simp only [sg, if_true, Int.natCast_ediv]
    exact Int.neg_ediv_of_dvd hg
theorem frac_den {neg : Bool} {n d : Nat} (hd : d ≠ 0) : (frac neg n d).den = d / Nat.gcd n d := by
  unfold frac
  rw [Rat.den_mkRat, if_neg hd, sg_abs, Nat.gcd_comm]
theorem frac_self (q : Rat) : frac (decide (q.num < 0)) q.num.natAbs q.den = q := by
  unfold frac
  rw [sg_self, Rat.mkRat_self]
theorem frac_mul (a b : Bool) (n m d e : Nat) : frac a n d * frac b m e = frac (a != b) (n * m) (d * e) := by
  unfold frac
  rw [Rat.mkRat_mul_mkRat, sg_mul]
theorem frac_add (a b : Bool) (n m : Nat) {d e : Nat} (hd : d ≠ 0) (he : e ≠ 0) : frac a n d + frac b m e = mkRat (sg a (n * e) + sg b (m * d)) (d * e) := by
  unfold frac
  rw [Rat.mkRat_add_mkRat _ _ hd he]
  congr 1
  cases a <;> cases b <;> simp [sg, Int.neg_mul]
theorem frac_opp (b : Bool) (n d : Nat) : -frac b n d = frac (!b) n d := by
  unfold frac
  rw [Rat.neg_mkRat, sg_opp]
theorem frac_ne {b : Bool} {n d : Nat} (hn : n ≠ 0) (hd : d ≠ 0) : frac b n d ≠ 0 := by
  unfold frac
  rw [Rat.mkRat_ne_zero hd]
  intro e
  have := sg_abs b n
  rw [e] at this
  exact hn this.symm
theorem frac_one {b : Bool} {n : Nat} (hn : n ≠ 0) : frac b n n * frac b 1 1 = 1 := by
  rw [frac_mul, Nat.mul_one]
  unfold frac
  have : (b != b) = false := by cases b <;> rfl
  rw [this, sg_false, show mkRat (n : Int) n = mkRat ((n : Nat) * 1 : Int) (1 * n) from by rw [Int.mul_one, Nat.one_mul]]
  rw [Nat.one_mul, Int.mul_one, show mkRat (n : Int) n = mkRat ((n : Int) * 1) (n * 1) from by rw [Int.mul_one, Nat.mul_one], Rat.mkRat_mul_left hn]
  rfl
theorem frac_div (a b : Bool) (n d : Nat) {m e : Nat} (hm : m ≠ 0) (he : e ≠ 0) : frac a n d / frac b m e = frac (a != b) (n * e) (d * m) := by
  have h : frac b m e * frac b e m = 1 := by
    rw [frac_mul, show (b != b) = false from by cases b <;> rfl]
    unfold frac
    rw [sg_false, Nat.mul_comm e m, show mkRat ((m * e : Nat) : Int) (m * e) = mkRat (((m * e : Nat) : Int) * 1) ((m * e) * 1) from by rw [Int.mul_one, Nat.mul_one], Rat.mkRat_mul_left (Nat.mul_ne_zero hm he)]
    rfl
  rw [Rat.div_def, Rat.inv_eq_of_mul_eq_one h, frac_mul]

def rtxt (q : Rat) : List UInt8 := (if q.num < 0 then [45] else []) ++ (txt q.num.natAbs ++ (if q.den = 1 then [] else 47 :: txt q.den))

theorem txt_inj {a b : Nat} (h : txt a = txt b) : a = b := by rw [← dec_txt a, ← dec_txt b, h]
theorem txt_no (n : Nat) (b : UInt8) (h : b ∈ txt n) : b ≠ 45 ∧ b ≠ 47 := by
  have := txt_dig n b h
  constructor
  · intro e; rw [e] at this; exact absurd this (by decide)
  · intro e; rw [e] at this; exact absurd this (by decide)
theorem split_inj {a b x y : List UInt8} (ha : ∀ z ∈ a, z ≠ 47) (hb : ∀ z ∈ b, z ≠ 47) (hx : x = [] ∨ x.head? = some 47) (hy : y = [] ∨ y.head? = some 47) (h : a ++ x = b ++ y) : a = b ∧ x = y := by
  induction a generalizing b with
  | nil =>
    cases b with
    | nil => exact ⟨rfl, h⟩
    | cons c b =>
      have hc := hb c List.mem_cons_self
      rcases hx with rfl | hx
      · simp at h
      · rw [List.nil_append] at h
        rw [h] at hx
        exact absurd (by simpa using hx) hc
  | cons c a ih =>
    cases b with
    | nil =>
      have hc := ha c List.mem_cons_self
      rcases hy with rfl | hy
      · simp at h
      · rw [List.nil_append] at h
        rw [← h] at hy
        exact absurd (by simpa using hy) hc
    | cons c' b =>
      rw [List.cons_append, List.cons_append] at h
      injection h with h1 h2
      obtain ⟨e1, e2⟩ := ih (fun z hz => ha z (List.mem_cons_of_mem _ hz)) (fun z hz => hb z (List.mem_cons_of_mem _ hz)) h2
      exact ⟨by rw [h1, e1], e2⟩
theorem rtxt_inj {p q : Rat} (h : rtxt p = rtxt q) : p = q := by
  have tail : ∀ d : Nat, (if d = 1 then [] else 47 :: txt d : List UInt8) = [] ∨ (if d = 1 then [] else 47 :: txt d : List UInt8).head? = some 47 := fun d => by
    by_cases hd : d = 1
    · exact .inl (if_pos hd)
    · exact .inr (by rw [if_neg hd]; rfl)
  have core : ∀ {a b c d : Nat}, txt a ++ (if c = 1 then [] else 47 :: txt c) = txt b ++ (if d = 1 then [] else 47 :: txt d) → a = b ∧ c = d := by
    intro a b c d h
    obtain ⟨e1, e2⟩ := split_inj (fun z hz => (txt_no a z hz).2) (fun z hz => (txt_no b z hz).2) (tail c) (tail d) h
    refine ⟨txt_inj e1, ?_⟩
    by_cases hc : c = 1
    · by_cases hd : d = 1
      · rw [hc, hd]
      · rw [if_pos hc, if_neg hd] at e2; exact absurd e2 (by simp)
    · by_cases hd : d = 1
      · rw [if_neg hc, if_pos hd] at e2; exact absurd e2 (by simp)
      · rw [if_neg hc, if_neg hd] at e2
        injection e2 with _ e2
        exact txt_inj e2
  have hm : ∀ {n : Nat} {x : List UInt8}, (txt n ++ x).head? ≠ some 45 := by
    intro n x e
    rw [head_app (txt_ne n)] at e
    exact (txt_no n 45 (List.mem_of_mem_head? (by rw [e]; rfl))).1 rfl
  unfold rtxt at h
  by_cases hp : p.num < 0
  · by_cases hq : q.num < 0
    · rw [if_pos hp, if_pos hq] at h
      obtain ⟨e1, e2⟩ := core (List.append_cancel_left h)
      exact Rat.ext (by omega) e2
    · rw [if_pos hp, if_neg hq, List.nil_append] at h
      exact absurd (by rw [← h]; rfl) (hm (n := q.num.natAbs))
  · by_cases hq : q.num < 0
    · rw [if_neg hp, if_pos hq, List.nil_append] at h
      exact absurd (by rw [h]; rfl) (hm (n := p.num.natAbs))
    · rw [if_neg hp, if_neg hq, List.nil_append, List.nil_append] at h
      obtain ⟨e1, e2⟩ := core h
      exact Rat.ext (by omega) e2

end Go.Proofs.YtjeamchaibialaaGreatDoor.Rats

/- How texts are taken apart: plain facts. -/
namespace Go.Proofs.YtjeamchaibialaaGreatDoor.Parses
open ReadWalk Texts Rats

theorem index_one (a x : List UInt8) (c : UInt8) (h : ∀ b ∈ a, b ≠ c) : Lib.index (a ++ c :: x) [c] = a.length := by
  induction a with
  | nil => simp [Lib.index]
  | cons b a ih =>
    have hb : b ≠ c := h b List.mem_cons_self
    have ih' := ih (fun z hz => h z (List.mem_cons_of_mem _ hz))
    rw [List.cons_append, Lib.index, ih']
    have h1 : ([c].isPrefixOf (b :: (a ++ c :: x))) = false := by simp [List.isPrefixOf]; exact fun e => hb (Eq.symm e)
    rw [h1]
    have h2 : ((a.length : Int) == -1) = false := beq_eq_false_iff_ne.2 (by omega)
    simp only [h2, List.length_cons]
    simp
theorem index_no (a : List UInt8) (c : UInt8) (h : ∀ b ∈ a, b ≠ c) : Lib.index a [c] = -1 := by
  induction a with
  | nil => simp [Lib.index]
  | cons b a ih =>
    have hb : b ≠ c := h b List.mem_cons_self
    have ih' := ih (fun z hz => h z (List.mem_cons_of_mem _ hz))
    rw [Lib.index, ih']
    have h1 : ([c].isPrefixOf (b :: a)) = false := by simp [List.isPrefixOf]; exact fun e => hb (Eq.symm e)
    rw [h1]
    simp
theorem cut_one (a x : List UInt8) (c : UInt8) (h : ∀ b ∈ a, b ≠ c) : Lib.cut (a ++ c :: x) [c] = (a, x, true) := by
  unfold Lib.cut
  rw [index_one a x c h, if_pos (by omega)]
  simp
theorem cut_no (a : List UInt8) (c : UInt8) (h : ∀ b ∈ a, b ≠ c) : Lib.cut a [c] = (a, [], false) := by
  unfold Lib.cut
  rw [index_no a c h, if_neg (by omega)]
theorem cut_cases (l : List UInt8) (c : UInt8) : (∃ a x, l = a ++ c :: x ∧ (∀ b ∈ a, b ≠ c) ∧ Lib.cut l [c] = (a, x, true)) ∨ ((∀ b ∈ l, b ≠ c) ∧ Lib.cut l [c] = (l, [], false)) := by
  by_cases h : c ∈ l
  · obtain ⟨a, x, e, hn⟩ : ∃ a x, l = a ++ c :: x ∧ ∀ b ∈ a, b ≠ c := by
      induction l with
      | nil => simp at h
      | cons y l ih =>
        by_cases hy : y = c
        · exact ⟨[], l, by rw [hy]; rfl, by simp⟩
        · obtain ⟨a, x, e, hn⟩ := ih (by rcases List.mem_cons.1 h with h | h; exact absurd h.symm hy; exact h)
          refine ⟨y :: a, x, by rw [e]; rfl, fun b hb => ?_⟩
          rcases List.mem_cons.1 hb with rfl | hb
          · exact hy
          · exact hn b hb
    exact .inl ⟨a, x, e, hn, by rw [e, cut_one a x c hn]⟩
  · have hn : ∀ b ∈ l, b ≠ c := fun b hb e => h (e ▸ hb)
    exact .inr ⟨hn, cut_no l c hn⟩
theorem trim_minus (t : List UInt8) : Lib.trimPrefix (45 :: t) [45] = t := by
  simp [Lib.trimPrefix, Lib.hasPrefix]
theorem trim_plain {t : List UInt8} (h : t.head? ≠ some 45) : Lib.trimPrefix t [45] = t := by
  cases t with
  | nil => rfl
  | cons b t =>
    have : b ≠ 45 := fun e => h (by rw [e]; rfl)
    have h1 : Lib.hasPrefix (b :: t) [45] = false := by simp [Lib.hasPrefix, List.isPrefixOf]; exact fun e => this (Eq.symm e)
    unfold Lib.trimPrefix
    rw [h1]; rfl

def Figs (l : List UInt8) : Prop := l ≠ [] ∧ Dig l
def Num (l : List UInt8) : Prop := Dig l ∧ (l = [48] ∨ l ≠ [] ∧ l.head? ≠ some 48)
theorem Num.figs {l : List UInt8} (h : Num l) : Figs l := ⟨by rcases h.2 with h | h; rw [h]; simp; exact h.1, h.1⟩
theorem num_txt (n : Nat) : Num (txt n) := by
  refine ⟨txt_dig n, ?_⟩
  by_cases h : n = 0
  · subst h; exact .inl (by rw [txt_small (by omega)]; rfl)
  · exact .inr ⟨txt_ne n, txt_head h⟩
theorem txt_num {l : List UInt8} (h : Num l) : txt (dec l) = l := by
  rcases h.2 with h0 | h0
  · rw [h0, show dec [48] = 0 from by simp [dec, dig], txt_small (by omega)]; rfl
  · exact (txt_uniq _ l rfl h.1 h0.1 h0.2).symm

def body (q : Rat) : List UInt8 := txt q.num.natAbs ++ (if q.den = 1 then [] else 47 :: txt q.den)
theorem body_head (q : Rat) : (body q).head? ≠ some 45 := by
  unfold body
  rw [head_app (txt_ne _)]
  intro e
  exact (txt_no _ 45 (List.mem_of_mem_head? (by rw [e]; rfl))).1 rfl
theorem rtxt_body (q : Rat) : rtxt q = (if q.num < 0 then [45] else []) ++ body q := rfl
theorem rtxt_trim (q : Rat) : Lib.trimPrefix (rtxt q) [45] = body q := by
  rw [rtxt_body]
  by_cases h : q.num < 0
  · rw [if_pos h]; exact trim_minus _
  · rw [if_neg h, List.nil_append]; exact trim_plain (body_head q)
theorem rtxt_len (q : Rat) : decide ((body q).length < (rtxt q).length) = decide (q.num < 0) := by
  rw [rtxt_body]
  by_cases h : q.num < 0
  · rw [if_pos h, decide_eq_true h]; exact decide_eq_true (by simp)
  · rw [if_neg h, decide_eq_false h]; exact decide_eq_false (by simp)
theorem body_cut (q : Rat) : Lib.cut (body q) [47] = (txt q.num.natAbs, if q.den = 1 then [] else txt q.den, !decide (q.den = 1)) := by
  unfold body
  by_cases h : q.den = 1
  · rw [if_pos h, if_pos h, decide_eq_true h, List.append_nil]
    exact cut_no _ _ (fun b hb => (txt_no _ b hb).2)
  · rw [if_neg h, if_neg h, decide_eq_false h]
    exact cut_one _ _ _ (fun b hb => (txt_no _ b hb).2)
def ratOf (s : List UInt8) : Rat :=
  let t := Lib.trimPrefix s [45]
  let c := Lib.cut t [47]
  frac (decide (t.length < s.length)) (dec c.1) (if c.2.2 then dec c.2.1 else 1)
theorem ratOf_rtxt (q : Rat) : ratOf (rtxt q) = q := by
  unfold ratOf
  simp only [rtxt_trim, body_cut, rtxt_len, dec_txt]
  have hs := frac_self q
  by_cases h : q.den = 1
  · rw [h] at hs
    rw [if_neg (by simp [h])]
    exact hs
  · rw [if_pos (by simp [h]), if_neg h, dec_txt]
    exact hs
theorem drop_nil {p : UInt8 → Bool} {l : List UInt8} : l.dropWhile p = [] ↔ ∀ b ∈ l, p b = true := by
  induction l with
  | nil => simp
  | cons x l ih =>
    rw [List.dropWhile_cons]
    cases hx : p x
    · simp [hx]
    · simp [hx, ih]
theorem trimS_all {l cs : List UInt8} (h : ∀ b ∈ l, b ∈ cs) : Lib.trimS l cs = [] := by
  have h1 : Lib.trimRightS l cs = [] := by
    unfold Lib.trimRightS
    rw [show l.reverse.dropWhile (cs.contains ·) = [] from by
      rw [drop_nil]
      intro b hb
      simpa using h b (List.mem_reverse.1 hb)]
    rfl
  unfold Lib.trimS
  rw [h1]; rfl
theorem trimS_ne {l cs : List UInt8} (h : ∃ b ∈ l, b ∉ cs) : Lib.trimS l cs ≠ [] := by
  obtain ⟨b, hb, hc⟩ := h
  intro e
  unfold Lib.trimS Lib.trimLeftS at e
  rw [drop_nil] at e
  have key : b ∈ Lib.trimRightS l cs := by
    unfold Lib.trimRightS
    rw [List.mem_reverse]
    have : ∀ m : List UInt8, b ∈ m → b ∈ m.dropWhile (cs.contains ·) := by
      intro m
      induction m with
      | nil => intro h; exact h
      | cons y m ih =>
        intro h
        rw [List.dropWhile_cons]
        split
        · rename_i hy
          rcases List.mem_cons.1 h with rfl | h
          · exact absurd (by simpa using hy) hc
          · exact ih h
        · exact h
    exact this _ (List.mem_reverse.2 hb)
  exact hc (by simpa using e b key)
def figures : List UInt8 := [48, 49, 50, 51, 52, 53, 54, 55, 56, 57]
theorem mem_figures (b : UInt8) : b ∈ figures ↔ 48 ≤ b.toNat ∧ b.toNat ≤ 57 := by
  constructor
  · intro h
    simp only [figures, List.mem_cons, List.not_mem_nil, or_false] at h
    rcases h with rfl | rfl | rfl | rfl | rfl | rfl | rfl | rfl | rfl | rfl <;> decide
  · intro h
    obtain ⟨n, hn⟩ : ∃ n, n = b.toNat := ⟨_, rfl⟩
    have e : b = UInt8.ofNat n := by rw [hn]; simp
    rw [← hn] at h
    rw [e]
    rcases (show n = 48 ∨ n = 49 ∨ n = 50 ∨ n = 51 ∨ n = 52 ∨ n = 53 ∨ n = 54 ∨ n = 55 ∨ n = 56 ∨ n = 57 by omega) with rfl | rfl | rfl | rfl | rfl | rfl | rfl | rfl | rfl | rfl <;> decide
theorem dig_iff (l : List UInt8) : Lib.trimS l figures = [] ↔ Dig l := by
  constructor
  · intro h b hb
    rw [← mem_figures]
    exact Classical.not_not.1 fun hc => trimS_ne ⟨b, hb, hc⟩ h
  · intro h
    exact trimS_all fun b hb => (mem_figures b).2 (h b hb)
theorem zero_iff {l : List UInt8} (h : Dig l) : Lib.trimS l [48] = [] ↔ dec l = 0 := by
  constructor
  · intro e
    have hall : ∀ b ∈ l, b = 48 := fun b hb => Classical.not_not.1 fun hc => trimS_ne ⟨b, hb, by simpa using hc⟩ e
    clear e h
    induction l with
    | nil => rfl
    | cons x l ih =>
      rw [dec_cons, ih (fun b hb => hall b (List.mem_cons_of_mem _ hb)), hall x List.mem_cons_self]
      simp [dig]
  · intro e
    refine trimS_all fun b hb => ?_
    have : ∀ b ∈ l, b = 48 := by
      clear hb b
      induction l with
      | nil => intro b hb; simp at hb
      | cons x l ih =>
        rw [dec_cons] at e
        have hp : 0 < 10 ^ l.length := Nat.pow_pos (by omega)
        have hx := h x List.mem_cons_self
        have h1 : dig x * 10 ^ l.length = 0 := by omega
        have h2 : dig x = 0 := by rcases Nat.mul_eq_zero.1 h1 with h | h; exact h; omega
        have h3 : x = 48 := UInt8.toNat_inj.1 (by unfold dig at h2; have : (48 : UInt8).toNat = 48 := rfl; omega)
        intro b hb
        rcases List.mem_cons.1 hb with rfl | hb
        · exact h3
        · exact ih (fun b hb => h b (List.mem_cons_of_mem _ hb)) (by omega) b hb
    simpa using this b hb
theorem lt_ten_limbs {n k : Nat} (h : n < 10 ^ k) : (Limbs.limbs n).length ≤ k / 9 + 1 := by
  by_cases h0 : n = 0
  · subst h0; rw [Limbs.limbs_zero]; simp
  · refine Classical.not_not.1 fun hc => ?_
    have h1 : Limbs.pw ((Limbs.limbs n).length - 1) ≤ n := Limbs.limbs_ge h0
    rw [Pure3.pw_ten] at h1
    have h2 : 10 ^ (9 * ((Limbs.limbs n).length - 1)) ≤ n := by exact_mod_cast h1
    have h3 := (Nat.pow_lt_pow_iff_right (by omega : 1 < 10)).1 (Nat.lt_of_le_of_lt h2 h)
    omega

end Go.Proofs.YtjeamchaibialaaGreatDoor.Parses

/- How long the numbers and their texts are: plain facts. -/
namespace Go.Proofs.YtjeamchaibialaaGreatDoor.Sizes
open Limbs ReadWalk Texts Rats Parses

def Sz (q : Rat) (N : Nat) : Prop := (limbs q.num.natAbs).length ≤ N ∧ (limbs q.den).length ≤ N
theorem Sz.mono {q : Rat} {N M : Nat} (h : Sz q N) (hm : N ≤ M) : Sz q M := ⟨Nat.le_trans h.1 hm, Nat.le_trans h.2 hm⟩
theorem sz_mkRat {z : Int} {d N : Nat} (hd : d ≠ 0) (h1 : (limbs z.natAbs).length ≤ N) (h2 : (limbs d).length ≤ N) : Sz (mkRat z d) N := by
  have hz : mkRat z d = frac (decide (z < 0)) z.natAbs d := by unfold frac; rw [sg_self]
  rw [hz]
  refine ⟨?_, ?_⟩
  · rw [frac_num hd, sg_abs]
    exact Nat.le_trans (limbs_len_mono (Nat.div_le_self _ _)) h1
  · rw [frac_den hd]
    exact Nat.le_trans (limbs_len_mono (Nat.div_le_self _ _)) h2
theorem sz_frac {b : Bool} {n d N : Nat} (hd : d ≠ 0) (h1 : (limbs n).length ≤ N) (h2 : (limbs d).length ≤ N) : Sz (frac b n d) N :=
  sz_mkRat hd (by rw [sg_abs]; exact h1) h2
theorem limbs_one : (limbs 1).length = 1 := by rw [limbs_unit (by omega) (by omega)]; rfl
theorem sz_add {p q : Rat} {N : Nat} (hp : Sz p N) (hq : Sz q N) : Sz (p + q) (2 * N + 1) := by
  rw [Rat.add_def']
  have h1 := limbs_len_mul p.num.natAbs q.den
  have h2 := limbs_len_mul q.num.natAbs p.den
  have h3 := limbs_len_mul p.den q.den
  have hp1 := hp.1; have hp2 := hp.2; have hq1 := hq.1; have hq2 := hq.2
  refine sz_mkRat (Nat.mul_ne_zero p.den_nz q.den_nz) ?_ (by omega)
  have h4 : (p.num * q.den + q.num * p.den).natAbs ≤ p.num.natAbs * q.den + q.num.natAbs * p.den := by
    refine Nat.le_trans (Int.natAbs_add_le _ _) ?_
    rw [Int.natAbs_mul, Int.natAbs_mul, Int.natAbs_natCast, Int.natAbs_natCast]
    exact Nat.le_refl _
  have h5 := limbs_len_mono h4
  have h6 := limbs_len_add (p.num.natAbs * q.den) (q.num.natAbs * p.den)
  omega
theorem sz_opp {p : Rat} {N : Nat} (hp : Sz p N) : Sz (-p) N := by
  refine ⟨?_, ?_⟩
  · rw [Rat.neg_num, Int.natAbs_neg]; exact hp.1
  · rw [Rat.neg_den]; exact hp.2
theorem sz_sub {p q : Rat} {N : Nat} (hp : Sz p N) (hq : Sz q N) : Sz (p - q) (2 * N + 1) := by
  rw [Rat.sub_eq_add_neg]; exact sz_add hp (sz_opp hq)
theorem sz_mul {p q : Rat} {N : Nat} (hp : Sz p N) (hq : Sz q N) : Sz (p * q) (2 * N) := by
  rw [Rat.mul_def']
  have h1 := limbs_len_mul p.num.natAbs q.num.natAbs
  have h3 := limbs_len_mul p.den q.den
  have hp1 := hp.1; have hp2 := hp.2; have hq1 := hq.1; have hq2 := hq.2
  exact sz_mkRat (Nat.mul_ne_zero p.den_nz q.den_nz) (by rw [Int.natAbs_mul]; omega) (by omega)
theorem div_frac {p q : Rat} (hq : q ≠ 0) : p / q = frac (decide (p.num < 0) != decide (q.num < 0)) (p.num.natAbs * q.den) (p.den * q.num.natAbs) := by
  have hn : q.num.natAbs ≠ 0 := by
    intro e
    exact hq (Rat.num_eq_zero.1 (by omega))
  have := frac_div (decide (p.num < 0)) (decide (q.num < 0)) p.num.natAbs p.den hn q.den_nz
  rw [frac_self, frac_self] at this
  exact this
theorem sz_div {p q : Rat} {N : Nat} (hp : Sz p N) (hq : Sz q N) (h0 : q ≠ 0) : Sz (p / q) (2 * N) := by
  rw [div_frac h0]
  have hn : q.num.natAbs ≠ 0 := by
    intro e
    exact h0 (Rat.num_eq_zero.1 (by omega))
  have h1 := limbs_len_mul p.num.natAbs q.den
  have h3 := limbs_len_mul p.den q.num.natAbs
  have hp1 := hp.1; have hp2 := hp.2; have hq1 := hq.1; have hq2 := hq.2
  exact sz_frac (Nat.mul_ne_zero p.den_nz hn) (by omega) (by omega)
theorem dec_ge {l : List UInt8} (hd : Dig l) (hne : l ≠ []) (hh : l.head? ≠ some 48) : 10 ^ (l.length - 1) ≤ dec l := by
  cases l with
  | nil => exact absurd rfl hne
  | cons x l =>
    rw [dec_cons]
    have hx := hd x List.mem_cons_self
    have h48 : x ≠ 48 := fun e => hh (by rw [e]; rfl)
    have hxn : x.toNat ≠ 48 := fun e => h48 (UInt8.toNat_inj.1 (by rw [e]; rfl))
    have h1 : 1 ≤ dig x := by unfold dig; omega
    have := Nat.mul_le_mul_right (10 ^ l.length) h1
    rw [List.length_cons, Nat.add_sub_cancel]
    omega
theorem txt_len (n : Nat) : (txt n).length ≤ 9 * (limbs n).length + 1 := by
  by_cases h : n = 0
  · subst h; rw [txt_small (by omega)]; simp
  · have h1 := dec_ge (txt_dig n) (txt_ne n) (txt_head h)
    rw [dec_txt] at h1
    have h2 := limbs_lt (n := n)
    rw [Pure3.pw_ten] at h2
    have h3 : n < 10 ^ (9 * (limbs n).length) := by exact_mod_cast h2
    have h4 := (Nat.pow_lt_pow_iff_right (by omega : 1 < 10)).1 (Nat.lt_of_le_of_lt h1 h3)
    omega
theorem rtxt_long {q : Rat} {N : Nat} (h : Sz q N) : (rtxt q).length ≤ 18 * N + 4 := by
  have h1 := txt_len q.num.natAbs
  have h2 := txt_len q.den
  have h3 := h.1; have h4 := h.2
  unfold rtxt
  rw [List.length_append, List.length_append]
  have h5 : (if q.num < 0 then [45] else [] : List UInt8).length ≤ 1 := by split <;> simp
  have h6 : (if q.den = 1 then [] else 47 :: txt q.den : List UInt8).length ≤ 9 * (limbs q.den).length + 2 := by
    split
    · simp
    · rw [List.length_cons]; omega
  omega
theorem sz_rtxt (q : Rat) : Sz q ((rtxt q).length / 9 + 1) := by
  have h1 : q.num.natAbs < 10 ^ (txt q.num.natAbs).length := by
    have := dec_lt (txt_dig q.num.natAbs)
    rwa [dec_txt] at this
  have e : (rtxt q).length = (if q.num < 0 then [45] else [] : List UInt8).length + ((txt q.num.natAbs).length + (if q.den = 1 then [] else 47 :: txt q.den : List UInt8).length) := by
    unfold rtxt; rw [List.length_append, List.length_append]
  refine ⟨Nat.le_trans (lt_ten_limbs h1) (by omega), ?_⟩
  by_cases hd : q.den = 1
  · rw [hd, limbs_one]; omega
  · have h2 : q.den < 10 ^ (txt q.den).length := by
      have := dec_lt (txt_dig q.den)
      rwa [dec_txt] at this
    rw [if_neg hd, List.length_cons] at e
    exact Nat.le_trans (lt_ten_limbs h2) (by omega)

end Go.Proofs.YtjeamchaibialaaGreatDoor.Sizes

/- Blocks of the heap in which big's numbers lie. -/
namespace Go.Proofs.YtjeamchaibialaaGreatDoor.Heaps
open Go.RowKit Limbs Nats Go.Proofs.YtjeamchaibialaaGreatDoor.Told ReadWalk Texts Rats

def Keeps (w w' : World) : Prop := ∀ a k n, w.cell? a = some (.int k n) → w'.cell? a = some (.int k n)
theorem Keeps.refl (w : World) : Keeps w w := fun _ _ _ h => h
theorem Keeps.trans {a b c : World} (h : Keeps a b) (k : Keeps b c) : Keeps a c := fun x i n e => k x i n (h x i n e)
theorem Keeps.below {w w' : World} (h : Below w.heap.size w w') : Keeps w w' := fun a _ _ e => (World.cell?_of_block (h.block a.block (World.block_lt_of_cell? w a e))).trans e
theorem _root_.Go.Proofs.YtjeamchaibialaaGreatDoor.Nats.NatV.keeps {k : IntKind} {w w' : World} {v : Value} {l : List Int} (h : NatV k w v l) (hk : Keeps w w') : NatV k w' v l := by
  obtain ⟨A, c, h1, h2, h3, h4, h5⟩ := h
  refine ⟨A, c, h1, h2, h3, h4, fun hp => ?_⟩
  obtain ⟨ad, e, hc⟩ := h5 hp
  exact ⟨ad, e, fun j hj => hk _ _ _ (hc j hj)⟩
theorem IsU.keeps {w w' : World} {v : Value} {n : Nat} (h : IsU w v n) (hk : Keeps w w') : IsU w' v n := NatV.keeps h hk

def Blk (w : World) (g : Nat) (cur : Array Value) : Prop := ∃ t, w.heap[g]? = some (.cells cur t (0, 0))
theorem Blk.cell {w : World} {g : Nat} {cur : Array Value} (h : Blk w g cur) (i : Nat) : w.cell? ⟨g, i, none⟩ = cur[i]? := by
  obtain ⟨t, h⟩ := h
  unfold World.cell?
  simp [h]
theorem Blk.frozen {w : World} {g : Nat} {cur : Array Value} (h : Blk w g cur) (i : Nat) : w.frozen? ⟨g, i, none⟩ = false := by
  obtain ⟨t, h⟩ := h
  unfold World.frozen?
  rw [show w.heap[(⟨g, i, none⟩ : Addr).block]? = _ from h]
  simp
theorem Blk.lt {w : World} {g : Nat} {cur : Array Value} (h : Blk w g cur) : g < w.heap.size := by
  obtain ⟨t, h⟩ := h
  exact (Array.getElem?_eq_some_iff.1 h).1
theorem Blk.set {w : World} {g : Nat} {cur : Array Value} (h : Blk w g cur) (i : Nat) (v : Value) : Blk (w.setCell ⟨g, i, none⟩ v) g (cur.setIfInBounds i v) := by
  obtain ⟨t, h⟩ := h
  exact ⟨t, heap_setCell_same w g i cur t v h⟩
theorem Blk.same {w w' : World} {g : Nat} {cur : Array Value} (h : Blk w g cur) (e : w'.heap[g]? = w.heap[g]?) : Blk w' g cur := by
  obtain ⟨t, h⟩ := h
  exact ⟨t, e.trans h⟩
theorem Blk.alloc (w : World) (cur : Array Value) (t : TypeId) : Blk (w.alloc (.cells cur t)) w.heap.size cur := ⟨t, heap_alloc_new _ _⟩
def Flat (cur : Array Value) : Prop := ∀ (i : Nat) k n, cur[i]? ≠ some (.int k n)
theorem Keeps.set {w : World} {g : Nat} {cur : Array Value} (h : Blk w g cur) (hf : Flat cur) (i : Nat) (v : Value) : Keeps w (w.setCell ⟨g, i, none⟩ v) := by
  intro a k n e
  have hne : a.block ≠ g := by
    intro e2
    obtain ⟨t, h⟩ := h
    unfold World.cell? at e
    rw [e2, h] at e
    simp only at e
    split at e
    · exact absurd e (by simp)
    · exact hf _ _ _ e
  rw [World.cell?_setCell_other w _ _ _ (fun e2 => hne (by rw [← e2]))]
  exact e
theorem grown_set (w : World) (g i : Nat) (v : Value) : w.grownBy (w.setCell ⟨g, i, none⟩ v) (some g) :=
  ⟨rfl, rfl, rfl, by simp, fun k _ hk => heap_setCell_other w ⟨g, i, none⟩ k v (fun e => hk (by rw [e]))⟩
theorem grown_below {w w' : World} {row : Option Nat} (h : Below w.heap.size w w') : w.grownBy w' row := ⟨h.os, h.tape, h.output, h.size, fun k hk _ => h.block k hk⟩
theorem below_grown {w0 w w' : World} {g : Nat} (hb : Below w0.heap.size w0 w) (hg : w.grownBy w' (some g)) (h : w0.heap.size ≤ g) : Below w0.heap.size w0 w' :=
  ⟨hg.os.trans hb.os, hg.tape.trans hb.tape, hg.output.trans hb.output, Nat.le_trans hb.size hg.size, fun k hk => (hg.block k (Nat.lt_of_lt_of_le hk hb.size) (fun e => by injection e with e; omega)).trans (hb.block k hk)⟩

theorem below_new {w0 w1 : World} (h : Below w0.heap.size w0 w1) (o : Obj) : Below w0.heap.size w0 (w1.alloc o).drew := by
  have := h.alloc h.size o
  exact ⟨this.os, this.tape, this.output, this.size, this.block⟩
theorem flat3 {b : Bool} {A B : Option Addr} {n c m d : Nat} : Flat #[.bool b, .slice A n c, .slice B m d] := by
  intro i k z e
  match i with
  | 0 => simp at e
  | 1 => simp at e
  | 2 => simp at e
  | i + 3 => simp at e
theorem flat2 {b : Bool} {A : Option Addr} {n c : Nat} : Flat #[.bool b, .slice A n c] := by
  intro i k z e
  match i with
  | 0 => simp at e
  | 1 => simp at e
  | i + 2 => simp at e
theorem set3 {w : World} {g : Nat} {b b' : Bool} {A B A' B' : Option Addr} {n c m d n' c' m' d' : Nat} (h : Blk w g #[.bool b, .slice A n c, .slice B m d]) :
    Blk (((w.setCell ⟨g, 0, none⟩ (.bool b')).setCell ⟨g, 1, none⟩ (.slice A' n' c')).setCell ⟨g, 2, none⟩ (.slice B' m' d')) g #[.bool b', .slice A' n' c', .slice B' m' d'] ∧
    Keeps w (((w.setCell ⟨g, 0, none⟩ (.bool b')).setCell ⟨g, 1, none⟩ (.slice A' n' c')).setCell ⟨g, 2, none⟩ (.slice B' m' d')) ∧
    w.grownBy (((w.setCell ⟨g, 0, none⟩ (.bool b')).setCell ⟨g, 1, none⟩ (.slice A' n' c')).setCell ⟨g, 2, none⟩ (.slice B' m' d')) (some g) := by
  have h1 := h.set 0 (.bool b')
  have h2 := h1.set 1 (.slice A' n' c')
  have h3 := h2.set 2 (.slice B' m' d')
  exact ⟨h3, (Keeps.set h flat3 0 _).trans ((Keeps.set h1 flat3 1 _).trans (Keeps.set h2 flat3 2 _)), ((grown_set w g 0 _).trans (grown_set _ g 1 _)).trans (grown_set _ g 2 _)⟩
theorem set2 {w : World} {g : Nat} {b b' : Bool} {A A' : Option Addr} {n c n' c' : Nat} (h : Blk w g #[.bool b, .slice A n c]) :
    Blk ((w.setCell ⟨g, 0, none⟩ (.bool b')).setCell ⟨g, 1, none⟩ (.slice A' n' c')) g #[.bool b', .slice A' n' c'] ∧
    Keeps w ((w.setCell ⟨g, 0, none⟩ (.bool b')).setCell ⟨g, 1, none⟩ (.slice A' n' c')) ∧
    w.grownBy ((w.setCell ⟨g, 0, none⟩ (.bool b')).setCell ⟨g, 1, none⟩ (.slice A' n' c')) (some g) := by
  have h1 := h.set 0 (.bool b')
  have h2 := h1.set 1 (.slice A' n' c')
  exact ⟨h2, (Keeps.set h flat2 0 _).trans (Keeps.set h1 flat2 1 _), (grown_set w g 0 _).trans (grown_set _ g 1 _)⟩

def under (d : Nat) : List Int := if d = 1 then [] else limbs d
def RatAt (w : World) (g : Nat) (q : Rat) : Prop := ∃ (A B : Option Addr) (c d : Nat), Blk w g #[.bool (decide (q.num < 0)), .slice A (limbs q.num.natAbs).length c, .slice B (under q.den).length d] ∧
  IsU w (.slice A (limbs q.num.natAbs).length c) q.num.natAbs ∧ NatV .u32 w (.slice B (under q.den).length d) (under q.den)
def IntAt (w : World) (g : Nat) (z : Int) : Prop := ∃ (A : Option Addr) (c : Nat), Blk w g #[.bool (decide (z < 0)), .slice A (limbs z.natAbs).length c] ∧ IsU w (.slice A (limbs z.natAbs).length c) z.natAbs
theorem RatAt.lt {w : World} {g : Nat} {q : Rat} (h : RatAt w g q) : g < w.heap.size := by obtain ⟨A, B, c, d, h, _⟩ := h; exact h.lt
theorem IntAt.lt {w : World} {g : Nat} {z : Int} (h : IntAt w g z) : g < w.heap.size := by obtain ⟨A, c, h, _⟩ := h; exact h.lt
theorem RatAt.same {w w' : World} {g : Nat} {q : Rat} (h : RatAt w g q) (hk : Keeps w w') (e : w'.heap[g]? = w.heap[g]?) : RatAt w' g q := by
  obtain ⟨A, B, c, d, h1, h2, h3⟩ := h
  exact ⟨A, B, c, d, h1.same e, IsU.keeps h2 hk, h3.keeps hk⟩
theorem IntAt.same {w w' : World} {g : Nat} {z : Int} (h : IntAt w g z) (hk : Keeps w w') (e : w'.heap[g]? = w.heap[g]?) : IntAt w' g z := by
  obtain ⟨A, c, h1, h2⟩ := h
  exact ⟨A, c, h1.same e, IsU.keeps h2 hk⟩
theorem RatAt.below {w w' : World} {g : Nat} {q : Rat} (h : RatAt w g q) (hb : Below w.heap.size w w') : RatAt w' g q := h.same (Keeps.below hb) (hb.block g h.lt)
theorem IntAt.below {w w' : World} {g : Nat} {z : Int} (h : IntAt w g z) (hb : Below w.heap.size w w') : IntAt w' g z := h.same (Keeps.below hb) (hb.block g h.lt)
theorem RatAt.grown {w w' : World} {g x : Nat} {q : Rat} (h : RatAt w g q) (hk : Keeps w w') (hg : w.grownBy w' (some x)) (hx : g ≠ x) : RatAt w' g q := h.same hk (hg.block g h.lt (fun e => hx (by injection e)))
theorem IntAt.grown {w w' : World} {g x : Nat} {z : Int} (h : IntAt w g z) (hk : Keeps w w') (hg : w.grownBy w' (some x)) (hx : g ≠ x) : IntAt w' g z := h.same hk (hg.block g h.lt (fun e => hx (by injection e)))

end Go.Proofs.YtjeamchaibialaaGreatDoor.Heaps

/- strings.TrimPrefix and strings.Cut, laid at this program. -/
namespace Go.Proofs.YtjeamchaibialaaGreatDoor.Splits
open Go.RowKit Go.Shelf Go.Lib Go.Proofs.YtjeamchaibialaaGreatDoorW.PrintWords Go.Proofs.YtjeamchaibialaaGreatDoorW.PrintLast Go.Proofs.YtjeamchaibialaaGreatDoorW.PrintMore Heaps
def Ok (w : World) : Prop := ∃ m : Int, w.cell? ⟨0, 0, none⟩ = some (.int .i64 m)
theorem Ok.keeps {w w' : World} (h : Ok w) (hk : Keeps w w') : Ok w' := by
  obtain ⟨m, h⟩ := h
  exact ⟨m, hk _ _ _ h⟩
theorem Ok.below {w w' : World} (h : Ok w) (hb : Below w.heap.size w w') : Ok w' := h.keeps (Keeps.below hb)
set_option maxHeartbeats 1000000 in
theorem prefix_calls (s : ByteArray) (w : World) :
    Calls Tryz.prog 84 #[.string s, .string ⟨#[45]⟩] w fun e w' => e = .returned (.string ⟨(Lib.trimPrefix s.data.toList [45]).toArray⟩) ∧ w' = w := by
  have hcon := Any.strings_TrimPrefix Tryz.lays101 s ⟨#[45]⟩ w
  exact hcon
set_option maxHeartbeats 1000000 in
theorem cut_calls (s : ByteArray) (c : UInt8) (w : World) (hs : s.size < 4294967281) (h : Ok w) :
    Calls Tryz.prog 57 #[.string s, .string ⟨#[c]⟩] w fun e w' => e = .returned (.tuple #[.string ⟨(Lib.cut s.data.toList [c]).1.toArray⟩, .string ⟨(Lib.cut s.data.toList [c]).2.1.toArray⟩, .bool (Lib.cut s.data.toList [c]).2.2]) ∧ Below w.heap.size w w' := by
  obtain ⟨m, hm⟩ := h
  have hcon := Any.strings_Cut Tryz.lays145 s ⟨#[c]⟩ m w hs hm
  refine Calls.mono hcon ?_
  rintro e w' ⟨he, n, rfl⟩
  exact ⟨he, Drawn0.below ⟨n, rfl⟩⟩
theorem Ok.shaped {w : World} (h : w.ShapedOpen Tryz.prog) : Ok w := Tryz.laysM145.s1_3 w h
end Go.Proofs.YtjeamchaibialaaGreatDoor.Splits

/- big's whole numbers with a sign: the walks. -/
namespace Go.Proofs.YtjeamchaibialaaGreatDoor.Ints
open Go.RowKit Go.Proofs.YtjeamchaibialaaGreatDoorW.PrintWords Go.Proofs.YtjeamchaibialaaGreatDoorW.PrintLast Go.Proofs.YtjeamchaibialaaGreatDoorW.PrintMore Fns Limbs Nats Go.Proofs.YtjeamchaibialaaGreatDoor.Told ReadWalk Texts Rats Parses Heaps

theorem len_zero : (limbs 0).length = 0 := by rw [limbs_zero]; rfl
theorem intAt_zero {w : World} {g : Nat} {A : Option Addr} {c : Nat} (neg : Bool) (h : Blk w g #[.bool false, .slice A 0 c]) : IntAt w g (sg neg 0) := by
  rw [sg_zero]
  refine ⟨A, c, ?_, ?_⟩
  · rw [show (Int.natAbs 0) = 0 from rfl, len_zero]; exact h
  · rw [show (Int.natAbs 0) = 0 from rfl, len_zero]; exact isU_nil _ _ _
theorem intAt_ne {w : World} {g n : Nat} {A : Option Addr} {c : Nat} {neg : Bool} (h0 : n ≠ 0) (h : Blk w g #[.bool neg, .slice A (limbs n).length c]) (hv : IsU w (.slice A (limbs n).length c) n) : IntAt w g (sg neg n) := by
  refine ⟨A, c, ?_, ?_⟩
  · rw [sg_neg h0, sg_abs]; exact h
  · rw [sg_abs]; exact hv

set_option maxRecDepth 100000 in
theorem set_calls (neg : Bool) (n : Nat) (g : Nat) (b0 : Bool) (A0 : Option Addr) (n0 c0 : Nat) (v : Value) (w : World) (hB : Blk w g #[.bool b0, .slice A0 n0 c0]) (hv : Hid (IsU w v n)) :
    Calls Tryz.prog 86 #[.pointer (some ⟨g, 0, none⟩), .bool neg, v] w fun e w' => e = .returned (.pointer (some ⟨g, 0, none⟩)) ∧ IntAt w' g (sg neg n) ∧ Keeps w w' ∧ w.grownBy w' (some g) := by
  obtain ⟨A, c, rfl, hc⟩ := hv.out.form
  have hc0 : w.cell? ⟨g, 0, none⟩ = some (.bool b0) := hB.cell 0
  have hc1 : w.cell? ⟨g, 1, none⟩ = some (.slice A0 n0 c0) := hB.cell 1
  have hf0 := hB.frozen 0
  have hf1 := hB.frozen 1
  have HB := Lib.hid hB
  clear hB
  by_cases h0 : n = 0
  · subst h0
    rw [len_zero]
    go_enter Tryz.func86, Tryz.ntmps86
    cases neg
    all_goals
      go_wp2_with fail
      go_ret
      obtain ⟨h1, h2, h3⟩ := set2 (b' := false) (A' := A) (n' := 0) (c' := c) HB.out
      exact ⟨rfl, intAt_zero _ h1, h2, h3⟩
  · have hp := limbs_len_pos h0
    go_enter Tryz.func86, Tryz.ntmps86
    cases neg
    · go_wp2_with fail
      go_ret
      obtain ⟨h1, h2, h3⟩ := set2 (b' := false) (A' := A) (n' := (limbs n).length) (c' := c) HB.out
      exact ⟨rfl, intAt_ne h0 h1 (IsU.keeps hv.out h2), h2, h3⟩
    · go_wp2_with fail
      go_ret
      obtain ⟨h1, h2, h3⟩ := set2 (b' := true) (A' := A) (n' := (limbs n).length) (c' := c) HB.out
      exact ⟨rfl, intAt_ne h0 h1 (IsU.keeps hv.out h2), h2, h3⟩

set_option maxRecDepth 100000 in
theorem sign_calls (z : Int) (g : Nat) (w : World) (h : IntAt w g z) :
    Calls Tryz.prog 69 #[.pointer (some ⟨g, 0, none⟩)] w fun e w' => e = .returned (.int .i64 z.sign) ∧ w' = w := by
  obtain ⟨A, c, hB, hv⟩ := h
  have hc0 : w.cell? ⟨g, 0, none⟩ = some (.bool (decide (z < 0))) := hB.cell 0
  have hc1 : w.cell? ⟨g, 1, none⟩ = some (.slice A (limbs z.natAbs).length c) := hB.cell 1
  clear hB hv
  go_enter Tryz.func69, Tryz.ntmps69
  by_cases h1 : z < 0
  · rw [decide_eq_true h1] at hc0
    go_wp2_with fail
    go_ret
    exact ⟨by rw [Int.sign_eq_neg_one_of_neg h1]; rfl, rfl⟩
  · rw [decide_eq_false h1] at hc0
    by_cases h2 : z = 0
    · subst h2
      rw [show (Int.natAbs 0) = 0 from rfl, len_zero] at hc1
      go_wp2_with fail
      go_ret
      exact ⟨rfl, rfl⟩
    · have h3 : z.natAbs ≠ 0 := by omega
      have hp := limbs_len_pos h3
      go_wp2_with fail
      go_ret
      exact ⟨by rw [Int.sign_eq_one_of_pos (by omega)]; rfl, rfl⟩

def ztxt (z : Int) : List UInt8 := (if z < 0 then [45] else []) ++ txt z.natAbs
theorem str_app (a b : List UInt8) : (⟨a.toArray⟩ : ByteArray) ++ ⟨b.toArray⟩ = ⟨(a ++ b).toArray⟩ := by
  apply ByteArray.ext
  rw [ByteArray.data_append]
  simp
set_option maxRecDepth 100000 in
theorem string_calls (z : Int) (hz : (limbs z.natAbs).length ≤ 1000000000) (g : Nat) (w : World) (h : IntAt w g z) :
    Calls Tryz.prog 39 #[.pointer (some ⟨g, 0, none⟩)] w fun e w' => e = .returned (.string ⟨(ztxt z).toArray⟩) ∧ Below w.heap.size w w' := by
  obtain ⟨A, c, hB, hv⟩ := h
  have hc0 : w.cell? ⟨g, 0, none⟩ = some (.bool (decide (z < 0))) := hB.cell 0
  have hc1 : w.cell? ⟨g, 1, none⟩ = some (.slice A (limbs z.natAbs).length c) := hB.cell 1
  have HV := Lib.hid hv
  clear hB hv
  go_enter Tryz.func39, Tryz.ntmps39
  by_cases h1 : z < 0
  · rw [decide_eq_true h1] at hc0
    go_wp2_with fail
    refine (DigitsWalk.calls z.natAbs hz _ _ HV).mono ?_
    rintro e w1 ⟨rfl, hb⟩
    have HB := Lib.hid hb
    clear hb
    have hl := Sizes.txt_len z.natAbs
    have hs : (⟨(txt z.natAbs).toArray⟩ : ByteArray).size ≤ 10000000000 := by
      show (txt z.natAbs).toArray.size ≤ _
      rw [List.size_toArray]; omega
    obtain ⟨t, ht⟩ : ∃ t : ByteArray, t = ⟨(txt z.natAbs).toArray⟩ := ⟨_, rfl⟩
    rw [← ht] at hs ⊢
    have HT := Lib.hid ht
    clear hl ht
    go_wp2_with fail
    go_ret
    refine ⟨?_, HB.out⟩
    have e1 : ztxt z = [45] ++ txt z.natAbs := by unfold ztxt; rw [if_pos h1]
    rw [e1, ← str_app, ← HT.out]; rfl
  · rw [decide_eq_false h1] at hc0
    go_wp2_with fail
    refine (DigitsWalk.calls z.natAbs hz _ _ HV).mono ?_
    rintro e w1 ⟨rfl, hb⟩
    have HB := Lib.hid hb
    clear hb
    go_wp2_with fail
    go_ret
    refine ⟨?_, HB.out⟩
    have e1 : ztxt z = txt z.natAbs := by unfold ztxt; rw [if_neg (by omega)]; rfl
    rw [e1]; rfl

theorem empty_iff (s : ByteArray) : s = ⟨#[]⟩ ↔ s.data.toList = [] := by
  constructor
  · intro h; rw [h]
  · intro h
    apply ByteArray.ext
    exact Array.toList_eq_nil_iff.1 h
open Classical in
set_option maxRecDepth 100000 in
theorem figures_calls (s : ByteArray) (hs : s.size ≤ 9223372036854775807) (w : World) :
    Calls Tryz.prog 103 #[.string s] w fun e w' => e = .returned (.bool (decide (Figs s.data.toList))) ∧ Below w.heap.size w w' := by
  go_enter Tryz.func103, Tryz.ntmps103
  by_cases h0 : s.toList = []
  · go_wp2_with fail
    go_ret
    exact ⟨by rw [decide_eq_false (fun h => h.1 (by rw [← Lib.toList_data]; exact h0))]; rfl, Below.refl _ _⟩
  · go_wp2_with fail
    refine (Trims.trim_digits s _ hs).mono ?_
    rintro e w1 ⟨rfl, hb⟩
    have HB := Lib.hid hb
    clear hb
    obtain ⟨t, ht⟩ : ∃ t : ByteArray, t = ⟨(Lib.trimS s.data.toList [48, 49, 50, 51, 52, 53, 54, 55, 56, 57]).toArray⟩ := ⟨_, rfl⟩
    have htl : t.toList = Lib.trimS s.data.toList [48, 49, 50, 51, 52, 53, 54, 55, 56, 57] := by rw [Lib.toList_data, ht]
    have hne : s.data.toList ≠ [] := by rw [← Lib.toList_data]; exact h0
    have hd := dig_iff s.data.toList
    have HH := Lib.hid hne
    rw [← ht]
    clear ht
    by_cases h1 : Dig s.data.toList
    · have h2 : t.toList = [] := by rw [htl]; exact hd.2 h1
      have H1 := Lib.hid h1
      clear htl hd h1
      go_wp2_with fail
      go_ret
      refine ⟨?_, HB.out⟩
      rw [decide_eq_true ⟨HH.out, H1.out⟩]
      show Ending.returned (Value.bool (!s.toList.isEmpty)) = _
      rw [List.isEmpty_eq_false_iff.2 h0]; rfl
    · have h2 : t.toList ≠ [] := by rw [htl]; exact fun h => h1 (hd.1 h)
      have H1 := Lib.hid h1
      clear htl hd h1
      go_wp2_with fail
      go_ret
      refine ⟨?_, HB.out⟩
      rw [decide_eq_false (fun h => H1.out h.2)]
      show Ending.returned (Value.bool (!s.toList.isEmpty && t.toList.isEmpty)) = _
      rw [List.isEmpty_eq_false_iff.2 h2, Bool.and_false]

open Classical in
theorem figures_yes (s : ByteArray) (hs : s.size ≤ 9223372036854775807) (h : Figs s.data.toList) (w : World) :
    Calls Tryz.prog 103 #[.string s] w fun e w' => e = .returned (.bool true) ∧ Below w.heap.size w w' := by
  have := figures_calls s hs w
  rw [decide_eq_true h] at this
  exact this
open Classical in
theorem figures_no (s : ByteArray) (hs : s.size ≤ 9223372036854775807) (h : ¬ Figs s.data.toList) (w : World) :
    Calls Tryz.prog 103 #[.string s] w fun e w' => e = .returned (.bool false) ∧ Below w.heap.size w w' := by
  have := figures_calls s hs w
  rw [decide_eq_false h] at this
  exact this

end Go.Proofs.YtjeamchaibialaaGreatDoor.Ints

/- big's put: the walk. -/
namespace Go.Proofs.YtjeamchaibialaaGreatDoor.PutWalk
open Go.RowKit Go.Proofs.YtjeamchaibialaaGreatDoorW.PrintWords Go.Proofs.YtjeamchaibialaaGreatDoorW.PrintLast Go.Proofs.YtjeamchaibialaaGreatDoorW.PrintMore Fns Limbs Nats Go.Proofs.YtjeamchaibialaaGreatDoor.Told ReadWalk Texts Rats Parses Heaps Go.Proofs.YtjeamchaibialaaGreatDoor.Ints

theorem cell_one {w : World} {A : Option Addr} {l c : Nat} {n : Nat} (h : IsU w (.slice A l c) n) (hl : 0 < l) : ∃ ad, ∃ x : Int, A = some ad ∧ w.cell? ad = some (.int .u32 x) ∧ (¬ 1 < l → x = n) := by
  have hlen := NatV.len h
  obtain ⟨ad, rfl, hc⟩ := NatV.cell h 0 hl
  have e : ad.add 0 = ad := by unfold Addr.add; rfl
  rw [e] at hc
  refine ⟨ad, rd (limbs n) ((0 : Nat) : Int), rfl, hc, fun h1 => ?_⟩
  have hl1 : l = 1 := by omega
  subst hl1
  have hn0 : n ≠ 0 := by intro e; rw [e, len_zero] at hlen; omega
  have hlt := limbs_lt (n := n)
  rw [hlen.1] at hlt
  have h9 : (n : Int) < 1000000000 := by simpa [pw] using hlt
  rw [limbs_unit (by omega) (by omega)]
  rfl

theorem ratAt_big {w : World} {g n d : Nat} {neg : Bool} {q : Rat} {A B : Option Addr} {c e : Nat} (h : Blk w g #[.bool neg, .slice A (limbs n).length c, .slice B (limbs d).length e]) (hn : IsU w (.slice A (limbs n).length c) n) (hd : IsU w (.slice B (limbs d).length e) d)
    (h0 : n ≠ 0) (h1 : d ≠ 1) (q1 : q.num = sg neg n) (q2 : q.den = d) : RatAt w g q := by
  refine ⟨A, B, c, e, ?_⟩
  rw [q1, q2, sg_neg h0, sg_abs, show under d = limbs d from if_neg h1]
  exact ⟨h, hn, hd⟩
theorem ratAt_one {w : World} {g n : Nat} {neg : Bool} {q : Rat} {A B : Option Addr} {c e : Nat} (h : Blk w g #[.bool neg, .slice A (limbs n).length c, .slice B 0 e]) (hn : IsU w (.slice A (limbs n).length c) n)
    (h0 : n ≠ 0) (q1 : q.num = sg neg n) (q2 : q.den = 1) : RatAt w g q := by
  refine ⟨A, B, c, e, ?_⟩
  rw [q1, q2, sg_neg h0, sg_abs, show under 1 = [] from if_pos rfl]
  exact ⟨h, hn, NatV.nil _ _ _ _⟩

structure Mid (w : World) (neg : Bool) (n d : Nat) (v2 v3 : Value) (wx : World) (n' d' : Nat) : Prop where
  num : IsU wx v2 n'
  den : IsU wx v3 d'
  n0 : n' ≠ 0
  d0 : d' ≠ 0
  q1 : (frac neg n d).num = sg neg n'
  q2 : (frac neg n d).den = d'
  below : Below w.heap.size w wx

set_option maxRecDepth 100000 in
set_option maxHeartbeats 400000 in
theorem calls (neg : Bool) (n d : Nat) (hd0 : d ≠ 0) (hln : (limbs n).length ≤ 100000000) (hld : (limbs d).length ≤ 100000000) (g : Nat) (b0 : Bool) (A0 B0 : Option Addr) (n0 c0 m0 d0 : Nat) (vn vd : Value) (w : World)
    (hB : Blk w g #[.bool b0, .slice A0 n0 c0, .slice B0 m0 d0]) (hN : Hid (IsU w vn n)) (hD : Hid (IsU w vd d)) :
    Calls Tryz.prog 108 #[.pointer (some ⟨g, 0, none⟩), .bool neg, vn, vd] w fun e w' => e = .returned (.pointer (some ⟨g, 0, none⟩)) ∧ RatAt w' g (frac neg n d) ∧ Keeps w w' ∧ w.grownBy w' (some g) := by
  obtain ⟨A, c, rfl, hc⟩ := hN.out.form
  obtain ⟨B, e, rfl, he⟩ := hD.out.form
  have hc0 : w.cell? ⟨g, 0, none⟩ = some (.bool b0) := hB.cell 0
  have hc1 : w.cell? ⟨g, 1, none⟩ = some (.slice A0 n0 c0) := hB.cell 1
  have hc2 : w.cell? ⟨g, 2, none⟩ = some (.slice B0 m0 d0) := hB.cell 2
  have hf0 := hB.frozen 0
  have hf1 := hB.frozen 1
  have hf2 := hB.frozen 2
  have HB := Lib.hid hB
  clear hB
  have hpd := limbs_len_pos hd0
  obtain ⟨bd, x, rfl, hcd, hx⟩ := cell_one hD.out hpd
  have HX := Lib.hid hx
  clear hx
  go_enter Tryz.func108, Tryz.ntmps108
  by_cases h0 : n = 0
  · subst h0
    rw [len_zero]
    go_wp2_with fail
    go_ret
    obtain ⟨h1, h2, h3⟩ := set3 (b' := false) (A' := none) (n' := 0) (c' := 0) (B' := none) (m' := 0) (d' := 0) HB.out
    refine ⟨rfl, ?_, h2, h3⟩
    rw [frac_zero]
    exact ⟨none, none, 0, 0, by simpa [len_zero, under] using h1, by simpa [len_zero] using isU_nil _ 0 none, by simpa [under] using NatV.nil _ _ 0 none⟩
  · have hpn := limbs_len_pos h0
    go_upto_region 6 with fail
    go_cut [35] (fun v wx => v = .bool (decide (d ≠ 1)) ∧ wx = w)
    case first =>
      by_cases hl1 : 1 < (limbs d).length
      · have hdn : d ≠ 1 := by intro e; rw [e, Sizes.limbs_one] at hl1; omega
        have HDN := Lib.hid hdn
        clear hdn
        go_wp2_with fail
        go_meet
        case rel => exact ⟨by rw [decide_eq_true HDN.out], rfl⟩
      · have hxd := HX.out hl1
        rw [hxd] at hcd
        clear hxd
        by_cases hd1 : d = 1
        · have h1 : ¬ 1 < (d : Int) := by omega
          have HD1 := Lib.hid hd1
          clear hd1
          go_wp2_with fail
          go_meet
          case rel => exact ⟨by rw [decide_eq_false (p := d ≠ 1) (fun h => h HD1.out)]; exact congrArg Value.bool (decide_eq_false (by omega)), rfl⟩
        · have h1 : 1 < (d : Int) := by omega
          have HD1 := Lib.hid hd1
          clear hd1
          go_wp2_with fail
          go_meet
          case rel => exact ⟨by rw [decide_eq_true HD1.out], rfl⟩
    case rest =>
      obtain ⟨rfl, hw⟩ := hcut
      rw [hw]
      clear hw hcd
      go_upto_if 35 with fail
      go_cut [2, 3] (fun v2 v3 wx => ∃ n' d', Mid w neg n d v2 v3 wx n' d')
      case first =>
        by_cases hd1 : d = 1
        · rw [decide_eq_false (p := d ≠ 1) (fun h => h hd1)]
          have HM : Hid (Mid w neg n d (.slice A (limbs n).length c) (.slice (some bd) (limbs d).length e) w n d) := by
            have hg : Nat.gcd n d = 1 := by rw [hd1, Nat.gcd_one_right]
            exact ⟨hN.out, hD.out, h0, hd0, by rw [frac_num hd0, hg, Nat.div_one], by rw [frac_den hd0, hg, Nat.div_one], Below.refl _ _⟩
          clear hd1
          go_wp2_with fail
          go_meet
          case rel => exact ⟨n, d, HM.out⟩
        · rw [decide_eq_true (p := d ≠ 1) hd1]
          clear hd1
          go_wp2_with fail
          refine (CommonWalk.calls n d h0 hd0 hln hld _ _ _ hN hD).mono ?_
          rintro r w1 ⟨vg, rfl, hg, hb⟩
          obtain ⟨G, cg, rfl, hcg⟩ := hg.form
          have hgn0 : Nat.gcd n d ≠ 0 := fun e => h0 (Nat.eq_zero_of_gcd_eq_zero_left e)
          have HN1 := Lib.hid (hN.out.below hb)
          have HD1 := Lib.hid (hD.out.below hb)
          have HB1 := Lib.hid hb
          have HGN := Lib.hid (Nat.gcd_dvd_left n d)
          have HGD := Lib.hid (Nat.gcd_dvd_right n d)
          have HQ := Lib.hid (And.intro (frac_num (neg := neg) (n := n) hd0) (frac_den (neg := neg) (n := n) hd0))
          have hlg : (limbs (Nat.gcd n d)).length ≤ 100000000 := Nat.le_trans (limbs_len_mono (Nat.le_of_dvd (by omega) (Nat.gcd_dvd_left n d))) hln
          generalize Nat.gcd n d = k at *
          have hpk := limbs_len_pos hgn0
          obtain ⟨gd, x1, rfl, hcd1, hx1⟩ := cell_one hg hpk
          have HG := Lib.hid hg
          have HX1 := Lib.hid hx1
          clear hx1 hg hb
          go_upto_region 8 with fail
          go_cut [47] (fun v wx => v = .bool (decide (k ≠ 1)) ∧ wx = w1)
          case first =>
            by_cases hl1 : 1 < (limbs k).length
            · have hdn : k ≠ 1 := by intro e; rw [e, Sizes.limbs_one] at hl1; omega
              have HDN := Lib.hid hdn
              clear hdn
              go_wp2_with fail
              go_meet
              case rel => exact ⟨by rw [decide_eq_true HDN.out], rfl⟩
            · have hxd := HX1.out hl1
              rw [hxd] at hcd1
              clear hxd
              by_cases hd1 : k = 1
              · have h1 : ¬ 1 < (k : Int) := by omega
                have HD1 := Lib.hid hd1
                clear hd1
                go_wp2_with fail
                go_meet
                case rel => exact ⟨by rw [decide_eq_false (p := k ≠ 1) (fun h => h HD1.out)]; exact congrArg Value.bool (decide_eq_false (by omega)), rfl⟩
              · have h1 : 1 < (k : Int) := by omega
                have HD1 := Lib.hid hd1
                clear hd1
                go_wp2_with fail
                go_meet
                case rel => exact ⟨by rw [decide_eq_true HD1.out], rfl⟩
          case rest =>
            obtain ⟨rfl, hw⟩ := hcut
            rw [hw]
            clear hw hcd1
            by_cases hk1 : k = 1
            · rw [decide_eq_false (p := k ≠ 1) (fun h => h hk1)]
              have HM : Hid (Mid w neg n d (.slice A (limbs n).length c) (.slice (some bd) (limbs d).length e) w1 n d) :=
                ⟨HN1.out, HD1.out, h0, hd0, by rw [HQ.out.1, hk1, Nat.div_one], by rw [HQ.out.2, hk1, Nat.div_one], HB1.out⟩
              clear hk1
              go_wp2_with fail
              go_meet
              case rel => exact ⟨n, d, HM.out⟩
            · rw [decide_eq_true (p := k ≠ 1) hk1]
              clear hk1
              go_wp2_with fail
              refine (OverWalk.calls n k hgn0 (by omega) (by omega) _ _ _ HN1 HG).mono ?_
              rintro r w2 ⟨q1, r1, rfl, g1, g2, g3⟩
              have HG1 := Lib.hid g1
              have HG2 := Lib.hid (HG.out.below g3)
              have HD2 := Lib.hid (HD1.out.below g3)
              have HB2 := Lib.hid (below_step HB1.out g3)
              clear g1 g2 g3
              go_wp2_with fail
              refine (OverWalk.calls d k hgn0 (by omega) (by omega) _ _ _ HD2 HG2).mono ?_
              rintro r w3 ⟨q2, r2, rfl, g1, g2, g3⟩
              have HM : Hid (Mid w neg n d q1 q2 w3 (n / k) (d / k)) :=
                ⟨HG1.out.below g3, g1, Nat.ne_of_gt (Nat.div_pos (Nat.le_of_dvd (by omega) HGN.out) (by omega)), Nat.ne_of_gt (Nat.div_pos (Nat.le_of_dvd (by omega) HGD.out) (by omega)), HQ.out.1, HQ.out.2, below_step HB2.out g3⟩
              clear g1 g2 g3
              go_wp2_with fail
              go_meet
              case rel => exact ⟨n / k, d / k, HM.out⟩
      case rest =>
        obtain ⟨n', d', hM⟩ := hcut
        obtain ⟨A', c', rfl, hc'⟩ := hM.num.form
        obtain ⟨B', e', rfl, he'⟩ := hM.den.form
        have HM := Lib.hid hM
        clear hM hc0 hc1 hc2 hf0 hf1 hf2
        have hBc := HB.out.same (HM.out.below.block g HB.out.lt)
        have hc0 : wc.cell? ⟨g, 0, none⟩ = some (.bool b0) := hBc.cell 0
        have hc1 : wc.cell? ⟨g, 1, none⟩ = some (.slice A0 n0 c0) := hBc.cell 1
        have hc2 : wc.cell? ⟨g, 2, none⟩ = some (.slice B0 m0 d0) := hBc.cell 2
        have hf0 := hBc.frozen 0
        have hf1 := hBc.frozen 1
        have hf2 := hBc.frozen 2
        have HBC := Lib.hid hBc
        clear hBc
        have hpd' := limbs_len_pos HM.out.d0
        go_upto_region 12 with fail
        obtain ⟨h1, h2, h3⟩ := set3 (b' := neg) (A' := A') (n' := (limbs n').length) (c' := c') (B' := B') (m' := (limbs d').length) (d' := e') HBC.out
        obtain ⟨W, hW⟩ : ∃ W, W = (((wc.setCell ⟨g, 0, none⟩ (.bool neg)).setCell ⟨g, 1, none⟩ (.slice A' (limbs n').length c')).setCell ⟨g, 2, none⟩ (.slice B' (limbs d').length e')) := ⟨_, rfl⟩
        rw [← hW] at h1 h2 h3 ⊢
        clear hW hc0 hc1 hc2 hf0 hf1 hf2
        have HN3 := Lib.hid (IsU.keeps HM.out.num h2)
        have hD3 := IsU.keeps HM.out.den h2
        obtain ⟨bd', x', rfl, hcd, hx'⟩ := cell_one hD3 hpd'
        have HD3 := Lib.hid hD3
        have HX := Lib.hid hx'
        have HK3 := Lib.hid ((Keeps.below HM.out.below).trans h2)
        have HG3 := Lib.hid ((grown_below (row := some g) HM.out.below).trans h3)
        have hc2 : W.cell? ⟨g, 2, none⟩ = some (.slice (some bd') (limbs d').length e') := h1.cell 2
        have hf2 := h1.frozen 2
        have H1 := Lib.hid h1
        clear hx' hD3 h1 h2 h3
        by_cases hl1 : 1 < (limbs d').length
        · have hl2 : ((limbs d').length : Int) ≠ 1 := by omega
          have hl3 : (((limbs d').length : Int) == 1) = false := beq_eq_false_iff_ne.2 hl2
          have hd1 : d' ≠ 1 := by intro e; rw [e, Sizes.limbs_one] at hl1; omega
          go_wp2_with fail
          go_ret
          exact ⟨rfl, ratAt_big H1.out HN3.out HD3.out HM.out.n0 hd1 HM.out.q1 HM.out.q2, HK3.out, HG3.out⟩
        · have hl2 : (limbs d').length = 1 := by omega
          have hxd := HX.out hl1
          rw [hxd] at hcd
          clear hxd hl1
          have hl3 : (((limbs d').length : Int) == 1) = true := by rw [hl2]; rfl
          by_cases hd1 : d' = 1
          · have hd2 : ((d' : Int) == 1) = true := by rw [hd1]; rfl
            have hd3 : (d' : Int) = 1 := by omega
            have HL := Lib.hid hd1
            clear hd1 hl2
            go_wp2_with fail
            go_ret
            have h4 := H1.out.set 2 (.slice none 0 0)
            have h5 := Keeps.set H1.out flat3 2 (.slice none 0 0)
            exact ⟨rfl, ratAt_one h4 (IsU.keeps HN3.out h5) HM.out.n0 HM.out.q1 (HM.out.q2.trans HL.out), HK3.out.trans h5, HG3.out.trans (grown_set _ g 2 _)⟩
          · have hd2 : ((d' : Int) == 1) = false := beq_eq_false_iff_ne.2 (by omega)
            have hd3 : (d' : Int) ≠ 1 := by omega
            have HL := Lib.hid hd1
            clear hd1 hl2
            go_wp2_with fail
            go_ret
            exact ⟨rfl, ratAt_big H1.out HN3.out HD3.out HM.out.n0 HL.out HM.out.q1 HM.out.q2, HK3.out, HG3.out⟩

end Go.Proofs.YtjeamchaibialaaGreatDoor.PutWalk

/- The whole part of a fraction: plain facts. -/
namespace Go.Proofs.YtjeamchaibialaaGreatDoor.RefL

theorem floor_pos {q : Rat} (h : ¬ q.num < 0) : ((q.num.natAbs / q.den : Nat) : Int) = Rat.floor q := by
  rw [Rat.floor_def]
  rw [Int.natCast_ediv, Int.natAbs_of_nonneg (by omega)]
theorem floor_even {q : Rat} (h : q.num < 0) (h0 : q.num.natAbs % q.den = 0) : -((q.num.natAbs / q.den : Nat) : Int) = Rat.floor q := by
  rw [Rat.floor_def]
  have h1 : q.num = -(q.num.natAbs : Int) := by omega
  have h2 : q.num.natAbs = q.den * (q.num.natAbs / q.den) := by have := Nat.div_add_mod q.num.natAbs q.den; omega
  have hd := q.den_nz
  generalize q.num.natAbs = n at *
  rw [h1]
  generalize n / q.den = k at *
  rw [h2, Int.natCast_mul, ← Int.mul_neg, Int.mul_ediv_cancel_left _ (by omega)]
theorem floor_odd {q : Rat} (h : q.num < 0) (h0 : q.num.natAbs % q.den ≠ 0) : -((q.num.natAbs / q.den + 1 : Nat) : Int) = Rat.floor q := by
  rw [Rat.floor_def]
  have h1 : q.num = -(q.num.natAbs : Int) := by omega
  have h2 := Nat.div_add_mod q.num.natAbs q.den
  have h3 := Nat.mod_lt q.num.natAbs (Nat.pos_of_ne_zero q.den_nz)
  have hd := q.den_nz
  generalize q.num.natAbs = n at *
  rw [h1]
  symm
  generalize q.den = m at *
  generalize n / m = k at *
  generalize n % m = r at *
  rw [Int.ediv_eq_iff_of_pos (by omega)]
  rw [← h2]
  have : ((m * k + r : Nat) : Int) = m * k + r := by rw [Int.natCast_add, Int.natCast_mul]
  rw [this]
  have e : ((k + 1 : Nat) : Int) = k + 1 := by omega
  rw [e]
  constructor <;> grind

end Go.Proofs.YtjeamchaibialaaGreatDoor.RefL
