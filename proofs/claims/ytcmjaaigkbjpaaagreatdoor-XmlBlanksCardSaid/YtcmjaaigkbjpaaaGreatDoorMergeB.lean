/- Own texts, merged for the hand-in. -/
import Derived.Test.YtcmjaaigkbjpaaaGreatDoorPXx9
import Derived.Test.YtcmjaaigkbjpaaaGreatDoorMergeA
import Derived.Lib.DecodeN
import Derived.Test.YtcmjaaigkbjpaaaGreatDoorShelf
import Derived.Lib.OthersKept
import Derived.Deep.QuietTactic
import Derived.BigQuiet
import Derived.Lib.MapLaws
import Derived.Lib.IndexAny
import Derived.Test.YtcmjaaigkbjpaaaGreatDoorMergeI
import Derived.Lib.CutLaws

/- What the printed functions of names answer: the plain functions' own answers. -/
namespace Go.Proofs.YtcmjaaigkbjpaaaGreatDoor.Lia
open Go.RowKit Go.Proofs.YtcmjaaigkbjpaaaGreatDoorW.PrintWords

theorem wrap64_ok (n : Int) (h0 : -9223372036854775808 ≤ n) (h1 : n ≤ 9223372036854775807) : wrap64 n = n := by
  unfold wrap64; omega
theorem bt_list (s : Str) (i : Nat) (h : i < s.length) : bt ⟨s.toArray⟩ (i : Int) = ((s[i]'h).toNat : Int) := by
  unfold bt
  rw [dif_pos (by show (i : Int).toNat < s.toArray.size; simpa using h)]
  rfl
theorem byte_cases {p : UInt8 → Prop} (h : ∀ c : Fin 256, p (UInt8.ofNat c.val)) (c : UInt8) : p c := by
  have := h ⟨c.toNat, c.toNat_lt⟩
  simpa using this
theorem isLetter_f (c : UInt8) : PX.xml_isLetter.f (c.toNat : Int) = some (isLetter c) := by
  refine byte_cases (p := fun c => PX.xml_isLetter.f (c.toNat : Int) = some (isLetter c)) ?_ c
  decide +kernel
theorem isSign_f (c : UInt8) : PX.xml_isSign.f (c.toNat : Int) = some (isSign c) := by
  refine byte_cases (p := fun c => PX.xml_isSign.f (c.toNat : Int) = some (isSign c)) ?_ c
  decide +kernel
theorem size_mk (s : Str) : (⟨s.toArray⟩ : ByteArray).size = s.length := by
  show s.toArray.size = _
  simp
theorem toList_mk (s : Str) : (⟨s.toArray⟩ : ByteArray).toList = s := by
  rw [ByteArray.toList_eq]
theorem part_l0 (s : Str) (hn : s.length ≤ 64) (d : Nat) : ∀ (k i : Nat), i ≤ s.length → s.length - i = d → d < k →
    PX.xml_part.l0 k ⟨s.toArray⟩ (s.length : Int) (i : Int) = some ((s.drop i).all isSign) := by
  induction d with
  | zero =>
    intro k i hi hd hk
    obtain ⟨k, rfl⟩ : ∃ m, k = m + 1 := ⟨k - 1, by omega⟩
    simp only [PX.xml_part.l0]
    rw [if_neg (by omega), List.drop_eq_nil_of_le (by omega)]
    rfl
  | succ d ih =>
    intro k i hi hd hk
    obtain ⟨k, rfl⟩ : ∃ m, k = m + 1 := ⟨k - 1, by omega⟩
    have hlt : i < s.length := by omega
    simp only [PX.xml_part.l0, size_mk]
    rw [if_pos (by omega), if_pos (by omega), if_pos (by omega), bt_list s i hlt, isSign_f, List.drop_eq_getElem_cons hlt]
    simp only [Option.bind_some, List.all_cons]
    cases isSign s[i] with
    | true =>
      rw [if_pos rfl, wrap64_ok _ (by omega) (by omega)]
      exact ih k (i + 1) (by omega) (by omega) (by omega)
    | false => rfl
theorem part_f (s : Str) : PX.xml_part.f 100 ⟨s.toArray⟩ = some (part s) := by
  unfold PX.xml_part.f
  rw [toList_mk, size_mk]
  cases s with
  | nil => rfl
  | cons c t =>
    rw [if_neg (by simp)]
    by_cases h : t.length < 64
    · rw [if_neg (by simp only [List.length_cons]; omega), if_pos (by simp only [List.length_cons]; omega)]
      have := bt_list (c :: t) 0 (by simp)
      simp only [Int.natCast_zero] at this
      rw [this, List.getElem_cons_zero, isLetter_f]
      simp only [Option.bind_some, part, h, decide_true, Bool.true_and]
      cases isLetter c with
      | false => rfl
      | true =>
        show PX.xml_part.j0 100 _ false = _
        simp only [PX.xml_part.j0, size_mk]
        have := part_l0 (c :: t) (by simp; omega) (c :: t).length 99 0 (by omega) (by omega) (by simp only [List.length_cons]; omega)
        simpa using this
    · rw [if_pos (by simp only [List.length_cons]; omega)]
      simp [part, h, PX.xml_part.j0]
end Go.Proofs.YtcmjaaigkbjpaaaGreatDoor.Lia

/- Plain laws on signs: decoding from a place on. -/
namespace Go.Proofs.YtcmjaaigkbjpaaaGreatDoor.Lia
open Go.Lib

theorem get_at (l : Str) (i : Nat) : (⟨l.toArray⟩ : ByteArray).get! i = l.getD i 0 := by
  show (l.toArray)[i]! = _
  rw [Array.getElem!_eq_getD]
  simp [List.getD_eq_getElem?_getD]
  rfl
theorem dec_drop (l : Str) (i : Nat) : Utf8.decode ⟨l.toArray⟩ i = decodeL (l.drop i) := by
  unfold decodeL
  rw [decode_at, decode_at]
  simp only [get_at, size_mk, List.length_drop, Nat.sub_zero, List.getD_eq_getElem?_getD, List.getElem?_drop]
  simp only [Nat.zero_add, Nat.add_zero]
theorem dec_bounds (l : Str) (h : l ≠ []) : 1 ≤ (decodeL l).2 ∧ (decodeL l).2 ≤ l.length ∧ (decodeL l).1 ≤ 1114111 := by
  have hl : 1 ≤ l.length := by cases l with | nil => exact absurd rfl h | cons => simp
  unfold decodeL
  rw [decode_at]
  simp only [size_mk, Nat.sub_zero, Nat.zero_add]
  have hb : ∀ j, ((⟨l.toArray⟩ : ByteArray).get! j).toNat < 256 := fun j => UInt8.toNat_lt _
  have h0 := hb 0; have h1 := hb 1; have h2 := hb 2; have h3 := hb 3
  generalize ((⟨l.toArray⟩ : ByteArray).get! 0).toNat = b0 at *
  generalize ((⟨l.toArray⟩ : ByteArray).get! 1).toNat = b1 at *
  generalize ((⟨l.toArray⟩ : ByteArray).get! 2).toNat = b2 at *
  generalize ((⟨l.toArray⟩ : ByteArray).get! 3).toNat = b3 at *
  unfold decodeN
  repeat' split
  all_goals (simp only; omega)
theorem allMay_nil : ∀ n, allMay n [] = true
  | 0 => rfl
  | n + 1 => by simp [allMay]
theorem allMay_step (n : Nat) (l : Str) (h : l ≠ []) : allMay (n + 1) l = (may (decodeL l).1 && allMay n (l.drop (decodeL l).2)) := by
  simp [allMay, h]
end Go.Proofs.YtcmjaaigkbjpaaaGreatDoor.Lia

/- Walks: strings.IndexRune of a sign from 128 on in two signs below 128: it isn't there. -/
namespace Go.Proofs.YtcmjaaigkbjpaaaGreatDoor.Lia
open Go.RowKit

theorem encode_valid {m : Nat} (hm : m < 55296 ∨ (57344 ≤ m ∧ m ≤ 1114111)) : Utf8.encode (m : Int) = ⟨(Lib.encodeRune m).toArray⟩ := by
  have hv : Utf8.valid (m : Int) = true := by
    unfold Utf8.valid
    simp only [Bool.or_eq_true, Bool.and_eq_true, decide_eq_true_eq]
    omega
  unfold Utf8.encode
  simp only [hv, if_true, Int.toNat_natCast]
  unfold Lib.encodeRune
  by_cases h1 : m < 128
  · rw [if_pos h1, Lib.encodeRuneZ_one (by omega) (by omega)]; simp
  · rw [if_neg h1]
    by_cases h2 : m < 2048
    · rw [if_pos h2, Lib.encodeRuneZ_two (by omega) (by omega)]
      simp only [List.map_cons, List.map_nil]
      rw [show ((192 : Int) + (m : Int) / 64).toNat = 192 + m / 64 from by omega, show ((128 : Int) + (m : Int) % 64).toNat = 128 + m % 64 from by omega]
    · rw [if_neg h2]
      by_cases h3 : m < 65536
      · rw [if_pos h3, Lib.encodeRuneZ_three (by omega)]
        simp only [List.map_cons, List.map_nil]
        rw [show ((224 : Int) + (m : Int) / 4096).toNat = 224 + m / 4096 from by omega, show ((128 : Int) + (m : Int) / 64 % 64).toNat = 128 + m / 64 % 64 from by omega, show ((128 : Int) + (m : Int) % 64).toNat = 128 + m % 64 from by omega]
      · rw [if_neg h3, Lib.encodeRuneZ_four (by omega) (by omega)]
        simp only [List.map_cons, List.map_nil]
        rw [show ((240 : Int) + (m : Int) / 262144).toNat = 240 + m / 262144 from by omega, show ((128 : Int) + (m : Int) / 4096 % 64).toNat = 128 + m / 4096 % 64 from by omega, show ((128 : Int) + (m : Int) / 64 % 64).toNat = 128 + m / 64 % 64 from by omega, show ((128 : Int) + (m : Int) % 64).toNat = 128 + m % 64 from by omega]
set_option maxHeartbeats 2000000 in
set_option maxRecDepth 100000 in
theorem idxRune_hi (c0 c1 : UInt8) (h0 : c0.toNat < 128) (h1 : c1.toNat < 128) (r : Nat) (hr : 128 ≤ r) (hv : r < 55296 ∨ (57344 ≤ r ∧ r ≤ 1114111)) (w : World) :
    Calls Tryz.prog 284 #[.string ⟨#[c0, c1]⟩, .int .i32 r] w fun e w' => e = .returned (.int .i64 (-1)) ∧ Below w.heap.size w w' := by
  have hlt : decide ((r : Int) < 128) = false := by simp; omega
  have hge : decide ((0 : Int) ≤ r) = true := by simp
  by_cases he : r = 65533
  · subst he
    go_enter Tryz.func284, Tryz.ntmps284
    go_wp2
    have b0 : ((c0.toNat : Int) == 65533) = false := beq_eq_false_iff_ne.2 (by omega)
    have b1 : ((c1.toNat : Int) == 65533) = false := beq_eq_false_iff_ne.2 (by omega)
    go_loopw [] (fun wr => ∃ pos : Nat, pos ≤ 2 ∧ wr.heap[w.heap.size]? = some (.stringIter ⟨#[c0, c1]⟩ pos) ∧ Below w.heap.size w wr) (fun wr => 2 - wr.iterPos w.heap.size)
    case atStart => exact ⟨0, by omega, World.iter_heap _ _ _, (Below.refl _ w).alloc (Nat.le_refl _) _⟩
    case round =>
      obtain ⟨pos, hp2, hit, hbw⟩ := hrel
      have hbn := fun q => Lib.below_iterAt hbw (k := w.heap.size) (Nat.le_refl _) ⟨#[c0, c1]⟩ q
      have hin := fun q => Lib.iterAt_heap wr w.heap.size ⟨#[c0, c1]⟩ pos q hit
      match pos, hp2 with
      | 0, _ =>
        have hnx : ∀ ty, (Instr.next (.pointer (some ⟨w.heap.size, 0, none⟩)) true ty).run Tryz.prog wr = _ := fun ty => Lib.run_next_ascii_at wr w.heap.size ⟨#[c0, c1]⟩ 0 ty hit (by show 0 < 2; omega) h0
        have hx : (⟨#[c0, c1]⟩ : ByteArray)[0]'(by show 0 < 2; omega) = c0 := rfl
        rw [hx] at hnx
        clear hx
        go_wp2
        go_roundw
        case rel => exact ⟨1, by omega, hin 1, hbn 1⟩
        case measure => simp only [World.iterPos, hin 1, hit]; omega
      | 1, _ =>
        have hnx : ∀ ty, (Instr.next (.pointer (some ⟨w.heap.size, 0, none⟩)) true ty).run Tryz.prog wr = _ := fun ty => Lib.run_next_ascii_at wr w.heap.size ⟨#[c0, c1]⟩ 1 ty hit (by show 1 < 2; omega) h1
        have hx : (⟨#[c0, c1]⟩ : ByteArray)[1]'(by show 1 < 2; omega) = c1 := rfl
        rw [hx] at hnx
        clear hx
        go_wp2
        go_roundw
        case rel => exact ⟨2, by omega, hin 2, hbn 2⟩
        case measure => simp only [World.iterPos, hin 2, hit]; omega
      | 2, _ =>
        have hnx : ∀ ty, (Instr.next (.pointer (some ⟨w.heap.size, 0, none⟩)) true ty).run Tryz.prog wr = _ := fun ty => Lib.run_next_end_at wr w.heap.size ⟨#[c0, c1]⟩ 2 ty hit (by show ¬ 2 < 2; omega)
        go_wp2
        go_ret
        exact ⟨rfl, hbw⟩
  · have hne : ((r : Int) == 65533) = false := beq_eq_false_iff_ne.2 (by omega)
    have hvr := fun w => Tryz.utf8_ValidRune r w
    have hvt : Lib.validRune (r : Int) = true := by
      unfold Lib.validRune
      simp
      omega
    rw [hvt] at hvr
    have HVR := Lib.hid hvr
    have henc := encode_valid hv
    clear hvr hvt he
    by_cases h2 : r ≤ 2047
    · obtain ⟨a, b, e, ha, hb⟩ := enc2 r hr h2
      rw [e] at henc
      have hnq : ((c1.toNat : Int) != (b.toNat : Int)) = true := by rw [bne_iff_ne]; omega
      clear ha hb e hv h2
      go_enter Tryz.func284, Tryz.ntmps284
      go_wp2_with (go_at_call 140; refine (HVR.out _).mono ?_; rintro e w1 ⟨rfl, rfl⟩)
      have hix : ∀ w, Calls Tryz.prog 288 #[.string ByteArray.empty, .int .u8 b.toNat] w fun e w' => e = .returned (.int .i64 (-1)) ∧ w' = w := fun w => Tryz.strings_IndexByte ByteArray.empty b.toNat w
      have HIX := Lib.hid hix
      clear hix
      go_step3
      go_wp2
      refine wp_loop_rounds 1 ?_
      rw [rounds_succ]
      go_wp2
      go_step3
      go_wp2
      have hxc : ∀ h, (⟨#[c0, c1]⟩ : ByteArray)[1]'h = c1 := fun _ => rfl
      have hxb : ∀ h, (⟨#[a, b]⟩ : ByteArray)[1]'h = b := fun _ => rfl
      go_quiet (fail)
      go_wp2
      have hbn : Below w1.heap.size w1 (w1.drewN nq) := ⟨rfl, rfl, rfl, Nat.le_refl _, fun _ _ => rfl⟩
      generalize w1.drewN nq = w2 at *
      have hxe : (⟨#[c0, c1]⟩ : ByteArray).extract 2 2 = ⟨#[]⟩ := by
        apply ByteArray.ext
        simp
      have hwr : IntKind.i64.wrap 2 = 2 := by decide
      go_quiet ((go_at_call 288; exact Calls.quiet_of_same (HIX.out _)))
      go_wp2

      rw [Exit.noGoto_ret]
      go_simp
      show bodyPost Tryz.prog Tryz.f284 (fun e w' => e = Ending.returned (Value.int IntKind.i64 (-1)) ∧ Below w1.heap.size w1 w') Exit.ret _ _
      go_ret
      exact ⟨rfl, hbn.trans ⟨rfl, rfl, rfl, Nat.le_refl _, fun _ _ => rfl⟩⟩
    · have hlen : ∃ l : List UInt8, Lib.encodeRune (r : Int) = l ∧ 3 ≤ l.length ∧ l.length ≤ 4 := by
        by_cases h3 : r ≤ 65535
        · obtain ⟨a, b, c, e, _⟩ := enc3 r (by omega)
          exact ⟨_, e, by simp⟩
        · obtain ⟨a, b, c, d, e, _⟩ := enc4 r (by omega) (by omega)
          exact ⟨_, e, by simp⟩
      obtain ⟨l, e, hl3, hl4⟩ := hlen
      rw [e] at henc
      clear e hv h2
      have hq : decide (((l.length : Int) - 1) < 2) = false := by simp; omega
      go_enter Tryz.func284, Tryz.ntmps284
      go_wp2_with (go_at_call 140; refine (HVR.out _).mono ?_; rintro e w1 ⟨rfl, rfl⟩)
      go_step3
      go_wp2
      refine wp_loop_rounds 1 ?_
      rw [rounds_succ]
      go_wp2
      rw [Exit.noGoto_ret]
      go_simp
      show bodyPost Tryz.prog Tryz.f284 (fun e w' => e = Ending.returned (Value.int IntKind.i64 (-1)) ∧ Below w1.heap.size w1 w') Exit.ret _ _
      go_ret
      exact ⟨rfl, Below.refl _ _⟩
end Go.Proofs.YtcmjaaigkbjpaaaGreatDoor.Lia

/- Walks: strings.IndexAny of two signs below 128 in a string of at most 8 bytes, whatever they be. -/
namespace Go.Proofs.YtcmjaaigkbjpaaaGreatDoor.Lia
open Go.RowKit

theorem get_list {s : Str} {j : Nat} {b : UInt8} (h : s[j]? = some b) : ((⟨s.toArray⟩ : ByteArray).get! j) = b := by
  show s.toArray[j]! = b
  obtain ⟨hj, rfl⟩ := List.getElem?_eq_some_iff.1 h
  simp [hj]
theorem get_none {s : Str} {j : Nat} (h : s.length ≤ j) : ((⟨s.toArray⟩ : ByteArray).get! j) = 0 := by
  show s.toArray[j]! = 0
  have : s[j]? = none := List.getElem?_eq_none h
  simp [this]
  rfl
/-- A sign from 128 on: what comes of its decoding, and no byte of it is below 128. -/
theorem hi_at (s : Str) (i : Nat) (x : UInt8) (hx : s[i]? = some x) (h : 128 ≤ x.toNat) :
    ∃ r z : Nat, Utf8.decode ⟨s.toArray⟩ i = (r, z) ∧ 128 ≤ r ∧ (r < 55296 ∨ (57344 ≤ r ∧ r ≤ 1114111)) ∧ 1 ≤ z ∧ i + z ≤ s.length ∧ ∀ (j : Nat) b, i ≤ j → j < i + z → s[j]? = some b → 128 ≤ b.toNat := by
  have hi : i < s.length := (List.getElem?_eq_some_iff.1 hx).1
  have hd := Lib.decode_at ⟨s.toArray⟩ i
  have hsz : (⟨s.toArray⟩ : ByteArray).size = s.length := rfl
  rw [hsz, get_list hx] at hd
  rw [hd]
  have k1 := ((⟨s.toArray⟩ : ByteArray).get! (i + 1)).toNat_lt
  have k2 := ((⟨s.toArray⟩ : ByteArray).get! (i + 2)).toNat_lt
  have k3 := ((⟨s.toArray⟩ : ByteArray).get! (i + 3)).toNat_lt
  have kx := x.toNat_lt
  rcases Lib.decodeN_shape (s.length - i) x.toNat ((⟨s.toArray⟩ : ByteArray).get! (i + 1)).toNat ((⟨s.toArray⟩ : ByteArray).get! (i + 2)).toNat ((⟨s.toArray⟩ : ByteArray).get! (i + 3)).toNat with ⟨c, e⟩ | ⟨c1, c2, c3, cv, e⟩ | ⟨c1, c2, c3, c4, cv, cs, e⟩ | ⟨c1, c2, c3, c4, c5, cv, cw, e⟩ | e
  · omega
  · refine ⟨_, _, e, by omega, by omega, by omega, by omega, ?_⟩
    intro j b h1 h2 hb
    obtain rfl | rfl : j = i ∨ j = i + 1 := by omega
    · rw [hx] at hb; cases hb; exact h
    · rw [get_list hb] at c3; omega
  · refine ⟨_, _, e, by omega, by omega, by omega, by omega, ?_⟩
    intro j b h1 h2 hb
    obtain rfl | rfl | rfl : j = i ∨ j = i + 1 ∨ j = i + 2 := by omega
    · rw [hx] at hb; cases hb; exact h
    · rw [get_list hb] at c3; omega
    · rw [get_list hb] at c4; omega
  · refine ⟨_, _, e, by omega, by omega, by omega, by omega, ?_⟩
    intro j b h1 h2 hb
    obtain rfl | rfl | rfl | rfl : j = i ∨ j = i + 1 ∨ j = i + 2 ∨ j = i + 3 := by omega
    · rw [hx] at hb; cases hb; exact h
    · rw [get_list hb] at c3; omega
    · rw [get_list hb] at c4; omega
    · rw [get_list hb] at c5; omega
  · refine ⟨_, _, e, by omega, by omega, by omega, by omega, ?_⟩
    intro j b h1 h2 hb
    obtain rfl : j = i := by omega
    rw [hx] at hb; cases hb; exact h

theorem useSet (n : Int) (w : World) : Calls Tryz.prog 285 #[.int .i64 n] w fun e w' => e = .returned (.bool (decide (8 < n))) ∧ w' = w := by
  go_enter Tryz.func285, Tryz.ntmps285
  go_wp2
  go_ret
  exact ⟨rfl, rfl⟩
set_option maxHeartbeats 4000000 in
set_option maxRecDepth 100000 in
theorem indexAny_short (s : Str) (c0 c1 : UInt8) (h0 : c0.toNat < 128) (h1 : c1.toNat < 128) (h8 : s.length ≤ 8) (w : World) :
    Calls Tryz.prog 258 #[.string ⟨s.toArray⟩, .string ⟨#[c0, c1]⟩] w fun e w' => e = .returned (.int .i64 (Lib.indexAny s [c0, c1])) ∧ Below w.heap.size w w' := by
  have hemp : (⟨#[c0, c1]⟩ : ByteArray).toList.isEmpty = false := by
    rw [Lib.toList_data]; rfl
  have h8z : decide ((8 : Int) < (s.length : Int)) = false := decide_eq_false (by omega)
  have hlo : ∀ (r : Int) w, 0 ≤ r → r < 128 → Calls Tryz.prog 284 #[.string ⟨#[c0, c1]⟩, .int .i32 r] w fun e w' => e = .returned (.int .i64 (Lib.indexByte [c0, c1] r.toNat.toUInt8)) ∧ w' = w := fun r w a b => Tryz.strings_IndexRune_ascii ⟨#[c0, c1]⟩ r w a b
  have HLO := Lib.hid hlo
  clear hlo
  have hhi := fun r a b w => idxRune_hi c0 c1 h0 h1 r a b w
  have HHI := Lib.hid hhi
  clear hhi
  have H0 := Lib.hid h0
  have H1 := Lib.hid h1
  clear h0 h1
  go_enter Tryz.func258, Tryz.ntmps258
  go_wp2_with (go_at_call 285; refine (useSet _ _).mono ?_; rintro e w1 ⟨rfl, hw⟩; rw [hw, h8z])
  go_loopw [9, 10] (fun _ _ wr => ∃ pos : Nat, pos ≤ s.length ∧ wr.heap[w.heap.size]? = some (.stringIter ⟨s.toArray⟩ pos) ∧ Below w.heap.size w wr ∧ Lib.NoAny s [c0, c1] pos) (fun _ _ wr => s.length - wr.iterPos w.heap.size)
  case atStart => exact ⟨0, by omega, World.iter_heap _ _ _, (Below.refl _ w).alloc (Nat.le_refl _) _, Lib.NoAny.zero _ _⟩
  case round =>
    obtain ⟨pos, hp, hit, hbw, hno⟩ := hrel
    have HN := Lib.hid hno
    clear hno
    have hbn := fun q => Lib.below_iterAt hbw (k := w.heap.size) (Nat.le_refl _) ⟨s.toArray⟩ q
    have hin := fun q => Lib.iterAt_heap wr w.heap.size ⟨s.toArray⟩ pos q hit
    by_cases hlt : pos < s.length
    · obtain ⟨x, hx⟩ : ∃ x, s[pos]? = some x := ⟨_, List.getElem?_eq_getElem hlt⟩
      by_cases hxl : x.toNat < 128
      · have hget : ∀ hh, (⟨s.toArray⟩ : ByteArray)[pos]'hh = x := fun hh => by
          have := List.getElem?_eq_some_iff.1 hx
          exact this.2
        have hnx : ∀ ty, (Instr.next (.pointer (some ⟨w.heap.size, 0, none⟩)) true ty).run Tryz.prog wr = _ := fun ty => Lib.run_next_ascii_at wr w.heap.size ⟨s.toArray⟩ pos ty hit hlt (by rw [hget]; exact hxl)
        simp only [hget] at hnx
        have HX := Lib.hid hx
        clear hget hx
        have hcon := Lib.contains_iff_indexByte [c0, c1] x
        have hback : ((x.toNat : Int)).toNat.toUInt8 = x := by simp
        cases hcx : [c0, c1].contains x with
        | true =>
          rw [hcx] at hcon
          have hge : decide ((0 : Int) ≤ Lib.indexByte [c0, c1] x) = true := hcon.symm
          have HC := Lib.hid hcx
          clear hcon hcx
          go_wp2_with (first | (go_at_call 284; refine (HLO.out _ _ (by omega) (by omega)).mono ?_; rintro e w1 ⟨rfl, rfl⟩; rw [hback]))
          go_ret
          exact ⟨by rw [Lib.indexAny_hit HN.out HX.out HC.out]; rfl, hbn _⟩
        | false =>
          rw [hcx] at hcon
          have hge : decide ((0 : Int) ≤ Lib.indexByte [c0, c1] x) = false := hcon.symm
          have HC := Lib.hid hcx
          clear hcon hcx
          go_wp2_with (first | (go_at_call 284; refine (HLO.out _ _ (by omega) (by omega)).mono ?_; rintro e w1 ⟨rfl, rfl⟩; rw [hback]))
          go_roundw
          case rel => exact ⟨pos + 1, by omega, hin _, hbn _, HN.out.succ HX.out HC.out⟩
          case measure => simp only [World.iterPos, hin, hit]; omega
      · obtain ⟨r, z, hd, hr, hv, hz, hzs, hb⟩ := hi_at s pos x hx (by omega)
        have hnx : ∀ ty, (Instr.next (.pointer (some ⟨w.heap.size, 0, none⟩)) true ty).run Tryz.prog wr = _ := fun ty => Lib.run_next_any_at wr w.heap.size ⟨s.toArray⟩ pos ty hit hlt
        rw [hd] at hnx
        have HB := Lib.hid hb
        have HV := Lib.hid hv
        clear hb hv hd hx
        go_wp2_with (first | (go_at_call 284; refine (HHI.out r hr HV.out _).mono ?_; rintro e w1 ⟨rfl, hb1⟩))
        have hs1 : (wr.iterAt w.heap.size ⟨s.toArray⟩ (pos + z)).heap.size = wr.heap.size := Lib.iterAt_size _ _ _ _
        have hlt1 : w.heap.size < wr.heap.size := (Array.getElem?_eq_some_iff.1 hit).1
        have hit1 : w1.heap[w.heap.size]? = some (.stringIter ⟨s.toArray⟩ (pos + z)) := by rw [hb1.block _ (by omega)]; exact hin _
        go_roundw
        case rel =>
          refine ⟨pos + z, by omega, hit1, (hbn _).trans (hb1.mono (by omega)), ?_⟩
          intro j b h1 h2
          by_cases hj : j < pos
          · exact HN.out j b hj h2
          · have := HB.out j b (by omega) h1 h2
            have h0' := H0.out
            have h1' := H1.out
            simp only [List.contains_cons, List.contains_nil, Bool.or_false, Bool.or_eq_false_iff, beq_eq_false_iff_ne]
            exact ⟨fun e => by rw [e] at this; omega, fun e => by rw [e] at this; omega⟩
        case measure => simp only [World.iterPos, hit1, hit]; omega
    · have hnx : ∀ ty, (Instr.next (.pointer (some ⟨w.heap.size, 0, none⟩)) true ty).run Tryz.prog wr = _ := fun ty => Lib.run_next_end_at wr w.heap.size ⟨s.toArray⟩ pos ty hit hlt
      go_wp2
      go_ret
      have hps : pos = s.length := by omega
      subst hps
      exact ⟨by rw [Lib.indexAny_none HN.out]; rfl, hbw⟩
end Go.Proofs.YtcmjaaigkbjpaaaGreatDoor.Lia

/- Walks: xml's reader: cut, blank. -/
namespace Go.Proofs.YtcmjaaigkbjpaaaGreatDoor.Lia
open Go.RowKit

section
variable {eb : Nat → Addr} {n0 b : Nat} {s : Str} {d : Int} {w : World}

attribute [local go_sem] ext_take ext_drop
theorem cut_ok (hR : RB b s d w) (p : Str) (h : p.isPrefixOf s = true) :
    Calls Tryz.prog 146 #[.pointer (some ⟨b, 0, none⟩), .string ⟨p.toArray⟩] w fun e w' => e = .returned (.tuple #[]) ∧ w' = w.setCell ⟨b, 0, none⟩ (.string ⟨(s.drop p.length).toArray⟩) := by
  have h0 := hR.c0
  have hf := hR.f 0
  have h1 : Lib.hasPrefix s p = true := h
  have h2 : Lib.trimPrefix s p = s.drop p.length := by unfold Lib.trimPrefix; rw [if_pos h1]
  have hc := Tryz.strings_CutPrefix ⟨s.toArray⟩ ⟨p.toArray⟩ w
  simp only [h1, h2] at hc
  have H := Lib.hid hc
  clear hc h h1 h2 hR
  go_enter Tryz.func146, Tryz.ntmps146
  go_wp2_with (first | (go_at_call 207; refine H.out.mono ?_; rintro e w' ⟨rfl, rfl⟩) | (go_at_call 88; refine (fail_ok _).mono ?_; rintro e w' ⟨rfl, rfl⟩))
  go_end0
  exact ⟨rfl, rfl⟩
theorem cut_bad (hE : Env eb n0 w) (hR : RB b s d w) (p : Str) (h : p.isPrefixOf s = false) :
    Calls Tryz.prog 146 #[.pointer (some ⟨b, 0, none⟩), .string ⟨p.toArray⟩] w fun e w' => e = .panicked (badC eb .form) ∧ w' = w := by
  have h0 := hR.c0
  have h1 : Lib.hasPrefix s p = false := h
  have hc := Tryz.strings_CutPrefix ⟨s.toArray⟩ ⟨p.toArray⟩ w
  simp only [h1] at hc
  have H := Lib.hid hc
  clear hc h h1 hR
  go_enter Tryz.func146, Tryz.ntmps146
  go_wp2_with (first | (go_at_call 207; refine H.out.mono ?_; rintro e w' ⟨rfl, rfl⟩) | (go_at_call 88; refine (fail_bad hE).mono ?_; rintro e w' ⟨rfl, rfl⟩))
  exact ⟨rfl, rfl, rfl⟩
theorem blank_any (hR : RB b s d w) (hs : s.length ≤ 9223372036854775807) :
    Calls Tryz.prog 152 #[.pointer (some ⟨b, 0, none⟩)] w fun e w' => e = .returned (.int .i64 ((blank s).1 : Nat)) ∧ ∃ w1, Below w.heap.size w w1 ∧ w' = w1.setCell ⟨b, 0, none⟩ (.string ⟨((blank s).2).toArray⟩) := by
  have h0 := hR.c0
  have hb := hR.lt
  have hf := hR.f 0
  have hc := Tryz.strings_TrimLeft_laid ⟨s.toArray⟩ ⟨#[32, 9, 10, 13]⟩ w (by decide) (by intro j c hj; match j, hj with | 0, hj => (cases hj; decide) | 1, hj => (cases hj; decide) | 2, hj => (cases hj; decide) | 3, hj => (cases hj; decide) | k + 4, hj => cases hj)
  have h2 : Lib.trimLeftS s [32, 9, 10, 13] = (blank s).2 := by
    unfold Lib.trimLeftS blank
    congr 1
    funext c
    simp only [List.contains_cons, List.contains_nil, Bool.or_false, isBlank, Bool.or_assoc]
  have h3 : ((blank s).1 : Int) = (s.length : Int) - ((blank s).2.length : Int) := by
    have := congrArg List.length (List.takeWhile_append_dropWhile (p := isBlank) (l := s))
    simp only [List.length_append] at this
    show ((s.takeWhile isBlank).length : Int) = (s.length : Int) - ((s.dropWhile isBlank).length : Int)
    omega
  have h4 : (blank s).2.length ≤ s.length := by
    have := congrArg List.length (List.takeWhile_append_dropWhile (p := isBlank) (l := s))
    simp only [List.length_append] at this
    show (s.dropWhile isBlank).length ≤ _
    omega
  simp only [h2] at hc
  rw [h3]
  generalize (blank s).2 = r at hc h4 ⊢
  have H := Lib.hid hc
  clear hc h2 h3 hR
  go_enter Tryz.func152, Tryz.ntmps152
  go_wp2_with (first | (go_at_call 214; refine H.out.mono ?_; rintro e w1 ⟨rfl, hb1⟩; have k0 := (hb1.cell (p := ⟨b, 0, none⟩) hb).trans h0; have kf := (hb1.frozen (p := ⟨b, 0, none⟩) hb).trans hf))
  go_ret
  exact ⟨rfl, _, ‹_›, rfl⟩

theorem isSign_any (c : UInt8) (w : World) : Calls Tryz.prog 145 #[.int .u8 c.toNat] w fun e w' => e = .returned (.bool (isSign c)) ∧ ∃ n, w' = w.drewN n :=
  (PX.xml_isSign.calls _ _ w (isSign_f c)).mono fun e w' h => ⟨h.1, h.2.out⟩
theorem part_any (s : Str) (w : World) : Calls Tryz.prog 85 #[.string ⟨s.toArray⟩] w fun e w' => e = .returned (.bool (part s)) ∧ ∃ n, w' = w.drewN n :=
  (PX.xml_part.calls 100 _ _ w (part_f s)).mono fun e w' h => ⟨h.1, h.2.out⟩
theorem cut_cutAt (c : UInt8) (s : Str) : Lib.cut s [c] = ((cutAt c s).1, ((cutAt c s).2.getD []), (cutAt c s).2.isSome) := by
  have h : ∀ s : Str, (Lib.index s [c] = -1 ∧ cutAt c s = (s, none)) ∨ ∃ k : Nat, Lib.index s [c] = k ∧ k < s.length ∧ cutAt c s = (s.take k, some (s.drop (k + 1))) := by
    intro s
    induction s with
    | nil => exact .inl ⟨rfl, rfl⟩
    | cons x t ih =>
      by_cases hx : x = c
      · subst hx
        exact .inr ⟨0, by simp [Lib.index], by simp, by simp [cutAt]⟩
      · have hp : ([c].isPrefixOf (x :: t)) = false := by simp [List.isPrefixOf, Ne.symm hx]
        rcases ih with ⟨h1, h2⟩ | ⟨k, h1, h2, h3⟩
        · exact .inl ⟨by simp [Lib.index, hp, h1], by simp [cutAt, hx, h2]⟩
        · refine .inr ⟨k + 1, ?_, by simp; omega, by simp [cutAt, hx, h3]⟩
          simp only [Lib.index, hp, h1, Bool.false_eq_true, if_false]
          rw [if_neg (by simp)]
          rfl
  unfold Lib.cut
  rcases h s with ⟨h1, h2⟩ | ⟨k, h1, h2, h3⟩
  · rw [h1, h2]; simp
  · rw [h1, h3]; simp
theorem below_drewN (w : World) (n : Nat) : Below w.heap.size w (w.drewN n) := ⟨rfl, rfl, rfl, Nat.le_refl _, fun _ _ => rfl⟩
theorem name_any (hE : Env eb n0 w) (hs : s.length < 4294967281) :
    Calls Tryz.prog 31 #[.string ⟨s.toArray⟩] w fun e w' => e = .returned (.bool (name s)) ∧ Below w.heap.size w w' := by
  obtain ⟨m, hm⟩ := hE.maxLen
  have hc := Tryz.strings_Cut ⟨s.toArray⟩ ⟨#[58]⟩ m w (by rw [size_mk]; exact hs) hm
  have hcc := cut_cutAt 58 s
  simp only [hcc] at hc
  unfold name
  rcases hq : cutAt 58 s with ⟨a, r⟩
  rw [hq] at hc
  clear hcc hq hm hE
  have hp := fun s => part_any s
  have HP := Lib.hid hp
  clear hp
  cases r with
  | none =>
    have H := Lib.hid hc
    clear hc
    simp only [Option.getD_none, Option.isSome_none] at H
    cases ha : part a <;>
    · have HA := Lib.hid ha
      clear ha
      go_enter Tryz.func31, Tryz.ntmps31
      go_wp2_with (first | (go_at_call 84; refine H.out.mono ?_; rintro e w1 ⟨rfl, n1, rfl⟩) | (go_at_call 85; refine (HP.out _ _).mono ?_; rintro e w1 ⟨rfl, n1, rfl⟩; rw [HA.out]))
      go_ret
      exact ⟨rfl, by repeat (first | exact below_drewN _ _ | simp)⟩
  | some r =>
    have H := Lib.hid hc
    clear hc
    simp only [Option.getD_some, Option.isSome_some] at H
    cases ha : part a <;> cases hr : part r <;>
    · have HA := Lib.hid ha
      have HR := Lib.hid hr
      clear ha hr
      go_enter Tryz.func31, Tryz.ntmps31
      go_wp2_with (first | (go_at_call 84; refine H.out.mono ?_; rintro e w1 ⟨rfl, n1, rfl⟩) | (go_at_call 85; refine (HP.out _ _).mono ?_; rintro e w1 ⟨rfl, n1, rfl⟩; first | rw [HA.out] | rw [HR.out]))
      go_ret
      exact ⟨by first | rfl | (rw [HR.out]; rfl), by repeat (first | exact below_drewN _ _ | simp)⟩
/-- A sign that goes on in a name, or the colon. -/
def nameSign (c : UInt8) : Bool := isSign c || c == 58
theorem take_all {s : Str} {k : Nat} (hk : k < s.length) (h : (s.take k).all nameSign = true) (hc : nameSign s[k] = true) : (s.take (k + 1)).all nameSign = true := by
  rw [List.take_succ_eq_append_getElem hk, List.all_append, h, Bool.true_and]
  simp [hc]
theorem while_at {p : UInt8 → Bool} : ∀ {s : Str} {k : Nat}, k ≤ s.length → (s.take k).all p = true → (∀ h : k < s.length, p s[k] = false) → s.take k = s.takeWhile p ∧ s.drop k = s.dropWhile p
  | [], k, hk, _, _ => by simp
  | c :: t, 0, _, _, h => by
    have := h (by simp)
    simp only [List.getElem_cons_zero] at this
    simp [List.takeWhile_cons, List.dropWhile_cons, this]
  | c :: t, k + 1, hk, ha, h => by
    simp only [List.take_succ_cons, List.all_cons, Bool.and_eq_true] at ha
    have ih := while_at (p := p) (s := t) (k := k) (by simpa using hk) ha.2 (fun hh => by have := h (by simpa using hh); simpa using this)
    simp [List.takeWhile_cons, List.dropWhile_cons, ha.1, ih.1, ih.2]
/-- What 'name' leaves. -/
def NameOk (b : Nat) (d : Int) (w : World) (x : Str × Str) (e : Ending) (w' : World) : Prop := e = .returned (.string ⟨x.1.toArray⟩) ∧ w.grownBy w' (some b) ∧ RB b x.2 d w'
theorem rname_any (hE : Env eb n0 w) (hb : n0 ≤ b) (hR : RB b s d w) (hs : s.length < 4294967281) :
    Calls Tryz.prog 147 #[.pointer (some ⟨b, 0, none⟩)] w (Post eb (rname s) (NameOk b d w) (BadR eb n0 b w)) := by
  have h0 := hR.c0
  have hlt := hR.lt
  have hf := hR.f 0
  have hS := fun c w => isSign_any c w
  have HS := Lib.hid hS
  clear hS
  go_enter Tryz.func147, Tryz.ntmps147
  go_wp2
  go_loopw [3] (fun i wr => ∃ k n : Nat, k ≤ s.length ∧ i = .int .i64 k ∧ (s.take k).all nameSign = true ∧ wr = w.drewN n) (fun i _ => s.length - (intOf i).toNat)
  case atStart => exact ⟨0, 0, Nat.zero_le _, rfl, rfl, rfl⟩
  case round =>
    obtain ⟨k, n, hk, rfl, hall, rfl⟩ := hrel
    have HA := Lib.hid hall
    clear hall
    by_cases hlt : k < s.length
    · have hlt' : k < (⟨s.toArray⟩ : ByteArray).size := by rw [size_mk]; exact hlt
      have hget : ((⟨s.toArray⟩ : ByteArray)[k]'hlt') = s[k] := rfl
      have HG := Lib.hid hget
      clear hget
      cases hc : isSign s[k] with
      | true =>
        have HC : Hid (isSign ((⟨s.toArray⟩ : ByteArray)[k]'hlt') = true) := hc
        have HN := Lib.hid (take_all hlt HA.out (by simp [nameSign, hc]))
        clear hc
        go_wp2_with (first | (go_at_call 145; refine (HS.out _ _).mono ?_; rintro e w1 ⟨rfl, n1, rfl⟩; rw [HC.out]))
        go_roundw
        case rel => exact ⟨k + 1, _, by omega, by go_num, HN.out, by first | rfl | (simp; rfl)⟩
        case measure => simp [intOf]; omega
      | false =>
        have HC : Hid (isSign ((⟨s.toArray⟩ : ByteArray)[k]'hlt') = false) := hc
        by_cases hq : s[k] = 58
        · have hq' : ((((⟨s.toArray⟩ : ByteArray)[k]'hlt').toNat : Int) == 58) = true := by
            rw [HG.out, hq]; rfl
          have HN := Lib.hid (take_all hlt HA.out (by simp [nameSign, hq]))
          clear hc hq
          go_wp2_with (first | (go_at_call 145; refine (HS.out _ _).mono ?_; rintro e w1 ⟨rfl, n1, rfl⟩; rw [HC.out]))
          go_roundw
          case rel => exact ⟨k + 1, _, by omega, by go_num, HN.out, by first | rfl | (simp; rfl)⟩
          case measure => simp [intOf]; omega
        · have hq' : ((((⟨s.toArray⟩ : ByteArray)[k]'hlt').toNat : Int) == 58) = false := by
            rw [HG.out, beq_eq_false_iff_ne]
            intro hh
            exact hq (UInt8.toNat_inj.1 (by show s[k].toNat = 58; omega))
          have hns : nameSign s[k] = false := by simp [nameSign, hc, hq]
          have HNS := Lib.hid hns
          clear hc hq hns
          obtain ⟨hT, hD⟩ := while_at (p := nameSign) (by omega) HA.out (fun _ => HNS.out)
          have HT := Lib.hid hT; clear hT
          have HD := Lib.hid hD; clear hD
          have hr1 : rname s = if name (s.take k) then .ok (s.take k, s.drop k) else .bad .form := by
            unfold rname; rw [HT.out, HD.out]; rfl
          cases hnm : name (s.take k) with
          | true =>
            simp only [hnm, if_true, Bool.false_eq_true, if_false] at hr1
            have HR := Lib.hid hr1; clear hr1
            have HNM := Lib.hid hnm; clear hnm
            go_wp2_with (first | (go_at_call 145; refine (HS.out _ _).mono ?_; rintro e w1 ⟨rfl, n1, rfl⟩; rw [HC.out]) | (go_at_call 31; refine (name_any (n0 := n0) (eb := eb) ?he ?hl).mono ?_; (case he => exact (hE.drewN _).setCell hb _); (case hl => simp; omega); rintro e w1 ⟨rfl, hb1⟩; rw [HNM.out]) | (go_at_call 88; refine (fail_ok _).mono ?_; rintro e w' ⟨rfl, rfl⟩))
            go_ret
            exact post_mk_ok HR.out ⟨rfl, g_below (g_set (g_drewN (grown_refl _ _) _) _) hb1, ((hR.drewN _).set0 _).below hb1⟩
          | false =>
            simp only [hnm, if_true, Bool.false_eq_true, if_false] at hr1
            have HR := Lib.hid hr1; clear hr1
            have HNM := Lib.hid hnm; clear hnm
            go_wp2_with (first | (go_at_call 145; refine (HS.out _ _).mono ?_; rintro e w1 ⟨rfl, n1, rfl⟩; rw [HC.out]) | (go_at_call 31; refine (name_any (n0 := n0) (eb := eb) ?he ?hl).mono ?_; (case he => exact (hE.drewN _).setCell hb _); (case hl => simp; omega); rintro e w1 ⟨rfl, hb1⟩; rw [HNM.out]) | (go_at_call 88; refine (fail_bad (n0 := n0) (eb := eb) ?he).mono ?_; (case he => exact ((hE.drewN _).setCell hb _).below hb1); rintro e w' ⟨rfl, rfl⟩))
            exact ⟨rfl, post_mk_bad HR.out _ ⟨g_below (g_set (g_drewN (grown_refl _ _) _) _) hb1, _, _, ((hE.drewN _).setCell hb _).below hb1, ((hR.drewN _).set0 _).below hb1, hb, by rw [List.length_drop]; omega⟩⟩
    · have hge : s.length ≤ k := by omega
      have HC : Hid True := trivial
      obtain ⟨hT, hD⟩ := while_at (p := nameSign) (by omega) HA.out (fun h => absurd h (by omega))
      have HT := Lib.hid hT; clear hT
      have HD := Lib.hid hD; clear hD
      have hr1 : rname s = if name (s.take k) then .ok (s.take k, s.drop k) else .bad .form := by
        unfold rname; rw [HT.out, HD.out]; rfl
      cases hnm : name (s.take k) with
      | true =>
        simp only [hnm, if_true, Bool.false_eq_true, if_false] at hr1
        have HR := Lib.hid hr1; clear hr1
        have HNM := Lib.hid hnm; clear hnm
        go_wp2_with (first | (go_at_call 145; refine (HS.out _ _).mono ?_; rintro e w1 ⟨rfl, n1, rfl⟩; rw [HC.out]) | (go_at_call 31; refine (name_any (n0 := n0) (eb := eb) ?he ?hl).mono ?_; (case he => exact (hE.drewN _).setCell hb _); (case hl => simp; omega); rintro e w1 ⟨rfl, hb1⟩; rw [HNM.out]) | (go_at_call 88; refine (fail_ok _).mono ?_; rintro e w' ⟨rfl, rfl⟩))
        go_ret
        exact post_mk_ok HR.out ⟨rfl, g_below (g_set (g_drewN (grown_refl _ _) _) _) hb1, ((hR.drewN _).set0 _).below hb1⟩
      | false =>
        simp only [hnm, if_true, Bool.false_eq_true, if_false] at hr1
        have HR := Lib.hid hr1; clear hr1
        have HNM := Lib.hid hnm; clear hnm
        go_wp2_with (first | (go_at_call 145; refine (HS.out _ _).mono ?_; rintro e w1 ⟨rfl, n1, rfl⟩; rw [HC.out]) | (go_at_call 31; refine (name_any (n0 := n0) (eb := eb) ?he ?hl).mono ?_; (case he => exact (hE.drewN _).setCell hb _); (case hl => simp; omega); rintro e w1 ⟨rfl, hb1⟩; rw [HNM.out]) | (go_at_call 88; refine (fail_bad (n0 := n0) (eb := eb) ?he).mono ?_; (case he => exact ((hE.drewN _).setCell hb _).below hb1); rintro e w' ⟨rfl, rfl⟩))
        exact ⟨rfl, post_mk_bad HR.out _ ⟨g_below (g_set (g_drewN (grown_refl _ _) _) _) hb1, _, _, ((hE.drewN _).setCell hb _).below hb1, ((hR.drewN _).set0 _).below hb1, hb, by rw [List.length_drop]; omega⟩⟩
/-- What 'upTo' leaves. -/
theorem idx_any (some_ : Str) : ∀ s : Str, (Lib.indexAny s some_ = -1 ∧ upTo some_ s = .bad .form) ∨ ∃ k : Nat, Lib.indexAny s some_ = k ∧ k < s.length ∧ upTo some_ s = .ok (s.take k, s.drop k)
  | [] => .inl ⟨rfl, rfl⟩
  | c :: t => by
    by_cases hc : some_.contains c = true
    · refine .inr ⟨0, by simp only [Lib.indexAny, hc, if_true]; rfl, by simp, ?_⟩
      have h1 : (c :: t).dropWhile (fun c => !some_.contains c) = c :: t := by simp only [List.dropWhile_cons, hc]; rfl
      have h2 : (c :: t).takeWhile (fun c => !some_.contains c) = [] := by simp only [List.takeWhile_cons, hc]; rfl
      unfold upTo
      rw [h1, h2]
      rfl
    · have hc' : some_.contains c = false := by simpa using hc
      have h1 : (c :: t).dropWhile (fun c => !some_.contains c) = t.dropWhile (fun c => !some_.contains c) := by simp only [List.dropWhile_cons, hc']; rfl
      have h2 : (c :: t).takeWhile (fun c => !some_.contains c) = c :: t.takeWhile (fun c => !some_.contains c) := by simp only [List.takeWhile_cons, hc']; rfl
      rcases idx_any some_ t with ⟨h3, h4⟩ | ⟨k, h3, h4, h5⟩
      · refine .inl ⟨by simp only [Lib.indexAny, hc', h3]; rfl, ?_⟩
        unfold upTo at h4 ⊢
        rw [h1]
        cases hd : t.dropWhile (fun c => !some_.contains c) with
        | nil => rfl
        | cons x u => rw [hd] at h4; cases h4
      · refine .inr ⟨k + 1, ?_, by simp; omega, ?_⟩
        · simp only [Lib.indexAny, hc', h3, Bool.false_eq_true, if_false]
          rw [if_neg (by simp)]
          rfl
        · unfold upTo at h5 ⊢
          rw [h1, h2]
          cases hd : t.dropWhile (fun c => !some_.contains c) with
          | nil => rw [hd] at h5; cases h5
          | cons x u =>
            rw [hd] at h5
            simp only [Res.ok.injEq, Prod.mk.injEq] at h5
            show Res.ok (c :: _, x :: u) = _
            rw [h5.1, h5.2]
            rfl
/-- strings.IndexAny at one or two ASCII signs. -/
theorem indexAny_any (s cs : Str) (w : World) (hs : s.length < 4294967281) (h1 : 1 ≤ cs.length) (h2 : cs.length ≤ 2) (ha : ∀ (j : Nat) b, cs[j]? = some b → b.toNat < 128) :
    Calls Tryz.prog 258 #[.string ⟨s.toArray⟩, .string ⟨cs.toArray⟩] w fun e w' => e = .returned (.int .i64 (Lib.indexAny s cs)) ∧ Below w.heap.size w w' := by
  by_cases h : cs.length = 1
  · exact (Tryz.strings_IndexAny_one ⟨s.toArray⟩ ⟨cs.toArray⟩ w (by rw [size_mk]; exact h) ha).mono fun e w' ⟨he, hw⟩ => ⟨he, by rw [hw]; exact Below.refl _ _⟩
  · by_cases h8 : 8 < s.length
    · exact (Tryz.strings_IndexAny_long (by intro w; kernel_rfl) ⟨s.toArray⟩ ⟨cs.toArray⟩ w (by rw [size_mk]; omega) (by rw [size_mk]; exact h8) (by rw [size_mk]; exact hs) (by rw [size_mk]; omega) ha).mono fun e w' ⟨he, hw⟩ => ⟨he, by
        rw [hw]; exact ((Below.refl _ _).alloc (Nat.le_refl _) _).alloc (by simp) _⟩
    · match cs, h1, h2, h, ha with
      | [c0, c1], _, _, _, ha => exact indexAny_short s c0 c1 (ha 0 c0 rfl) (ha 1 c1 rfl) (by omega) w
def UpToOk (b : Nat) (d : Int) (w : World) (x : Str × Str) (e : Ending) (w' : World) : Prop := e = .returned (.string ⟨x.1.toArray⟩) ∧ w.grownBy w' (some b) ∧ RB b x.2 d w'
theorem upTo_any (hE : Env eb n0 w) (hb : n0 ≤ b) (hR : RB b s d w) (hs : s.length < 4294967281) (cs : Str) (h1 : 1 ≤ cs.length) (h2 : cs.length ≤ 2) (ha : ∀ (j : Nat) b, cs[j]? = some b → b.toNat < 128) :
    Calls Tryz.prog 212 #[.pointer (some ⟨b, 0, none⟩), .string ⟨cs.toArray⟩] w (Post eb (upTo cs s) (UpToOk b d w) (BadR eb n0 b w)) := by
  have h0 := hR.c0
  have hlt := hR.lt
  have hf := hR.f 0
  have hI := indexAny_any s cs w hs h1 h2 ha
  rcases idx_any cs s with ⟨h3, h4⟩ | ⟨k, h3, h4, h5⟩
  · rw [h3] at hI
    have H := Lib.hid hI; clear hI
    have H4 := Lib.hid h4; clear h4 h3
    go_enter Tryz.func212, Tryz.ntmps212
    go_wp2_with (first | (go_at_call 258; refine H.out.mono ?_; rintro e w1 ⟨rfl, hb1⟩) | (go_at_call 88; refine (fail_bad (n0 := n0) (eb := eb) ?he).mono ?_; (case he => exact hE.below hb1); rintro e w' ⟨rfl, rfl⟩))
    exact ⟨rfl, post_mk_bad H4.out _ ⟨g_below (grown_refl _ _) hb1, _, _, hE.below hb1, hR.below hb1, hb, hs⟩⟩
  · rw [h3] at hI
    have H := Lib.hid hI; clear hI
    have H5 := Lib.hid h5; clear h5 h3
    go_enter Tryz.func212, Tryz.ntmps212
    go_wp2_with (first | (go_at_call 258; refine H.out.mono ?_; rintro e w1 ⟨rfl, hb1⟩; have k0 := (hb1.cell (p := ⟨b, 0, none⟩) hlt).trans h0; have kf := (hb1.frozen (p := ⟨b, 0, none⟩) hlt).trans hf) | (go_at_call 88; refine (fail_ok _).mono ?_; rintro e w' ⟨rfl, rfl⟩))
    go_ret
    exact post_mk_ok H5.out ⟨rfl, g_set (g_below (grown_refl _ _) hb1) _, (hR.below hb1).set0 _⟩
end
end Go.Proofs.YtcmjaaigkbjpaaaGreatDoor.Lia
