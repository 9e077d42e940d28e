/- Own texts, merged for the hand-in. -/
import Derived.Test.YtcmjaaigkbjpaaaGreatDoorMergeB
import Derived.Lib.OthersKept
import Derived.Test.YtcmjaaigkbjpaaaGreatDoorMergeA

/- Walks: xml's may, lower, named. -/
namespace Go.Proofs.YtcmjaaigkbjpaaaGreatDoor.Lia
open Go.RowKit

def mayZ (r : Int) : Bool := decide (0 ≤ r) && may r.toNat
theorem may_valid (r : Int) (h1 : 32 ≤ r) (h2 : r ≠ 65534) (h3 : r ≠ 65535) : Lib.validRune r = mayZ r := by
  unfold mayZ may Lib.validRune
  rw [if_neg (by omega), if_neg (by omega)]
  rw [Bool.eq_iff_iff]
  simp only [Bool.or_eq_true, Bool.and_eq_true, decide_eq_true_eq]
  omega
theorem may_any (r : Int) (w : World) (h1 : -2147483648 ≤ r) (h2 : r ≤ 2147483647) :
    Calls Tryz.prog 77 #[.int .i32 r] w fun e w' => e = .returned (.bool (mayZ r)) ∧ w' = w := by
  by_cases h32 : r < 32
  · by_cases h9 : r = 9
    · subst h9
      go_enter Tryz.func77, Tryz.ntmps77
      go_wp2
      go_ret
      exact ⟨rfl, rfl⟩
    · by_cases h10 : r = 10
      · subst h10
        go_enter Tryz.func77, Tryz.ntmps77
        go_wp2
        go_ret
        exact ⟨rfl, rfl⟩
      · by_cases h13 : r = 13
        · subst h13
          go_enter Tryz.func77, Tryz.ntmps77
          go_wp2
          go_ret
          exact ⟨rfl, rfl⟩
        · have hm : mayZ r = false := by
            unfold mayZ may
            by_cases h0 : 0 ≤ r
            · rw [if_pos (by omega)]
              have a1 : (r.toNat == 9) = false := by rw [beq_eq_false_iff_ne]; omega
              have a2 : (r.toNat == 10) = false := by rw [beq_eq_false_iff_ne]; omega
              have a3 : (r.toNat == 13) = false := by rw [beq_eq_false_iff_ne]; omega
              simp [a1, a2, a3]
            · simp [h0]
          have HM := Lib.hid hm; clear hm
          have b1 : (r == 9) = false := by rw [beq_eq_false_iff_ne]; exact h9
          have b2 : (r == 10) = false := by rw [beq_eq_false_iff_ne]; exact h10
          have b3 : (r == 13) = false := by rw [beq_eq_false_iff_ne]; exact h13
          clear h9 h10 h13
          go_enter Tryz.func77, Tryz.ntmps77
          go_wp2
          go_ret
          exact ⟨by rw [HM.out]; rfl, rfl⟩
  · by_cases h4 : r = 65534
    · subst h4
      go_enter Tryz.func77, Tryz.ntmps77
      go_wp2
      go_ret
      exact ⟨rfl, rfl⟩
    · by_cases h5 : r = 65535
      · subst h5
        go_enter Tryz.func77, Tryz.ntmps77
        go_wp2
        go_ret
        exact ⟨rfl, rfl⟩
      · have hv := may_valid r (by omega) h4 h5
        have HV := Lib.hid hv; clear hv
        have b1 : (r == 65534) = false := by rw [beq_eq_false_iff_ne]; exact h4
        have b2 : (r == 65535) = false := by rw [beq_eq_false_iff_ne]; exact h5
        clear h4 h5
        go_enter Tryz.func77, Tryz.ntmps77
        go_wp2_with (go_at_call 140; refine (Tryz.utf8_ValidRune r _).mono ?_; rintro e w1 ⟨rfl, rfl⟩)
        go_ret
        exact ⟨by rw [← HV.out]; rfl, rfl⟩

def lower (c : UInt8) : UInt8 := if 65 ≤ c ∧ c ≤ 70 then c - 65 + 97 else c
theorem lower_any (c : UInt8) (w : World) : Calls Tryz.prog 289 #[.int .u8 c.toNat] w fun e w' => e = .returned (.int .u8 (lower c).toNat) ∧ w' = w := by
  have hc : (c.toNat : Int) < 256 := by have := c.toNat_lt; omega
  by_cases h1 : 65 ≤ (c.toNat : Int)
  · by_cases h2 : (c.toNat : Int) ≤ 70
    · have hl : ((lower c).toNat : Int) = (c.toNat : Int) + 32 := by
        unfold lower
        rw [if_pos ⟨by rw [UInt8.le_iff_toNat_le]; show 65 ≤ c.toNat; omega, by rw [UInt8.le_iff_toNat_le]; show c.toNat ≤ 70; omega⟩]
        have : c - 65 + 97 = c + 32 := by
          rw [UInt8.sub_eq_add_neg, UInt8.add_assoc]; rfl
        rw [this, UInt8.toNat_add]
        show (((c.toNat + 32) % 256 : Nat) : Int) = _
        omega
      have HL := Lib.hid hl; clear hl
      go_enter Tryz.func289, Tryz.ntmps289
      go_wp2
      go_ret
      refine ⟨?_, rfl⟩
      rw [HL.out]
      show Ending.returned (.int .u8 ((c.toNat : Int) - 65 + 97)) = _
      rw [show (c.toNat : Int) - 65 + 97 = (c.toNat : Int) + 32 from by omega]
    · have hl : lower c = c := by
        unfold lower
        rw [if_neg]
        rintro ⟨_, h⟩
        rw [UInt8.le_iff_toNat_le] at h
        have : c.toNat ≤ 70 := h
        omega
      have HL := Lib.hid hl; clear hl
      go_enter Tryz.func289, Tryz.ntmps289
      go_wp2
      go_ret
      exact ⟨by rw [HL.out]; rfl, rfl⟩
  · have hl : lower c = c := by
      unfold lower
      rw [if_neg]
      rintro ⟨h, _⟩
      rw [UInt8.le_iff_toNat_le] at h
      have : 65 ≤ c.toNat := h
      omega
    have HL := Lib.hid hl; clear hl
    go_enter Tryz.func289, Tryz.ntmps289
    go_wp2
    go_ret
    exact ⟨by rw [HL.out]; rfl, rfl⟩
def namedV (s : Str) : Str × Bool := match named s with | some t => (t, true) | none => ([], false)
theorem named_any (s : Str) (w : World) : Calls Tryz.prog 287 #[.string ⟨s.toArray⟩] w fun e w' => e = .returned (.tuple #[.string ⟨(namedV s).1.toArray⟩, .bool (namedV s).2]) ∧ w' = w := by
  by_cases h0 : s = [108, 116]
  · subst h0
    go_enter Tryz.func287, Tryz.ntmps287
    go_wp2
    go_ret2
    exact ⟨rfl, rfl⟩
  by_cases h1 : s = [103, 116]
  · subst h1
    go_enter Tryz.func287, Tryz.ntmps287
    go_wp2
    go_ret2
    exact ⟨rfl, rfl⟩
  by_cases h2 : s = [97, 109, 112]
  · subst h2
    go_enter Tryz.func287, Tryz.ntmps287
    go_wp2
    go_ret2
    exact ⟨rfl, rfl⟩
  by_cases h3 : s = [113, 117, 111, 116]
  · subst h3
    go_enter Tryz.func287, Tryz.ntmps287
    go_wp2
    go_ret2
    exact ⟨rfl, rfl⟩
  by_cases h4 : s = [97, 112, 111, 115]
  · subst h4
    go_enter Tryz.func287, Tryz.ntmps287
    go_wp2
    go_ret2
    exact ⟨rfl, rfl⟩
  have b0 : (s == [108, 116]) = false := by simp [h0]
  have b1 : (s == [103, 116]) = false := by simp [h1]
  have b2 : (s == [97, 109, 112]) = false := by simp [h2]
  have b3 : (s == [113, 117, 111, 116]) = false := by simp [h3]
  have b4 : (s == [97, 112, 111, 115]) = false := by simp [h4]
  have hv : namedV s = ([], false) := by unfold namedV named; rw [if_neg h0, if_neg h1, if_neg h2, if_neg h3, if_neg h4]
  have HV := Lib.hid hv
  clear hv h0 h1 h2 h3 h4
  go_enter Tryz.func287, Tryz.ntmps287
  go_wp2
  go_ret2
  exact ⟨by rw [HV.out]; rfl, rfl⟩
end Go.Proofs.YtcmjaaigkbjpaaaGreatDoor.Lia

/- Walks: xml's reference. -/
namespace Go.Proofs.YtcmjaaigkbjpaaaGreatDoor.Lia
open Go.RowKit

/-- A digit's place among the hexadecimal ones; -1: it is none. -/
def dg (c : UInt8) : Int := if digit c = 99 then -1 else digit c
theorem dg_idx (c : UInt8) : Lib.indexByte [48, 49, 50, 51, 52, 53, 54, 55, 56, 57, 97, 98, 99, 100, 101, 102] (lower c) = dg c := by
  refine byte_cases (p := fun c => Lib.indexByte [48, 49, 50, 51, 52, 53, 54, 55, 56, 57, 97, 98, 99, 100, 101, 102] (lower c) = dg c) ?_ c
  decide +kernel
theorem digit_cases (c : UInt8) : digit c < 16 ∨ digit c = 99 := by
  refine byte_cases (p := fun c => digit c < 16 ∨ digit c = 99) ?_ c
  decide +kernel
theorem dg_any (c : UInt8) (w : World) : Calls Tryz.prog 288 #[.string ⟨#[48, 49, 50, 51, 52, 53, 54, 55, 56, 57, 97, 98, 99, 100, 101, 102]⟩, .int .u8 (lower c).toNat] w fun e w' => e = .returned (.int .i64 (dg c)) ∧ w' = w := by
  have h := Tryz.strings_IndexByte ⟨#[48, 49, 50, 51, 52, 53, 54, 55, 56, 57, 97, 98, 99, 100, 101, 102]⟩ ((lower c).toNat : Int) w
  have e : ((lower c).toNat : Int).toNat.toUInt8 = lower c := by simp
  rw [e] at h
  have := dg_idx c
  exact h.mono fun e w' ⟨he, hw⟩ => ⟨by rw [he]; exact congrArg (fun z => Ending.returned (.int .i64 z)) this, hw⟩
theorem number_snoc (base : Nat) : ∀ (d : Str) (n : Nat) (c : UInt8), number base n (d ++ [c]) = (number base n d).bind fun m => if digit c < base then some (m * base + digit c) else none
  | [], n, c => by simp [number]
  | x :: t, n, c => by
    simp only [List.cons_append, number]
    split
    · exact number_snoc base t _ c
    · rfl
theorem number_none (base : Nat) : ∀ (d u : Str) (n : Nat), number base n d = none → number base n (d ++ u) = none
  | [], u, n, h => by cases h
  | x :: t, u, n, h => by
    simp only [List.cons_append, number] at h ⊢
    split at h
    · rename_i hx; rw [if_pos hx]; exact number_none base t u _ h
    · rename_i hx; rw [if_neg hx]
theorem number_step {base : Nat} {d : Str} {k m : Nat} (hk : k < d.length) (h : number base 0 (d.take k) = some m) :
    (digit d[k] < base → number base 0 (d.take (k + 1)) = some (m * base + digit d[k])) ∧ (¬ digit d[k] < base → number base 0 d = none) := by
  have hs : number base 0 (d.take (k + 1)) = if digit d[k] < base then some (m * base + digit d[k]) else none := by
    rw [List.take_succ_eq_append_getElem hk, number_snoc, h]; rfl
  refine ⟨fun hd => by rw [hs, if_pos hd], fun hd => ?_⟩
  rw [if_neg hd] at hs
  have := number_none base _ (d.drop (k + 1)) 0 hs
  rwa [List.take_append_drop] at this
theorem mayZ_wrap (m : Nat) (h : m < 4294967296) : mayZ (wrap32 m) = may m := by
  unfold mayZ
  by_cases h1 : m < 2147483648
  · have : wrap32 (m : Int) = m := by unfold wrap32; omega
    rw [this]; simp
  · have hw : wrap32 (m : Int) = (m : Int) - 4294967296 := by unfold wrap32; omega
    rw [hw]
    have : ¬ (0 ≤ (m : Int) - 4294967296) := by omega
    simp only [this, decide_false, Bool.false_and]
    unfold may
    rw [if_neg (by omega), if_neg (by omega)]
    symm
    rw [Bool.or_eq_false_iff, Bool.and_eq_false_iff]
    exact ⟨by simp; omega, .inr (by simp; omega)⟩

theorem wrap32_lo (n : Int) : -2147483648 ≤ wrap32 n := by unfold wrap32; omega
theorem wrap32_hi (n : Int) : wrap32 n ≤ 2147483647 := by unfold wrap32; omega
theorem may_wrap {m : Nat} {b : Bool} (h : m < 4294967296) (hm : may m = b) (w : World) : Calls Tryz.prog 77 #[.int .i32 (wrap32 (m : Int))] w fun e w' => e = .returned (.bool b) ∧ w' = w := by
  have := may_any (wrap32 (m : Int)) w (wrap32_lo _) (wrap32_hi _)
  rwa [mayZ_wrap m h, hm] at this
theorem encode_may {m : Nat} (h : may m = true) : Utf8.encode (wrap32 (m : Int)) = ⟨(Lib.encodeRune m).toArray⟩ := by
  have hm : m < 55296 ∨ (57344 ≤ m ∧ m ≤ 1114111) := by
    unfold may at h
    split at h
    · left; omega
    · split at h
      · cases h
      · simp only [Bool.or_eq_true, Bool.and_eq_true, decide_eq_true_eq] at h
        omega
  have hw : wrap32 (m : Int) = m := by unfold wrap32; omega
  rw [hw]
  have hv : Utf8.valid (m : Int) = true := by
    unfold Utf8.valid
    simp only [Bool.or_eq_true, Bool.and_eq_true, decide_eq_true_eq]
    omega
  unfold Utf8.encode
  simp only [hv, if_true, Int.toNat_natCast]
  unfold Lib.encodeRune
  by_cases h1 : m < 128
  · rw [if_pos h1, Lib.encodeRuneZ_one (by omega) (by omega)]; simp
  · rw [if_neg h1]
    by_cases h2 : m < 2048
    · rw [if_pos h2, Lib.encodeRuneZ_two (by omega) (by omega)]
      simp only [List.map_cons, List.map_nil]
      rw [show ((192 : Int) + (m : Int) / 64).toNat = 192 + m / 64 from by omega, show ((128 : Int) + (m : Int) % 64).toNat = 128 + m % 64 from by omega]
    · rw [if_neg h2]
      by_cases h3 : m < 65536
      · rw [if_pos h3, Lib.encodeRuneZ_three (by omega)]
        simp only [List.map_cons, List.map_nil]
        rw [show ((224 : Int) + (m : Int) / 4096).toNat = 224 + m / 4096 from by omega, show ((128 : Int) + (m : Int) / 64 % 64).toNat = 128 + m / 64 % 64 from by omega, show ((128 : Int) + (m : Int) % 64).toNat = 128 + m % 64 from by omega]
      · rw [if_neg h3, Lib.encodeRuneZ_four (by omega) (by omega)]
        simp only [List.map_cons, List.map_nil]
        rw [show ((240 : Int) + (m : Int) / 262144).toNat = 240 + m / 262144 from by omega, show ((128 : Int) + (m : Int) / 4096 % 64).toNat = 128 + m / 4096 % 64 from by omega, show ((128 : Int) + (m : Int) / 64 % 64).toNat = 128 + m / 64 % 64 from by omega, show ((128 : Int) + (m : Int) % 64).toNat = 128 + m % 64 from by omega]
/-- The plain answer behind the sign and the base. -/
def refTail (base : Nat) (d : Str) : Res Str :=
  if d = [] ∨ 8 < d.length then .bad .form
  else match number base 0 d with
    | none => .bad .form
    | some n => if may n then .ok (Lib.encodeRune n) else .bad .form
def RefOk (w : World) (x : Str) (e : Ending) (w' : World) : Prop := e = .returned (.string ⟨x.toArray⟩) ∧ w' = w

theorem ref_tail {eb : Nat → Addr} {n0 : Nat} {w : World} (hE : Env eb n0 w) (s d t : Str) (x : Bool) (base : Nat)
    (hn : namedV s = ([], false)) (hp : s = 35 :: t) (hx : Lib.hasPrefix t [120] = x) (hd : d = Lib.trimPrefix t [120]) (hb : base = if x then 16 else 10) (hl : d.length < 4294967281) :
    Calls Tryz.prog 259 #[.string ⟨s.toArray⟩] w (Post eb (refTail base d) (RefOk w) (Below w.heap.size w)) := by
  have c0 := named_any s
  simp only [hn] at c0
  have c1 := fun w => Tryz.strings_CutPrefix ⟨s.toArray⟩ ⟨#[35]⟩ w
  have e1 : Lib.hasPrefix s [35] = true := by rw [hp]; simp [Lib.hasPrefix]
  have e2 : Lib.trimPrefix s [35] = t := by unfold Lib.trimPrefix; rw [if_pos e1, hp]; rfl
  simp only [e1, e2] at c1
  have c2 := fun w => Tryz.strings_CutPrefix ⟨t.toArray⟩ ⟨#[120]⟩ w
  simp only [hx, ← hd] at c2
  have htd : x = false → d = t := by intro h; rw [hd]; unfold Lib.trimPrefix; rw [hx, h]; simp
  have C0 := Lib.hid c0
  have C1 := Lib.hid c1
  have C2 := Lib.hid c2
  clear c0 c1 c2 e1 e2 hn hp hx hd
  cases x with
  | true =>
    simp only [if_true] at hb
    subst hb
    clear htd
    by_cases hd0 : d = []
    · subst hd0
      have hr : refTail 16 [] = .bad .form := rfl
      have HR := Lib.hid hr; clear hr
      go_enter Tryz.func259, Tryz.ntmps259
      go_wp2_with (first | (go_at_call 287; refine (C0.out _).mono ?_; rintro e w1 ⟨rfl, rfl⟩))
      (with_reducible refine (C1.out _).mono ?_)
      rintro e w1 ⟨rfl, rfl⟩
      go_wp2_with (first | (go_at_call 88; refine (fail_ok _).mono ?_; rintro e w1 ⟨rfl, rfl⟩))
      (with_reducible refine (C2.out _).mono ?_)
      rintro e w2 ⟨rfl, rfl⟩
      go_wp2_with (first | (go_at_call 88; refine (fail_bad hE).mono ?_; rintro e w1 ⟨rfl, rfl⟩))
      exact ⟨rfl, post_mk_bad HR.out _ (Below.refl _ _)⟩
    · have hd2 : d.isEmpty = false := by simpa using hd0
      have hd1 : (!d.isEmpty) = true := by simpa using hd0
      by_cases hd8 : 8 < d.length
      · have hr : refTail 16 d = .bad .form := by unfold refTail; rw [if_pos (.inr hd8)]
        have HR := Lib.hid hr; clear hr
        have hd9 : decide ((d.length : Int) ≤ 8) = false := by simp; omega
        clear hd0
        go_enter Tryz.func259, Tryz.ntmps259
        go_wp2_with (first | (go_at_call 287; refine (C0.out _).mono ?_; rintro e w1 ⟨rfl, rfl⟩))
        (with_reducible refine (C1.out _).mono ?_)
        rintro e w1 ⟨rfl, rfl⟩
        go_wp2_with (first | (go_at_call 88; refine (fail_ok _).mono ?_; rintro e w1 ⟨rfl, rfl⟩))
        (with_reducible refine (C2.out _).mono ?_)
        rintro e w2 ⟨rfl, rfl⟩
        go_wp2_with (first | (go_at_call 88; refine (fail_bad hE).mono ?_; rintro e w1 ⟨rfl, rfl⟩))
        exact ⟨rfl, post_mk_bad HR.out _ (Below.refl _ _)⟩
      · have hd9 : (d.length : Int) ≤ 8 := by omega
        have hr : refTail 16 d = match number 16 0 d with
            | none => .bad .form
            | some n => if may n then .ok (Lib.encodeRune n) else .bad .form := by unfold refTail; rw [if_neg (by rintro (h | h) <;> contradiction)]
        have HR := Lib.hid hr; clear hr
        clear hd0
        go_enter Tryz.func259, Tryz.ntmps259
        go_wp2_with (first | (go_at_call 287; refine (C0.out _).mono ?_; rintro e w1 ⟨rfl, rfl⟩))
        (with_reducible refine (C1.out _).mono ?_)
        rintro e w1 ⟨rfl, rfl⟩
        go_wp2_with (first | (go_at_call 88; refine (fail_ok _).mono ?_; rintro e w1 ⟨rfl, rfl⟩))
        (with_reducible refine (C2.out _).mono ?_)
        rintro e w2 ⟨rfl, rfl⟩
        go_wp2_with (first | (go_at_call 88; refine (fail_ok _).mono ?_; rintro e w1 ⟨rfl, rfl⟩))
        go_loop [10, 44] (fun nv i => ∃ k m : Nat, k ≤ d.length ∧ i = .int .i64 k ∧ nv = .int .i64 m ∧ number 16 0 (d.take k) = some m ∧ m < 16 ^ k) (fun _ i => d.length - (intOf i).toNat)
        case atStart => exact ⟨0, 0, Nat.zero_le _, rfl, rfl, rfl, by decide⟩
        case round =>
          obtain ⟨k, m, hk, rfl, rfl, hnum, hm⟩ := hrel
          have hm8 : m < 4294967296 := Nat.lt_of_lt_of_le hm (Nat.pow_le_pow_right (by decide) (show k ≤ 8 by omega))
          have HN := Lib.hid hnum; clear hnum
          have HM := Lib.hid hm; clear hm
          by_cases hlt : k < d.length
          · have hlt' : k < (⟨d.toArray⟩ : ByteArray).size := by rw [size_mk]; exact hlt
            have hget : ((⟨d.toArray⟩ : ByteArray)[k]'hlt') = d[k] := rfl
            have HG := Lib.hid hget; clear hget
            have hstep := number_step (base := 16) hlt HN.out
            by_cases hdg : digit d[k] < 16
            · have hdv : dg d[k] = (digit d[k] : Nat) := by unfold dg; rw [if_neg (by omega)]
              have hnew := hstep.1 hdg
              have HNEW := Lib.hid hnew
              have hb2 : m * 16 + digit d[k] < 16 ^ (k + 1) := by
                have h1 := HM.out
                have h2 : 16 ^ (k + 1) = 16 ^ k * 16 := Nat.pow_succ ..
                omega
              have HB2 := Lib.hid hb2
              generalize digit d[k] = q at *
              have HV := Lib.hid hdv
              have hq16 : (q : Int) < 16 := by omega
              clear hdv hnew hb2 hstep hdg
              go_wp2_with (first | (go_at_call 289; refine (lower_any _ _).mono ?_; rintro e w1 ⟨rfl, rfl⟩) | (go_at_call 288; refine (dg_any _ _).mono ?_; rintro e w1 ⟨rfl, rfl⟩; rw [HG.out, HV.out]) | (go_at_call 88; refine (fail_ok _).mono ?_; rintro e w1 ⟨rfl, rfl⟩))
              go_round
              case rel => exact ⟨k + 1, m * 16 + q, by omega, by go_num, by go_num, HNEW.out, HB2.out⟩
              case measure => simp [intOf]; omega
            · have hnone := hstep.2 hdg
              have hbad : refTail 16 d = .bad .form := by rw [HR.out, hnone]
              have HBAD := Lib.hid hbad
              have hdv : dg d[k] = -1 ∨ (((16 : Nat) : Int) ≤ dg d[k] ∧ dg d[k] < 16) := by
                rcases digit_cases d[k] with h | h
                · right; unfold dg; rw [if_neg (by omega)]; omega
                · left; unfold dg; rw [if_pos h]
              clear hbad hnone hstep hdg
              generalize hQ : dg d[k] = q at *
              have HV := Lib.hid hQ
              clear hQ
              rcases hdv with rfl | ⟨hq1, hq2⟩
              · go_wp2_with (first | (go_at_call 289; refine (lower_any _ _).mono ?_; rintro e w1 ⟨rfl, rfl⟩) | (go_at_call 288; refine (dg_any _ _).mono ?_; rintro e w1 ⟨rfl, rfl⟩; rw [HG.out, HV.out]) | (go_at_call 88; refine (fail_bad hE).mono ?_; rintro e w1 ⟨rfl, rfl⟩))
                exact ⟨rfl, post_mk_bad HBAD.out _ (Below.refl _ _)⟩
              · exfalso; omega
          · have hge : d.length ≤ k := by omega
            have hfin : number 16 0 d = some m := by have := HN.out; rwa [List.take_of_length_le hge] at this
            cases hmay : may m with
            | true =>
              have hok : refTail 16 d = .ok (Lib.encodeRune m) := by rw [HR.out, hfin]; simp only [hmay, if_true]
              have HOK := Lib.hid hok
              have hc := fun w => may_wrap hm8 hmay w
              have HC := Lib.hid hc
              have HMAY := Lib.hid hmay
              clear hok hmay hfin hc
              go_wp2_with (first | (go_at_call 77; refine (HC.out _).mono ?_; rintro e w1 ⟨rfl, rfl⟩) | (go_at_call 88; refine (fail_ok _).mono ?_; rintro e w1 ⟨rfl, rfl⟩))
              go_ret
              refine post_mk_ok HOK.out ⟨?_, rfl⟩
              rw [← encode_may HMAY.out]
              rfl
            | false =>
              have hok : refTail 16 d = .bad .form := by rw [HR.out, hfin]; simp only [hmay, Bool.false_eq_true, if_false]
              have HOK := Lib.hid hok
              have hc := fun w => may_wrap hm8 hmay w
              have HC := Lib.hid hc
              clear hok hmay hfin hc
              go_wp2_with (first | (go_at_call 77; refine (HC.out _).mono ?_; rintro e w1 ⟨rfl, rfl⟩) | (go_at_call 88; refine (fail_bad hE).mono ?_; rintro e w1 ⟨rfl, rfl⟩))
              exact ⟨rfl, post_mk_bad HOK.out _ (Below.refl _ _)⟩
  | false =>
    simp only [Bool.false_eq_true, if_false] at hb
    subst hb
    obtain rfl := htd rfl
    clear htd
    by_cases hd0 : d = []
    · subst hd0
      have hr : refTail 10 [] = .bad .form := rfl
      have HR := Lib.hid hr; clear hr
      go_enter Tryz.func259, Tryz.ntmps259
      go_wp2_with (first | (go_at_call 287; refine (C0.out _).mono ?_; rintro e w1 ⟨rfl, rfl⟩))
      (with_reducible refine (C1.out _).mono ?_)
      rintro e w1 ⟨rfl, rfl⟩
      go_wp2_with (first | (go_at_call 88; refine (fail_ok _).mono ?_; rintro e w1 ⟨rfl, rfl⟩))
      (with_reducible refine (C2.out _).mono ?_)
      rintro e w2 ⟨rfl, rfl⟩
      go_wp2_with (first | (go_at_call 88; refine (fail_bad hE).mono ?_; rintro e w1 ⟨rfl, rfl⟩))
      exact ⟨rfl, post_mk_bad HR.out _ (Below.refl _ _)⟩
    · have hd2 : d.isEmpty = false := by simpa using hd0
      have hd1 : (!d.isEmpty) = true := by simpa using hd0
      by_cases hd8 : 8 < d.length
      · have hr : refTail 10 d = .bad .form := by unfold refTail; rw [if_pos (.inr hd8)]
        have HR := Lib.hid hr; clear hr
        have hd9 : decide ((d.length : Int) ≤ 8) = false := by simp; omega
        clear hd0
        go_enter Tryz.func259, Tryz.ntmps259
        go_wp2_with (first | (go_at_call 287; refine (C0.out _).mono ?_; rintro e w1 ⟨rfl, rfl⟩))
        (with_reducible refine (C1.out _).mono ?_)
        rintro e w1 ⟨rfl, rfl⟩
        go_wp2_with (first | (go_at_call 88; refine (fail_ok _).mono ?_; rintro e w1 ⟨rfl, rfl⟩))
        (with_reducible refine (C2.out _).mono ?_)
        rintro e w2 ⟨rfl, rfl⟩
        go_wp2_with (first | (go_at_call 88; refine (fail_bad hE).mono ?_; rintro e w1 ⟨rfl, rfl⟩))
        exact ⟨rfl, post_mk_bad HR.out _ (Below.refl _ _)⟩
      · have hd9 : (d.length : Int) ≤ 8 := by omega
        have hr : refTail 10 d = match number 10 0 d with
            | none => .bad .form
            | some n => if may n then .ok (Lib.encodeRune n) else .bad .form := by unfold refTail; rw [if_neg (by rintro (h | h) <;> contradiction)]
        have HR := Lib.hid hr; clear hr
        clear hd0
        go_enter Tryz.func259, Tryz.ntmps259
        go_wp2_with (first | (go_at_call 287; refine (C0.out _).mono ?_; rintro e w1 ⟨rfl, rfl⟩))
        (with_reducible refine (C1.out _).mono ?_)
        rintro e w1 ⟨rfl, rfl⟩
        go_wp2_with (first | (go_at_call 88; refine (fail_ok _).mono ?_; rintro e w1 ⟨rfl, rfl⟩))
        (with_reducible refine (C2.out _).mono ?_)
        rintro e w2 ⟨rfl, rfl⟩
        go_wp2_with (first | (go_at_call 88; refine (fail_ok _).mono ?_; rintro e w1 ⟨rfl, rfl⟩))
        go_loop [10, 44] (fun nv i => ∃ k m : Nat, k ≤ d.length ∧ i = .int .i64 k ∧ nv = .int .i64 m ∧ number 10 0 (d.take k) = some m ∧ m < 16 ^ k) (fun _ i => d.length - (intOf i).toNat)
        case atStart => exact ⟨0, 0, Nat.zero_le _, rfl, rfl, rfl, by decide⟩
        case round =>
          obtain ⟨k, m, hk, rfl, rfl, hnum, hm⟩ := hrel
          have hm8 : m < 4294967296 := Nat.lt_of_lt_of_le hm (Nat.pow_le_pow_right (by decide) (show k ≤ 8 by omega))
          have HN := Lib.hid hnum; clear hnum
          have HM := Lib.hid hm; clear hm
          by_cases hlt : k < d.length
          · have hlt' : k < (⟨d.toArray⟩ : ByteArray).size := by rw [size_mk]; exact hlt
            have hget : ((⟨d.toArray⟩ : ByteArray)[k]'hlt') = d[k] := rfl
            have HG := Lib.hid hget; clear hget
            have hstep := number_step (base := 10) hlt HN.out
            by_cases hdg : digit d[k] < 10
            · have hdv : dg d[k] = (digit d[k] : Nat) := by unfold dg; rw [if_neg (by omega)]
              have hnew := hstep.1 hdg
              have HNEW := Lib.hid hnew
              have hb2 : m * 10 + digit d[k] < 16 ^ (k + 1) := by
                have h1 := HM.out
                have h2 : 16 ^ (k + 1) = 16 ^ k * 16 := Nat.pow_succ ..
                omega
              have HB2 := Lib.hid hb2
              generalize digit d[k] = q at *
              have HV := Lib.hid hdv
              have hq16 : (q : Int) < 10 := by omega
              clear hdv hnew hb2 hstep hdg
              go_wp2_with (first | (go_at_call 289; refine (lower_any _ _).mono ?_; rintro e w1 ⟨rfl, rfl⟩) | (go_at_call 288; refine (dg_any _ _).mono ?_; rintro e w1 ⟨rfl, rfl⟩; rw [HG.out, HV.out]) | (go_at_call 88; refine (fail_ok _).mono ?_; rintro e w1 ⟨rfl, rfl⟩))
              go_round
              case rel => exact ⟨k + 1, m * 10 + q, by omega, by go_num, by go_num, HNEW.out, HB2.out⟩
              case measure => simp [intOf]; omega
            · have hnone := hstep.2 hdg
              have hbad : refTail 10 d = .bad .form := by rw [HR.out, hnone]
              have HBAD := Lib.hid hbad
              have hdv : dg d[k] = -1 ∨ (((10 : Nat) : Int) ≤ dg d[k] ∧ dg d[k] < 16) := by
                rcases digit_cases d[k] with h | h
                · right; unfold dg; rw [if_neg (by omega)]; omega
                · left; unfold dg; rw [if_pos h]
              clear hbad hnone hstep hdg
              generalize hQ : dg d[k] = q at *
              have HV := Lib.hid hQ
              clear hQ
              rcases hdv with rfl | ⟨hq1, hq2⟩
              · go_wp2_with (first | (go_at_call 289; refine (lower_any _ _).mono ?_; rintro e w1 ⟨rfl, rfl⟩) | (go_at_call 288; refine (dg_any _ _).mono ?_; rintro e w1 ⟨rfl, rfl⟩; rw [HG.out, HV.out]) | (go_at_call 88; refine (fail_bad hE).mono ?_; rintro e w1 ⟨rfl, rfl⟩))
                exact ⟨rfl, post_mk_bad HBAD.out _ (Below.refl _ _)⟩
              · have hq3 : 0 ≤ q := by omega
                have hq4 : decide (q < 10) = false := by simp; omega
                clear hq1
                go_wp2_with (first | (go_at_call 289; refine (lower_any _ _).mono ?_; rintro e w1 ⟨rfl, rfl⟩) | (go_at_call 288; refine (dg_any _ _).mono ?_; rintro e w1 ⟨rfl, rfl⟩; rw [HG.out, HV.out]) | (go_at_call 88; refine (fail_bad hE).mono ?_; rintro e w1 ⟨rfl, rfl⟩))
                exact ⟨rfl, post_mk_bad HBAD.out _ (Below.refl _ _)⟩
          · have hge : d.length ≤ k := by omega
            have hfin : number 10 0 d = some m := by have := HN.out; rwa [List.take_of_length_le hge] at this
            cases hmay : may m with
            | true =>
              have hok : refTail 10 d = .ok (Lib.encodeRune m) := by rw [HR.out, hfin]; simp only [hmay, if_true]
              have HOK := Lib.hid hok
              have hc := fun w => may_wrap hm8 hmay w
              have HC := Lib.hid hc
              have HMAY := Lib.hid hmay
              clear hok hmay hfin hc
              go_wp2_with (first | (go_at_call 77; refine (HC.out _).mono ?_; rintro e w1 ⟨rfl, rfl⟩) | (go_at_call 88; refine (fail_ok _).mono ?_; rintro e w1 ⟨rfl, rfl⟩))
              go_ret
              refine post_mk_ok HOK.out ⟨?_, rfl⟩
              rw [← encode_may HMAY.out]
              rfl
            | false =>
              have hok : refTail 10 d = .bad .form := by rw [HR.out, hfin]; simp only [hmay, Bool.false_eq_true, if_false]
              have HOK := Lib.hid hok
              have hc := fun w => may_wrap hm8 hmay w
              have HC := Lib.hid hc
              clear hok hmay hfin hc
              go_wp2_with (first | (go_at_call 77; refine (HC.out _).mono ?_; rintro e w1 ⟨rfl, rfl⟩) | (go_at_call 88; refine (fail_bad hE).mono ?_; rintro e w1 ⟨rfl, rfl⟩))
              exact ⟨rfl, post_mk_bad HOK.out _ (Below.refl _ _)⟩
theorem reference_any {eb : Nat → Addr} {n0 : Nat} {w : World} (hE : Env eb n0 w) (s : Str) (hl : s.length < 4294967281) :
    Calls Tryz.prog 259 #[.string ⟨s.toArray⟩] w (Post eb (reference s) (RefOk w) (Below w.heap.size w)) := by
  cases hn : named s with
  | some t =>
    have hr : reference s = .ok t := by unfold reference; rw [hn]
    have HR := Lib.hid hr; clear hr
    have c0 := named_any s
    simp only [namedV, hn] at c0
    have C0 := Lib.hid c0
    clear c0 hn
    go_enter Tryz.func259, Tryz.ntmps259
    go_wp2_with (first | (go_at_call 287; refine (C0.out _).mono ?_; rintro e w1 ⟨rfl, rfl⟩))
    go_ret
    exact post_mk_ok HR.out ⟨rfl, rfl⟩
  | none =>
    have hv : namedV s = ([], false) := by unfold namedV; rw [hn]
    by_cases hp : ∃ t, s = 35 :: t
    · obtain ⟨t, rfl⟩ := hp
      have hr : reference (35 :: t) = refTail (if Lib.hasPrefix t [120] then 16 else 10) (Lib.trimPrefix t [120]) := by
        unfold reference refTail
        rw [hn]
        match t with
        | [] => rfl
        | c :: u =>
          by_cases hc : c = 120
          · subst hc
            have h1 : Lib.hasPrefix (120 :: u) [120] = true := by simp [Lib.hasPrefix]
            have h2 : Lib.trimPrefix (120 :: u) [120] = u := by unfold Lib.trimPrefix; rw [if_pos h1]; rfl
            rw [h1, h2]; rfl
          · have h1 : Lib.hasPrefix (c :: u) [120] = false := by simp [Lib.hasPrefix, List.isPrefixOf, Ne.symm hc]
            have h2 : Lib.trimPrefix (c :: u) [120] = c :: u := by unfold Lib.trimPrefix; rw [if_neg (by rw [h1]; simp)]
            rw [h1, h2]
            simp only [Bool.false_eq_true, if_false]
            split
            · rename_i heq; injection heq with h _; exact absurd h hc
            · rfl
      rw [hr]
      refine ref_tail hE (35 :: t) _ t _ _ hv rfl rfl rfl rfl ?_
      unfold Lib.trimPrefix
      split
      · simp only [List.length_drop]; simp at hl; omega
      · simp at hl; omega
    · have hpre : Lib.hasPrefix s [35] = false := by
        match s, hp with
        | [], _ => rfl
        | c :: t, hp => simp only [Lib.hasPrefix, List.isPrefixOf]; simp; intro h; exact hp ⟨t, by rw [h]⟩
      have hr : reference s = .bad .form := by
        unfold reference; rw [hn]
        match s, hp with
        | [], _ => rfl
        | c :: t, hp =>
          have hc : c ≠ 35 := fun h => hp ⟨t, by rw [h]⟩
          simp only
          split
          · rename_i heq; injection heq with h _; exact absurd h hc
          · rfl
      have HR := Lib.hid hr; clear hr hp
      have c0 := named_any s
      simp only [hv] at c0
      have c1 := fun w => Tryz.strings_CutPrefix ⟨s.toArray⟩ ⟨#[35]⟩ w
      simp only [hpre] at c1
      have C0 := Lib.hid c0
      have C1 := Lib.hid c1
      clear c0 c1 hn hv hpre
      go_enter Tryz.func259, Tryz.ntmps259
      go_wp2_with (first | (go_at_call 287; refine (C0.out _).mono ?_; rintro e w1 ⟨rfl, rfl⟩))
      (with_reducible refine (C1.out _).mono ?_)
      rintro e w1 ⟨rfl, rfl⟩
      go_wp2_with (first | (go_at_call 88; refine (fail_bad hE).mono ?_; rintro e w1 ⟨rfl, rfl⟩))
      exact ⟨rfl, post_mk_bad HR.out _ (Below.refl _ _)⟩
end Go.Proofs.YtcmjaaigkbjpaaaGreatDoor.Lia

/- Walks: strings.Builder's writers at this program (copyCheck's own text is cut here: turned from the shelf's forms), for a builder and for a struct that begins with one. -/
namespace Go.Proofs.YtcmjaaigkbjpaaaGreatDoor.Lia
open Go.RowKit

def BT (T : TypeId) : Prop := T = 150 ∨ T = 176
theorem BT.lies {T : TypeId} (h : BT T) : liesAt Tryz.prog Tryz.prog.depth T (2 / Tryz.prog.cellsOf T) 0 150 1 = true := by
  rcases h with rfl | rfl
  · kernel_rfl
  · kernel_rfl
theorem BT.ne5 {T : TypeId} (h : BT T) : T ≠ 5 := by rcases h with rfl | rfl <;> decide
theorem sizeBuilder : (Tryz.prog.info? 150).map (·.size) = some 2 := by kernel_rfl
theorem infoByte : (Tryz.prog.info? 5).map (fun i => (i.zero, i.size, i.bytes)) = some (some (.int .u8 0), 1, 1) := by kernel_rfl

section
variable {T : TypeId} {B b : Nat} {bs : List Value} {w : World}
set_option maxHeartbeats 2000000 in
set_option maxRecDepth 100000 in
theorem copyCheck_fresh (hT : BT T) (h0 : w.cell? ⟨b, 0, none⟩ = some (.pointer none)) (hsh : w.shape? b = some (T, 2)) (hfz : w.frozen? ⟨b, 0, none⟩ = false) :
    Calls Tryz.prog 141 #[.pointer (some ⟨b, 0, none⟩)] w fun e w' => e = .returned (.tuple #[]) ∧ w' = w.setCell ⟨b, 0, none⟩ (.pointer (some ⟨b, 0, none⟩)) := by
  obtain ⟨j, hj, hjs⟩ := Option.map_eq_some_iff.1 sizeBuilder
  have hl := Lib.hid hT.lies
  clear hT
  go_enter Tryz.func141, Tryz.ntmps141
  go_wp2
  rw [Lib.run_to_unsafe w ⟨b, 0, none⟩ Tryz.underlying148 Tryz.underlying274 hj (by rw [hjs]; decide) hsh (Nat.zero_lt_succ 1)]
  simp only [Result.andThen]
  rw [Oper.upon_value]
  go_wp2
  rw [run_callFunc_extern Tryz.func204 (by kernel_rfl) (by kernel_rfl) (by kernel_rfl) (e := Extern.AbiNoEscape.same) (by kernel_rfl)]
  rw [Lib.run_noEscape]
  simp only [Result.andThen]
  rw [Oper.upon_value]
  go_wp2
  rw [Lib.run_from_unsafe w ⟨b, 0, none⟩ Tryz.underlying274 Tryz.underlying148 hj hsh hl.out]
  simp only [Result.andThen]
  rw [Oper.upon_value]
  go_wp2
  go_end0
  exact ⟨rfl, rfl⟩
set_option maxRecDepth 100000 in
theorem copyCheck_used (h0 : w.cell? ⟨b, 0, none⟩ = some (.pointer (some ⟨b, 0, none⟩))) :
    Calls Tryz.prog 141 #[.pointer (some ⟨b, 0, none⟩)] w fun e w' => e = .returned (.tuple #[]) ∧ w' = w := by
  obtain ⟨j, hj, _⟩ := Option.map_eq_some_iff.1 sizeBuilder
  go_enter Tryz.func141, Tryz.ntmps141
  go_wp2
  rw [Lib.run_neq_ptr_same w _ Tryz.underlying148 hj]
  go_wp2
  go_end0
  exact ⟨rfl, rfl⟩
theorem copyCheck_any (hT : BT T) (h : Lib.IsBuilderF T 5 B b bs w) :
    Calls Tryz.prog 141 #[.pointer (some ⟨b, 0, none⟩)] w fun e w' => e = .returned (.tuple #[]) ∧ (Lib.BuilderAtF T 5 B b (.pointer (some ⟨b, 0, none⟩)) bs w' ∧ Below B w w' ∧ Lib.OthersKept 5 (some b) w w') := by
  rcases h with h | h
  · refine (copyCheck_fresh hT h.cell0 h.shape h.frozen0).mono ?_
    rintro e w' ⟨rfl, rfl⟩
    exact ⟨rfl, h.used _, (Below.refl B w).setCell (p := ⟨b, 0, none⟩) h.1 _, (Lib.OthersKept.refl _ _ w).setCell ⟨b, 0, none⟩ rfl _⟩
  · refine (copyCheck_used h.cell0).mono ?_
    rintro e w' ⟨rfl, rfl⟩
    exact ⟨rfl, h, Below.refl B _, Lib.OthersKept.refl _ _ _⟩
set_option maxHeartbeats 2000000 in
set_option maxRecDepth 100000 in
theorem writeString_any (hT : BT T) (s : ByteArray) (h : Lib.IsBuilderF T 5 B b bs w) (hlen : bs.length + s.size ≤ 140737488355328) (hBw : B ≤ w.heap.size) :
    Calls Tryz.prog 79 #[.pointer (some ⟨b, 0, none⟩), .string s] w fun e w' => e = .returned (.tuple #[.int .i64 (s.size : Nat), .nilIface]) ∧ (Lib.BuilderAtF T 5 B b (.pointer (some ⟨b, 0, none⟩)) (bs ++ Lib.strCells s) w' ∧ Below B w w' ∧ Lib.OthersKept 5 (some b) w w') := by
  obtain ⟨i0, hi, hz0, hz1, hz2⟩ := info_parts infoByte
  have hc := copyCheck_any hT h
  have HC := Lib.hid hc
  have HT5 := Lib.hid hT.ne5
  clear hc hT
  go_enter Tryz.func79, Tryz.ntmps79
  go_wp2_with (go_at_call 141; refine HC.out.mono ?_)
  rintro e w1 ⟨rfl, h1, hb1, hk1⟩
  obtain ⟨hB, v, hbk, hown, hne⟩ := h1
  have c0 : w1.cell? ⟨b, 0, none⟩ = some (.pointer (some ⟨b, 0, none⟩)) := by rw [Lib.cell_of_heap hbk]; rfl
  have c1 : w1.cell? ⟨b, 1, none⟩ = some v := by rw [Lib.cell_of_heap hbk]; rfl
  go_wp2_with (at_builtin; refine Lib.wpList_append_own_stringF _ rfl _ _ 64 9 rfl B 5 i0 Tryz.underlying64 Tryz.underlying9 hi hz0 hz1 hz2 _ _ _ rfl hown s rfl ?c3 ?c4 ?c5 ?_)
  case c3 => unfold maxLen; omega
  case c4 => omega
  case c5 => have := hb1.size; omega
  intro v' w2 hown' hgrow _
  have hlt : b < w1.heap.size := by
    rcases Nat.lt_or_ge b w1.heap.size with h' | h'
    · exact h'
    · simp [Array.getElem?_eq_none h'] at hbk
  have hb2 : w2.heap[b]? = some (.cells #[.pointer (some ⟨b, 0, none⟩), v] T (0, 0)) := by
    rw [hgrow.block b hlt (fun e => hne e.symm)]
    exact hbk
  have d0 : w2.cell? ⟨b, 0, none⟩ = some (.pointer (some ⟨b, 0, none⟩)) := by rw [Lib.cell_of_heap hb2]; rfl
  have d1 : w2.cell? ⟨b, 1, none⟩ = some v := by rw [Lib.cell_of_heap hb2]; rfl
  have f1 : w2.frozen? ⟨b, 1, none⟩ = false := Lib.frozen_of_heap hb2 1
  obtain ⟨ao, n', cap, rfl⟩ : ∃ ao n' cap, v' = .slice ao n' cap := by
    rcases hown'.2 with ⟨hv, _⟩ | ⟨g, cap, cur, fz, hv, _⟩
    · exact ⟨_, _, _, hv⟩
    · exact ⟨_, _, _, hv⟩
  go_wp2
  go_ret2
  refine ⟨rfl, ?_, ?_, (hk1.grown hgrow (Lib.ownsRowF_kind hown)).setCell ⟨b, 1, none⟩ rfl _⟩
  · exact Lib.BuilderAtF.put (T := T) (e := 5) hB hb2 (bs' := bs ++ Lib.strCells s) (by simpa [Lib.strCells_length] using hown') HT5.out
  · exact (hb1.grown hgrow (by have := hb1.size; omega) (fun k hk => (hown.lt k hk).1)).setCell (p := ⟨b, 1, none⟩) hB _
set_option maxHeartbeats 2000000 in
set_option maxRecDepth 100000 in
theorem writeRune_any (hT : BT T) (r : Int) (hr0 : -2147483648 ≤ r) (hr1 : r ≤ 2147483647) (h : Lib.IsBuilderF T 5 B b bs w) (hlen : bs.length + 4 ≤ 140737488355328) (hBw : B ≤ w.heap.size) :
    Calls Tryz.prog 80 #[.pointer (some ⟨b, 0, none⟩), .int .i32 r] w fun e w' => e = .returned (.tuple #[.int .i64 ((Lib.runeCells r).length : Nat), .nilIface]) ∧ (Lib.BuilderAtF T 5 B b (.pointer (some ⟨b, 0, none⟩)) (bs ++ Lib.runeCells r) w' ∧ Below B w w' ∧ Lib.OthersKept 5 (some b) w w') := by
  have hk4 := Lib.runeCells_le r
  have hc := copyCheck_any hT h
  have HC := Lib.hid hc
  have HT5 := Lib.hid hT.ne5
  clear hc hT
  go_enter Tryz.func80, Tryz.ntmps80
  go_wp2_with (go_at_call 141; refine HC.out.mono ?_)
  rintro e w1 ⟨rfl, h1, hb1, hk1⟩
  obtain ⟨hB, v, hbk, hown, hne⟩ := h1
  obtain ⟨ao, cap, rfl⟩ : ∃ ao cap, v = .slice ao bs.length cap := by
    rcases hown.2 with ⟨hv, h0⟩ | ⟨g, cap, cur, fz, hv, _⟩
    · exact ⟨none, 0, by rw [hv, h0]⟩
    · exact ⟨_, _, hv⟩
  have c0 : w1.cell? ⟨b, 0, none⟩ = some (.pointer (some ⟨b, 0, none⟩)) := by rw [Lib.cell_of_heap hbk]; rfl
  have c1 : w1.cell? ⟨b, 1, none⟩ = some (.slice ao bs.length cap) := by rw [Lib.cell_of_heap hbk]; rfl
  go_wp2_with (go_at_call 142; refine (Tryz.utf8_AppendRune_row B _ bs.length bs r hr0 hr1 _ hown hlen (by have := hb1.size; omega)).mono ?_)
  rintro e w2 ⟨v', rfl, hown', o, hgrow⟩
  have hlt : b < w1.heap.size := by
    rcases Nat.lt_or_ge b w1.heap.size with h' | h'
    · exact h'
    · simp [Array.getElem?_eq_none h'] at hbk
  have hb2 : w2.heap[b]? = some (.cells #[.pointer (some ⟨b, 0, none⟩), .slice ao bs.length cap] T (0, 0)) := by
    rw [hgrow.block b (by simp; omega) (fun e => hne e.symm), Below.heap_alloc w1 o b hlt]
    exact hbk
  have d0 : w2.cell? ⟨b, 0, none⟩ = some (.pointer (some ⟨b, 0, none⟩)) := by rw [Lib.cell_of_heap hb2]; rfl
  have d1 : w2.cell? ⟨b, 1, none⟩ = some (.slice ao bs.length cap) := by rw [Lib.cell_of_heap hb2]; rfl
  have f1 : w2.frozen? ⟨b, 1, none⟩ = false := Lib.frozen_of_heap hb2 1
  obtain ⟨ao', cap', rfl⟩ : ∃ ao cap, v' = .slice ao (bs.length + (Lib.runeCells r).length) cap := by
    rcases hown'.2 with ⟨hv, h0⟩ | ⟨g, cap, cur, fz, hv, _⟩
    · exact ⟨none, 0, by rw [hv, h0]⟩
    · exact ⟨_, _, hv⟩
  go_wp2
  go_ret2
  refine ⟨?_, ?_, ?_, ((hk1.alloc o).grown hgrow (Lib.ownsRowF_kind (hown.kept (World.grownBy_alloc w1 o none) (by cases ((Value.slice ao bs.length cap).ownBlock) <;> simp)))).setCell ⟨b, 1, none⟩ rfl _⟩
  · show Ending.returned (.tuple #[.int .i64 ((bs.length : Int) + ((Lib.runeCells r).length : Int) - (bs.length : Int)), .nilIface]) = _
    rw [show (bs.length : Int) + ((Lib.runeCells r).length : Int) - (bs.length : Int) = ((Lib.runeCells r).length : Int) from by omega]
  · exact Lib.BuilderAtF.put (T := T) (e := 5) hB hb2 (bs' := bs ++ Lib.runeCells r) (by simpa using hown') HT5.out
  · have hs1 := hb1.size
    exact ((hb1.alloc (by omega) o).grown hgrow (by simp; omega) (fun k hk => (hown.lt k hk).1)).setCell (p := ⟨b, 1, none⟩) hB _
end
end Go.Proofs.YtcmjaaigkbjpaaaGreatDoor.Lia

/- Walks: xml's signs, text. -/
namespace Go.Proofs.YtcmjaaigkbjpaaaGreatDoor.Lia
open Go.RowKit

theorem wrap32_ok (n : Int) (h0 : -2147483648 ≤ n) (h1 : n ≤ 2147483647) : wrap32 n = n := by unfold wrap32; omega
theorem signs_any {eb : Nat → Addr} {n0 : Nat} {w : World} (hE : Env eb n0 w) (s : Str) (hl : s.length < 4294967281) :
    Calls Tryz.prog 162 #[.string ⟨s.toArray⟩] w fun e w' => e = .returned (.bool (signs s)) ∧ Below w.heap.size w w' := by
  have hv := Tryz.utf8_ValidString ⟨s.toArray⟩ w (by rw [size_mk]; omega) hE.tabs
  cases hd : Lib.validD s with
  | false =>
    simp only [hd] at hv
    have hs : signs s = false := by unfold signs; rw [hd]; rfl
    have HS := Lib.hid hs
    have HV := Lib.hid hv
    clear hs hv hd
    go_enter Tryz.func162, Tryz.ntmps162
    go_wp2_with (go_at_call 222; refine HV.out.mono ?_; rintro e w1 ⟨rfl, hb1⟩)
    go_ret
    exact ⟨by rw [HS.out]; rfl, hb1⟩
  | true =>
    simp only [hd] at hv
    have hs : signs s = allMay s.length s := by unfold signs; rw [hd]; rfl
    have HS := Lib.hid hs
    have HV := Lib.hid hv
    clear hs hv hd
    go_enter Tryz.func162, Tryz.ntmps162
    go_wp2_with (go_at_call 222; refine HV.out.mono ?_; rintro e w1 ⟨rfl, hb1⟩)
    have hz1 := hb1.size
    go_loopw [] (fun wr => ∃ (pos fuel : Nat), wr.heap[w1.heap.size]? = some (.stringIter ⟨s.toArray⟩ pos) ∧ Below w1.heap.size w1 wr ∧ allMay fuel (s.drop pos) = allMay s.length s ∧ s.length ≤ pos + fuel) (fun wr => s.length - wr.iterPos w1.heap.size)
    case atStart =>
      exact ⟨0, s.length, World.iter_heap _ _ _, (Below.refl _ w1).alloc (Nat.le_refl _) _, rfl, by omega⟩
    case round =>
      obtain ⟨pos, fuel, hit, hbw, hall, hfu⟩ := hrel
      by_cases hp : pos < s.length
      · have hp' : pos < (⟨s.toArray⟩ : ByteArray).size := by rw [size_mk]; exact hp
        have hnx : ∀ ty, (Instr.next (.pointer (some ⟨w1.heap.size, 0, none⟩)) true ty).run Tryz.prog wr = _ := fun ty => Lib.run_next_any_at wr w1.heap.size ⟨s.toArray⟩ pos ty hit hp'
        have hne : s.drop pos ≠ [] := by intro h; have := congrArg List.length h; simp at this; omega
        have hdb := dec_bounds _ hne
        obtain ⟨f, rfl⟩ : ∃ f, fuel = f + 1 := ⟨fuel - 1, by omega⟩
        rw [allMay_step f _ hne, List.drop_drop] at hall
        rw [dec_drop] at hnx
        rw [List.length_drop] at hdb
        generalize Lib.decodeL (s.drop pos) = q at *
        have hit2 := Lib.iterAt_heap wr w1.heap.size ⟨s.toArray⟩ pos (pos + q.2) hit
        have hbw2 := Lib.below_iterAt hbw (k := w1.heap.size) (Nat.le_refl _) ⟨s.toArray⟩ (pos + q.2)
        cases hm : may q.1 with
        | true =>
          rw [hm, Bool.true_and] at hall
          have HALL := Lib.hid hall
          have hc := fun w => may_wrap (m := q.1) (by omega) hm w
          rw [wrap32_ok _ (by omega) (by omega)] at hc
          have HC := Lib.hid hc
          clear hm hall hc
          go_wp2_with (go_at_call 77; refine (HC.out _).mono ?_; rintro e w2 ⟨rfl, rfl⟩)
          go_roundw
          case rel => exact ⟨pos + q.2, f, hit2, hbw2, HALL.out, by omega⟩
          case measure => simp only [World.iterPos, hit2, hit]; omega
        | false =>
          rw [hm, Bool.false_and] at hall
          have HALL := Lib.hid hall
          have hc := fun w => may_wrap (m := q.1) (by omega) hm w
          rw [wrap32_ok _ (by omega) (by omega)] at hc
          have HC := Lib.hid hc
          clear hm hall hc
          go_wp2_with (go_at_call 77; refine (HC.out _).mono ?_; rintro e w2 ⟨rfl, rfl⟩)
          go_ret
          exact ⟨by rw [HS.out, ← HALL.out]; rfl, hb1.trans (hbw2.mono hz1)⟩
      · have hp' : ¬ pos < (⟨s.toArray⟩ : ByteArray).size := by rw [size_mk]; exact hp
        have hnx : ∀ ty, (Instr.next (.pointer (some ⟨w1.heap.size, 0, none⟩)) true ty).run Tryz.prog wr = _ := fun ty => Lib.run_next_end_at wr w1.heap.size ⟨s.toArray⟩ pos ty hit hp'
        rw [List.drop_eq_nil_of_le (by omega), allMay_nil] at hall
        have HALL := Lib.hid hall
        clear hall
        go_wp2
        go_ret
        exact ⟨by rw [HS.out, ← HALL.out]; rfl, hb1.trans (hbw.mono hz1)⟩
end Go.Proofs.YtcmjaaigkbjpaaaGreatDoor.Lia

/- Walks: xml's text. -/
namespace Go.Proofs.YtcmjaaigkbjpaaaGreatDoor.Lia
open Go.RowKit

theorem cutAt_none {c : UInt8} : ∀ {s a : Str}, cutAt c s = (a, none) → a = s
  | [], a, h => by simp [cutAt] at h; exact h
  | x :: t, a, h => by
    unfold cutAt at h
    split at h
    · simp at h
    · have h2 := congrArg Prod.snd h
      have h1 := congrArg Prod.fst h
      simp only at h1 h2
      have := cutAt_none (c := c) (s := t) (a := (cutAt c t).1) (by rw [← h2])
      rw [← h1, this]
theorem cutAt_some {c : UInt8} : ∀ {s a r : Str}, cutAt c s = (a, some r) → s = a ++ c :: r
  | [], a, r, h => by simp [cutAt] at h
  | x :: t, a, r, h => by
    unfold cutAt at h
    split at h
    · rename_i hx
      simp at h
      rw [h.1, h.2, hx]; rfl
    · have h2 := congrArg Prod.snd h
      have h1 := congrArg Prod.fst h
      simp only at h1 h2
      have := cutAt_some (c := c) (s := t) (a := (cutAt c t).1) (r := r) (by rw [← h2])
      rw [← h1, List.cons_append, ← this]
theorem refTail_len {b : Nat} {d t : Str} (h : refTail b d = .ok t) : t.length ≤ 4 := by
  unfold refTail at h
  split at h
  · cases h
  · split at h
    · cases h
    · rename_i n _
      split at h
      · cases h
        have := Lib.runeCells_le (n : Int)
        rw [Lib.runeCells_length] at this
        exact this.2
      · cases h
theorem reference_len {s t : Str} (h : reference s = .ok t) : t.length ≤ 4 := by
  unfold reference at h
  split at h
  · rename_i x hn
    cases h
    unfold named at hn
    repeat' (split at hn)
    all_goals (cases hn <;> simp)
  · split at h
    · split at h <;> exact refTail_len h
    · cases h
theorem cut_call {eb : Nat → Addr} {n0 : Nat} {w : World} (hE : Env eb n0 w) (c : UInt8) (s : Str) (hl : s.length < 4294967281) :
    Calls Tryz.prog 84 #[.string ⟨s.toArray⟩, .string ⟨#[c]⟩] w fun e w' => e = .returned (.tuple #[.string ⟨(cutAt c s).1.toArray⟩, .string ⟨((cutAt c s).2.getD []).toArray⟩, .bool (cutAt c s).2.isSome]) ∧ ∃ n, w' = w.drewN n := by
  obtain ⟨m, hm⟩ := hE.maxLen
  have hc := Tryz.strings_Cut ⟨s.toArray⟩ ⟨#[c]⟩ m w (by rw [size_mk]; exact hl) hm
  have := cut_cutAt c s
  simp only [this] at hc
  exact hc
theorem isB_drewN {T : TypeId} {B b : Nat} {bs : List Value} {w : World} (h : Lib.IsBuilderF T 5 B b bs w) (n : Nat) : Lib.IsBuilderF T 5 B b bs (w.drewN n) := h
theorem below_dN {B : Nat} {a w : World} (h : Below B a w) (n : Nat) : Below B a (w.drewN n) := ⟨h.os, h.tape, h.output, h.size, h.block⟩
def TextOk (w : World) (x : Str) (e : Ending) (w' : World) : Prop := e = .returned (.string ⟨x.toArray⟩) ∧ Below w.heap.size w w'
theorem text_any {eb : Nat → Addr} {n0 : Nat} {w : World} (hE : Env eb n0 w) (s : Str) (hl : s.length < 4294967281) :
    Calls Tryz.prog 213 #[.string ⟨s.toArray⟩] w (Post eb (text s) (TextOk w) (Below w.heap.size w)) := by
  have hs := signs_any hE s hl
  cases hsg : signs s with
  | false =>
    rw [hsg] at hs
    have ht : text s = .bad .form := by unfold text; rw [hsg]; rfl
    have HT := Lib.hid ht
    have HS := Lib.hid hs
    clear hs ht hsg
    go_enter Tryz.func213, Tryz.ntmps213
    go_wp2_with (first | (go_at_call 162; refine HS.out.mono ?_; rintro e w1 ⟨rfl, hb1⟩) | (go_at_call 88; refine (fail_bad (hE.below hb1)).mono ?_; rintro e w2 ⟨rfl, rfl⟩))
    exact ⟨rfl, post_mk_bad HT.out _ hb1⟩
  | true =>
    rw [hsg] at hs
    have ht : text s = textN (s.length + 1) s := by unfold text; rw [hsg]; rfl
    have HT := Lib.hid ht
    have HS := Lib.hid hs
    clear hs ht hsg
    go_enter Tryz.func213, Tryz.ntmps213
    go_wp2_with (first | (go_at_call 162; refine HS.out.mono ?_; rintro e w1 ⟨rfl, hb1⟩) | (go_at_call 88; refine (fail_ok _).mono ?_; rintro e w2 ⟨rfl, rfl⟩))
    have hE2 := hE.below hb1
    have hbw : Below w.heap.size w (w2.alloc (.cells #[.pointer none, .slice none 0 0] 150)) := hb1.alloc hb1.size _
    have hz2 := hb1.size
    have hn0 := hE2.top
    have hI0 := Lib.IsBuilderF.of (Lib.fresh_isBuilder 150 5 w2)
    have hE3 := hE2.alloc (.cells #[.pointer none, .slice none 0 0] 150)
    have hz3 : w2.heap.size < (w2.alloc (.cells #[.pointer none, .slice none 0 0] 150)).heap.size := by simp
    obtain ⟨W, hW⟩ : ∃ W, w2.alloc (.cells #[.pointer none, .slice none 0 0] 150) = W := ⟨_, rfl⟩
    rw [hW] at hbw hE3 hI0 hz3 ⊢
    clear hW
    generalize w2.heap.size = b at *
    go_loopw [0] (fun v wr => ∃ (r acc : Str) (n : Nat), v = .string ⟨r.toArray⟩ ∧ Lib.IsBuilderF 150 5 b b (Lib.byteCells acc) wr ∧ Below b W wr ∧ ((textN n r).bind fun u => .ok (acc ++ u)) = textN (s.length + 1) s ∧ r.length < n ∧ acc.length + 4 * r.length ≤ 4 * s.length) (fun v _ => match v with | .string x => x.size | _ => 0)
    case atStart =>
      refine ⟨s, [], s.length + 1, rfl, hI0, Below.refl _ _, ?_, by omega, by simp⟩
      cases textN (s.length + 1) s <;> rfl
    case round =>
      obtain ⟨r, acc, n, rfl, hI, hbr, htx, hn, hsz⟩ := hrel
      obtain ⟨n, rfl⟩ : ∃ m, n = m + 1 := ⟨n - 1, by omega⟩
      have hEr := hE3.keep (hbr.mono (by omega))
      have hzr : b ≤ wr.heap.size := by have := hbr.size; omega
      have hc := cut_call hEr 38 r (by omega)
      rcases hq : cutAt 38 r with ⟨a, bh⟩
      simp only [hq] at hc
      cases bh with
      | none =>
        have ha := cutAt_none hq
        subst ha
        have hr : text s = .ok (acc ++ a) := by rw [HT.out, ← htx]; simp [textN, hq, Res.bind]
        have HR := Lib.hid hr
        simp only [Option.getD_none, Option.isSome_none] at hc
        have HC := Lib.hid hc
        clear hr htx hq hc
        go_wp2_with (go_at_call 84; refine HC.out.mono ?_; rintro e w3 ⟨rfl, n3, rfl⟩)
        refine (writeString_any (.inl rfl) _ (isB_drewN hI _) ?_ ?_).mono ?_
        · rw [Lib.byteCells_length, size_mk]; omega
        · simpa using hzr
        rintro e w4 ⟨rfl, h4, b4, k4⟩
        have h5 : Lib.IsBuilderF 150 5 b b (Lib.byteCells (acc ++ a)) w4 := by rw [Lib.byteCells_append]; exact Or.inr h4
        have hz4 : b ≤ w4.heap.size := by have := b4.size; simp at this; omega
        go_wp2_with (go_at_call 81; refine (Tryz.Builder_String_any_k b b (acc ++ a) _ h5 hz4).mono ?_; rintro e w5 ⟨rfl, _, b5, _⟩)
        go_ret
        exact post_mk_ok HR.out ⟨rfl, hbw.trans ((((hbr.trans (below_dN (Below.refl _ _) n3)).trans b4).trans b5).mono hz2)⟩
      | some bh =>
        have hrl := congrArg List.length (cutAt_some hq)
        rw [List.length_append, List.length_cons] at hrl
        simp only [Option.getD_some, Option.isSome_some] at hc
        have HC := Lib.hid hc
        have HTX : Hid ((textN (n + 1) r).bind (fun u => .ok (acc ++ u)) = textN (s.length + 1) s) := htx
        have HQ := Lib.hid hq
        have HRL := Lib.hid hrl
        have hbl : bh.length < r.length := by omega
        have hal : a.length + 1 + bh.length ≤ r.length := by omega
        clear hc htx hq hrl
        go_wp2_with (go_at_call 84; refine HC.out.mono ?_; rintro e w3 ⟨rfl, n3, rfl⟩)
        refine (writeString_any (.inl rfl) _ (isB_drewN hI _) ?_ ?_).mono ?_
        · rw [Lib.byteCells_length, size_mk]; omega
        · simpa using hzr
        rintro e w4 ⟨rfl, h4, b4, k4⟩
        have h5 : Lib.IsBuilderF 150 5 b b (Lib.byteCells (acc ++ a)) w4 := by rw [Lib.byteCells_append]; exact Or.inr h4
        have hz4 : b ≤ w4.heap.size := by have := b4.size; simp at this; omega
        have hE4 : Env eb n0 w4 := (hEr.drewN n3).keep (b4.mono hn0)
        have hbr4 : Below b W w4 := (hbr.trans (below_dN (Below.refl _ _) n3)).trans b4
        have hc2 := cut_call hE4 59 bh (by omega)
        clear h4 k4 b4 hI hbr hEr hzr
        rcases hq2 : cutAt 59 bh with ⟨nm, rest⟩
        simp only [hq2] at hc2
        cases rest with
        | none =>
          have hr : text s = .bad .form := by rw [HT.out, ← HTX.out]; simp [textN, HQ.out, hq2, Res.bind]
          have HR := Lib.hid hr
          simp only [Option.getD_none, Option.isSome_none] at hc2
          have HC2 := Lib.hid hc2
          clear hr hc2 hq2
          go_wp2_with (first | (go_at_call 84; refine HC2.out.mono ?_; rintro e w5 ⟨rfl, n5, rfl⟩) | (go_at_call 88; refine (fail_bad (hE4.drewN _)).mono ?_; rintro e w6 ⟨rfl, rfl⟩))
          exact ⟨rfl, post_mk_bad HR.out _ (hbw.trans ((hbr4.trans (below_dN (Below.refl _ _) _)).mono hz2))⟩
        | some rest =>
          have hrl2 := congrArg List.length (cutAt_some hq2)
          rw [List.length_append, List.length_cons] at hrl2
          have hnl : nm.length + 1 + rest.length ≤ bh.length := by omega
          simp only [Option.getD_some, Option.isSome_some] at hc2
          have HC2 := Lib.hid hc2
          have HQ2 := Lib.hid hq2
          have hrf := fun n => reference_any (hE4.drewN n) nm (by omega)
          have HRF := Lib.hid hrf
          clear hc2 hq2 hrl2 hrf
          cases hre : reference nm with
          | bad k =>
            have hr : text s = .bad k := by rw [HT.out, ← HTX.out]; simp [textN, HQ.out, HQ2.out, hre, Res.bind]
            have HR := Lib.hid hr
            have HRE := Lib.hid hre
            clear hr hre
            go_wp2_with (first | (go_at_call 84; refine HC2.out.mono ?_; rintro e w5 ⟨rfl, n5, rfl⟩) | (go_at_call 88; refine (fail_ok _).mono ?_; rintro e w6 ⟨rfl, rfl⟩) | (go_at_call 259; refine (post_bad HRE.out (HRF.out _)).mono ?_; rintro e w7 ⟨rfl, hbad⟩))
            exact ⟨rfl, post_mk_bad HR.out _ (hbw.trans (((hbr4.trans (below_dN (Below.refl _ _) n5)).trans (hbad.mono (by simpa using hz4))).mono hz2))⟩
          | ok x =>
            have hxl := reference_len hre
            have hnext : ((textN n rest).bind fun u => .ok ((acc ++ a ++ x) ++ u)) = textN (s.length + 1) s := by
              rw [← HTX.out]
              simp only [textN, HQ.out, HQ2.out, hre, Res.bind]
              cases textN n rest <;> simp [List.append_assoc]
            have HNX := Lib.hid hnext
            have HRE := Lib.hid hre
            clear hre hnext
            go_wp2_with (first | (go_at_call 84; refine HC2.out.mono ?_; rintro e w5 ⟨rfl, n5, rfl⟩) | (go_at_call 88; refine (fail_ok _).mono ?_; rintro e w6 ⟨rfl, rfl⟩) | (go_at_call 259; refine (post_ok HRE.out (HRF.out _)).mono ?_; rintro e w7 ⟨rfl, rfl⟩))
            refine (writeString_any (.inl rfl) _ (isB_drewN h5 _) ?_ ?_).mono ?_
            · rw [Lib.byteCells_length, size_mk, List.length_append]; omega
            · simpa using hz4
            rintro e w8 ⟨rfl, h8, b8, k8⟩
            go_wp2
            go_roundw
            case rel =>
              refine ⟨rest, acc ++ a ++ x, n, rfl, ?_, (hbr4.trans (below_dN (Below.refl _ _) n5)).trans b8, HNX.out, by omega, by simp only [List.length_append]; omega⟩
              rw [Lib.byteCells_append]; exact Or.inr h8
            case measure => simp only [size_mk]; omega
end Go.Proofs.YtcmjaaigkbjpaaaGreatDoor.Lia

/- Walks: xml's Escape. -/
namespace Go.Proofs.YtcmjaaigkbjpaaaGreatDoor.Lia
open Go.RowKit

theorem isB_below {T : TypeId} {B b : Nat} {bs : List Value} {W W' : World} (h : Lib.IsBuilderF T 5 B b bs W) (hb : Below W.heap.size W W') : Lib.IsBuilderF T 5 B b bs W' := by
  have key : ∀ p, Lib.BuilderAtF T 5 B b p bs W → Lib.BuilderAtF T 5 B b p bs W' := by
    intro p h
    have hlt := h.lt
    obtain ⟨hB, v, hv, hown, hne⟩ := h
    exact ⟨hB, v, (hb.block b hlt).trans hv, hown.kept (row := none) ⟨hb.os, hb.tape, hb.output, hb.size, fun k hk _ => hb.block k hk⟩ (Classical.em _), hne⟩
  exact h.elim (fun x => .inl (key _ x)) (fun x => .inr (key _ x))
def EscOne (o : Option Str) (w : World) (e : Ending) (w' : World) : Prop := e = .returned (.tuple #[.string ⟨(o.getD []).toArray⟩, .bool o.isSome]) ∧ w' = w
theorem escaped_any (r : Nat) (hr : r ≤ 1114111) (value : Bool) (w : World) : Calls Tryz.prog 78 #[.int .i32 r, .bool value] w (EscOne (escaped r value) w) := by
  have hd9 : Lib.decDigits 9 = [57] := by decide +kernel
  have hd10 : Lib.decDigits 10 = [49, 48] := by decide +kernel
  have i9 := Tryz.strconv_Itoa_small 9 (by omega) w
  have i10 := Tryz.strconv_Itoa_small 10 (by omega) w
  rw [hd9] at i9
  rw [hd10] at i10
  have I9 := Lib.hid i9
  have I10 := Lib.hid i10
  clear i9 i10 hd9 hd10
  by_cases e1 : r = 60
  · subst e1
    go_enter Tryz.func78, Tryz.ntmps78
    go_wp2
    go_ret2
    exact ⟨rfl, rfl⟩
  by_cases e2 : r = 62
  · subst e2
    go_enter Tryz.func78, Tryz.ntmps78
    go_wp2
    go_ret2
    exact ⟨rfl, rfl⟩
  by_cases e3 : r = 38
  · subst e3
    go_enter Tryz.func78, Tryz.ntmps78
    go_wp2
    go_ret2
    exact ⟨rfl, rfl⟩
  by_cases e4 : r = 13
  · subst e4
    go_enter Tryz.func78, Tryz.ntmps78
    go_wp2
    go_ret2
    exact ⟨rfl, rfl⟩
  have b1 : ((r : Int) == 60) = false := beq_eq_false_iff_ne.2 (by omega)
  have b2 : ((r : Int) == 62) = false := beq_eq_false_iff_ne.2 (by omega)
  have b3 : ((r : Int) == 38) = false := beq_eq_false_iff_ne.2 (by omega)
  have b4 : ((r : Int) == 13) = false := beq_eq_false_iff_ne.2 (by omega)
  cases value with
  | false =>
    have he : escaped r false = none := by simp [escaped, e1, e2, e3, e4]
    have HE := Lib.hid he
    clear he e1 e2 e3 e4
    go_enter Tryz.func78, Tryz.ntmps78
    go_wp2
    go_ret2
    exact ⟨by rw [HE.out]; rfl, rfl⟩
  | true =>
    by_cases e5 : r = 34
    · subst e5
      clear e1 e2 e3 e4 b1 b2 b3 b4
      go_enter Tryz.func78, Tryz.ntmps78
      go_wp2
      go_ret2
      exact ⟨rfl, rfl⟩
    by_cases e6 : r = 9
    · subst e6
      clear e1 e2 e3 e4 e5 b1 b2 b3 b4
      go_enter Tryz.func78, Tryz.ntmps78
      go_wp2_with (go_at_call 67; refine I9.out.mono ?_; rintro e w' ⟨rfl, rfl⟩)
      go_ret2
      exact ⟨rfl, rfl⟩
    by_cases e7 : r = 10
    · subst e7
      clear e1 e2 e3 e4 e5 e6 b1 b2 b3 b4
      go_enter Tryz.func78, Tryz.ntmps78
      go_wp2_with (go_at_call 67; refine I10.out.mono ?_; rintro e w' ⟨rfl, rfl⟩)
      go_ret2
      exact ⟨rfl, rfl⟩
    have b5 : ((r : Int) == 34) = false := beq_eq_false_iff_ne.2 (by omega)
    have b6 : ((r : Int) == 9) = false := beq_eq_false_iff_ne.2 (by omega)
    have b7 : ((r : Int) == 10) = false := beq_eq_false_iff_ne.2 (by omega)
    have he : escaped r true = none := by simp [escaped, e1, e2, e3, e4, e5, e6, e7]
    have HE := Lib.hid he
    clear he e1 e2 e3 e4 e5 e6 e7
    go_enter Tryz.func78, Tryz.ntmps78
    go_wp2
    go_ret2
    exact ⟨by rw [HE.out]; rfl, rfl⟩
/-- One round of the plain function. -/
theorem escapeN_step (b : Bool) (n : Nat) (l : Str) (h : l ≠ []) : escapeN b (n + 1) l = escOne b (Lib.decodeL l).1 (Lib.decodeL l).2 ++ escapeN b n (l.drop (Lib.decodeL l).2) := by
  simp [escapeN, h]
theorem escapeN_nil (b : Bool) : ∀ n, escapeN b n [] = []
  | 0 => rfl
  | n + 1 => by simp [escapeN]
theorem decodeGo_ne (s : Str) (h : s ≠ []) : Lib.decodeGo ⟨s.toArray⟩ = Lib.decodeL s := by
  unfold Lib.decodeGo Lib.decodeL
  rw [if_neg]
  rw [size_mk]
  intro e
  exact h (List.eq_nil_of_length_eq_zero e)
theorem escOne_len6 (b : Bool) (r k : Nat) : (escOne b r k).length ≤ 6 := by
  unfold escOne
  split
  · simp
  · exact esc1_len b r
set_option maxHeartbeats 2000000 in
set_option maxRecDepth 100000 in
theorem escape_any {eb : Nat → Addr} {n0 : Nat} {w : World} (hE : Env eb n0 w) (s : Str) (value : Bool) (hl : s.length ≤ 1000000) :
    Calls Tryz.prog 29 #[.string ⟨s.toArray⟩, .bool value] w (TextOk w (escape s value)) := by
  have hI0 := Lib.IsBuilderF.of (Lib.fresh_isBuilder 150 5 w)
  have hE0 := hE.alloc (.cells #[.pointer none, .slice none 0 0] 150)
  have htop := hE.top
  go_enter Tryz.func29, Tryz.ntmps29
  go_wp2_with fail
  obtain ⟨W, hW⟩ : ∃ W, w.alloc (.cells #[.pointer none, .slice none 0 0] 150) = W := ⟨_, rfl⟩
  have hWs : W.heap.size = w.heap.size + 1 := by rw [← hW]; simp
  have hWb : Below w.heap.size w W := by rw [← hW]; exact (Below.refl _ w).alloc (Nat.le_refl _) _
  rw [hW] at hI0 hE0 ⊢
  have hz0 : w.heap.size < W.heap.size := by omega
  go_loopw [] (fun wr => ∃ (pos fuel : Nat) (acc : Str), wr.heap[w.heap.size + 1]? = some (.stringIter ⟨s.toArray⟩ pos) ∧ Below w.heap.size W wr ∧ Lib.IsBuilderF 150 5 w.heap.size w.heap.size (Lib.byteCells acc) wr ∧ acc ++ escapeN value fuel (s.drop pos) = escape s value ∧ s.length ≤ pos + fuel ∧ pos ≤ s.length ∧ acc.length ≤ 6 * pos) (fun wr => s.length - wr.iterPos (w.heap.size + 1))
  case atStart =>
    refine ⟨0, s.length, [], ?_, (Below.refl _ W).alloc (by omega) _, hI0.alloc _, rfl, by omega, by omega, by simp⟩
    have := World.iter_heap W ⟨s.toArray⟩ 0
    rwa [hWs] at this
  case round =>
    obtain ⟨pos, fuel, acc, hit, hbw, hI, hesc, hfu, hpl, hal⟩ := hrel
    have hEr : Env eb n0 wr := hE0.keep (hbw.mono htop)
    by_cases hp : pos < s.length
    · have hp' : pos < (⟨s.toArray⟩ : ByteArray).size := by rw [size_mk]; exact hp
      have hnx : ∀ ty, (Instr.next (.pointer (some ⟨w.heap.size + 1, 0, none⟩)) true ty).run Tryz.prog wr = _ := fun ty => Lib.run_next_any_at wr (w.heap.size + 1) ⟨s.toArray⟩ pos ty hit hp'
      have hne : s.drop pos ≠ [] := by intro h; have := congrArg List.length h; simp at this; omega
      have hdb := dec_bounds _ hne
      have hgo := decodeGo_ne _ hne
      obtain ⟨f, rfl⟩ : ∃ f, fuel = f + 1 := ⟨fuel - 1, by omega⟩
      rw [escapeN_step value f _ hne, List.drop_drop] at hesc
      rw [dec_drop] at hnx
      rw [List.length_drop] at hdb
      have hit2 := fun z => Lib.iterAt_heap wr (w.heap.size + 1) ⟨s.toArray⟩ pos (pos + z) hit
      have hbw2 := fun z => Lib.below_iterAt hbw (k := w.heap.size + 1) (by omega) ⟨s.toArray⟩ (pos + z)
      have hI2 := fun z => hI.iterAt hit (pos + z)
      have hE2 := fun z => hE0.keep ((hbw2 z).mono htop)
      have hdec := fun W' (h : Env eb n0 W') => Tryz.utf8_DecodeRuneInString ⟨(s.drop pos).toArray⟩ W' h.tabs
      rw [hgo] at hdec
      generalize Lib.decodeL (s.drop pos) = q at *
      obtain ⟨r, z⟩ := q
      simp only at hdb hnx hesc hdec
      have hit2 := hit2 z
      have hbw2 := hbw2 z
      have hI2 := hI2 z
      have hE2 := hE2 z
      have hz2 : w.heap.size + 1 < (wr.iterAt (w.heap.size + 1) ⟨s.toArray⟩ (pos + z)).heap.size := (Array.getElem?_eq_some_iff.1 hit2).1
      have hd2 := hdec _ hE2
      have HD := Lib.hid hd2
      have HESC := Lib.hid hesc
      have HGO := Lib.hid hgo
      have HNE := Lib.hid hne
      clear hdec hgo hesc hd2 hne hI hbw hEr
      go_wp2_with fail
      rw [ext_drop s pos]
      refine HD.out.mono ?_
      rintro e w1 ⟨rfl, hb1⟩
      have hit3 := (hb1.block _ hz2).trans hit2
      have hI3 := isB_below hI2 hb1
      have hbw3 : Below w.heap.size W w1 := hbw2.trans (hb1.mono (by omega))
      have hz3 : w.heap.size + 1 < w1.heap.size := (Array.getElem?_eq_some_iff.1 hit3).1
      have HIT := Lib.hid hit3
      have hend : (escOne value r z = []) → ∃ (pos' fuel : Nat) (acc : Str), w1.heap[w.heap.size + 1]? = some (.stringIter ⟨s.toArray⟩ pos') ∧ Below w.heap.size W w1 ∧ Lib.IsBuilderF 150 5 w.heap.size w.heap.size (Lib.byteCells acc) w1 ∧ acc ++ escapeN value fuel (s.drop pos') = escape s value ∧ s.length ≤ pos' + fuel ∧ pos' ≤ s.length ∧ acc.length ≤ 6 * pos' := by
        intro h0
        have he := HESC.out
        rw [h0, List.nil_append] at he
        exact ⟨pos + z, f, acc, HIT.out, hbw3, hI3, he, by omega, by omega, by omega⟩
      have hmea : s.length - w1.iterPos (w.heap.size + 1) < s.length - wr.iterPos (w.heap.size + 1) := by
        simp only [World.iterPos, HIT.out, hit]; omega
      have HEND := Lib.hid hend
      have HMEA := Lib.hid hmea
      clear hend hmea hit3 hit2 hnx hit
      cases hm : may r with
      | false =>
        have hc := fun w => may_wrap (m := r) (by omega) hm w
        rw [wrap32_ok _ (by omega) (by omega)] at hc
        have HC := Lib.hid hc
        have h0 : escOne value r z = [] := by unfold escOne; rw [if_pos (.inr hm)]
        have H0 := Lib.hid h0
        clear hm hc h0
        by_cases h5 : r = 65533
        · subst h5
          by_cases h1 : z = 1
          · subst h1
            go_wp2_with (go_at_call 77; refine (HC.out _).mono ?_; rintro e w2 ⟨rfl, rfl⟩)
            go_roundw
            case rel => exact HEND.out H0.out
            case measure => exact HMEA.out
          · have b1 : ((z : Int) == 1) = false := beq_eq_false_iff_ne.2 (by omega)
            clear h1
            go_wp2_with (go_at_call 77; refine (HC.out _).mono ?_; rintro e w2 ⟨rfl, rfl⟩)
            go_roundw
            case rel => exact HEND.out H0.out
            case measure => exact HMEA.out
        · have b1 : ((r : Int) == 65533) = false := beq_eq_false_iff_ne.2 (by omega)
          clear h5
          go_wp2_with (go_at_call 77; refine (HC.out _).mono ?_; rintro e w2 ⟨rfl, rfl⟩)
          go_roundw
          case rel => exact HEND.out H0.out
          case measure => exact HMEA.out
      | true =>
        have hc := fun w => may_wrap (m := r) (by omega) hm w
        rw [wrap32_ok _ (by omega) (by omega)] at hc
        have HC := Lib.hid hc
        have HM := Lib.hid hm
        clear hm hc
        by_cases hbad : r = 65533 ∧ z = 1
        · have h0 : escOne value r z = [] := by unfold escOne; rw [if_pos (.inl hbad)]
          have H0 := Lib.hid h0
          obtain ⟨rfl, rfl⟩ := hbad
          clear h0
          go_wp2_with (go_at_call 77; refine (HC.out _).mono ?_; rintro e w2 ⟨rfl, rfl⟩)
          go_roundw
          case rel => exact HEND.out H0.out
          case measure => exact HMEA.out
        · have h0 : escOne value r z = esc1 value r := by unfold escOne; rw [if_neg (by rw [HM.out]; simpa using hbad)]; rfl
          have H0 := Lib.hid h0
          have h6 := escOne_len6 value r z
          have hx := escaped_any r hdb.2.2 value w1
          have HEX := Lib.hid hx
          clear h0 hx
          have hz4 : w.heap.size ≤ w1.heap.size := by omega
          have hwr : ∀ (t : Str) (w' : World), esc1 value r = t → Below w.heap.size w1 w' → Lib.OthersKept 5 (some w.heap.size) w1 w' → Lib.BuilderAtF 150 5 w.heap.size w.heap.size (.pointer (some ⟨w.heap.size, 0, none⟩)) (Lib.byteCells acc ++ Lib.byteCells t) w' →
              (∃ (pos' fuel : Nat) (acc : Str), w'.heap[w.heap.size + 1]? = some (.stringIter ⟨s.toArray⟩ pos') ∧ Below w.heap.size W w' ∧ Lib.IsBuilderF 150 5 w.heap.size w.heap.size (Lib.byteCells acc) w' ∧ acc ++ escapeN value fuel (s.drop pos') = escape s value ∧ s.length ≤ pos' + fuel ∧ pos' ≤ s.length ∧ acc.length ≤ 6 * pos') ∧
              s.length - w'.iterPos (w.heap.size + 1) < s.length - wr.iterPos (w.heap.size + 1) := by
            rintro t w' rfl b' k' h'
            have hit4 := k'.iter HIT.out (by omega)
            have hM := HMEA.out
            refine ⟨⟨pos + z, f, acc ++ escOne value r z, hit4, hbw3.trans b', ?_, ?_, by omega, by omega, by rw [List.length_append]; omega⟩, ?_⟩
            · rw [Lib.byteCells_append, H0.out]; exact Or.inr h'
            · rw [List.append_assoc]; exact HESC.out
            · simp only [World.iterPos, HIT.out] at hM
              simp only [World.iterPos, hit4]
              exact hM
          have HWR := Lib.hid hwr
          clear hwr
          by_cases h5 : r = 65533
          · have b1 : ((z : Int) == 1) = false := beq_eq_false_iff_ne.2 (by intro e; exact hbad ⟨h5, by omega⟩)
            subst h5
            have hes : escaped 65533 value = none := by cases value <;> rfl
            have hE1 : esc1 value 65533 = Lib.encodeRune ((65533 : Nat) : Int) := by unfold esc1; rw [hes]
            have hx2 : EscOne (escaped 65533 value) w1 = EscOne none w1 := by rw [hes]
            have HX2 := Lib.hid hx2
            have HE1 := Lib.hid hE1
            clear hes hE1 hx2 hbad
            go_wp2_with (first | (go_at_call 77; refine (HC.out _).mono ?_; rintro e w2 ⟨rfl, rfl⟩) | (go_at_call 78; refine (HX2.out ▸ HEX.out).mono ?_; rintro e w3 ⟨rfl, rfl⟩))
            refine (writeRune_any (.inl rfl) 65533 (by omega) (by omega) hI3 ?_ ?_).mono ?_
            · rw [Lib.byteCells_length]; omega
            · exact hz4
            rintro e w4 ⟨rfl, h4, b4, k4⟩
            go_wp2
            have hfin := HWR.out _ w4 HE1.out b4 k4 (by rw [Lib.byteCells_encodeRune]; exact h4)
            go_roundw
            case rel => exact hfin.1
            case measure => exact hfin.2
          · have b5 : ((r : Int) == 65533) = false := beq_eq_false_iff_ne.2 (by omega)
            clear hbad h5
            cases hes : escaped r value with
            | none =>
              have hE1 : esc1 value r = Lib.encodeRune (r : Int) := by unfold esc1; rw [hes]
              have hx2 : EscOne (escaped r value) w1 = EscOne none w1 := by rw [hes]
              have HX2 := Lib.hid hx2
              have HE1 := Lib.hid hE1
              clear hes hE1 hx2
              go_wp2_with (first | (go_at_call 77; refine (HC.out _).mono ?_; rintro e w2 ⟨rfl, rfl⟩) | (go_at_call 78; refine (HX2.out ▸ HEX.out).mono ?_; rintro e w3 ⟨rfl, rfl⟩))
              refine (writeRune_any (.inl rfl) r (by omega) (by omega) hI3 ?_ ?_).mono ?_
              · rw [Lib.byteCells_length]; omega
              · exact hz4
              rintro e w4 ⟨rfl, h4, b4, k4⟩
              go_wp2
              have hfin := HWR.out _ w4 HE1.out b4 k4 (by rw [Lib.byteCells_encodeRune]; exact h4)
              go_roundw
              case rel => exact hfin.1
              case measure => exact hfin.2
            | some t =>
              have hE1 : esc1 value r = t := by unfold esc1; rw [hes]
              have hx2 : EscOne (escaped r value) w1 = EscOne (some t) w1 := by rw [hes]
              have HX2 := Lib.hid hx2
              have HE1 := Lib.hid hE1
              have ht6 : t.length ≤ 6 := by have := esc1_len value r; rw [hE1] at this; exact this
              clear hes hE1 hx2
              go_wp2_with (first | (go_at_call 77; refine (HC.out _).mono ?_; rintro e w2 ⟨rfl, rfl⟩) | (go_at_call 78; refine (HX2.out ▸ HEX.out).mono ?_; rintro e w3 ⟨rfl, rfl⟩))
              refine (writeString_any (.inl rfl) _ hI3 ?_ ?_).mono ?_
              · rw [Lib.byteCells_length, size_mk]; omega
              · exact hz4
              rintro e w4 ⟨rfl, h4, b4, k4⟩
              go_wp2
              have hfin := HWR.out _ w4 HE1.out b4 k4 h4
              go_roundw
              case rel => exact hfin.1
              case measure => exact hfin.2
    · have hp' : ¬ pos < (⟨s.toArray⟩ : ByteArray).size := by rw [size_mk]; exact hp
      have hnx : ∀ ty, (Instr.next (.pointer (some ⟨w.heap.size + 1, 0, none⟩)) true ty).run Tryz.prog wr = _ := fun ty => Lib.run_next_end_at wr (w.heap.size + 1) ⟨s.toArray⟩ pos ty hit hp'
      rw [List.drop_eq_nil_of_le (by omega), escapeN_nil, List.append_nil] at hesc
      have HESC := Lib.hid hesc
      have hz4 : w.heap.size ≤ wr.heap.size := by have := hbw.size; omega
      clear hesc
      go_wp2_with (go_at_call 81; refine (Tryz.Builder_String_any_k w.heap.size w.heap.size acc _ hI hz4).mono ?_; rintro e w5 ⟨rfl, _, b5, _⟩)
      go_ret
      exact ⟨by rw [HESC.out]; rfl, hWb.trans (hbw.trans b5)⟩
end Go.Proofs.YtcmjaaigkbjpaaaGreatDoor.Lia
