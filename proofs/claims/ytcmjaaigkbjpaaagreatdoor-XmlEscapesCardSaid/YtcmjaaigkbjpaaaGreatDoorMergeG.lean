/- Own texts, merged for the hand-in. -/
import Derived.Test.YtcmjaaigkbjpaaaGreatDoorMergeB
import Derived.Test.YtcmjaaigkbjpaaaGreatDoorPXx3
import Derived.Test.YtcmjaaigkbjpaaaGreatDoorMergeA
import Derived.Test.YtcmjaaigkbjpaaaGreatDoorMergeI
import Derived.Test.YtcmjaaigkbjpaaaGreatDoorMergeF
import Derived.Test.YtcmjaaigkbjpaaaGreatDoorRows
import Derived.Test.YtcmjaaigkbjpaaaGreatDoorShelf
import Derived.ProofKit
import Derived.OpenShut
import Derived.LaidMore
import Derived.Lay
import Derived.PinnedBridge
import Derived.Lib.LaidU8
import Derived.Stop.LaidErr
import Derived.Stop.LaidTwo
import Derived.Stop.Joined
import Derived.Shelf.Vars
import Derived.HandedShaped

/- The document's signs and escapes, as the printed functions reckon them: the plain functions' own answers. -/
namespace Go.Proofs.YtcmjaaigkbjpaaaGreatDoor.Lia
open Go.Lib Go.RowKit Go.Proofs.YtcmjaaigkbjpaaaGreatDoorW.PrintWords

theorem bt_getD (s : Str) (i : Nat) (h : i < s.length) : bt ⟨s.toArray⟩ (i : Int) = ((s.getD i 0).toNat : Int) := by
  rw [bt_list s i h, List.getD_eq_getElem?_getD, List.getElem?_eq_getElem h]; rfl
/-- The end of the document's Sign. -/
def signEnd (least v n : Int) : Option (Int × Int) :=
  if v < least then some (0, 0) else if v > 1114111 then some (0, 0) else if v ≥ 55296 then (if v ≤ 57343 then some (0, 0) else some (v, n)) else some (v, n)
theorem sign_l0_end (k : Nat) (s : ByteArray) (n least v : Int) : PX.liaisonref23_Sign.l0 (k + 1) s n least v n = signEnd least v n := by
  simp only [PX.liaisonref23_Sign.l0]
  rw [if_neg (by omega)]
  rfl
theorem sign_l0_step (k : Nat) (s : Str) (n : Nat) (least v : Int) (i : Nat) (hi : i < n) (hn : n ≤ s.length) (h4 : n ≤ 4) (hv : 0 ≤ v ∧ v ≤ 1114111) :
    PX.liaisonref23_Sign.l0 (k + 1) ⟨s.toArray⟩ n least v i = if (s.getD i 0).toNat < 128 ∨ 191 < (s.getD i 0).toNat then some (0, 0) else PX.liaisonref23_Sign.l0 k ⟨s.toArray⟩ n least (64 * v + (s.getD i 0).toNat - 128) ((i + 1 : Nat) : Int) := by
  have hb := (s.getD i 0).toNat_lt
  simp only [PX.liaisonref23_Sign.l0, size_mk]
  rw [if_pos (by omega), if_pos (by omega), if_pos (by omega), bt_getD s i (by omega)]
  generalize (s.getD i 0).toNat = c at *
  rw [wrap64_ok (c : Int) (by omega) (by omega)]
  by_cases h1 : c < 128
  · rw [if_pos (by omega), if_pos (by omega)]
  · rw [if_neg (by omega)]
    by_cases h2 : 191 < c
    · rw [if_pos (by omega), if_pos (by omega)]
    · rw [if_neg (by omega), if_neg (by omega)]
      rw [wrap64_ok (64 * v) (by omega) (by omega), wrap64_ok (64 * v + c) (by omega) (by omega), wrap64_ok (64 * v + c - 128) (by omega) (by omega), wrap64_ok ((i : Int) + 1) (by omega) (by omega)]
      rfl
/-- What the document's Sign tells. -/
def sR (p : Nat × Nat) : Int × Int := if p.1 = 65533 ∧ p.2 = 1 then (0, 0) else ((p.1 : Int), (p.2 : Int))
def signR (l : Str) : Int × Int := sR (decodeL l)
theorem sR_bad : sR (65533, 1) = (0, 0) := rfl
theorem sR_ok (v k : Nat) (h : 2 ≤ k) : sR (v, k) = ((v : Int), (k : Int)) := by
  unfold sR
  rw [if_neg]
  rintro ⟨_, h2⟩
  simp only at h2
  omega
theorem dN2 (n b0 b1 b2 b3 : Nat) (h : 192 ≤ b0 ∧ b0 < 224) (k1 : b1 < 256) : decodeN n b0 b1 b2 b3 = if 2 ≤ n ∧ 128 ≤ b1 ∧ b1 ≤ 191 ∧ 128 ≤ (b0 - 192) * 64 + (b1 - 128) then ((b0 - 192) * 64 + (b1 - 128), 2) else (65533, 1) := by
  unfold decodeN
  rw [if_neg (by omega)]
  by_cases hc : 2 ≤ n ∧ 128 ≤ b1 ∧ b1 ≤ 191
  · rw [if_pos (by omega)]
    have ev : b0 % 32 * 64 + b1 % 64 = (b0 - 192) * 64 + (b1 - 128) := by omega
    rw [ev]
    by_cases hv : 128 ≤ (b0 - 192) * 64 + (b1 - 128)
    · rw [if_pos hv, if_pos ⟨hc.1, hc.2.1, hc.2.2, hv⟩]
    · rw [if_neg hv, if_neg (fun x => hv x.2.2.2)]
  · rw [if_neg (by omega), if_neg (by omega), if_neg (by omega), if_neg (fun x => hc ⟨x.1, x.2.1, x.2.2.1⟩)]
set_option maxRecDepth 100000 in
theorem dN3 (n b0 b1 b2 b3 : Nat) (h : 224 ≤ b0 ∧ b0 < 240) (k1 : b1 < 256) (k2 : b2 < 256) : decodeN n b0 b1 b2 b3 =
    if 3 ≤ n ∧ 128 ≤ b1 ∧ b1 ≤ 191 ∧ 128 ≤ b2 ∧ b2 ≤ 191 ∧ 2048 ≤ (b0 - 224) * 4096 + (b1 - 128) * 64 + (b2 - 128) ∧ ((b0 - 224) * 4096 + (b1 - 128) * 64 + (b2 - 128) < 55296 ∨ 57344 ≤ (b0 - 224) * 4096 + (b1 - 128) * 64 + (b2 - 128)) then ((b0 - 224) * 4096 + (b1 - 128) * 64 + (b2 - 128), 3) else (65533, 1) := by
  unfold decodeN
  rw [if_neg (by omega), if_neg (by omega)]
  by_cases hc : 3 ≤ n ∧ 128 ≤ b1 ∧ b1 ≤ 191 ∧ 128 ≤ b2 ∧ b2 ≤ 191
  · rw [if_pos (by omega)]
    have ev : b0 % 16 * 4096 + b1 % 64 * 64 + b2 % 64 = (b0 - 224) * 4096 + (b1 - 128) * 64 + (b2 - 128) := by omega
    have hx : (b0 - 224) * 4096 + (b1 - 128) * 64 + (b2 - 128) ≤ 65535 := by omega
    rw [ev]
    generalize (b0 - 224) * 4096 + (b1 - 128) * 64 + (b2 - 128) = v at *
    by_cases hv : 2048 ≤ v ∧ (v < 55296 ∨ 57344 ≤ v)
    · rw [if_pos ⟨hv.1, by omega⟩, if_pos ⟨hc.1, hc.2.1, hc.2.2.1, hc.2.2.2.1, hc.2.2.2.2, hv⟩]
    · rw [if_neg (by omega), if_neg (fun x => hv x.2.2.2.2.2)]
  · rw [if_neg (by omega), if_neg (by omega), if_neg (fun x => hc ⟨x.1, x.2.1, x.2.2.1, x.2.2.2.1, x.2.2.2.2.1⟩)]
set_option maxRecDepth 100000 in
theorem dN4 (n b0 b1 b2 b3 : Nat) (h : 240 ≤ b0 ∧ b0 < 248) (k1 : b1 < 256) (k2 : b2 < 256) (k3 : b3 < 256) : decodeN n b0 b1 b2 b3 =
    if 4 ≤ n ∧ 128 ≤ b1 ∧ b1 ≤ 191 ∧ 128 ≤ b2 ∧ b2 ≤ 191 ∧ 128 ≤ b3 ∧ b3 ≤ 191 ∧ 65536 ≤ (b0 - 240) * 262144 + (b1 - 128) * 4096 + (b2 - 128) * 64 + (b3 - 128) ∧ (b0 - 240) * 262144 + (b1 - 128) * 4096 + (b2 - 128) * 64 + (b3 - 128) ≤ 1114111 then ((b0 - 240) * 262144 + (b1 - 128) * 4096 + (b2 - 128) * 64 + (b3 - 128), 4) else (65533, 1) := by
  unfold decodeN
  rw [if_neg (by omega), if_neg (by omega), if_neg (by omega)]
  by_cases hc : 4 ≤ n ∧ 128 ≤ b1 ∧ b1 ≤ 191 ∧ 128 ≤ b2 ∧ b2 ≤ 191 ∧ 128 ≤ b3 ∧ b3 ≤ 191
  · rw [if_pos (by omega)]
    have ev : b0 % 8 * 262144 + b1 % 64 * 4096 + b2 % 64 * 64 + b3 % 64 = (b0 - 240) * 262144 + (b1 - 128) * 4096 + (b2 - 128) * 64 + (b3 - 128) := by omega
    rw [ev]
    clear ev
    obtain ⟨v, hv0⟩ : ∃ v, v = (b0 - 240) * 262144 + (b1 - 128) * 4096 + (b2 - 128) * 64 + (b3 - 128) := ⟨_, rfl⟩
    rw [← hv0]
    clear hv0
    by_cases hv : 65536 ≤ v ∧ v ≤ 1114111
    · rw [if_pos ⟨hv.1, by omega⟩, if_pos ⟨hc.1, hc.2.1, hc.2.2.1, hc.2.2.2.1, hc.2.2.2.2.1, hc.2.2.2.2.2.1, hc.2.2.2.2.2.2, hv⟩]
    · rw [if_neg (by omega), if_neg (fun x => hv x.2.2.2.2.2.2.2)]
  · rw [if_neg (by omega), if_neg (fun x => hc ⟨x.1, x.2.1, x.2.2.1, x.2.2.2.1, x.2.2.2.2.1, x.2.2.2.2.2.1, x.2.2.2.2.2.2.1⟩)]
theorem sign_j2_short (k : Nat) (s : Str) (n : Nat) (least v : Int) (h : s.length < n) : PX.liaisonref23_Sign.j2 (k + 1) ⟨s.toArray⟩ n least v = some (0, 0) := by
  simp only [PX.liaisonref23_Sign.j2, size_mk]
  rw [if_pos (by omega)]
theorem sign_j2_long (k : Nat) (s : Str) (n : Nat) (least v : Int) (h : n ≤ s.length) : PX.liaisonref23_Sign.j2 (k + 1) ⟨s.toArray⟩ n least v = PX.liaisonref23_Sign.l0 k ⟨s.toArray⟩ n least v ((1 : Nat) : Int) := by
  simp only [PX.liaisonref23_Sign.j2, size_mk]
  rw [if_neg (by omega)]
  rfl
theorem sign_j0 (k : Nat) (s : ByteArray) (c : Int) (b : Bool) : PX.liaisonref23_Sign.j0 (k + 1) s c b = if b = true then PX.liaisonref23_Sign.j2 k s 2 128 (wrap64 (c - 192)) else if c ≥ 224 then PX.liaisonref23_Sign.j1 k s c (decide (c < 240)) else PX.liaisonref23_Sign.j1 k s c false := by
  simp only [PX.liaisonref23_Sign.j0]
theorem sign_j1 (k : Nat) (s : ByteArray) (c : Int) (b : Bool) : PX.liaisonref23_Sign.j1 (k + 1) s c b = if b = true then PX.liaisonref23_Sign.j2 k s 3 2048 (wrap64 (c - 224)) else if c ≥ 240 then (if c < 248 then PX.liaisonref23_Sign.j2 k s 4 65536 (wrap64 (c - 240)) else some (0, 0)) else some (0, 0) := by
  simp only [PX.liaisonref23_Sign.j1]
theorem sign_f (l : Str) (hl : l ≠ []) : PX.liaisonref23_Sign.f 12 ⟨l.toArray⟩ = some (signR l) := by
  have hn : 1 ≤ l.length := List.length_pos_iff.2 hl
  have e0 := bt_getD l 0 hn
  have k0 := (l.getD 0 0).toNat_lt
  have k1 := (l.getD 1 0).toNat_lt
  have k2 := (l.getD 2 0).toNat_lt
  have k3 := (l.getD 3 0).toNat_lt
  unfold PX.liaisonref23_Sign.f signR
  rw [decodeL_N, size_mk, if_pos (by omega)]
  simp only [Int.natCast_zero] at e0
  rw [e0]
  by_cases c1 : (l.getD 0 0).toNat < 128
  · rw [wrap64_ok _ (by omega) (by omega), if_pos (by omega)]
    have : decodeN l.length (l.getD 0 0).toNat (l.getD 1 0).toNat (l.getD 2 0).toNat (l.getD 3 0).toNat = ((l.getD 0 0).toNat, 1) := by unfold decodeN; rw [if_pos c1]
    rw [this]
    unfold sR
    rw [if_neg (by rintro ⟨h, _⟩; simp only at h; omega)]
    rfl
  rw [wrap64_ok _ (by omega) (by omega), if_neg (by omega)]
  by_cases c2 : (l.getD 0 0).toNat < 192
  · rw [if_neg (by omega)]
    have : decodeN l.length (l.getD 0 0).toNat (l.getD 1 0).toNat (l.getD 2 0).toNat (l.getD 3 0).toNat = (65533, 1) := decodeN_bad _ _ _ _ _ (by omega)
    rw [this]
    rw [sign_j0 11, if_neg (by simp), if_neg (by omega), sign_j1 10, if_neg (by simp), if_neg (by omega)]
    rfl
  rw [if_pos (by omega)]
  by_cases c3 : (l.getD 0 0).toNat < 224
  · rw [decide_eq_true (by omega)]
    rw [sign_j0 11, if_pos rfl]
    rw [wrap64_ok _ (by omega) (by omega), dN2 _ _ _ _ _ ⟨by omega, c3⟩ (by omega)]
    by_cases s2 : l.length < 2
    · rw [show (2 : Int) = ((2 : Nat) : Int) from rfl, sign_j2_short _ l 2 _ _ s2, if_neg (by omega)]
      rfl
    · rw [show (2 : Int) = ((2 : Nat) : Int) from rfl, sign_j2_long _ l 2 _ _ (by omega), sign_l0_step _ l 2 _ _ 1 (by omega) (by omega) (by omega) (by omega), sign_l0_end]
      by_cases h1 : (l.getD 1 0).toNat < 128 ∨ 191 < (l.getD 1 0).toNat
      · rw [if_pos h1, if_neg (by omega)]; rfl
      · rw [if_neg h1]
        unfold signEnd
        by_cases h2 : 128 ≤ ((l.getD 0 0).toNat - 192) * 64 + ((l.getD 1 0).toNat - 128)
        · rw [if_neg (by omega), if_neg (by omega), if_neg (by omega), if_pos (by omega), sR_ok _ _ (by omega)]
          congr 2
          omega
        · rw [if_pos (by omega), if_neg (by omega)]; rfl
  rw [decide_eq_false (by omega)]
  rw [sign_j0 11, if_neg (by simp), if_pos (by omega)]
  by_cases c4 : (l.getD 0 0).toNat < 240
  · rw [decide_eq_true (by omega)]
    rw [sign_j1 10, if_pos rfl]
    rw [wrap64_ok _ (by omega) (by omega), dN3 _ _ _ _ _ ⟨by omega, c4⟩ (by omega) (by omega)]
    by_cases s2 : l.length < 3
    · rw [show (3 : Int) = ((3 : Nat) : Int) from rfl, sign_j2_short _ l 3 _ _ s2, if_neg (by omega)]
      rfl
    · rw [show (3 : Int) = ((3 : Nat) : Int) from rfl, sign_j2_long _ l 3 _ _ (by omega), sign_l0_step _ l 3 _ _ 1 (by omega) (by omega) (by omega) (by omega)]
      by_cases h1 : (l.getD 1 0).toNat < 128 ∨ 191 < (l.getD 1 0).toNat
      · rw [if_pos h1, if_neg (by omega)]; rfl
      · rw [if_neg h1, sign_l0_step _ l 3 _ _ (1 + 1) (by omega) (by omega) (by omega) (by omega), sign_l0_end, show (1 + 1 : Nat) = 2 from rfl]
        by_cases h2 : (l.getD 2 0).toNat < 128 ∨ 191 < (l.getD 2 0).toNat
        · rw [if_pos h2, if_neg (by omega)]; rfl
        · rw [if_neg h2]
          unfold signEnd
          by_cases h3 : 2048 ≤ ((l.getD 0 0).toNat - 224) * 4096 + ((l.getD 1 0).toNat - 128) * 64 + ((l.getD 2 0).toNat - 128)
          · rw [if_neg (by omega), if_neg (by omega)]
            by_cases h4 : ((l.getD 0 0).toNat - 224) * 4096 + ((l.getD 1 0).toNat - 128) * 64 + ((l.getD 2 0).toNat - 128) < 55296
            · rw [if_neg (by omega), if_pos (by omega), sR_ok _ _ (by omega)]
              congr 2
              omega
            · rw [if_pos (by omega)]
              by_cases h5 : 57344 ≤ ((l.getD 0 0).toNat - 224) * 4096 + ((l.getD 1 0).toNat - 128) * 64 + ((l.getD 2 0).toNat - 128)
              · rw [if_neg (by omega), if_pos (by omega), sR_ok _ _ (by omega)]
                congr 2
                omega
              · rw [if_pos (by omega), if_neg (by omega)]; rfl
          · rw [if_pos (by omega), if_neg (by omega)]; rfl
  rw [decide_eq_false (by omega)]
  rw [sign_j1 10, if_neg (by simp), if_pos (by omega)]
  by_cases c5 : (l.getD 0 0).toNat < 248
  · rw [if_pos (by omega), wrap64_ok _ (by omega) (by omega), dN4 _ _ _ _ _ ⟨by omega, c5⟩ (by omega) (by omega) (by omega)]
    by_cases s2 : l.length < 4
    · rw [show (4 : Int) = ((4 : Nat) : Int) from rfl, sign_j2_short _ l 4 _ _ s2, if_neg (by omega)]
      rfl
    · rw [show (4 : Int) = ((4 : Nat) : Int) from rfl, sign_j2_long _ l 4 _ _ (by omega), sign_l0_step _ l 4 _ _ 1 (by omega) (by omega) (by omega) (by omega)]
      by_cases h1 : (l.getD 1 0).toNat < 128 ∨ 191 < (l.getD 1 0).toNat
      · rw [if_pos h1, if_neg (by omega)]; rfl
      · rw [if_neg h1, sign_l0_step _ l 4 _ _ (1 + 1) (by omega) (by omega) (by omega) (by omega), show (1 + 1 : Nat) = 2 from rfl]
        by_cases h2 : (l.getD 2 0).toNat < 128 ∨ 191 < (l.getD 2 0).toNat
        · rw [if_pos h2, if_neg (by omega)]; rfl
        · rw [if_neg h2, sign_l0_step _ l 4 _ _ (2 + 1) (by omega) (by omega) (by omega) (by omega), sign_l0_end, show (2 + 1 : Nat) = 3 from rfl]
          by_cases h3 : (l.getD 3 0).toNat < 128 ∨ 191 < (l.getD 3 0).toNat
          · rw [if_pos h3, if_neg (by omega)]; rfl
          · rw [if_neg h3]
            unfold signEnd
            by_cases h4 : 65536 ≤ ((l.getD 0 0).toNat - 240) * 262144 + ((l.getD 1 0).toNat - 128) * 4096 + ((l.getD 2 0).toNat - 128) * 64 + ((l.getD 3 0).toNat - 128)
            · rw [if_neg (by omega)]
              by_cases h5 : ((l.getD 0 0).toNat - 240) * 262144 + ((l.getD 1 0).toNat - 128) * 4096 + ((l.getD 2 0).toNat - 128) * 64 + ((l.getD 3 0).toNat - 128) ≤ 1114111
              · rw [if_neg (by omega), if_pos (by omega), if_neg (by omega), if_pos (by omega), sR_ok _ _ (by omega)]
                congr 2
                omega
              · rw [if_pos (by omega), if_neg (by omega)]; rfl
            · rw [if_pos (by omega), if_neg (by omega)]; rfl
  · rw [if_neg (by omega)]
    have : decodeN l.length (l.getD 0 0).toNat (l.getD 1 0).toNat (l.getD 2 0).toNat (l.getD 3 0).toNat = (65533, 1) := decodeN_bad _ _ _ _ _ (by omega)
    rw [this]
    rfl
theorem may_f (r : Nat) : PX.liaisonref23_May.f (r : Int) = some (may r) := by
  have h := may_iff r
  unfold PX.liaisonref23_May.f
  cases hm : may r with
  | true =>
    rw [hm] at h
    simp only [true_iff] at h
    repeat' split
    all_goals first | rfl | (exfalso; omega) | (simp only [Option.some.injEq, bne_iff_ne]; omega)
  | false =>
    rw [hm] at h
    simp only [Bool.false_eq_true, false_iff] at h
    repeat' split
    all_goals first | rfl | (exfalso; omega) | (simp only [Option.some.injEq, bne_eq_false_iff_eq]; omega)
end Go.Proofs.YtcmjaaigkbjpaaaGreatDoor.Lia

/- The document's Escape, as the printed function reckons it: the plain function's own answer. -/
namespace Go.Proofs.YtcmjaaigkbjpaaaGreatDoor.Lia
open Go.Lib Go.RowKit Go.Proofs.YtcmjaaigkbjpaaaGreatDoorW.PrintWords

theorem sign_fk (l : Str) (hl : l ≠ []) (d : Nat) : PX.liaisonref23_Sign.f (12 + d) ⟨l.toArray⟩ = some (signR l) := by
  induction d with
  | zero => exact sign_f l hl
  | succ d ih => exact PX.liaisonref23_Sign.mono _ _ _ ih
theorem ba_app (a b : Str) : (⟨a.toArray⟩ : ByteArray) ++ (⟨b.toArray⟩ : ByteArray) = ⟨(a ++ b).toArray⟩ := by
  have h : ((⟨a.toArray⟩ : ByteArray) ++ (⟨b.toArray⟩ : ByteArray)).data = (a ++ b).toArray := by
    rw [ByteArray.data_append]
    simp
  cases hh : (⟨a.toArray⟩ : ByteArray) ++ (⟨b.toArray⟩ : ByteArray)
  rw [hh] at h
  exact congrArg ByteArray.mk h
theorem escN_step (b : Bool) (n : Nat) (l : Str) (h : l ≠ []) : escapeN b (n + 1) l = escOne b (decodeL l).1 (decodeL l).2 ++ escapeN b n (l.drop (decodeL l).2) := by
  simp [escapeN, h]
theorem escN_nil (b : Bool) : ∀ n, escapeN b n [] = []
  | 0 => rfl
  | n + 1 => by simp [escapeN]
theorem escOne_len (b : Bool) (r k : Nat) : (escOne b r k).length ≤ 6 := by
  unfold escOne
  split
  · simp
  · exact esc1_len b r
theorem escape_l0 (l : Str) (value : Bool) (hl : l.length ≤ 1000000) : ∀ (n pos : Nat) (acc : Str) (k : Nat), pos ≤ l.length → l.length - pos ≤ n → 3 * n + 20 ≤ k → acc.length ≤ 6 * pos →
    PX.liaisonref23_Escape.l0 k ⟨l.toArray⟩ value ⟨acc.toArray⟩ pos = some ⟨(acc ++ escapeN value n (l.drop pos)).toArray⟩ := by
  intro n
  induction n with
  | zero =>
    intro pos acc k hp hn hk _
    obtain ⟨k, rfl⟩ : ∃ m, k = m + 1 := ⟨k - 1, by omega⟩
    simp only [PX.liaisonref23_Escape.l0, size_mk]
    rw [if_neg (by omega)]
    simp [escapeN]
  | succ n ih =>
    intro pos acc k hp hn hk ha
    obtain ⟨k, rfl⟩ : ∃ m, k = m + 1 := ⟨k - 1, by omega⟩
    by_cases he : pos = l.length
    · simp only [PX.liaisonref23_Escape.l0, size_mk]
      rw [if_neg (by omega), List.drop_eq_nil_of_le (by omega), escN_nil, List.append_nil]
    · have hne : l.drop pos ≠ [] := by intro h; have := congrArg List.length h; simp at this; omega
      have hdb := dec_bounds _ hne
      rw [List.length_drop] at hdb
      have hsg := sign_fk (l.drop pos) hne (k - 12)
      rw [show 12 + (k - 12) = k by omega] at hsg
      have hed : ¬ ((decodeL (l.drop pos)).1 = 65533 ∧ (decodeL (l.drop pos)).2 = 1) → encodeRune ((decodeL (l.drop pos)).1 : Int) = (l.drop pos).take (decodeL (l.drop pos)).2 := encode_decode _ hne
      rw [escN_step value n _ hne, List.drop_drop]
      simp only [PX.liaisonref23_Escape.l0, size_mk]
      rw [if_pos (by omega), if_pos (by omega), if_pos (by omega), Int.toNat_natCast, ext_drop, hsg]
      simp only [Option.bind_some]
      unfold signR sR
      generalize decodeL (l.drop pos) = q at *
      obtain ⟨r, z⟩ := q
      simp only at hdb hed ⊢
      have hol := escOne_len value r z
      have hnext : ∀ m, 3 * n + 20 ≤ m → PX.liaisonref23_Escape.l0 m ⟨l.toArray⟩ value ⟨(acc ++ escOne value r z).toArray⟩ ((pos + z : Nat) : Int) = some ⟨(acc ++ (escOne value r z ++ escapeN value n (l.drop (pos + z)))).toArray⟩ := by
        intro m hm
        rw [ih (pos + z) (acc ++ escOne value r z) m (by omega) (by omega) hm (by rw [List.length_append]; omega), List.append_assoc]
      by_cases hb : r = 65533 ∧ z = 1
      · rw [if_pos hb]
        simp only [if_true]
        have hz : escOne value r z = [] := by unfold escOne; rw [if_pos (.inl hb)]
        rw [hz, List.append_nil] at hnext
        rw [wrap64_ok _ (by omega) (by omega)]
        have := hnext k (by omega)
        rw [hz]
        rw [hb.2] at this ⊢
        exact this
      · rw [if_neg hb]
        have hw : wrap64 ((pos : Int) + (z : Int)) = ((pos + z : Nat) : Int) := by rw [wrap64_ok _ (by omega) (by omega)]; omega
        simp only [hw]
        rw [if_neg (by omega), if_pos (by omega), if_pos (by omega), may_f]
        simp only [Option.bind_some]
        have hx : ∀ m, m = escOne value r z → (⟨acc.toArray⟩ : ByteArray) ++ (⟨m.toArray⟩ : ByteArray) = ⟨(acc ++ escOne value r z).toArray⟩ := by
          rintro m rfl
          exact ba_app _ _
        cases hm : may r with
        | false =>
          have hz : escOne value r z = [] := by unfold escOne; rw [if_pos (.inr hm)]
          rw [if_neg (by simp), if_pos (by omega), hx [] hz.symm]
          exact hnext k (by omega)
        | true =>
          have hz : escOne value r z = esc1 value r := by unfold escOne; rw [if_neg (by rw [hm]; simp only [Bool.true_eq_false, or_false]; exact hb)]; rfl
          rw [if_pos rfl]
          by_cases h60 : r = 60
          · subst h60
            rw [if_pos (by omega), if_pos (by omega), hx [38, 108, 116, 59] (by rw [hz]; rfl)]
            exact hnext k (by omega)
          rw [if_neg (by omega)]
          by_cases h62 : r = 62
          · subst h62
            rw [if_pos (by omega), if_pos (by omega), hx [38, 103, 116, 59] (by rw [hz]; rfl)]
            exact hnext k (by omega)
          rw [if_neg (by omega)]
          by_cases h38 : r = 38
          · subst h38
            rw [if_pos (by omega), if_pos (by omega), hx [38, 97, 109, 112, 59] (by rw [hz]; rfl)]
            exact hnext k (by omega)
          rw [if_neg (by omega)]
          by_cases h13 : r = 13
          · subst h13
            rw [if_pos (by omega), if_pos (by omega), hx [38, 35, 49, 51, 59] (by rw [hz]; rfl)]
            exact hnext k (by omega)
          rw [if_neg (by omega)]
          have hself : ((⟨l.toArray⟩ : ByteArray).extract pos (pos + z)) = ⟨(encodeRune (r : Int)).toArray⟩ := by
            rw [ext_any, hed hb, show pos + z - pos = z by omega]
          obtain ⟨k, rfl⟩ : ∃ m, k = m + 2 := ⟨k - 2, by omega⟩
          rw [Int.toNat_natCast, hself]
          have hes : ((encodeRune (r : Int)).length) ≤ 4 := by
            have := encodeRuneZ_length r
            unfold encodeRune
            rw [List.length_map]
            omega
          cases value with
          | false =>
            have hz2 : escOne false r z = encodeRune (r : Int) := by rw [hz]; simp [esc1, escaped, h60, h62, h38, h13]
            rw [if_neg (by simp)]
            simp only [PX.liaisonref23_Escape.j1, PX.liaisonref23_Escape.j2, size_mk]
            rw [if_neg (by simp), if_neg (by simp), if_neg (by simp), if_neg (by simp), if_pos (by omega), hx _ hz2.symm]
            exact hnext k (by omega)
          | true =>
            rw [if_pos rfl]
            simp only [PX.liaisonref23_Escape.j1, PX.liaisonref23_Escape.j2, size_mk]
            by_cases h34 : r = 34
            · subst h34
              rw [if_pos (by rfl), if_pos (by omega), hx [38, 113, 117, 111, 116, 59] (by rw [hz]; rfl)]
              exact hnext (k + 1) (by omega)
            rw [if_neg (by simp; omega), if_pos trivial]
            by_cases h9 : r = 9
            · subst h9
              rw [if_pos (by rfl), if_pos (by omega), hx [38, 35, 57, 59] (by rw [hz]; rfl)]
              exact hnext k (by omega)
            rw [if_neg (by simp; omega), if_pos trivial]
            by_cases h10 : r = 10
            · subst h10
              rw [if_pos (by omega), if_pos (by omega), hx [38, 35, 49, 48, 59] (by rw [hz]; rfl)]
              exact hnext k (by omega)
            rw [if_neg (by omega)]
            have hz2 : escOne true r z = encodeRune (r : Int) := by rw [hz]; simp [esc1, escaped, h60, h62, h38, h13, h34, h9, h10]
            rw [if_pos (by omega), hx _ hz2.symm]
            exact hnext k (by omega)
theorem escape_f (l : Str) (value : Bool) (hl : l.length ≤ 1000000) : ∃ k, PX.liaisonref23_Escape.f k ⟨l.toArray⟩ value = some ⟨(escape l value).toArray⟩ := by
  refine ⟨3 * l.length + 20, ?_⟩
  unfold PX.liaisonref23_Escape.f
  have := escape_l0 l value hl l.length 0 [] (3 * l.length + 20) (by omega) (by omega) (Nat.le_refl _) (by simp)
  rw [List.drop_zero, List.nil_append] at this
  exact this
end Go.Proofs.YtcmjaaigkbjpaaaGreatDoor.Lia

/- The walk of the law XmlEscapes. -/
namespace Go.Proofs.YtcmjaaigkbjpaaaGreatDoor.Lia
open Go.RowKit Go.Proofs.YtcmjaaigkbjpaaaGreatDoorW.PrintWords PX

set_option maxHeartbeats 2000000 in
set_option maxRecDepth 100000 in
theorem xmlEscapes_any {eb : Nat → Addr} {n0 : Nat} {w : World} (hE : Env eb n0 w) (s : Str) (v : Bool) :
    Calls Tryz.prog 5 #[.string ⟨s.toArray⟩, .bool v] w fun e w' => e = .returned (.bool true) ∧ Below w.heap.size w w' := by
  have ha := alive_any hE
  have HA := Lib.hid ha
  clear ha
  by_cases hl : s.length ≤ 1000
  · have hd : decide ((1000 : Int) < s.length) = false := by simp; omega
    obtain ⟨k, hk⟩ := escape_f s v (by omega)
    have he := fun W (h : Env eb n0 W) => escape_any h s v (by omega)
    have HX := Lib.hid he
    have hr := fun W => liaisonref23_Escape.calls k ⟨s.toArray⟩ v _ W hk
    have HR := Lib.hid hr
    have H := Lib.hid hE
    clear he hr hk hE
    go_enter Tryz.func5, Tryz.ntmps5
    go_wp2_with (first | (go_at_call 28; refine HA.out.mono ?_; rintro e w1 ⟨rfl, hb1⟩))
    refine (HX.out _ (H.out.below hb1)).mono ?_
    rintro e w2 ⟨rfl, hb2⟩
    go_wp2_with fail
    refine (HR.out _).mono ?_
    rintro e w3 ⟨rfl, n, rfl⟩
    go_wp2
    go_ret
    exact ⟨rfl, (hb1.trans (hb2.mono hb1.size)).trans (below_dN (Below.refl _ _) n)⟩
  · have hd : decide ((1000 : Int) < s.length) = true := by simp; omega
    clear hE
    go_enter Tryz.func5, Tryz.ntmps5
    go_wp2_with (first | (go_at_call 28; refine HA.out.mono ?_; rintro e w1 ⟨rfl, hb1⟩))
    go_ret
    exact ⟨rfl, hb1⟩
end Go.Proofs.YtcmjaaigkbjpaaaGreatDoor.Lia

/- What a row's condition gives the walks: package api's errors, the library's tables (Env); a row's frame with the world's shape handed on. -/
namespace Go.Proofs.YtcmjaaigkbjpaaaGreatDoor.Lia
open Go.ChangeShapes Go.WideShapes Go.ChangeAt Go.RowKit

theorem own : ownKnob Tryz.prog.godebug = none := by kernel_rfl
theorem star : "*" ++ "errors.errorString" = "*errors.errorString" := by decide
theorem row337 (u : TypeId) (h : Tryz.prog.typeName? 3 u = some "*errors.errorString") : u = 337 :=
  typeName_ptr_named (nm := "errors.errorString") (by rw [star]; kernel_rfl) (by kernel_rfl) (by decide) u (by rw [star]; exact h)
/-- The listed variables of the rows of layers 23 to 25. -/
def laidL : List (String × DataW Unit) := Rows.xmlEscapesRow.laid
def errNames : List String := ["liaison/api.ErrRange", "liaison/api.ErrShort", "liaison/api.ErrLong", "liaison/api.ErrForm", "liaison/api.ErrCheck", "liaison/api.ErrFull", "liaison/api.ErrPower", "liaison/api.ErrNone", "liaison/api.ErrState", "liaison/api.ErrTwice", "liaison/api.ErrDepth", "liaison/api.ErrExpired", "liaison/api.ErrPanic", "liaison/api.ErrProtocol"]
/-- One of package api's errors, as a listed variable reads. -/
def ErrIs (W : World) (k : Nat) (text : List UInt8) : Prop := ∃ (a : Addr) (s : ByteArray), W.cell? ⟨k, 0, none⟩ = some (.iface 337 (.pointer (some a))) ∧ W.cell? a = some (.string s) ∧ s.data.toList = text ∧ ∃ c t, W.heap[a.block]? = some (.cells c t (0, 0))
theorem errs_two {n0 n1 : String} {text0 text1 : List UInt8} {r : List (String × DataW Unit)} {W : World} {g0 g1 : Nat}
    (h : laidMet Tryz.prog ((n0, .iface "*errors.errorString" (.ptr (.agg [.lit (.string text0)]))) :: (n1, .iface "*errors.errorString" (.ptr (.agg [.lit (.string text1)]))) :: r) W)
    (hg0 : Tryz.prog.globalNamed n0 = some g0) (ht0 : (Tryz.prog.globals[g0]?).map (·.type) = some 37) (hg1 : Tryz.prog.globalNamed n1 = some g1) (ht1 : (Tryz.prog.globals[g1]?).map (·.type) = some 37) :
    ErrIs W g0 text0 ∧ ErrIs W g1 text1 := by
  obtain ⟨a0, a1, s0, s1, c0, c1, t0, t1, hv0, hv1, hc0, hs0, _, hc1, hs1, _, _, hb0, hb1⟩ := laid_sentinels2 h hg0 ht0 hg1 ht1 Tryz.underlying37 row337 Tryz.underlying337 Tryz.underlying359 rfl rfl Tryz.underlying9 (by kernel_rfl) (by kernel_rfl)
  refine ⟨⟨a0, s0, ?_, hc0, hs0, c0, t0, hb0⟩, ⟨a1, s1, ?_, hc1, hs1, c1, t1, hb1⟩⟩
  · simpa using World.var?_cell hg0 hv0 0
  · simpa using World.var?_cell hg1 hv1 0
def errText (k : Nat) : List UInt8 := ([[108, 105, 97, 105, 115, 111, 110, 58, 32, 114, 97, 110, 103, 101], [108, 105, 97, 105, 115, 111, 110, 58, 32, 115, 104, 111, 114, 116], [108, 105, 97, 105, 115, 111, 110, 58, 32, 108, 111, 110, 103], [108, 105, 97, 105, 115, 111, 110, 58, 32, 102, 111, 114, 109], [108, 105, 97, 105, 115, 111, 110, 58, 32, 99, 104, 101, 99, 107], [108, 105, 97, 105, 115, 111, 110, 58, 32, 102, 117, 108, 108], [108, 105, 97, 105, 115, 111, 110, 58, 32, 112, 111, 119, 101, 114], [108, 105, 97, 105, 115, 111, 110, 58, 32, 110, 111, 110, 101], [108, 105, 97, 105, 115, 111, 110, 58, 32, 115, 116, 97, 116, 101], [108, 105, 97, 105, 115, 111, 110, 58, 32, 116, 119, 105, 99, 101], [108, 105, 97, 105, 115, 111, 110, 58, 32, 100, 101, 112, 116, 104], [108, 105, 97, 105, 115, 111, 110, 58, 32, 101, 120, 112, 105, 114, 101, 100], [108, 105, 97, 105, 115, 111, 110, 58, 32, 112, 97, 110, 105, 99], [108, 105, 97, 105, 115, 111, 110, 58, 32, 112, 114, 111, 116, 111, 99, 111, 108]] : List (List UInt8)).getD k []
theorem errText_inj : ∀ i j : Fin 14, errText i.val = errText j.val → i = j := by decide +kernel
theorem errs_all {W : World} (h : laidMet Tryz.prog laidL W) : ∀ k, k < 14 → ErrIs W k (errText k) := by
  have h4 := h.tail.tail.tail.tail
  have p0 := errs_two (g0 := 0) (g1 := 1) (text0 := errText 0) (text1 := errText 1) h4 (by kernel_rfl) (by kernel_rfl) (by kernel_rfl) (by kernel_rfl)
  have h6 := h4.tail.tail
  have p2 := errs_two (g0 := 2) (g1 := 3) (text0 := errText 2) (text1 := errText 3) h6 (by kernel_rfl) (by kernel_rfl) (by kernel_rfl) (by kernel_rfl)
  have h8 := h6.tail.tail
  have p4 := errs_two (g0 := 4) (g1 := 5) (text0 := errText 4) (text1 := errText 5) h8 (by kernel_rfl) (by kernel_rfl) (by kernel_rfl) (by kernel_rfl)
  have h10 := h8.tail.tail
  have p6 := errs_two (g0 := 6) (g1 := 7) (text0 := errText 6) (text1 := errText 7) h10 (by kernel_rfl) (by kernel_rfl) (by kernel_rfl) (by kernel_rfl)
  have h12 := h10.tail.tail
  have p8 := errs_two (g0 := 8) (g1 := 9) (text0 := errText 8) (text1 := errText 9) h12 (by kernel_rfl) (by kernel_rfl) (by kernel_rfl) (by kernel_rfl)
  have h14 := h12.tail.tail
  have p10 := errs_two (g0 := 10) (g1 := 11) (text0 := errText 10) (text1 := errText 11) h14 (by kernel_rfl) (by kernel_rfl) (by kernel_rfl) (by kernel_rfl)
  have h16 := h14.tail.tail
  have p12 := errs_two (g0 := 12) (g1 := 13) (text0 := errText 12) (text1 := errText 13) h16 (by kernel_rfl) (by kernel_rfl) (by kernel_rfl) (by kernel_rfl)
  intro k hk
  match k, hk with
  | 0, _ => exact p0.1
  | 1, _ => exact p0.2
  | 2, _ => exact p2.1
  | 3, _ => exact p2.2
  | 4, _ => exact p4.1
  | 5, _ => exact p4.2
  | 6, _ => exact p6.1
  | 7, _ => exact p6.2
  | 8, _ => exact p8.1
  | 9, _ => exact p8.2
  | 10, _ => exact p10.1
  | 11, _ => exact p10.2
  | 12, _ => exact p12.1
  | 13, _ => exact p12.2
theorem env_of_laid {W : World} (hL : laidMetH Tryz.prog laidL W) (hsh : W.ShapedOpen Tryz.prog) : ∃ eb, Env eb W.heap.size W := by
  rw [MakeChecks.laidMetH_plain _ _ _ (by kernel_rfl)] at hL
  have he := errs_all hL
  obtain ⟨cs23, h23, _, _⟩ := hsh.1 23 (zero := Array.replicate 64 (.int .u8 0)) (t := 336) (of_decide_eq_true (by kernel_rfl)) (show ((begin Tryz.prog (fun _ _ => 0) default).world.heap[23]?).bind Obj.row? = some (Array.replicate 64 (.int .u8 0), 336) by kernel_rfl)
  have hsz : 24 ≤ W.heap.size := (Array.getElem?_eq_some_iff.1 h23).1
  obtain ⟨m, hm⟩ := cell_of_shapedOpen_int (P := Tryz.prog) (g := 20) (t := 3) (zero := #[.int .i64 0]) hsh (of_decide_eq_true (by kernel_rfl)) (by kernel_rfl) rfl (by kernel_rfl) (by kernel_rfl) Tryz.underlying3
  classical
  refine ⟨fun k => if h : k < 14 then Classical.choose (he k h) else ⟨0, 0, none⟩, hsz, Nat.le_refl _, ?_, ?_, ?_, ?_, ⟨m, hm⟩, ?_, ?_⟩
  · intro k hk
    simp only [hk, dif_pos]
    obtain ⟨s, _, hc, _, _⟩ := Classical.choose_spec (he k hk)
    exact World.block_lt_of_cell? _ _ hc
  · intro k hk
    unfold errV
    simp only [hk, dif_pos]
    obtain ⟨s, h0, _⟩ := Classical.choose_spec (he k hk)
    exact h0
  · intro k hk
    simp only [hk, dif_pos]
    obtain ⟨s, _, _, _, hr⟩ := Classical.choose_spec (he k hk)
    exact hr
  · intro i j hi hj e
    simp only [hi, hj, dif_pos] at e
    obtain ⟨s, _, hc, hs, _⟩ := Classical.choose_spec (he i hi)
    obtain ⟨s', _, hc', hs', _⟩ := Classical.choose_spec (he j hj)
    rw [e] at hc
    rw [hc'] at hc
    have := Option.some.inj hc
    simp only [Value.string.injEq] at this
    subst this
    have := errText_inj ⟨i, hi⟩ ⟨j, hj⟩ (hs.symm.trans hs')
    exact congrArg Fin.val this
  · have hF : ("unicode/utf8.first", Lib.firstData) ∈ laidL := by
      have : Rows.laid_unicode_utf8_first = Lib.firstData := Pinned.utf8First_eq
      rw [← this]
      simp [laidL, Rows.xmlEscapesRow]
    have hA : ("unicode/utf8.acceptRanges", Lib.acceptData) ∈ laidL := by
      have : (Rows.laid_unicode_utf8_acceptRanges : DataW Unit) = Lib.acceptData := by kernel_rfl
      rw [← this]
      simp [laidL, Rows.xmlEscapesRow]
    exact utf8Tabs_of_reads (ρ := Tryz.lays197_ren) { Tryz.lays197 with } ⟨by kernel_rfl, by kernel_rfl, by kernel_rfl, by kernel_rfl, by kernel_rfl, by kernel_rfl, by kernel_rfl⟩ (Lib.laidMet.reads hL hF) (Lib.laidMet.reads hL hA)
  · have h2 := hL.tail.tail
    have ht : Lib.TabIs Tryz.prog W "internal/strconv.uint64pow10" .u64 Lib.pow10Tab := by
      refine Lib.tabIs_of_head (g := 21) (t := 326) (e := 306) (n := 20) (by kernel_rfl) (by kernel_rfl) (by kernel_rfl) (by kernel_rfl) (by kernel_rfl) (by kernel_rfl) (rest := laidL.tail.tail.tail) ?_
      exact h2
    intro i hi
    have := ht.cell (g := 21) (by kernel_rfl) i (by have : Lib.pow10Tab.length = 20 := by decide
                                                    omega)
    rw [this]
    simp [Lib.pow10Tab, hi]
/-- A row's frame: what its condition lists, and the world's shape, handed on. -/
theorem returns_laid {H : Type} {enc : TypeId × Value → H} {a : Assume} {C : Checked} {os : Os} {f : FuncId} {fn : Func} {s : ChangeSpec} {conds : List PathCond} {apart fresh handsOn again : Bool} {X : World → Array Value → Prop}
    (hX : ∀ (w w' : World) (args : Array Value), w.heap = w'.heap → X w args → X w' args)
    (own : ownKnob C.prog.godebug = none) (started : os.Started) (noInit : C.prog.inits.idxOf? f = none) (hfn : C.prog.funcs[f]? = some fn)
    (witness : ∃ (w : World) (tape : Tape) (i : Input), w.os = os ∧ (w.forCall tape i).Shaped C.prog ∧ i.vars = [] ∧ Input.okWide C.prog (w.forCall tape i) .any w.heap.size f i ∧
      ((s.pre enc C.prog fn conds apart (w.forCall tape i).memory i.args ∧ X (w.forCall tape i).memory i.args) ∧ sizedMet enc C.prog fn (OpenSpec.ofChange s) apart (w.forCall tape i).memory i.args) ∧ a.holds C.prog (lone (Frame.enter C.prog f i.args .normal) [] (w.forCall tape i)))
    (contract : ∀ (W : World) (base : Nat) (args : Array Value) (ds gs : List (DataW H)) (before : List MemPlace),
      (∀ (j : Nat) t v, fn.params[j]? = some t → args[j]? = some v → Value.okWide C.prog W .any base t v) →
      DataW.Whole enc C.prog fn.params.toList s.vars apart W args.toList ds gs before →
      (DataW.weightsEach C.prog (fn.params.toList ++ s.plain.varTypes C.prog) (ds ++ gs)).all (· ≤ reachBytes) = true → X W args → W.ShapedOpen C.prog →
      Calls C.prog f args W fun e W' => ∃ v, e = .returned v ∧ s.post enc C.prog fn apart fresh handsOn again W args v W') :
    ReturnsInHanded a C os f .any (fun w args => (s.pre enc C.prog fn conds apart w args ∧ X w args) ∧ sizedMet enc C.prog fn (OpenSpec.ofChange s) apart w args) (s.post enc C.prog fn apart fresh handsOn again) := by
  refine returnsInHanded_of_calls own started noInit witness ?_
  intro w tape i _ hsh _ hok hpre _
  obtain ⟨_, _, _, fn', hfn', _, _, _, _, hval⟩ := hok
  have e : fn' = fn := Option.some.inj (hfn'.symm.trans hfn)
  subst e
  obtain ⟨⟨⟨ds, gs, before, hw, _⟩, hx⟩, hz⟩ := hpre
  have hw' := DataW.Whole.of_heap (w' := w.forCall tape i) (by rfl) hw
  refine (contract (w.forCall tape i) w.heap.size i.args ds gs before hval hw' (hz.weights hw) (hX _ _ _ (by rfl) hx) hsh).mono fun e W' ⟨v, he, hp⟩ => ?_
  subst he
  exact ChangeSpec.post_blind hp
end Go.Proofs.YtcmjaaigkbjpaaaGreatDoor.Lia

/- A world that meets the rows' condition (the witness). -/
namespace Go.Proofs.YtcmjaaigkbjpaaaGreatDoor.Lia
open Go.RowKit

theorem wit_zip (os : Os) (args : Array Value) : ((World.laidAll Tryz.prog os laidL).forCall (fun _ _ => 0) ⟨#[], args, []⟩).variablesZipB Tryz.prog = true := by kernel_rfl
theorem wit_rest (os : Os) (args : Array Value) : ((((World.laidAll Tryz.prog os laidL).forCall (fun _ _ => 0) ⟨#[], args, []⟩).heap.toList.drop Tryz.prog.globals.size).take ((begin Tryz.prog (fun _ _ => 0) default).world.heap.size - Tryz.prog.globals.size)) =
    (begin Tryz.prog (fun _ _ => 0) default).world.heap.toList.drop Tryz.prog.globals.size := by kernel_rfl
theorem wit_shaped (os : Os) (args : Array Value) : ((World.laidAll Tryz.prog os laidL).forCall (fun _ _ => 0) ⟨#[], args, []⟩).Shaped Tryz.prog := World.shaped_of_ZipB (wit_zip os args) (wit_rest os args)
theorem wit_fits (os : Os) : (World.holding Tryz.prog os ⟨#[], #[], []⟩).layFits Tryz.prog laidL [] = true := by kernel_rfl
theorem wit_ifaces (os : Os) : (World.holding Tryz.prog os ⟨#[], #[], []⟩).layIfaces Tryz.prog laidL (World.laidAll Tryz.prog os laidL) = true := by kernel_rfl
theorem wit_laid (os : Os) (args : Array Value) : laidMetH Tryz.prog laidL ((World.laidAll Tryz.prog os laidL).forCall (fun _ _ => 0) ⟨#[], args, []⟩).memory := by
  rw [MakeChecks.laidMetH_plain _ _ _ (by kernel_rfl)]
  exact laidMet_laidAll _ (wit_fits os) (wit_ifaces os)
end Go.Proofs.YtcmjaaigkbjpaaaGreatDoor.Lia

/- The law XmlEscapes, lifted: what the row asks of every world. -/
namespace Go.Proofs.YtcmjaaigkbjpaaaGreatDoor
open Go.ChangeShapes Go.WideShapes Go.ChangeAt Go.RowKit Lia
open Go.ChangeMaps (open_string shut_string)

theorem xEsc_ok (os : Os) : Input.okWideB Tryz.prog ((World.laidAll Tryz.prog os laidL).forCall (fun _ _ => 0) ⟨#[], #[.string ⟨#[]⟩, .bool false], []⟩) 5 ⟨#[], #[.string ⟨#[]⟩, .bool false], []⟩ = true := by kernel_rfl
theorem xEsc_pre (os : Os) (H : Type) (enc : TypeId × Value → H) : Rows.xmlEscapesSpec.preB enc Tryz.prog Tryz.f5 [] false ((World.laidAll Tryz.prog os laidL).forCall (fun _ _ => 0) ⟨#[], #[.string ⟨#[]⟩, .bool false], []⟩).memory #[.string ⟨#[]⟩, .bool false] 8 = true := by kernel_rfl
theorem xEsc_sized (os : Os) (H : Type) (enc : TypeId × Value → H) : Rows.xmlEscapesSpec.sizedB enc Tryz.prog Tryz.f5 false ((World.laidAll Tryz.prog os laidL).forCall (fun _ _ => 0) ⟨#[], #[.string ⟨#[]⟩, .bool false], []⟩).memory #[.string ⟨#[]⟩, .bool false] 8 = true := by kernel_rfl
set_option maxRecDepth 100000 in
theorem xmlEscapes_lifted (os : Os) (started : os.Started) (H : Type) (enc : TypeId × Value → H) :
    ReturnsInHanded {} Tryz.checked os 5 .any (fun w args => (Rows.xmlEscapesSpec.pre enc Tryz.prog Tryz.f5 [] false w args ∧ laidMetH Tryz.prog laidL w) ∧ sizedMet enc Tryz.prog Tryz.f5 (OpenSpec.ofChange Rows.xmlEscapesSpec) false w args)
      (Rows.xmlEscapesSpec.post enc Tryz.prog Tryz.f5 false true false false) := by
  refine returns_laid (C := Tryz.checked) (X := fun w _ => laidMetH Tryz.prog laidL w) (fun _ _ _ hh h => h.of_heap hh) own started (by kernel_rfl) Tryz.func5
    (ChangeSpec.witness_shaped (enc := enc) (C := Tryz.checked) (os := os) (X := fun w _ => laidMetH Tryz.prog laidL w) false (World.laidAll Tryz.prog os laidL) #[.string ⟨#[]⟩, .bool false] 8 (World.laidAll_os _ _ _)
      (wit_shaped os _) (xEsc_ok os) (xEsc_pre os H enc) (xEsc_sized os H enc) (wit_laid os _)) ?_
  intro W base args ds gs before hval0 hW _ hL hsh
  have hval : ∀ (j : Nat) t v, Tryz.f5.params[j]? = some t → args[j]? = some v → Value.okWide Tryz.prog W .any base t v := hval0
  have hW' := hW
  obtain ⟨p, q, hA0, hV, rfl, _, _⟩ := hW
  have hA : DataW.TrodAll enc Tryz.prog W 0 (fun _ => true) true Tryz.f5.params.toList args.toList ds p := hA0
  rw [Tryz.params5] at hA hval
  obtain ⟨v0, v1, d0, d1, p0, p1, rfl, rfl, rfl, h0, h1⟩ := trodAll_two hA
  obtain ⟨rfl, rfl⟩ := trodVars_none hV
  obtain ⟨s, rfl, rfl, rfl, hs⟩ := open_string Tryz.underlying9 (hval 0 9 v0 rfl rfl) h0
  obtain ⟨b, rfl, rfl, rfl⟩ := open_bool Tryz.underlying4 (hval 1 4 v1 rfl rfl) h1
  obtain ⟨eb, hE⟩ := env_of_laid hL hsh
  clear hA0 hval0
  simp only [List.append_nil] at hW'
  obtain ⟨l, rfl⟩ : ∃ l : Str, s = ⟨l.toArray⟩ := ⟨s.data.toList, by simp⟩
  refine (xmlEscapes_any hE l b).mono fun e W' ⟨he, hb⟩ => ?_
  subst he
  refine ⟨_, rfl, _, _, _, [], [], [], hW', ?_, ?_, ?_, hb.frame _, fun h => by cases h⟩
  · exact trodAll_mk1 (shut_bool Tryz.underlying4 true)
  · exact trodAll_mk2 (shut_string Tryz.underlying9 hs) (shut_bool Tryz.underlying4 b)
  · rfl
end Go.Proofs.YtcmjaaigkbjpaaaGreatDoor
