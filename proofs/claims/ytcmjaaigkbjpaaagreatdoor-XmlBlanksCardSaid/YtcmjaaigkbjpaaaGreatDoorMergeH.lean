/- Own texts, merged for the hand-in. -/
import Derived.Test.YtcmjaaigkbjpaaaGreatDoorMergeE
import Derived.Test.YtcmjaaigkbjpaaaGreatDoorMergeA
import Derived.Test.YtcmjaaigkbjpaaaGreatDoorMergeF
import Derived.Test.YtcmjaaigkbjpaaaGreatDoorMergeG
import Derived.ChangeSlices
import Derived.Carry

/- Walks: xml's Same at two readings of one tree. -/
namespace Go.Proofs.YtcmjaaigkbjpaaaGreatDoor.Lia
open Go.RowKit Go.Proofs.YtcmjaaigkbjpaaaGreatDoorW.PrintWords PX

theorem eqA_l (l : List S69) (hl : l.length < 4611686018427387904) : ∀ (n k : Nat), k + n = l.length → xml_Attr.l0 (n + 1) l l (l.length : Int) (k : Int) = some true
  | 0, k, h => by
    unfold xml_Attr.l0
    rw [if_neg (by omega)]
  | n + 1, k, h => by
    unfold xml_Attr.l0
    rw [if_pos (by omega), if_pos (by omega), if_pos (by omega), if_pos (by omega), if_neg (by simp)]
    have := eqA_l l hl n (k + 1) (by omega)
    rw [show wrap64 ((k : Int) + 1) = ((k + 1 : Nat) : Int) from by rw [wrap64_ok _ (by omega) (by omega)]; simp]
    exact this
theorem eqA_f (l : List S69) (hl : l.length < 4611686018427387904) : xml_Attr.f (l.length + 1) l l = some true := by
  unfold xml_Attr.f
  rw [if_pos rfl]
  exact eqA_l l hl l.length 0 (by omega)
theorem eqA_any {w : World} {l : List S69} {A A' : Option Addr} {c c' : Nat} (hl : l.length < 4611686018427387904) (h : k69.C w A l.length l) (hc : l.length ≤ c) (h' : k69.C w A' l.length l) (hc' : l.length ≤ c') :
    Calls Tryz.prog 89 #[.slice A l.length c, .slice A' l.length c'] w fun e w' => e = .returned (.bool true) ∧ Below w.heap.size w w' :=
  (xml_Attr.calls (l.length + 1) A c l A' c' l true w h hc h' hc' (eqA_f l hl)).mono fun e w' q => ⟨q.1, q.2.below⟩

theorem alloc_cell {w : World} {p : Addr} {v : Value} (h : w.cell? p = some v) (o : Obj) : (w.alloc o).cell? p = some v :=
  (((Below.refl _ w).alloc (Nat.le_refl _) o).cell (World.block_lt_of_cell? w _ h)).trans h
/-- A tree whose rows are no longer than any machine's. -/
inductive Fits : S28 → Prop
  | mk (x : S28) (h1 : x.f1.length < 4611686018427387904) (h2 : x.f2.length < 4611686018427387904) (h : ∀ k ∈ x.f2, Fits k) : Fits x

/-- Same of two readings of the tree x answers true. -/
def SameAt (x : S28) : Prop := ∀ (w : World) (A1 : Option Addr) (c1 : Nat) (A2 : Option Addr) (c2 : Nat) (B1 : Option Addr) (d1 : Nat) (B2 : Option Addr) (d2 : Nat), k69.C w A1 x.f1.length x.f1 → x.f1.length ≤ c1 → k28.C w A2 x.f2.length x.f2 → x.f2.length ≤ c2 → k69.C w B1 x.f1.length x.f1 → x.f1.length ≤ d1 → k28.C w B2 x.f2.length x.f2 → x.f2.length ≤ d2 →
  Calls Tryz.prog 33 #[.agg #[.string x.f0, .slice A1 x.f1.length c1, .slice A2 x.f2.length c2, .string x.f3], .agg #[.string x.f0, .slice B1 x.f1.length d1, .slice B2 x.f2.length d2, .string x.f3]] w fun e w' => e = .returned (.bool true) ∧ Below w.heap.size w w'

set_option maxHeartbeats 2000000 in
set_option maxRecDepth 100000 in
theorem eqK_any (l : List S28) (hl : l.length < 4611686018427387904) (ih : ∀ x ∈ l, SameAt x) (w : World) (A : Option Addr) (c : Nat) (B : Option Addr) (d : Nat) (hA : k28.C w A l.length l) (hc : l.length ≤ c) (hB : k28.C w B l.length l) (hd : l.length ≤ d) :
    Calls Tryz.prog 90 #[.slice A l.length c, .slice B l.length d, .func (.func 33) #[] #[]] w fun e w' => e = .returned (.bool true) ∧ Below w.heap.size w w' := by
  have IH := Lib.hid ih
  have HA := Lib.hid hA
  have HB := Lib.hid hB
  clear ih hA hB
  have hu28 := Tryz.underlying28
  go_enter Tryz.func90, Tryz.ntmps90
  go_wp2
  go_loopw [17] (fun v wr => ∃ k : Nat, v = .int .i64 k ∧ k ≤ l.length ∧ Below w.heap.size w wr) (fun v _ => l.length - (intOf v).toNat)
  case atStart => exact ⟨0, rfl, Nat.zero_le _, Below.refl _ _⟩
  case round =>
    obtain ⟨k, rfl, hk, hbw⟩ := hrel
    by_cases hlt : k < l.length
    · obtain ⟨ad, A1, c1, A2, c2, rfl, q0, q1, q2, q3, l1, g1, l2, g2⟩ := at_T28 (Kd.C_below HA.out hbw) k (by omega) (by omega)
      obtain ⟨bd, B1, d1, B2, d2, rfl, r0, r1, r2, r3, m1, n1, m2, n2⟩ := at_T28 (Kd.C_below HB.out hbw) k (by omega) (by omega)
      have hget : rd_T28 l k = l[k] := by simp [rd_T28, hlt]
      have hS := IH.out l[k] (List.getElem_mem hlt)
      rw [← hget] at hS
      clear hget
      simp only [Int.toNat_natCast] at q0 q1 q2 q3 r0 r1 r2 r3
      generalize rd_T28 l k = x at *
      have s0 := fun o => alloc_cell r0 o
      have s1 := fun o => alloc_cell r1 o
      have s2 := fun o => alloc_cell r2 o
      have s3 := fun o => alloc_cell r3 o
      go_wp2_with fail
      have hb2 := ((Below.refl _ wr).alloc (Nat.le_refl _) (.cells #[.string x.f0, .slice A1 x.f1.length c1, .slice A2 x.f2.length c2, .string x.f3] 28)).alloc (by simp) (.cells #[.string x.f0, .slice B1 x.f1.length d1, .slice B2 x.f2.length d2, .string x.f3] 28)
      refine (hS _ A1 c1 A2 c2 B1 d1 B2 d2 (Kd.C_below g1 hb2) l1 (Kd.C_below g2 hb2) l2 (Kd.C_below n1 hb2) m1 (Kd.C_below n2 hb2) m2).mono ?_
      rintro e w1 ⟨rfl, hb3⟩
      have hb4 := hbw.trans ((hb2.trans (hb3.mono hb2.size)).mono hbw.size)
      clear hb2 hb3
      go_wp2_with fail
      go_roundw
      case rel => exact ⟨k + 1, by go_num, by omega, hb4⟩
      case measure => simp [intOf]; omega
    · go_wp2_with fail
      go_ret
      exact ⟨rfl, hbw⟩
set_option maxHeartbeats 2000000 in
set_option maxRecDepth 100000 in
theorem same_step (x : S28) (h1 : x.f1.length < 4611686018427387904) (h2 : x.f2.length < 4611686018427387904) (ih : ∀ k ∈ x.f2, SameAt k) : SameAt x := by
  intro w A1 c1 A2 c2 B1 d1 B2 d2 g1 l1 g2 l2 n1 m1 n2 m2
  have hA := fun W (hb : Below w.heap.size w W) => eqA_any h1 (Kd.C_below g1 hb) l1 (Kd.C_below n1 hb) m1
  have hK := fun W (hb : Below w.heap.size w W) => eqK_any x.f2 h2 ih W A2 c2 B2 d2 (Kd.C_below g2 hb) l2 (Kd.C_below n2 hb) m2
  have HA := Lib.hid hA
  have HK := Lib.hid hK
  clear hA hK ih g1 g2 n1 n2
  go_enter Tryz.func33, Tryz.ntmps33
  go_wp2_with fail
  have hb2 := ((Below.refl _ w).alloc (Nat.le_refl _) (.cells #[.string x.f0, .slice A1 x.f1.length c1, .slice A2 x.f2.length c2, .string x.f3] 28)).alloc (by simp) (.cells #[.string x.f0, .slice B1 x.f1.length d1, .slice B2 x.f2.length d2, .string x.f3] 28)
  have hk1 := newBlk w (.cells #[.string x.f0, .slice A1 x.f1.length c1, .slice A2 x.f2.length c2, .string x.f3] 28)
  have hk2 := newBlk (w.alloc (.cells #[.string x.f0, .slice A1 x.f1.length c1, .slice A2 x.f2.length c2, .string x.f3] 28)) (.cells #[.string x.f0, .slice B1 x.f1.length d1, .slice B2 x.f2.length d2, .string x.f3] 28)
  have hs1 : (w.alloc (.cells #[.string x.f0, .slice A1 x.f1.length c1, .slice A2 x.f2.length c2, .string x.f3] 28)).heap.size = w.heap.size + 1 := by simp
  rw [hs1] at hk2
  have hk1' := keepBlkB hk1 ((Below.refl _ _).alloc (Nat.le_refl _) (.cells #[.string x.f0, .slice B1 x.f1.length d1, .slice B2 x.f2.length d2, .string x.f3] 28))
  refine (HA.out _ hb2).mono ?_
  rintro e w1 ⟨rfl, hb3⟩
  have j1 := keepBlkB hk1' hb3
  have j2 := keepBlkB hk2 hb3
  have hb4 := hb2.trans (hb3.mono hb2.size)
  clear hb2 hb3 hk1 hk2 hk1' hs1
  have q2 := blk_cell j1 2
  have r2 := blk_cell j2 2
  clear j1 j2
  go_wp2_with fail
  refine (HK.out _ hb4).mono ?_
  rintro e w2 ⟨rfl, hb5⟩
  go_wp2_with fail
  go_ret
  exact ⟨rfl, hb4.trans (hb5.mono hb4.size)⟩
theorem same_any {x : S28} (h : Fits x) : SameAt x := by
  induction h with
  | mk x h1 h2 _ ih => exact same_step x h1 h2 ih
end Go.Proofs.YtcmjaaigkbjpaaaGreatDoor.Lia

/- A tree that is right and whose text isn't long has rows no longer than that. -/
namespace Go.Proofs.YtcmjaaigkbjpaaaGreatDoor.Lia
open Go.RowKit Go.Proofs.YtcmjaaigkbjpaaaGreatDoorW.PrintWords PX

theorem writes_mem {k : Elem} : ∀ {ks : List Elem}, k ∈ ks → (write k).length ≤ (writes ks).length
  | x :: t, h => by
    rw [writes_cons, List.length_append]
    rcases List.mem_cons.1 h with rfl | h
    · omega
    · have := writes_mem h
      omega
theorem fits_text (t : Str) (al : List (Str × Str)) (ha : al = []) (ks : List Elem) (hk : ks = []) (n : Str) : Fits (toE (.mk n al ks t)) := by
  subst ha hk
  refine .mk _ (by simp [toE]) (by simp [toE, toEs]) ?_
  intro k hk
  simp [toE, toEs] at hk
mutual
theorem fits_right : ∀ (d : Nat) (e : Elem), right d e = true → (write e).length < 4611686018427387904 → Fits (toE e)
  | 0, e, h, _ => by simp [right] at h
  | d + 1, .mk n al ks t, h, hl => by
    have hn : n ≠ [] := name_ne (right_name h)
    obtain ⟨h1, h2, h3, h4, h5⟩ := right_succ d n al ks t h
    have hw := congrArg List.length (write_el n al ks t hn [])
    have hk := kids_len d ks false h5
    have hwl : ks.isEmpty = false → (writes ks).length ≤ (write (.mk n al ks t)).length := by
      intro he
      simp only [write, if_neg hn, he]
      simp
      omega
    have hks : (toEs ks).length = ks.length := by rw [toEs_map]; simp
    refine .mk _ (by simp only [toE, List.length_map]; omega) ?_ ?_
    · simp only [toE, hks]
      cases he : ks.isEmpty with
      | true => rw [List.isEmpty_iff.1 he]; simp
      | false => have := hwl he; omega
    · simp only [toE]
      cases he : ks.isEmpty with
      | true => rw [List.isEmpty_iff.1 he]; intro k hk; simp [toEs] at hk
      | false => exact fits_kids d ks false h5 (by have := hwl he; omega)
theorem fits_kids : ∀ (d : Nat) (ks : List Elem) (b : Bool), rightKids d b ks = true → (writes ks).length < 4611686018427387904 → ∀ k ∈ toEs ks, Fits k
  | _, [], _, _, _ => by intro k hk; simp [toEs] at hk
  | d, x :: t, b, h, hl => by
    rw [writes_cons, List.length_append] at hl
    intro k hk
    simp only [toEs, List.mem_cons] at hk
    have hh := h
    simp only [rightKids, Bool.and_eq_true] at hh
    rcases hk with rfl | hk
    · by_cases hx : x.name ≠ []
      · rw [if_pos hx] at hh
        exact fits_right d x hh.1 (by omega)
      · rw [if_neg hx] at hh
        obtain ⟨n, al, ks, tt⟩ := x
        have h1 := hh.1
        simp only [Elem.attrs, Elem.kids, Bool.not_eq_true', Bool.or_eq_false_iff] at h1
        exact fits_text tt al (by have := h1.1.1.2; simpa using this) ks (by have := h1.1.2; simpa using this) n
    · exact fits_kids d t _ hh.2 (by omega) k hk
end
theorem fits_toText {e : Elem} {s : Str} (h : toText e = .ok s) : Fits (toE e) := by
  unfold toText at h
  split at h
  · split at h
    · exact fits_right 12 e ‹_› (by omega)
    · cases h
  · cases h
theorem fits_parse {e : Elem} {s : Str} (h : parse s = .ok e) : Fits (toE e) := by
  unfold parse at h
  split at h
  · cases h
  · obtain ⟨⟨e', r⟩, h1, h2⟩ := bind_is h
    have h3 : (if r = [] then Res.ok e' else .bad .form) = Res.ok e := h2
    by_cases hr : r = []
    · rw [if_pos hr] at h3
      cases h3
      have := element_is 12 s _ r h1
      exact fits_right 12 _ this.1 (by omega)
    · rw [if_neg hr] at h3
      cases h3
end Go.Proofs.YtcmjaaigkbjpaaaGreatDoor.Lia

/- The walk of the law XmlBlanks. -/
namespace Go.Proofs.YtcmjaaigkbjpaaaGreatDoor.Lia
open Go.RowKit Go.Proofs.YtcmjaaigkbjpaaaGreatDoorW.PrintWords PX

/-- The blank of a byte. -/
def blankOf (m : Nat) : UInt8 := if m % 4 = 0 then 32 else if m % 4 = 1 then 9 else if m % 4 = 2 then 10 else 13
theorem blankOf_is (m : Nat) : isBlank (blankOf m) = true := by
  unfold blankOf
  split
  · rfl
  split
  · rfl
  split <;> rfl
def gapOf (ms : List Nat) : Str := ms.map blankOf

theorem mk_app (a b : Str) : (⟨a.toArray⟩ : ByteArray) ++ (⟨b.toArray⟩ : ByteArray) = ⟨(a ++ b).toArray⟩ := by
  have h : ((⟨a.toArray⟩ : ByteArray) ++ (⟨b.toArray⟩ : ByteArray)).data = (a ++ b).toArray := by
    rw [ByteArray.data_append]
    simp
  cases hh : (⟨a.toArray⟩ : ByteArray) ++ (⟨b.toArray⟩ : ByteArray)
  rw [hh] at h
  exact congrArg ByteArray.mk h
theorem plain_reads {n v : Str} {w : World} {base : Nat} {ok : Nat → Prop} {A1 A2 : Option Addr} {c1 c2 : Nat} (h : k28.M w base ok (toE (.mk n [([107], v)] [] [])) (elV (toE (.mk n [([107], v)] [] [])) A1 c1 A2 c2)) :
    k69.C w A1 1 [⟨⟨#[107]⟩, ⟨v.toArray⟩⟩] ∧ 1 ≤ c1 ∧ k28.C w A2 0 [] ∧ 0 ≤ c2 := by
  obtain ⟨B1, d1, B2, d2, e, l1, g1, l2, g2⟩ := k28_open (k28.K_of_M h)
  simp only [elV, List.cons.injEq, Value.slice.injEq] at e
  obtain ⟨_, ⟨rfl, _, rfl⟩, ⟨rfl, _, rfl⟩, _⟩ := e
  exact ⟨g1, l1, g2, l2⟩
theorem plain_name {v : Str} {w : World} {A : Option Addr} (h : k69.C w A 1 [⟨⟨#[107]⟩, ⟨v.toArray⟩⟩]) : ∃ ad, A = some ad ∧ w.cell? ad = some (.string ⟨#[107]⟩) := by
  obtain ⟨ad, e, q0, _⟩ := at_T69 h 0 (by omega) (by decide)
  exact ⟨ad, e, by simpa [Addr.add, rd_T69] using q0⟩
set_option maxHeartbeats 4000000 in
set_option maxRecDepth 100000 in
theorem xmlBlanks_any {eb : Nat → Addr} {n0 : Nat} {w : World} (hE : Env eb n0 w) (n v : Str) (A : Option Addr) (c : Nat) (ms : List Nat) (hms : ∀ m ∈ ms, m < 256) (hC : ∀ i, i < ms.length → ∃ ad, A = some ad ∧ w.cell? (ad.add i) = some (.int .u8 (ms.getD i 0 : Nat))) (hc : ms.length ≤ c) :
    Calls Tryz.prog 6 #[.string ⟨n.toArray⟩, .string ⟨v.toArray⟩, .slice A ms.length c] w fun e w' => e = .returned (.bool true) ∧ Below w.heap.size w w' := by
  have ha := alive_any hE
  have HA := Lib.hid ha
  clear ha
  by_cases hl1 : n.length ≤ 100
  · by_cases hl2 : v.length ≤ 200
    · by_cases hl3 : ms.length ≤ 20
      · have hd1 : decide ((100 : Int) < n.length) = false := by simp; omega
        have hd2 : decide ((200 : Int) < v.length) = false := by simp; omega
        have hd3 : decide ((20 : Int) < ms.length) = false := by simp; omega
        cases hn : name n with
        | false =>
          have hN := fun W (h : Env eb n0 W) => name_any (s := n) h (by omega)
          rw [hn] at hN
          have HN := Lib.hid hN
          have H := Lib.hid hE
          clear hN hE hC
          go_enter Tryz.func6, Tryz.ntmps6
          go_wp2_with (first | (go_at_call 28; refine HA.out.mono ?_; rintro e w1 ⟨rfl, hb1⟩) | (go_at_call 31; refine (HN.out _ (H.out.below hb1)).mono ?_; rintro e w2 ⟨rfl, hb2⟩))
          go_ret
          exact ⟨rfl, hb1.trans (hb2.mono hb1.size)⟩
        | true =>
          have hN := fun W (h : Env eb n0 W) => name_any (s := n) h (by omega)
          rw [hn] at hN
          have HN := Lib.hid hN
          have HC := Lib.hid hC
          have H := Lib.hid hE
          have HM := Lib.hid hms
          clear hN hE hC hms
          go_enter Tryz.func6, Tryz.ntmps6
          go_wp2_with (first | (go_at_call 28; refine HA.out.mono ?_; rintro e w1 ⟨rfl, hb1⟩) | (go_at_call 31; refine (HN.out _ (H.out.below hb1)).mono ?_; rintro e w2 ⟨rfl, hb2⟩))
          have hb := hb1.trans (hb2.mono hb1.size)
          clear hb1 hb2
          go_loopw [7, 35] (fun g i wr => ∃ k : Nat, i = .int .i64 k ∧ k ≤ ms.length ∧ g = .string ⟨(gapOf (ms.take k)).toArray⟩ ∧ wr = w2) (fun _ i _ => ms.length - (intOf i).toNat)
          case atStart => exact ⟨0, rfl, Nat.zero_le _, rfl, rfl⟩
          case round =>
            obtain ⟨k, rfl, hk, rfl, rfl⟩ := hrel
            by_cases hlt : k < ms.length
            · obtain ⟨ad, rfl, hcell⟩ := HC.out k hlt
              have hc2 := (hb.cell (World.block_lt_of_cell? w _ hcell)).trans hcell
              clear hcell
              have hm : ms.getD k 0 = ms[k] := by simp [hlt]
              have hm2 : ms[k] < 256 := HM.out _ (List.getElem_mem hlt)
              have hg : gapOf (ms.take (k + 1)) = gapOf (ms.take k) ++ [blankOf ms[k]] := by
                rw [List.take_succ_eq_append_getElem hlt]
                unfold gapOf
                rw [List.map_append]
                rfl
              have HG := Lib.hid hg
              rw [hm] at hc2
              clear hg hm
              generalize ms[k] = m at *
              have hq : m % 4 = 0 ∨ m % 4 = 1 ∨ m % 4 = 2 ∨ m % 4 = 3 := by omega
              rcases hq with hq | hq | hq | hq
              · have hq1 : (m : Int).tmod 4 = 0 := by rw [Int.tmod_eq_emod_of_nonneg (by omega)]; omega
                have hq2 : (m : Int) % 4 = 0 := by omega
                have hbo : blankOf m = 32 := by unfold blankOf; rw [hq]; rfl
                have hen : Utf8.encode (((⟨#[32, 9, 10, 13]⟩ : ByteArray)[0]).toNat : Int) = ⟨#[32]⟩ := by kernel_rfl
                have hgl : (gapOf (ms.take k)).length = k := by unfold gapOf; rw [List.length_map, List.length_take]; omega
                have hcat : ¬ 9223372036854775807 < (gapOf (ms.take k)).length + 1 := by omega
                have happ : (⟨(gapOf (ms.take k)).toArray⟩ : ByteArray) ++ ⟨#[32]⟩ = ⟨(gapOf (ms.take (k + 1))).toArray⟩ := by
                  rw [HG.out, hbo]
                  exact mk_app _ [32]
                go_wp2_with fail
                go_roundw
                case rel => exact ⟨k + 1, by go_num, by omega, rfl, trivial⟩
                case measure => simp [intOf]; omega
              · have hq1 : (m : Int).tmod 4 = 1 := by rw [Int.tmod_eq_emod_of_nonneg (by omega)]; omega
                have hq2 : (m : Int) % 4 = 1 := by omega
                have hbo : blankOf m = 9 := by unfold blankOf; rw [hq]; rfl
                have hen : Utf8.encode (((⟨#[32, 9, 10, 13]⟩ : ByteArray)[1]).toNat : Int) = ⟨#[9]⟩ := by kernel_rfl
                have hgl : (gapOf (ms.take k)).length = k := by unfold gapOf; rw [List.length_map, List.length_take]; omega
                have hcat : ¬ 9223372036854775807 < (gapOf (ms.take k)).length + 1 := by omega
                have happ : (⟨(gapOf (ms.take k)).toArray⟩ : ByteArray) ++ ⟨#[9]⟩ = ⟨(gapOf (ms.take (k + 1))).toArray⟩ := by
                  rw [HG.out, hbo]
                  exact mk_app _ [9]
                go_wp2_with fail
                go_roundw
                case rel => exact ⟨k + 1, by go_num, by omega, rfl, trivial⟩
                case measure => simp [intOf]; omega
              · have hq1 : (m : Int).tmod 4 = 2 := by rw [Int.tmod_eq_emod_of_nonneg (by omega)]; omega
                have hq2 : (m : Int) % 4 = 2 := by omega
                have hbo : blankOf m = 10 := by unfold blankOf; rw [hq]; rfl
                have hen : Utf8.encode (((⟨#[32, 9, 10, 13]⟩ : ByteArray)[2]).toNat : Int) = ⟨#[10]⟩ := by kernel_rfl
                have hgl : (gapOf (ms.take k)).length = k := by unfold gapOf; rw [List.length_map, List.length_take]; omega
                have hcat : ¬ 9223372036854775807 < (gapOf (ms.take k)).length + 1 := by omega
                have happ : (⟨(gapOf (ms.take k)).toArray⟩ : ByteArray) ++ ⟨#[10]⟩ = ⟨(gapOf (ms.take (k + 1))).toArray⟩ := by
                  rw [HG.out, hbo]
                  exact mk_app _ [10]
                go_wp2_with fail
                go_roundw
                case rel => exact ⟨k + 1, by go_num, by omega, rfl, trivial⟩
                case measure => simp [intOf]; omega
              · have hq1 : (m : Int).tmod 4 = 3 := by rw [Int.tmod_eq_emod_of_nonneg (by omega)]; omega
                have hq2 : (m : Int) % 4 = 3 := by omega
                have hbo : blankOf m = 13 := by unfold blankOf; rw [hq]; rfl
                have hen : Utf8.encode (((⟨#[32, 9, 10, 13]⟩ : ByteArray)[3]).toNat : Int) = ⟨#[13]⟩ := by kernel_rfl
                have hgl : (gapOf (ms.take k)).length = k := by unfold gapOf; rw [List.length_map, List.length_take]; omega
                have hcat : ¬ 9223372036854775807 < (gapOf (ms.take k)).length + 1 := by omega
                have happ : (⟨(gapOf (ms.take k)).toArray⟩ : ByteArray) ++ ⟨#[13]⟩ = ⟨(gapOf (ms.take (k + 1))).toArray⟩ := by
                  rw [HG.out, hbo]
                  exact mk_app _ [13]
                go_wp2_with fail
                go_roundw
                case rel => exact ⟨k + 1, by go_num, by omega, rfl, trivial⟩
                case measure => simp [intOf]; omega
            · have hke : k = ms.length := by omega
              subst hke
              rw [List.take_of_length_le (Nat.le_refl _)]
              have hX := fun W (h : Env eb n0 W) => escape_any h v true (by omega)
              have HX := Lib.hid hX
              have hel := escape_len v true
              have hgl : (gapOf ms).length = ms.length := by unfold gapOf; rw [List.length_map]
              have hgb : ∀ x ∈ gapOf ms, isBlank x = true := by
                intro x hx
                unfold gapOf at hx
                obtain ⟨m, _, rfl⟩ := List.mem_map.1 hx
                exact blankOf_is m
              have HP1 := Lib.hid (parse_plain n v hn ⟨hl1, hl2⟩)
              have HP2 := Lib.hid (parse_gap n v (gapOf ms) hn hgb ⟨hl1, hl2, by omega⟩)
              clear hX hgb
              generalize hev : escape v true = ev at *
              clear hev
              generalize gapOf ms = g at *
              go_wp2_with fail
              refine (HX.out _ (H.out.below hb)).mono ?_
              rintro e w3 ⟨rfl, hb3⟩
              have hs1 : (⟨#[60]⟩ : ByteArray) ++ ⟨n.toArray⟩ ++ ⟨#[32, 107, 61, 34]⟩ ++ ⟨ev.toArray⟩ ++ ⟨#[34, 47, 62]⟩ = ⟨(60 :: (n ++ 32 :: 107 :: 61 :: 34 :: (ev ++ [34, 47, 62]))).toArray⟩ := by
                apply ByteArray.ext
                simp [ByteArray.data_append]
              have hs2 : (⟨#[60]⟩ : ByteArray) ++ ⟨n.toArray⟩ ++ ⟨#[32]⟩ ++ ⟨g.toArray⟩ ++ ⟨#[107]⟩ ++ ⟨g.toArray⟩ ++ ⟨#[61]⟩ ++ ⟨g.toArray⟩ ++ ⟨#[34]⟩ ++ ⟨ev.toArray⟩ ++ ⟨#[34]⟩ ++ ⟨g.toArray⟩ ++ ⟨#[62, 60, 47]⟩ ++ ⟨n.toArray⟩ ++ ⟨g.toArray⟩ ++ ⟨#[62]⟩ = ⟨(60 :: (n ++ 32 :: (g ++ 107 :: (g ++ 61 :: (g ++ 34 :: (ev ++ 34 :: (g ++ 62 :: 60 :: 47 :: (n ++ (g ++ [62]))))))))).toArray⟩ := by
                apply ByteArray.ext
                simp [ByteArray.data_append]
              have HS2 := Lib.hid hs2
              clear hs2
              go_wp2_with fail
              have hE3 := (H.out.below hb).below hb3
              refine (parse_any hE3).mono ?_
              rw [HP1.out]
              rintro e w4 ⟨A1, c1, A2, c2, rfl, hM4, hb4⟩
              have hE4 := hE3.below hb4
              have HP2r := HP2.out
              have HM4 := Lib.hid hM4
              clear hM4
              rw [show (elV (toE (.mk n [([107], enc (runes v))] [] [])) A1 c1 A2 c2).toArray = #[.string ⟨n.toArray⟩, .slice A1 1 c1, .slice A2 0 c2, .string ⟨#[]⟩] from rfl]
              go_wp2_with fail
              rw [HS2.out]
              refine (parse_any (hE4.alloc _)).mono ?_
              rw [HP2r]
              rintro e w5 ⟨B1, d1, B2, d2, rfl, hM5, hb5⟩
              have HM5 := Lib.hid hM5
              clear hM5
              rw [show (elV (toE (.mk n [([107], enc (runes v))] [] [])) B1 d1 B2 d2).toArray = #[.string ⟨n.toArray⟩, .slice B1 1 d1, .slice B2 0 d2, .string ⟨#[]⟩] from rfl]
              have hk4 := newBlk w4 (.cells #[.string ⟨n.toArray⟩, .slice A1 1 c1, .slice A2 0 c2, .string ⟨#[]⟩] 28)
              have hk5 := keepBlkB hk4 hb5
              have hal := (Below.refl _ w5).alloc (Nat.le_refl _) (.cells #[.string ⟨n.toArray⟩, .slice B1 1 d1, .slice B2 0 d2, .string ⟨#[]⟩] 28)
              have hk6 := keepBlkB hk5 hal
              have hb45 := ((Below.refl _ w4).alloc (Nat.le_refl _) (.cells #[.string ⟨n.toArray⟩, .slice A1 1 c1, .slice A2 0 c2, .string ⟨#[]⟩] 28)).trans (hb5.mono (by simp))
              have hb46 := hb45.trans (hal.mono hb45.size)
              have hb05 := (hb.trans (hb3.mono hb.size)).trans ((hb4.mono (hb.trans (hb3.mono hb.size)).size))
              have hb06 := hb05.trans (hb46.mono hb05.size)
              obtain ⟨g1, l1, g2, l2⟩ := plain_reads HM4.out
              obtain ⟨m1, j1, m2, j2⟩ := plain_reads HM5.out
              have hq := plain_name (Kd.C_below g1 hb46)
              have hS := same_any (fits_parse HP1.out) (w5.alloc (.cells #[.string ⟨n.toArray⟩, .slice B1 1 d1, .slice B2 0 d2, .string ⟨#[]⟩] 28)) A1 c1 A2 c2 B1 d1 B2 d2 (Kd.C_below g1 hb46) l1 (Kd.C_below g2 hb46) l2 (Kd.C_below m1 hal) j1 (Kd.C_below m2 hal) j2
              have HS := Lib.hid hS
              have HK6 := Lib.hid hk6
              have HQ := Lib.hid hq
              have HB := Lib.hid hb06
              have r0 := blk_cell hk6 0
              have r1 := blk_cell hk6 1
              have r2 := blk_cell hk6 2
              have r3 := blk_cell hk6 3
              clear hb45 hb46 hb05 hb06 hk4 hk5 hk6 hS hq g1 g2 m1 m2
              go_wp2_with fail
              refine HS.out.mono ?_
              rintro e w6 ⟨rfl, hb6⟩
              have hk7 := keepBlkB HK6.out hb6
              have s1 := blk_cell hk7 1
              obtain ⟨ad, rfl, hq0⟩ := HQ.out
              have hq1 := (hb6.cell (World.block_lt_of_cell? _ _ hq0)).trans hq0
              clear hq0 hk7 r0 r1 r2 r3
              go_wp2_with fail
              go_ret
              exact ⟨rfl, HB.out.trans (hb6.mono HB.out.size)⟩
      · have hd1 : decide ((100 : Int) < n.length) = false := by simp; omega
        have hd2 : decide ((200 : Int) < v.length) = false := by simp; omega
        have hd3 : decide ((20 : Int) < ms.length) = true := by simp; omega
        clear hE hC
        go_enter Tryz.func6, Tryz.ntmps6
        go_wp2_with (first | (go_at_call 28; refine HA.out.mono ?_; rintro e w1 ⟨rfl, hb1⟩))
        go_ret
        exact ⟨rfl, hb1⟩
    · have hd1 : decide ((100 : Int) < n.length) = false := by simp; omega
      have hd2 : decide ((200 : Int) < v.length) = true := by simp; omega
      clear hE hC
      go_enter Tryz.func6, Tryz.ntmps6
      go_wp2_with (first | (go_at_call 28; refine HA.out.mono ?_; rintro e w1 ⟨rfl, hb1⟩))
      go_ret
      exact ⟨rfl, hb1⟩
  · have hd1 : decide ((100 : Int) < n.length) = true := by simp; omega
    clear hE hC
    go_enter Tryz.func6, Tryz.ntmps6
    go_wp2_with (first | (go_at_call 28; refine HA.out.mono ?_; rintro e w1 ⟨rfl, hb1⟩))
    go_ret
    exact ⟨rfl, hb1⟩
end Go.Proofs.YtcmjaaigkbjpaaaGreatDoor.Lia

/- The law XmlBlanks, lifted: what the row asks of every world. -/
namespace Go.Proofs.YtcmjaaigkbjpaaaGreatDoor
open Go.ChangeShapes Go.WideShapes Go.ChangeAt Go.RowKit Lia
open Go.ChangeMaps (open_string shut_string)

theorem xBla_laid : Rows.xmlBlanksRow.laid = laidL := rfl
theorem xBla_ok (os : Os) : Input.okWideB Tryz.prog ((World.laidAll Tryz.prog os laidL).forCall (fun _ _ => 0) ⟨#[], #[.string ⟨#[]⟩, .string ⟨#[]⟩, .slice none 0 0], []⟩) 6 ⟨#[], #[.string ⟨#[]⟩, .string ⟨#[]⟩, .slice none 0 0], []⟩ = true := by kernel_rfl
theorem xBla_pre (os : Os) (H : Type) (enc : TypeId × Value → H) : Rows.xmlBlanksSpec.preB enc Tryz.prog Tryz.f6 [] false ((World.laidAll Tryz.prog os laidL).forCall (fun _ _ => 0) ⟨#[], #[.string ⟨#[]⟩, .string ⟨#[]⟩, .slice none 0 0], []⟩).memory #[.string ⟨#[]⟩, .string ⟨#[]⟩, .slice none 0 0] 8 = true := by kernel_rfl
theorem xBla_sized (os : Os) (H : Type) (enc : TypeId × Value → H) : Rows.xmlBlanksSpec.sizedB enc Tryz.prog Tryz.f6 false ((World.laidAll Tryz.prog os laidL).forCall (fun _ _ => 0) ⟨#[], #[.string ⟨#[]⟩, .string ⟨#[]⟩, .slice none 0 0], []⟩).memory #[.string ⟨#[]⟩, .string ⟨#[]⟩, .slice none 0 0] 8 = true := by kernel_rfl
theorem byte_wf {n : Int} (h : (Lit.int .u8 n).wf = true) : 0 ≤ n ∧ n < 256 := by
  simp [Lit.wf, IntKind.min, IntKind.max, IntKind.signed, IntKind.bits] at h
  omega
set_option maxRecDepth 100000 in
theorem xmlBlanks_lifted (os : Os) (started : os.Started) (H : Type) (enc : TypeId × Value → H) :
    ReturnsInHanded {} Tryz.checked os 6 .any (fun w args => (Rows.xmlBlanksSpec.pre enc Tryz.prog Tryz.f6 [] false w args ∧ laidMetH Tryz.prog laidL w) ∧ sizedMet enc Tryz.prog Tryz.f6 (OpenSpec.ofChange Rows.xmlBlanksSpec) false w args)
      (Rows.xmlBlanksSpec.post enc Tryz.prog Tryz.f6 false true false false) := by
  refine returns_laid (C := Tryz.checked) (X := fun w _ => laidMetH Tryz.prog laidL w) (fun _ _ _ hh h => h.of_heap hh) own started (by kernel_rfl) Tryz.func6
    (ChangeSpec.witness_shaped (enc := enc) (C := Tryz.checked) (os := os) (X := fun w _ => laidMetH Tryz.prog laidL w) false (World.laidAll Tryz.prog os laidL) #[.string ⟨#[]⟩, .string ⟨#[]⟩, .slice none 0 0] 8 (World.laidAll_os _ _ _)
      (wit_shaped os _) (xBla_ok os) (xBla_pre os H enc) (xBla_sized os H enc) (wit_laid os _)) ?_
  intro W base args ds gs before hval0 hW _ hL hsh
  have hval : ∀ (j : Nat) t v, Tryz.f6.params[j]? = some t → args[j]? = some v → Value.okWide Tryz.prog W .any base t v := hval0
  have hW' := hW
  obtain ⟨p, q, hA0, hV, rfl, _, _⟩ := hW
  have hA : DataW.TrodAll enc Tryz.prog W 0 (fun _ => true) true Tryz.f6.params.toList args.toList ds p := hA0
  rw [Tryz.params6] at hA hval
  obtain ⟨v0, v1, v2, d0, d1, d2, p0, p1, p2, rfl, rfl, rfl, h0, h1, h2⟩ := trodAll_three hA
  obtain ⟨rfl, rfl⟩ := trodVars_none hV
  obtain ⟨s0, rfl, rfl, rfl, hs0⟩ := open_string Tryz.underlying9 (hval 0 9 v0 rfl rfl) h0
  obtain ⟨s1, rfl, rfl, rfl, hs1⟩ := open_string Tryz.underlying9 (hval 1 9 v1 rfl rfl) h1
  obtain ⟨A, len, cap, rfl⟩ := okWide_slice Tryz.underlying64 (hval 2 64 v2 rfl rfl)
  have h2k := h2
  obtain ⟨fuel, hf⟩ := h2
  obtain ⟨eb, hE⟩ := env_of_laid hL hsh
  clear hA0 hval0
  simp only [List.append_nil] at hW'
  have hlt : ∀ x ∈ p2, x.block < W.heap.size := fun x hx => by simpa using hW'.lt x (by simp [hx])
  have hargs : ∀ (W' : World), Below W.heap.size W W' → DataW.Trod enc Tryz.prog W' 0 (fun b => decide (b < W.heap.size)) true 64 (.slice A len cap) d2 p2 :=
    fun W' hn => Below.trod (by kernel_rfl) (by kernel_rfl) (of_decide_eq_true (by kernel_rfl)) h2k hn hlt
  obtain ⟨l0, rfl⟩ : ∃ l : Str, s0 = ⟨l.toArray⟩ := ⟨s0.data.toList, by simp⟩
  obtain ⟨l1, rfl⟩ : ∃ l : Str, s1 = ⟨l.toArray⟩ := ⟨s1.data.toList, by simp⟩
  have hms : ∃ ms : List Nat, ms.length = len ∧ len ≤ cap ∧ (∀ m ∈ ms, m < 256) ∧ ∀ i, i < len → ∃ ad, A = some ad ∧ W.cell? (ad.add i) = some (.int .u8 (ms.getD i 0 : Nat)) := by
    rcases open_ints Tryz.underlying64 Tryz.underlying5 (by kernel_rfl) hf with ⟨hcs, _⟩ | ⟨a, len', cap', zs, hcs, _, hl, _, hz, _, hcell, hwz⟩
    · simp [Value.cells] at hcs
      obtain ⟨rfl, rfl, rfl⟩ := hcs
      exact ⟨[], rfl, Nat.le_refl _, by simp, fun i hi => absurd hi (by omega)⟩
    · simp [Value.cells] at hcs
      obtain ⟨rfl, rfl, rfl⟩ := hcs
      simp only [if_true] at hz
      refine ⟨(zs.take len).map Int.toNat, by simp; omega, hl, ?_, ?_⟩
      · intro m hm
        obtain ⟨z, hz', rfl⟩ := List.mem_map.1 hm
        have := byte_wf (hwz z (List.mem_of_mem_take hz'))
        omega
      · intro i hi
        refine ⟨a, rfl, ?_⟩
        rw [hcell i (by omega)]
        have hi2 : i < zs.length := by omega
        have hg : zs.getD i 0 = zs[i] := by simp [hi2]
        have hwf := byte_wf (hwz zs[i] (List.getElem_mem hi2))
        have hm : ((zs.take len).map Int.toNat).getD i 0 = zs[i].toNat := by simp [hi, hi2]
        rw [hg, hm, Int.toNat_of_nonneg hwf.1]
  obtain ⟨ms, rfl, hcap, hm256, hcells⟩ := hms
  refine (xmlBlanks_any hE l0 l1 A cap ms hm256 hcells hcap).mono fun e W' ⟨he, hb⟩ => ?_
  subst he
  refine ⟨_, rfl, _, _, _, [], p2, [], hW', ?_, ?_, ?_, hb.frame _, fun h => by cases h⟩
  · exact trodAll_mk1 (shut_bool Tryz.underlying4 true)
  · exact trodAll_mk3 (shut_string Tryz.underlying9 hs0) (shut_string Tryz.underlying9 hs1) (hargs _ hb)
  · rfl
end Go.Proofs.YtcmjaaigkbjpaaaGreatDoor
