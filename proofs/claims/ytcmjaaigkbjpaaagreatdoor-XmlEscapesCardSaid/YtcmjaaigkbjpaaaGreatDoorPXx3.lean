-- PRINTED BY print.sh 35421559b90ae4d0a3588c463048766b98c2df88dd9212a6774a882060cdf62d: not written by this session
import Derived.Test.YtcmjaaigkbjpaaaGreatDoorPXx0
import Derived.Test.YtcmjaaigkbjpaaaGreatDoorPXx2
namespace Go.Proofs.YtcmjaaigkbjpaaaGreatDoor.PX
open Go.RowKit Go.Proofs.YtcmjaaigkbjpaaaGreatDoorW.PrintWords Go.Proofs.YtcmjaaigkbjpaaaGreatDoorW.PrintLast Go.Proofs.YtcmjaaigkbjpaaaGreatDoorW.PrintMore
attribute [local go_sem] max2_int min2_int max_two min_two max_three min_three max_four min_four   -- for this text's walks alone
set_option linter.unusedVariables false
set_option linter.unusedSimpArgs false

/-! ### liaisonref23_Escape: function 30 -/
mutual
def liaisonref23_Escape.l0 : Nat → ByteArray → Bool → ByteArray → Int → Option (ByteArray)
  | 0, _, _, _, _ => none
  | k + 1, x0, x1, x5, x6 => if x6 < (x0.size : Int) then (if 0 ≤ x6 then (if x6 ≤ (x0.size : Int) then ((liaisonref23_Sign.f k (x0.extract (x6 : Int).toNat x0.size)).bind fun bt101 => (if bt101.2 = 0 then (liaisonref23_Escape.l0 k x0 x1 x5 (wrap64 (x6 + 1))) else (if x6 ≤ (wrap64 (x6 + bt101.2)) then (if (wrap64 (x6 + bt101.2)) ≤ (x0.size : Int) then ((liaisonref23_May.f bt101.1).bind fun t103 => (if t103 = true then (if bt101.1 = 60 then (if x5.size + 4 ≤ 9223372036854775807 then (liaisonref23_Escape.l0 k x0 x1 (x5 ++ (⟨#[38, 108, 116, 59]⟩ : ByteArray)) (wrap64 (x6 + bt101.2))) else (none)) else (if bt101.1 = 62 then (if x5.size + 4 ≤ 9223372036854775807 then (liaisonref23_Escape.l0 k x0 x1 (x5 ++ (⟨#[38, 103, 116, 59]⟩ : ByteArray)) (wrap64 (x6 + bt101.2))) else (none)) else (if bt101.1 = 38 then (if x5.size + 5 ≤ 9223372036854775807 then (liaisonref23_Escape.l0 k x0 x1 (x5 ++ (⟨#[38, 97, 109, 112, 59]⟩ : ByteArray)) (wrap64 (x6 + bt101.2))) else (none)) else (if bt101.1 = 13 then (if x5.size + 5 ≤ 9223372036854775807 then (liaisonref23_Escape.l0 k x0 x1 (x5 ++ (⟨#[38, 35, 49, 51, 59]⟩ : ByteArray)) (wrap64 (x6 + bt101.2))) else (none)) else (if x1 = true then (liaisonref23_Escape.j1 k x0 x1 x5 (wrap64 (x6 + bt101.2)) bt101.1 (x0.extract (x6 : Int).toNat ((wrap64 (x6 + bt101.2)) : Int).toNat) (bt101.1 == 34)) else (liaisonref23_Escape.j1 k x0 x1 x5 (wrap64 (x6 + bt101.2)) bt101.1 (x0.extract (x6 : Int).toNat ((wrap64 (x6 + bt101.2)) : Int).toNat) false)))))) else (if x5.size + 0 ≤ 9223372036854775807 then (liaisonref23_Escape.l0 k x0 x1 (x5 ++ (⟨#[]⟩ : ByteArray)) (wrap64 (x6 + bt101.2))) else (none)))) else (none)) else (none)))) else (none)) else (none)) else (some x5)
def liaisonref23_Escape.j1 : Nat → ByteArray → Bool → ByteArray → Int → Int → ByteArray → Bool → Option (ByteArray)
  | 0, _, _, _, _, _, _, _ => none
  | k + 1, x0, x1, x5, x6, x7, x9, x50 => if x50 = true then (if x5.size + 6 ≤ 9223372036854775807 then (liaisonref23_Escape.l0 k x0 x1 (x5 ++ (⟨#[38, 113, 117, 111, 116, 59]⟩ : ByteArray)) x6) else (none)) else (if x1 = true then (liaisonref23_Escape.j2 k x0 x1 x5 x6 x7 x9 (x7 == 9)) else (liaisonref23_Escape.j2 k x0 x1 x5 x6 x7 x9 false))
def liaisonref23_Escape.j2 : Nat → ByteArray → Bool → ByteArray → Int → Int → ByteArray → Bool → Option (ByteArray)
  | 0, _, _, _, _, _, _, _ => none
  | k + 1, x0, x1, x5, x6, x7, x9, x56 => if x56 = true then (if x5.size + 4 ≤ 9223372036854775807 then (liaisonref23_Escape.l0 k x0 x1 (x5 ++ (⟨#[38, 35, 57, 59]⟩ : ByteArray)) x6) else (none)) else (if x1 = true then (if x7 = 10 then (if x5.size + 5 ≤ 9223372036854775807 then (liaisonref23_Escape.l0 k x0 x1 (x5 ++ (⟨#[38, 35, 49, 48, 59]⟩ : ByteArray)) x6) else (none)) else (if x5.size + x9.size ≤ 9223372036854775807 then (liaisonref23_Escape.l0 k x0 x1 (x5 ++ x9) x6) else (none))) else (if x5.size + x9.size ≤ 9223372036854775807 then (liaisonref23_Escape.l0 k x0 x1 (x5 ++ x9) x6) else (none)))
end
def liaisonref23_Escape.f (k : Nat) (a0 : ByteArray) (a1 : Bool) : Option (ByteArray) := liaisonref23_Escape.l0 k a0 a1 (⟨#[]⟩ : ByteArray) 0
theorem liaisonref23_Escape.mono_l : ∀ k, (∀ y0 y1 y2 y3, LeO (liaisonref23_Escape.l0 k y0 y1 y2 y3) (liaisonref23_Escape.l0 (k + 1) y0 y1 y2 y3)) ∧ (∀ y0 y1 y2 y3 y4 y5 y6, LeO (liaisonref23_Escape.j1 k y0 y1 y2 y3 y4 y5 y6) (liaisonref23_Escape.j1 (k + 1) y0 y1 y2 y3 y4 y5 y6)) ∧ (∀ y0 y1 y2 y3 y4 y5 y6, LeO (liaisonref23_Escape.j2 k y0 y1 y2 y3 y4 y5 y6) (liaisonref23_Escape.j2 (k + 1) y0 y1 y2 y3 y4 y5 y6))
  | 0 => ⟨fun _ _ _ _ r h => by simp [liaisonref23_Escape.l0] at h, fun _ _ _ _ _ _ _ r h => by simp [liaisonref23_Escape.j1] at h, fun _ _ _ _ _ _ _ r h => by simp [liaisonref23_Escape.j2] at h⟩
  | k + 1 => by
    obtain ⟨ih0, ih1, ih2⟩ := liaisonref23_Escape.mono_l k
    refine ⟨?_, ?_, ?_⟩
    · intro y0 y1 y2 y3
      unfold liaisonref23_Escape.l0
      repeat' first
      | (with_reducible exact ih0 _ _ _ _)
      | (with_reducible exact ih1 _ _ _ _ _ _ _)
      | (with_reducible exact ih2 _ _ _ _ _ _ _)
      | (with_reducible exact liaisonref23_Sign.mono _ _)
      | (with_reducible exact LeO.refl _)
      | (with_reducible exact LeO.none _)
      | (with_reducible refine LeO.ite ?_ ?_)
      | (with_reducible refine LeO.bind ?_ (fun _ => ?_))
      | exact ih0 _ _ _ _
      | exact ih1 _ _ _ _ _ _ _
      | exact ih2 _ _ _ _ _ _ _
      | exact liaisonref23_Sign.mono _ _
      | exact LeO.none _
      | refine LeO.ite ?_ ?_
      | refine LeO.bind ?_ (fun _ => ?_)
    · intro y0 y1 y2 y3 y4 y5 y6
      unfold liaisonref23_Escape.j1
      repeat' first
      | (with_reducible exact ih0 _ _ _ _)
      | (with_reducible exact ih1 _ _ _ _ _ _ _)
      | (with_reducible exact ih2 _ _ _ _ _ _ _)
      | (with_reducible exact liaisonref23_Sign.mono _ _)
      | (with_reducible exact LeO.refl _)
      | (with_reducible exact LeO.none _)
      | (with_reducible refine LeO.ite ?_ ?_)
      | (with_reducible refine LeO.bind ?_ (fun _ => ?_))
      | exact ih0 _ _ _ _
      | exact ih1 _ _ _ _ _ _ _
      | exact ih2 _ _ _ _ _ _ _
      | exact liaisonref23_Sign.mono _ _
      | exact LeO.none _
      | refine LeO.ite ?_ ?_
      | refine LeO.bind ?_ (fun _ => ?_)
    · intro y0 y1 y2 y3 y4 y5 y6
      unfold liaisonref23_Escape.j2
      repeat' first
      | (with_reducible exact ih0 _ _ _ _)
      | (with_reducible exact ih1 _ _ _ _ _ _ _)
      | (with_reducible exact ih2 _ _ _ _ _ _ _)
      | (with_reducible exact liaisonref23_Sign.mono _ _)
      | (with_reducible exact LeO.refl _)
      | (with_reducible exact LeO.none _)
      | (with_reducible refine LeO.ite ?_ ?_)
      | (with_reducible refine LeO.bind ?_ (fun _ => ?_))
      | exact ih0 _ _ _ _
      | exact ih1 _ _ _ _ _ _ _
      | exact ih2 _ _ _ _ _ _ _
      | exact liaisonref23_Sign.mono _ _
      | exact LeO.none _
      | refine LeO.ite ?_ ?_
      | refine LeO.bind ?_ (fun _ => ?_)
theorem liaisonref23_Escape.mono : ∀ a0 a1 k, LeO (liaisonref23_Escape.f k a0 a1) (liaisonref23_Escape.f (k + 1) a0 a1) := by
  intro a0 a1 k
  obtain ⟨ih0, ih1, ih2⟩ := liaisonref23_Escape.mono_l k
  unfold liaisonref23_Escape.f
  repeat' first
      | (with_reducible exact ih0 _ _ _ _)
      | (with_reducible exact ih1 _ _ _ _ _ _ _)
      | (with_reducible exact ih2 _ _ _ _ _ _ _)
      | (with_reducible exact liaisonref23_Sign.mono _ _)
      | (with_reducible exact LeO.refl _)
      | (with_reducible exact LeO.none _)
      | (with_reducible refine LeO.ite ?_ ?_)
      | (with_reducible refine LeO.bind ?_ (fun _ => ?_))
      | exact ih0 _ _ _ _
      | exact ih1 _ _ _ _ _ _ _
      | exact ih2 _ _ _ _ _ _ _
      | exact liaisonref23_Sign.mono _ _
      | exact LeO.none _
      | refine LeO.ite ?_ ?_
      | refine LeO.bind ?_ (fun _ => ?_)
set_option maxHeartbeats 8000000 in
set_option maxRecDepth 100000 in
theorem liaisonref23_Escape.calls (k : Nat) (a0 : ByteArray) (a1 : Bool) (r : ByteArray) (w : World) (h : liaisonref23_Escape.f k a0 a1 = some r) :
    Calls Tryz.prog 30 #[.string a0, .bool a1] w fun e w' => e = .returned (.string r) ∧ Drawn0 w w' := by
  have H : (liaisonref23_Escape.l0 k a0 a1 (⟨#[]⟩ : ByteArray) 0) = some r := h
  clear h
  have H' := Aside0.mk H
  clear H
  go_enter Tryz.func30, Tryz.ntmps30
  go_wp2
  go_loopg [5, 6] k (fun kq v5 v6 w' => ∃ (x5_1 : ByteArray) (x6_1 : Int), v5 = .string x5_1 ∧ v6 = .int .i64 x6_1 ∧ Aside0 (liaisonref23_Escape.l0 kq a0 a1 x5_1 x6_1 = some r) ∧ Aside0 (kq ≤ k) ∧ Drawn0 w w')
  case atStart => exact ⟨((⟨#[]⟩ : ByteArray)), (0), (by first | rfl | (simp; done) | (simp [*]; done)), (by first | rfl | (simp; done) | (simp [*]; done)), H', ⟨Nat.le_refl _⟩, by repeat (first | exact Drawn0.refl _ | apply Drawn0.step)⟩
  case round =>
    clear H'
    try clear p2
    obtain ⟨x5_1, x6_1, rfl, rfl, HA, HK1, ⟨m1, rfl⟩⟩ := hrel
    cases gk with
    | zero => exact absurd HA.out (by simp [liaisonref23_Escape.l0])
    | succ k1 =>
      have H := HA.out
      clear HA
      simp only [liaisonref23_Escape.l0] at H
      by_cases c3 : x6_1 < (a0.size : Int)
      · rw [if_pos c3] at H
        have c3b0 : decide (x6_1 < (a0.size : Int)) = true := decide_eq_true c3
        clear c3
        by_cases c4 : 0 ≤ x6_1
        · rw [if_pos c4] at H
          have c4b0 := eq_true c4
          have c4b1 : decide (0 ≤ x6_1) = true := decide_eq_true c4
          clear c4
          by_cases c5 : x6_1 ≤ (a0.size : Int)
          · rw [if_pos c5] at H
            have c5b0 := eq_true c5
            have c5b1 : decide (x6_1 ≤ (a0.size : Int)) = true := decide_eq_true c5
            clear c5
            replace H := Option.bind_eq_some_iff.mp H
            obtain ⟨⟨t101, t102⟩, A60, H⟩ := H
            replace H : (if t102 = 0 then (liaisonref23_Escape.l0 k1 a0 a1 x5_1 (wrap64 (x6_1 + 1))) else (if x6_1 ≤ (wrap64 (x6_1 + t102)) then (if (wrap64 (x6_1 + t102)) ≤ (a0.size : Int) then ((liaisonref23_May.f t101).bind fun t103 => (if t103 = true then (if t101 = 60 then (if x5_1.size + 4 ≤ 9223372036854775807 then (liaisonref23_Escape.l0 k1 a0 a1 (x5_1 ++ (⟨#[38, 108, 116, 59]⟩ : ByteArray)) (wrap64 (x6_1 + t102))) else (none)) else (if t101 = 62 then (if x5_1.size + 4 ≤ 9223372036854775807 then (liaisonref23_Escape.l0 k1 a0 a1 (x5_1 ++ (⟨#[38, 103, 116, 59]⟩ : ByteArray)) (wrap64 (x6_1 + t102))) else (none)) else (if t101 = 38 then (if x5_1.size + 5 ≤ 9223372036854775807 then (liaisonref23_Escape.l0 k1 a0 a1 (x5_1 ++ (⟨#[38, 97, 109, 112, 59]⟩ : ByteArray)) (wrap64 (x6_1 + t102))) else (none)) else (if t101 = 13 then (if x5_1.size + 5 ≤ 9223372036854775807 then (liaisonref23_Escape.l0 k1 a0 a1 (x5_1 ++ (⟨#[38, 35, 49, 51, 59]⟩ : ByteArray)) (wrap64 (x6_1 + t102))) else (none)) else (if a1 = true then (liaisonref23_Escape.j1 k1 a0 a1 x5_1 (wrap64 (x6_1 + t102)) t101 (a0.extract (x6_1 : Int).toNat ((wrap64 (x6_1 + t102)) : Int).toNat) (t101 == 34)) else (liaisonref23_Escape.j1 k1 a0 a1 x5_1 (wrap64 (x6_1 + t102)) t101 (a0.extract (x6_1 : Int).toNat ((wrap64 (x6_1 + t102)) : Int).toNat) false)))))) else (if x5_1.size + 0 ≤ 9223372036854775807 then (liaisonref23_Escape.l0 k1 a0 a1 (x5_1 ++ (⟨#[]⟩ : ByteArray)) (wrap64 (x6_1 + t102))) else (none)))) else (none)) else (none))) = some r := H
            have A6 := Aside0.mk A60
            clear A60
            by_cases c7 : t102 = 0
            · rw [if_pos c7] at H
              have c7b0 : (t102 == 0) = true := beq_iff_eq.mpr c7
              have c7b1 : (t102 != 0) = false := bne_eq_false_iff_eq.mpr c7
              clear c7
              have H' := Aside0.mk H
              clear H
              go_wp2_with (first | ((with_reducible refine gate_callee (f := 82) rfl ?_); refine goesL_ (some 18) rfl rfl Tryz.func82 (by kernel_rfl) rfl #[.string (a0.extract (x6_1 : Int).toNat a0.size)] rfl (by (try simp only [List.map_toArray, List.map_cons, List.map_nil]); first | done | rfl | (simp only [List.length_drop, List.length_take]; rfl)) ?_; (with_reducible refine (liaisonref23_Sign.calls k1 (a0.extract (x6_1 : Int).toNat a0.size) t101 t102 _ A6.out).mono ?_); rintro e w' ⟨rfl, ⟨nd, rfl⟩⟩; refine ⟨_, rfl, ?_⟩))
              go_roundg k1
              case measure => have := HK1.out; omega
              case rel => exact ⟨(x5_1), (wrap64 (x6_1 + 1)), (by first | rfl | (simp; done) | (simp [*]; done)), (by first | rfl | (simp; done) | (simp [*]; done)), H', ⟨by have := HK1.out; omega⟩, by repeat (first | exact Drawn0.refl _ | apply Drawn0.step)⟩
            · rw [if_neg c7] at H
              have c7b0 : (t102 == 0) = false := beq_eq_false_iff_ne.mpr c7
              have c7b1 : (t102 != 0) = true := bne_iff_ne.mpr c7
              have c8b0 := eq_true (of_decide_eq_true (by first | (with_reducible assumption) | assumption) : 0 ≤ x6_1)
              by_cases c9 : x6_1 ≤ (wrap64 (x6_1 + t102))
              · rw [if_pos c9] at H
                have c9b0 := eq_true c9
                have c9b1 : decide (x6_1 ≤ (wrap64 (x6_1 + t102))) = true := decide_eq_true c9
                by_cases c10 : (wrap64 (x6_1 + t102)) ≤ (a0.size : Int)
                · rw [if_pos c10] at H
                  have c10b0 := eq_true c10
                  have c10b1 : decide ((wrap64 (x6_1 + t102)) ≤ (a0.size : Int)) = true := decide_eq_true c10
                  replace H := Option.bind_eq_some_iff.mp H
                  obtain ⟨t103, A110, H⟩ := H
                  replace H : (if t103 = true then (if t101 = 60 then (if x5_1.size + 4 ≤ 9223372036854775807 then (liaisonref23_Escape.l0 k1 a0 a1 (x5_1 ++ (⟨#[38, 108, 116, 59]⟩ : ByteArray)) (wrap64 (x6_1 + t102))) else (none)) else (if t101 = 62 then (if x5_1.size + 4 ≤ 9223372036854775807 then (liaisonref23_Escape.l0 k1 a0 a1 (x5_1 ++ (⟨#[38, 103, 116, 59]⟩ : ByteArray)) (wrap64 (x6_1 + t102))) else (none)) else (if t101 = 38 then (if x5_1.size + 5 ≤ 9223372036854775807 then (liaisonref23_Escape.l0 k1 a0 a1 (x5_1 ++ (⟨#[38, 97, 109, 112, 59]⟩ : ByteArray)) (wrap64 (x6_1 + t102))) else (none)) else (if t101 = 13 then (if x5_1.size + 5 ≤ 9223372036854775807 then (liaisonref23_Escape.l0 k1 a0 a1 (x5_1 ++ (⟨#[38, 35, 49, 51, 59]⟩ : ByteArray)) (wrap64 (x6_1 + t102))) else (none)) else (if a1 = true then (liaisonref23_Escape.j1 k1 a0 a1 x5_1 (wrap64 (x6_1 + t102)) t101 (a0.extract (x6_1 : Int).toNat ((wrap64 (x6_1 + t102)) : Int).toNat) (t101 == 34)) else (liaisonref23_Escape.j1 k1 a0 a1 x5_1 (wrap64 (x6_1 + t102)) t101 (a0.extract (x6_1 : Int).toNat ((wrap64 (x6_1 + t102)) : Int).toNat) false)))))) else (if x5_1.size + 0 ≤ 9223372036854775807 then (liaisonref23_Escape.l0 k1 a0 a1 (x5_1 ++ (⟨#[]⟩ : ByteArray)) (wrap64 (x6_1 + t102))) else (none))) = some r := H
                  have A11 := Aside0.mk A110
                  clear A110
                  by_cases c12 : t103 = true
                  · subst c12
                    have H1 : (if t101 = 60 then (if x5_1.size + 4 ≤ 9223372036854775807 then (liaisonref23_Escape.l0 k1 a0 a1 (x5_1 ++ (⟨#[38, 108, 116, 59]⟩ : ByteArray)) (wrap64 (x6_1 + t102))) else (none)) else (if t101 = 62 then (if x5_1.size + 4 ≤ 9223372036854775807 then (liaisonref23_Escape.l0 k1 a0 a1 (x5_1 ++ (⟨#[38, 103, 116, 59]⟩ : ByteArray)) (wrap64 (x6_1 + t102))) else (none)) else (if t101 = 38 then (if x5_1.size + 5 ≤ 9223372036854775807 then (liaisonref23_Escape.l0 k1 a0 a1 (x5_1 ++ (⟨#[38, 97, 109, 112, 59]⟩ : ByteArray)) (wrap64 (x6_1 + t102))) else (none)) else (if t101 = 13 then (if x5_1.size + 5 ≤ 9223372036854775807 then (liaisonref23_Escape.l0 k1 a0 a1 (x5_1 ++ (⟨#[38, 35, 49, 51, 59]⟩ : ByteArray)) (wrap64 (x6_1 + t102))) else (none)) else (if a1 = true then (liaisonref23_Escape.j1 k1 a0 a1 x5_1 (wrap64 (x6_1 + t102)) t101 (a0.extract (x6_1 : Int).toNat ((wrap64 (x6_1 + t102)) : Int).toNat) (t101 == 34)) else (liaisonref23_Escape.j1 k1 a0 a1 x5_1 (wrap64 (x6_1 + t102)) t101 (a0.extract (x6_1 : Int).toNat ((wrap64 (x6_1 + t102)) : Int).toNat) false)))))) = some r := by rw [if_pos rfl] at H; exact H
                    clear H
                    have H := H1
                    clear H1
                    by_cases c13 : t101 = 60
                    · rw [if_pos c13] at H
                      have c13b0 : (t101 == 60) = true := beq_iff_eq.mpr c13
                      have c13b1 : (t101 != 60) = false := bne_eq_false_iff_eq.mpr c13
                      clear c13
                      by_cases c14 : x5_1.size + 4 ≤ 9223372036854775807
                      · rw [if_pos c14] at H
                        have c14b0 := eq_true c14
                        have c14b1 : decide (x5_1.size + 4 ≤ 9223372036854775807) = true := decide_eq_true c14
                        try have c14b2 : (9223372036854775807 < x5_1.size + 4) = False := eq_false (Nat.not_lt.2 c14)
                        have H' := Aside0.mk H
                        clear H
                        go_wp2_with (first | ((with_reducible refine gate_callee (f := 82) rfl ?_); refine goesL_ (some 18) rfl rfl Tryz.func82 (by kernel_rfl) rfl #[.string (a0.extract (x6_1 : Int).toNat a0.size)] rfl (by (try simp only [List.map_toArray, List.map_cons, List.map_nil]); first | done | rfl | (simp only [List.length_drop, List.length_take]; rfl)) ?_; (with_reducible refine (liaisonref23_Sign.calls k1 (a0.extract (x6_1 : Int).toNat a0.size) t101 t102 _ A6.out).mono ?_); rintro e w' ⟨rfl, ⟨nd, rfl⟩⟩; refine ⟨_, rfl, ?_⟩) | ((with_reducible refine gate_callee (f := 83) rfl ?_); refine goesL_ (some 36) rfl rfl Tryz.func83 (by kernel_rfl) rfl #[.int .i64 t101] rfl (by (try simp only [List.map_toArray, List.map_cons, List.map_nil]); first | done | rfl | (simp only [List.length_drop, List.length_take]; rfl)) ?_; (with_reducible refine (liaisonref23_May.calls t101 true _ A11.out).mono ?_); rintro e w' ⟨rfl, ⟨nd, rfl⟩⟩; refine ⟨_, rfl, ?_⟩))
                        go_roundg k1
                        case measure => have := HK1.out; omega
                        case rel => exact ⟨(x5_1 ++ (⟨#[38, 108, 116, 59]⟩ : ByteArray)), (wrap64 (x6_1 + t102)), (by first | rfl | (simp; done) | (simp [*]; done)), (by first | rfl | (simp; done) | (simp [*]; done)), H', ⟨by have := HK1.out; omega⟩, by repeat (first | exact Drawn0.refl _ | apply Drawn0.step)⟩
                      · rw [if_neg c14] at H
                        exact absurd H (by simp)
                    · rw [if_neg c13] at H
                      have c13b0 : (t101 == 60) = false := beq_eq_false_iff_ne.mpr c13
                      have c13b1 : (t101 != 60) = true := bne_iff_ne.mpr c13
                      by_cases c15 : t101 = 62
                      · rw [if_pos c15] at H
                        have c15b0 : (t101 == 62) = true := beq_iff_eq.mpr c15
                        have c15b1 : (t101 != 62) = false := bne_eq_false_iff_eq.mpr c15
                        clear c15
                        by_cases c16 : x5_1.size + 4 ≤ 9223372036854775807
                        · rw [if_pos c16] at H
                          have c16b0 := eq_true c16
                          have c16b1 : decide (x5_1.size + 4 ≤ 9223372036854775807) = true := decide_eq_true c16
                          try have c16b2 : (9223372036854775807 < x5_1.size + 4) = False := eq_false (Nat.not_lt.2 c16)
                          have H' := Aside0.mk H
                          clear H
                          go_wp2_with (first | ((with_reducible refine gate_callee (f := 82) rfl ?_); refine goesL_ (some 18) rfl rfl Tryz.func82 (by kernel_rfl) rfl #[.string (a0.extract (x6_1 : Int).toNat a0.size)] rfl (by (try simp only [List.map_toArray, List.map_cons, List.map_nil]); first | done | rfl | (simp only [List.length_drop, List.length_take]; rfl)) ?_; (with_reducible refine (liaisonref23_Sign.calls k1 (a0.extract (x6_1 : Int).toNat a0.size) t101 t102 _ A6.out).mono ?_); rintro e w' ⟨rfl, ⟨nd, rfl⟩⟩; refine ⟨_, rfl, ?_⟩) | ((with_reducible refine gate_callee (f := 83) rfl ?_); refine goesL_ (some 36) rfl rfl Tryz.func83 (by kernel_rfl) rfl #[.int .i64 t101] rfl (by (try simp only [List.map_toArray, List.map_cons, List.map_nil]); first | done | rfl | (simp only [List.length_drop, List.length_take]; rfl)) ?_; (with_reducible refine (liaisonref23_May.calls t101 true _ A11.out).mono ?_); rintro e w' ⟨rfl, ⟨nd, rfl⟩⟩; refine ⟨_, rfl, ?_⟩))
                          go_roundg k1
                          case measure => have := HK1.out; omega
                          case rel => exact ⟨(x5_1 ++ (⟨#[38, 103, 116, 59]⟩ : ByteArray)), (wrap64 (x6_1 + t102)), (by first | rfl | (simp; done) | (simp [*]; done)), (by first | rfl | (simp; done) | (simp [*]; done)), H', ⟨by have := HK1.out; omega⟩, by repeat (first | exact Drawn0.refl _ | apply Drawn0.step)⟩
                        · rw [if_neg c16] at H
                          exact absurd H (by simp)
                      · rw [if_neg c15] at H
                        have c15b0 : (t101 == 62) = false := beq_eq_false_iff_ne.mpr c15
                        have c15b1 : (t101 != 62) = true := bne_iff_ne.mpr c15
                        by_cases c17 : t101 = 38
                        · rw [if_pos c17] at H
                          have c17b0 : (t101 == 38) = true := beq_iff_eq.mpr c17
                          have c17b1 : (t101 != 38) = false := bne_eq_false_iff_eq.mpr c17
                          clear c17
                          by_cases c18 : x5_1.size + 5 ≤ 9223372036854775807
                          · rw [if_pos c18] at H
                            have c18b0 := eq_true c18
                            have c18b1 : decide (x5_1.size + 5 ≤ 9223372036854775807) = true := decide_eq_true c18
                            try have c18b2 : (9223372036854775807 < x5_1.size + 5) = False := eq_false (Nat.not_lt.2 c18)
                            have H' := Aside0.mk H
                            clear H
                            go_wp2_with (first | ((with_reducible refine gate_callee (f := 82) rfl ?_); refine goesL_ (some 18) rfl rfl Tryz.func82 (by kernel_rfl) rfl #[.string (a0.extract (x6_1 : Int).toNat a0.size)] rfl (by (try simp only [List.map_toArray, List.map_cons, List.map_nil]); first | done | rfl | (simp only [List.length_drop, List.length_take]; rfl)) ?_; (with_reducible refine (liaisonref23_Sign.calls k1 (a0.extract (x6_1 : Int).toNat a0.size) t101 t102 _ A6.out).mono ?_); rintro e w' ⟨rfl, ⟨nd, rfl⟩⟩; refine ⟨_, rfl, ?_⟩) | ((with_reducible refine gate_callee (f := 83) rfl ?_); refine goesL_ (some 36) rfl rfl Tryz.func83 (by kernel_rfl) rfl #[.int .i64 t101] rfl (by (try simp only [List.map_toArray, List.map_cons, List.map_nil]); first | done | rfl | (simp only [List.length_drop, List.length_take]; rfl)) ?_; (with_reducible refine (liaisonref23_May.calls t101 true _ A11.out).mono ?_); rintro e w' ⟨rfl, ⟨nd, rfl⟩⟩; refine ⟨_, rfl, ?_⟩))
                            go_roundg k1
                            case measure => have := HK1.out; omega
                            case rel => exact ⟨(x5_1 ++ (⟨#[38, 97, 109, 112, 59]⟩ : ByteArray)), (wrap64 (x6_1 + t102)), (by first | rfl | (simp; done) | (simp [*]; done)), (by first | rfl | (simp; done) | (simp [*]; done)), H', ⟨by have := HK1.out; omega⟩, by repeat (first | exact Drawn0.refl _ | apply Drawn0.step)⟩
                          · rw [if_neg c18] at H
                            exact absurd H (by simp)
                        · rw [if_neg c17] at H
                          have c17b0 : (t101 == 38) = false := beq_eq_false_iff_ne.mpr c17
                          have c17b1 : (t101 != 38) = true := bne_iff_ne.mpr c17
                          by_cases c19 : t101 = 13
                          · rw [if_pos c19] at H
                            have c19b0 : (t101 == 13) = true := beq_iff_eq.mpr c19
                            have c19b1 : (t101 != 13) = false := bne_eq_false_iff_eq.mpr c19
                            clear c19
                            by_cases c20 : x5_1.size + 5 ≤ 9223372036854775807
                            · rw [if_pos c20] at H
                              have c20b0 := eq_true c20
                              have c20b1 : decide (x5_1.size + 5 ≤ 9223372036854775807) = true := decide_eq_true c20
                              try have c20b2 : (9223372036854775807 < x5_1.size + 5) = False := eq_false (Nat.not_lt.2 c20)
                              have H' := Aside0.mk H
                              clear H
                              go_wp2_with (first | ((with_reducible refine gate_callee (f := 82) rfl ?_); refine goesL_ (some 18) rfl rfl Tryz.func82 (by kernel_rfl) rfl #[.string (a0.extract (x6_1 : Int).toNat a0.size)] rfl (by (try simp only [List.map_toArray, List.map_cons, List.map_nil]); first | done | rfl | (simp only [List.length_drop, List.length_take]; rfl)) ?_; (with_reducible refine (liaisonref23_Sign.calls k1 (a0.extract (x6_1 : Int).toNat a0.size) t101 t102 _ A6.out).mono ?_); rintro e w' ⟨rfl, ⟨nd, rfl⟩⟩; refine ⟨_, rfl, ?_⟩) | ((with_reducible refine gate_callee (f := 83) rfl ?_); refine goesL_ (some 36) rfl rfl Tryz.func83 (by kernel_rfl) rfl #[.int .i64 t101] rfl (by (try simp only [List.map_toArray, List.map_cons, List.map_nil]); first | done | rfl | (simp only [List.length_drop, List.length_take]; rfl)) ?_; (with_reducible refine (liaisonref23_May.calls t101 true _ A11.out).mono ?_); rintro e w' ⟨rfl, ⟨nd, rfl⟩⟩; refine ⟨_, rfl, ?_⟩))
                              go_roundg k1
                              case measure => have := HK1.out; omega
                              case rel => exact ⟨(x5_1 ++ (⟨#[38, 35, 49, 51, 59]⟩ : ByteArray)), (wrap64 (x6_1 + t102)), (by first | rfl | (simp; done) | (simp [*]; done)), (by first | rfl | (simp; done) | (simp [*]; done)), H', ⟨by have := HK1.out; omega⟩, by repeat (first | exact Drawn0.refl _ | apply Drawn0.step)⟩
                            · rw [if_neg c20] at H
                              exact absurd H (by simp)
                          · rw [if_neg c19] at H
                            have c19b0 : (t101 == 13) = false := beq_eq_false_iff_ne.mpr c19
                            have c19b1 : (t101 != 13) = true := bne_iff_ne.mpr c19
                            have HC21 := Aside0.mk H
                            clear H
                            go_upto_region 19 with (first | ((with_reducible refine gate_callee (f := 82) rfl ?_); refine goesL_ (some 18) rfl rfl Tryz.func82 (by kernel_rfl) rfl #[.string (a0.extract (x6_1 : Int).toNat a0.size)] rfl (by (try simp only [List.map_toArray, List.map_cons, List.map_nil]); first | done | rfl | (simp only [List.length_drop, List.length_take]; rfl)) ?_; (with_reducible refine (liaisonref23_Sign.calls k1 (a0.extract (x6_1 : Int).toNat a0.size) t101 t102 _ A6.out).mono ?_); rintro e w' ⟨rfl, ⟨nd, rfl⟩⟩; refine ⟨_, rfl, ?_⟩) | ((with_reducible refine gate_callee (f := 83) rfl ?_); refine goesL_ (some 36) rfl rfl Tryz.func83 (by kernel_rfl) rfl #[.int .i64 t101] rfl (by (try simp only [List.map_toArray, List.map_cons, List.map_nil]); first | done | rfl | (simp only [List.length_drop, List.length_take]; rfl)) ?_; (with_reducible refine (liaisonref23_May.calls t101 true _ A11.out).mono ?_); rintro e w' ⟨rfl, ⟨nd, rfl⟩⟩; refine ⟨_, rfl, ?_⟩))
                            (try simp only [Act.put, List.setIfInBounds_toArray, List.set_cons_zero, List.set_cons_succ])
                            go_cut [50] (fun v50 wc => ∃ (kq : Nat) (x50_20 : Bool), v50 = .bool x50_20 ∧ Aside0 (liaisonref23_Escape.j1 kq a0 a1 x5_1 (wrap64 (x6_1 + t102)) t101 (a0.extract (x6_1 : Int).toNat ((wrap64 (x6_1 + t102)) : Int).toNat) x50_20 = some r) ∧ Aside0 (kq ≤ k1) ∧ Drawn0 w wc)
                            case first =>
                              have H := HC21.out
                              clear HC21
                              by_cases c22 : a1 = true
                              · subst c22
                                have H1 : (liaisonref23_Escape.j1 k1 a0 true x5_1 (wrap64 (x6_1 + t102)) t101 (a0.extract (x6_1 : Int).toNat ((wrap64 (x6_1 + t102)) : Int).toNat) (t101 == 34)) = some r := by rw [if_pos rfl] at H; exact H
                                clear H
                                have H := H1
                                clear H1
                                have H' := Aside0.mk H
                                clear H
                                go_wp2
                                go_meet
                                case rel => exact ⟨_, ((t101 == 34)), (by first | rfl | (simp; done) | (simp [*]; done)), H', ⟨by have := HK1.out; first | omega | exact Nat.le_refl _⟩, by repeat (first | exact Drawn0.refl _ | apply Drawn0.step)⟩
                              · replace c22 := Bool.eq_false_iff.mpr c22
                                subst c22
                                have H1 : (liaisonref23_Escape.j1 k1 a0 false x5_1 (wrap64 (x6_1 + t102)) t101 (a0.extract (x6_1 : Int).toNat ((wrap64 (x6_1 + t102)) : Int).toNat) false) = some r := by rw [if_neg (show ¬ (false = true) by decide)] at H; exact H
                                clear H
                                have H := H1
                                clear H1
                                have H' := Aside0.mk H
                                clear H
                                go_wp2
                                go_meet
                                case rel => exact ⟨_, (false), (by first | rfl | (simp; done) | (simp [*]; done)), H', ⟨by have := HK1.out; first | omega | exact Nat.le_refl _⟩, by repeat (first | exact Drawn0.refl _ | apply Drawn0.step)⟩
                            case rest =>
                              clear HC21
                              try clear c1
                              try clear c2
                              try clear p2
                              try clear c3
                              try clear c3b0
                              try clear c4
                              try clear c4b0
                              try clear c4b1
                              try clear c5
                              try clear c5b0
                              try clear c5b1
                              try clear p6
                              try clear c7
                              try clear c7b0
                              try clear c7b1
                              try clear c8
                              try clear c8b0
                              try clear c9
                              try clear c9b0
                              try clear c9b1
                              try clear c10
                              try clear c10b0
                              try clear c10b1
                              try clear c12
                              try clear c13
                              try clear c13b0
                              try clear c13b1
                              try clear c14
                              try clear c14b0
                              try clear c14b1
                              try clear c14b2
                              try clear c15
                              try clear c15b0
                              try clear c15b1
                              try clear c16
                              try clear c16b0
                              try clear c16b1
                              try clear c16b2
                              try clear c17
                              try clear c17b0
                              try clear c17b1
                              try clear c18
                              try clear c18b0
                              try clear c18b1
                              try clear c18b2
                              try clear c19
                              try clear c19b0
                              try clear c19b1
                              try clear c20
                              try clear c20b0
                              try clear c20b1
                              try clear c20b2
                              try clear c22
                              try clear p2
                              obtain ⟨kq, x50_20, rfl, HA, HJ20, ⟨mc20, rfl⟩⟩ := hcut
                              cases kq with
                              | zero => exact absurd HA.out (by simp [liaisonref23_Escape.j1])
                              | succ kj20 =>
                                have H := HA.out
                                clear HA
                                simp only [liaisonref23_Escape.j1] at H
                                by_cases c23 : x50_20 = true
                                · subst c23
                                  have H1 : (if x5_1.size + 6 ≤ 9223372036854775807 then (liaisonref23_Escape.l0 kj20 a0 a1 (x5_1 ++ (⟨#[38, 113, 117, 111, 116, 59]⟩ : ByteArray)) (wrap64 (x6_1 + t102))) else (none)) = some r := by rw [if_pos rfl] at H; exact H
                                  clear H
                                  have H := H1
                                  clear H1
                                  by_cases c24 : x5_1.size + 6 ≤ 9223372036854775807
                                  · rw [if_pos c24] at H
                                    have c24b0 := eq_true c24
                                    have c24b1 : decide (x5_1.size + 6 ≤ 9223372036854775807) = true := decide_eq_true c24
                                    try have c24b2 : (9223372036854775807 < x5_1.size + 6) = False := eq_false (Nat.not_lt.2 c24)
                                    have H' := Aside0.mk H
                                    clear H
                                    go_wp2
                                    go_roundg kj20
                                    case measure => have := HK1.out; have := HJ20.out; omega
                                    case rel => exact ⟨(x5_1 ++ (⟨#[38, 113, 117, 111, 116, 59]⟩ : ByteArray)), ((wrap64 (x6_1 + t102))), (by first | rfl | (simp; done) | (simp [*]; done)), (by first | rfl | (simp; done) | (simp [*]; done)), H', ⟨by have := HK1.out; have := HJ20.out; omega⟩, by repeat (first | exact Drawn0.refl _ | apply Drawn0.step)⟩
                                  · rw [if_neg c24] at H
                                    exact absurd H (by simp)
                                · replace c23 := Bool.eq_false_iff.mpr c23
                                  subst c23
                                  have H1 : (if a1 = true then (liaisonref23_Escape.j2 kj20 a0 a1 x5_1 (wrap64 (x6_1 + t102)) t101 (a0.extract (x6_1 : Int).toNat ((wrap64 (x6_1 + t102)) : Int).toNat) (t101 == 9)) else (liaisonref23_Escape.j2 kj20 a0 a1 x5_1 (wrap64 (x6_1 + t102)) t101 (a0.extract (x6_1 : Int).toNat ((wrap64 (x6_1 + t102)) : Int).toNat) false)) = some r := by rw [if_neg (show ¬ (false = true) by decide)] at H; exact H
                                  clear H
                                  have H := H1
                                  clear H1
                                  have HC25 := Aside0.mk H
                                  clear H
                                  go_upto_region 21 with (fail)
                                  go_cut [56] (fun v56 wc => ∃ (kq : Nat) (x56_24 : Bool), v56 = .bool x56_24 ∧ Aside0 (liaisonref23_Escape.j2 kq a0 a1 x5_1 (wrap64 (x6_1 + t102)) t101 (a0.extract (x6_1 : Int).toNat ((wrap64 (x6_1 + t102)) : Int).toNat) x56_24 = some r) ∧ Aside0 (kq ≤ kj20) ∧ Drawn0 w wc)
                                  case first =>
                                    have H := HC25.out
                                    clear HC25
                                    by_cases c26 : a1 = true
                                    · subst c26
                                      have H1 : (liaisonref23_Escape.j2 kj20 a0 true x5_1 (wrap64 (x6_1 + t102)) t101 (a0.extract (x6_1 : Int).toNat ((wrap64 (x6_1 + t102)) : Int).toNat) (t101 == 9)) = some r := by rw [if_pos rfl] at H; exact H
                                      clear H
                                      have H := H1
                                      clear H1
                                      have H' := Aside0.mk H
                                      clear H
                                      go_wp2
                                      go_meet
                                      case rel => exact ⟨_, ((t101 == 9)), (by first | rfl | (simp; done) | (simp [*]; done)), H', ⟨by have := HK1.out; have := HJ20.out; first | omega | exact Nat.le_refl _⟩, by repeat (first | exact Drawn0.refl _ | apply Drawn0.step)⟩
                                    · replace c26 := Bool.eq_false_iff.mpr c26
                                      subst c26
                                      have H1 : (liaisonref23_Escape.j2 kj20 a0 false x5_1 (wrap64 (x6_1 + t102)) t101 (a0.extract (x6_1 : Int).toNat ((wrap64 (x6_1 + t102)) : Int).toNat) false) = some r := by rw [if_neg (show ¬ (false = true) by decide)] at H; exact H
                                      clear H
                                      have H := H1
                                      clear H1
                                      have H' := Aside0.mk H
                                      clear H
                                      go_wp2
                                      go_meet
                                      case rel => exact ⟨_, (false), (by first | rfl | (simp; done) | (simp [*]; done)), H', ⟨by have := HK1.out; have := HJ20.out; first | omega | exact Nat.le_refl _⟩, by repeat (first | exact Drawn0.refl _ | apply Drawn0.step)⟩
                                  case rest =>
                                    clear HC25
                                    try clear c1
                                    try clear c2
                                    try clear p2
                                    try clear c3
                                    try clear c3b0
                                    try clear c4
                                    try clear c4b0
                                    try clear c4b1
                                    try clear c5
                                    try clear c5b0
                                    try clear c5b1
                                    try clear p6
                                    try clear c7
                                    try clear c7b0
                                    try clear c7b1
                                    try clear c8
                                    try clear c8b0
                                    try clear c9
                                    try clear c9b0
                                    try clear c9b1
                                    try clear c10
                                    try clear c10b0
                                    try clear c10b1
                                    try clear c12
                                    try clear c13
                                    try clear c13b0
                                    try clear c13b1
                                    try clear c14
                                    try clear c14b0
                                    try clear c14b1
                                    try clear c14b2
                                    try clear c15
                                    try clear c15b0
                                    try clear c15b1
                                    try clear c16
                                    try clear c16b0
                                    try clear c16b1
                                    try clear c16b2
                                    try clear c17
                                    try clear c17b0
                                    try clear c17b1
                                    try clear c18
                                    try clear c18b0
                                    try clear c18b1
                                    try clear c18b2
                                    try clear c19
                                    try clear c19b0
                                    try clear c19b1
                                    try clear c20
                                    try clear c20b0
                                    try clear c20b1
                                    try clear c20b2
                                    try clear c22
                                    try clear c23
                                    try clear c24
                                    try clear c24b0
                                    try clear c24b1
                                    try clear c24b2
                                    try clear c26
                                    try clear p2
                                    try clear p6
                                    obtain ⟨kq, x56_24, rfl, HA, HJ24, ⟨mc24, rfl⟩⟩ := hcut
                                    cases kq with
                                    | zero => exact absurd HA.out (by simp [liaisonref23_Escape.j2])
                                    | succ kj24 =>
                                      have H := HA.out
                                      clear HA
                                      simp only [liaisonref23_Escape.j2] at H
                                      by_cases c27 : x56_24 = true
                                      · subst c27
                                        have H1 : (if x5_1.size + 4 ≤ 9223372036854775807 then (liaisonref23_Escape.l0 kj24 a0 a1 (x5_1 ++ (⟨#[38, 35, 57, 59]⟩ : ByteArray)) (wrap64 (x6_1 + t102))) else (none)) = some r := by rw [if_pos rfl] at H; exact H
                                        clear H
                                        have H := H1
                                        clear H1
                                        by_cases c28 : x5_1.size + 4 ≤ 9223372036854775807
                                        · rw [if_pos c28] at H
                                          have c28b0 := eq_true c28
                                          have c28b1 : decide (x5_1.size + 4 ≤ 9223372036854775807) = true := decide_eq_true c28
                                          try have c28b2 : (9223372036854775807 < x5_1.size + 4) = False := eq_false (Nat.not_lt.2 c28)
                                          have H' := Aside0.mk H
                                          clear H
                                          go_wp2
                                          go_roundg kj24
                                          case measure => have := HK1.out; have := HJ20.out; have := HJ24.out; omega
                                          case rel => exact ⟨(x5_1 ++ (⟨#[38, 35, 57, 59]⟩ : ByteArray)), ((wrap64 (x6_1 + t102))), (by first | rfl | (simp; done) | (simp [*]; done)), (by first | rfl | (simp; done) | (simp [*]; done)), H', ⟨by have := HK1.out; have := HJ20.out; have := HJ24.out; omega⟩, by repeat (first | exact Drawn0.refl _ | apply Drawn0.step)⟩
                                        · rw [if_neg c28] at H
                                          exact absurd H (by simp)
                                      · replace c27 := Bool.eq_false_iff.mpr c27
                                        subst c27
                                        have H1 : (if a1 = true then (if t101 = 10 then (if x5_1.size + 5 ≤ 9223372036854775807 then (liaisonref23_Escape.l0 kj24 a0 a1 (x5_1 ++ (⟨#[38, 35, 49, 48, 59]⟩ : ByteArray)) (wrap64 (x6_1 + t102))) else (none)) else (if x5_1.size + (a0.extract (x6_1 : Int).toNat ((wrap64 (x6_1 + t102)) : Int).toNat).size ≤ 9223372036854775807 then (liaisonref23_Escape.l0 kj24 a0 a1 (x5_1 ++ (a0.extract (x6_1 : Int).toNat ((wrap64 (x6_1 + t102)) : Int).toNat)) (wrap64 (x6_1 + t102))) else (none))) else (if x5_1.size + (a0.extract (x6_1 : Int).toNat ((wrap64 (x6_1 + t102)) : Int).toNat).size ≤ 9223372036854775807 then (liaisonref23_Escape.l0 kj24 a0 a1 (x5_1 ++ (a0.extract (x6_1 : Int).toNat ((wrap64 (x6_1 + t102)) : Int).toNat)) (wrap64 (x6_1 + t102))) else (none))) = some r := by rw [if_neg (show ¬ (false = true) by decide)] at H; exact H
                                        clear H
                                        have H := H1
                                        clear H1
                                        by_cases c29 : a1 = true
                                        · subst c29
                                          have H1 : (if t101 = 10 then (if x5_1.size + 5 ≤ 9223372036854775807 then (liaisonref23_Escape.l0 kj24 a0 true (x5_1 ++ (⟨#[38, 35, 49, 48, 59]⟩ : ByteArray)) (wrap64 (x6_1 + t102))) else (none)) else (if x5_1.size + (a0.extract (x6_1 : Int).toNat ((wrap64 (x6_1 + t102)) : Int).toNat).size ≤ 9223372036854775807 then (liaisonref23_Escape.l0 kj24 a0 true (x5_1 ++ (a0.extract (x6_1 : Int).toNat ((wrap64 (x6_1 + t102)) : Int).toNat)) (wrap64 (x6_1 + t102))) else (none))) = some r := by rw [if_pos rfl] at H; exact H
                                          clear H
                                          have H := H1
                                          clear H1
                                          by_cases c30 : t101 = 10
                                          · rw [if_pos c30] at H
                                            have c30b0 : (t101 == 10) = true := beq_iff_eq.mpr c30
                                            have c30b1 : (t101 != 10) = false := bne_eq_false_iff_eq.mpr c30
                                            clear c30
                                            by_cases c31 : x5_1.size + 5 ≤ 9223372036854775807
                                            · rw [if_pos c31] at H
                                              have c31b0 := eq_true c31
                                              have c31b1 : decide (x5_1.size + 5 ≤ 9223372036854775807) = true := decide_eq_true c31
                                              try have c31b2 : (9223372036854775807 < x5_1.size + 5) = False := eq_false (Nat.not_lt.2 c31)
                                              have H' := Aside0.mk H
                                              clear H
                                              go_wp2
                                              go_roundg kj24
                                              case measure => have := HK1.out; have := HJ20.out; have := HJ24.out; omega
                                              case rel => exact ⟨(x5_1 ++ (⟨#[38, 35, 49, 48, 59]⟩ : ByteArray)), ((wrap64 (x6_1 + t102))), (by first | rfl | (simp; done) | (simp [*]; done)), (by first | rfl | (simp; done) | (simp [*]; done)), H', ⟨by have := HK1.out; have := HJ20.out; have := HJ24.out; omega⟩, by repeat (first | exact Drawn0.refl _ | apply Drawn0.step)⟩
                                            · rw [if_neg c31] at H
                                              exact absurd H (by simp)
                                          · rw [if_neg c30] at H
                                            have c30b0 : (t101 == 10) = false := beq_eq_false_iff_ne.mpr c30
                                            have c30b1 : (t101 != 10) = true := bne_iff_ne.mpr c30
                                            by_cases c32 : x5_1.size + (a0.extract (x6_1 : Int).toNat ((wrap64 (x6_1 + t102)) : Int).toNat).size ≤ 9223372036854775807
                                            · rw [if_pos c32] at H
                                              have c32b0 := eq_true c32
                                              have c32b1 : decide (x5_1.size + (a0.extract (x6_1 : Int).toNat ((wrap64 (x6_1 + t102)) : Int).toNat).size ≤ 9223372036854775807) = true := decide_eq_true c32
                                              try have c32b2 : (9223372036854775807 < x5_1.size + (a0.extract (x6_1 : Int).toNat ((wrap64 (x6_1 + t102)) : Int).toNat).size) = False := eq_false (Nat.not_lt.2 c32)
                                              have H' := Aside0.mk H
                                              clear H
                                              go_wp2
                                              go_roundg kj24
                                              case measure => have := HK1.out; have := HJ20.out; have := HJ24.out; omega
                                              case rel => exact ⟨(x5_1 ++ (a0.extract (x6_1 : Int).toNat ((wrap64 (x6_1 + t102)) : Int).toNat)), ((wrap64 (x6_1 + t102))), (by first | rfl | (simp; done) | (simp [*]; done)), (by first | rfl | (simp; done) | (simp [*]; done)), H', ⟨by have := HK1.out; have := HJ20.out; have := HJ24.out; omega⟩, by repeat (first | exact Drawn0.refl _ | apply Drawn0.step)⟩
                                            · rw [if_neg c32] at H
                                              exact absurd H (by simp)
                                        · replace c29 := Bool.eq_false_iff.mpr c29
                                          subst c29
                                          have H1 : (if x5_1.size + (a0.extract (x6_1 : Int).toNat ((wrap64 (x6_1 + t102)) : Int).toNat).size ≤ 9223372036854775807 then (liaisonref23_Escape.l0 kj24 a0 false (x5_1 ++ (a0.extract (x6_1 : Int).toNat ((wrap64 (x6_1 + t102)) : Int).toNat)) (wrap64 (x6_1 + t102))) else (none)) = some r := by rw [if_neg (show ¬ (false = true) by decide)] at H; exact H
                                          clear H
                                          have H := H1
                                          clear H1
                                          by_cases c33 : x5_1.size + (a0.extract (x6_1 : Int).toNat ((wrap64 (x6_1 + t102)) : Int).toNat).size ≤ 9223372036854775807
                                          · rw [if_pos c33] at H
                                            have c33b0 := eq_true c33
                                            have c33b1 : decide (x5_1.size + (a0.extract (x6_1 : Int).toNat ((wrap64 (x6_1 + t102)) : Int).toNat).size ≤ 9223372036854775807) = true := decide_eq_true c33
                                            try have c33b2 : (9223372036854775807 < x5_1.size + (a0.extract (x6_1 : Int).toNat ((wrap64 (x6_1 + t102)) : Int).toNat).size) = False := eq_false (Nat.not_lt.2 c33)
                                            have H' := Aside0.mk H
                                            clear H
                                            go_wp2
                                            go_roundg kj24
                                            case measure => have := HK1.out; have := HJ20.out; have := HJ24.out; omega
                                            case rel => exact ⟨(x5_1 ++ (a0.extract (x6_1 : Int).toNat ((wrap64 (x6_1 + t102)) : Int).toNat)), ((wrap64 (x6_1 + t102))), (by first | rfl | (simp; done) | (simp [*]; done)), (by first | rfl | (simp; done) | (simp [*]; done)), H', ⟨by have := HK1.out; have := HJ20.out; have := HJ24.out; omega⟩, by repeat (first | exact Drawn0.refl _ | apply Drawn0.step)⟩
                                          · rw [if_neg c33] at H
                                            exact absurd H (by simp)
                  · replace c12 := Bool.eq_false_iff.mpr c12
                    subst c12
                    have H1 : (if x5_1.size + 0 ≤ 9223372036854775807 then (liaisonref23_Escape.l0 k1 a0 a1 (x5_1 ++ (⟨#[]⟩ : ByteArray)) (wrap64 (x6_1 + t102))) else (none)) = some r := by rw [if_neg (show ¬ (false = true) by decide)] at H; exact H
                    clear H
                    have H := H1
                    clear H1
                    by_cases c34 : x5_1.size + 0 ≤ 9223372036854775807
                    · rw [if_pos c34] at H
                      have c34b0 := eq_true c34
                      have c34b1 : decide (x5_1.size + 0 ≤ 9223372036854775807) = true := decide_eq_true c34
                      try have c34b2 : (9223372036854775807 < x5_1.size + 0) = False := eq_false (Nat.not_lt.2 c34)
                      have H' := Aside0.mk H
                      clear H
                      go_wp2_with (first | ((with_reducible refine gate_callee (f := 82) rfl ?_); refine goesL_ (some 18) rfl rfl Tryz.func82 (by kernel_rfl) rfl #[.string (a0.extract (x6_1 : Int).toNat a0.size)] rfl (by (try simp only [List.map_toArray, List.map_cons, List.map_nil]); first | done | rfl | (simp only [List.length_drop, List.length_take]; rfl)) ?_; (with_reducible refine (liaisonref23_Sign.calls k1 (a0.extract (x6_1 : Int).toNat a0.size) t101 t102 _ A6.out).mono ?_); rintro e w' ⟨rfl, ⟨nd, rfl⟩⟩; refine ⟨_, rfl, ?_⟩) | ((with_reducible refine gate_callee (f := 83) rfl ?_); refine goesL_ (some 36) rfl rfl Tryz.func83 (by kernel_rfl) rfl #[.int .i64 t101] rfl (by (try simp only [List.map_toArray, List.map_cons, List.map_nil]); first | done | rfl | (simp only [List.length_drop, List.length_take]; rfl)) ?_; (with_reducible refine (liaisonref23_May.calls t101 false _ A11.out).mono ?_); rintro e w' ⟨rfl, ⟨nd, rfl⟩⟩; refine ⟨_, rfl, ?_⟩))
                      go_roundg k1
                      case measure => have := HK1.out; omega
                      case rel => exact ⟨(x5_1 ++ (⟨#[]⟩ : ByteArray)), (wrap64 (x6_1 + t102)), (by first | rfl | (simp; done) | (simp [*]; done)), (by first | rfl | (simp; done) | (simp [*]; done)), H', ⟨by have := HK1.out; omega⟩, by repeat (first | exact Drawn0.refl _ | apply Drawn0.step)⟩
                    · rw [if_neg c34] at H
                      exact absurd H (by simp)
                · rw [if_neg c10] at H
                  exact absurd H (by simp)
              · rw [if_neg c9] at H
                exact absurd H (by simp)
          · rw [if_neg c5] at H
            exact absurd H (by simp)
        · rw [if_neg c4] at H
          exact absurd H (by simp)
      · rw [if_neg c3] at H
        have c3b0 : decide (x6_1 < (a0.size : Int)) = false := decide_eq_false c3
        clear c3
        obtain rfl := Option.some.inj H
        go_wp2
        go_ret
        exact ⟨by first | rfl | (simp; done) | (simp [*]; done), by repeat (first | exact Drawn0.refl _ | apply Drawn0.step)⟩

/-! ### liaisonref23_letter: function 225 -/
def liaisonref23_letter.f (a0 : Int) : Option (Bool) := if a0 ≥ 65 then (if a0 ≤ 90 then (some true) else (if a0 ≥ 97 then (if a0 ≤ 122 then (some true) else (some (a0 == 95))) else (some (a0 == 95)))) else (if a0 ≥ 97 then (if a0 ≤ 122 then (some true) else (some (a0 == 95))) else (some (a0 == 95)))
set_option maxHeartbeats 8000000 in
set_option maxRecDepth 100000 in
theorem liaisonref23_letter.calls (a0 : Int) (r : Bool) (w : World) (h : liaisonref23_letter.f a0 = some r) :
    Calls Tryz.prog 225 #[.int .u8 a0] w fun e w' => e = .returned (.bool r) ∧ Drawn0 w w' := by
  have H : (if a0 ≥ 65 then (if a0 ≤ 90 then (some true) else (if a0 ≥ 97 then (if a0 ≤ 122 then (some true) else (some (a0 == 95))) else (some (a0 == 95)))) else (if a0 ≥ 97 then (if a0 ≤ 122 then (some true) else (some (a0 == 95))) else (some (a0 == 95)))) = some r := h
  clear h
  by_cases c2 : a0 ≥ 65
  · rw [if_pos c2] at H
    have c2b0 : decide (65 ≤ a0) = true := decide_eq_true c2
    clear c2
    by_cases c3 : a0 ≤ 90
    · rw [if_pos c3] at H
      have c3b0 : decide (a0 ≤ 90) = true := decide_eq_true c3
      clear c3
      obtain rfl := Option.some.inj H
      go_enter Tryz.func225, Tryz.ntmps225
      go_wp2
      go_ret
      exact ⟨by first | rfl | (simp; done) | (simp [*]; done), by repeat (first | exact Drawn0.refl _ | apply Drawn0.step)⟩
    · rw [if_neg c3] at H
      have c3b0 : decide (a0 ≤ 90) = false := decide_eq_false c3
      clear c3
      by_cases c4 : a0 ≥ 97
      · rw [if_pos c4] at H
        have c4b0 : decide (97 ≤ a0) = true := decide_eq_true c4
        clear c4
        by_cases c5 : a0 ≤ 122
        · rw [if_pos c5] at H
          have c5b0 : decide (a0 ≤ 122) = true := decide_eq_true c5
          clear c5
          obtain rfl := Option.some.inj H
          go_enter Tryz.func225, Tryz.ntmps225
          go_wp2
          go_ret
          exact ⟨by first | rfl | (simp; done) | (simp [*]; done), by repeat (first | exact Drawn0.refl _ | apply Drawn0.step)⟩
        · rw [if_neg c5] at H
          have c5b0 : decide (a0 ≤ 122) = false := decide_eq_false c5
          clear c5
          obtain rfl := Option.some.inj H
          go_enter Tryz.func225, Tryz.ntmps225
          go_wp2
          go_ret
          exact ⟨by first | rfl | (simp; done) | (simp [*]; done), by repeat (first | exact Drawn0.refl _ | apply Drawn0.step)⟩
      · rw [if_neg c4] at H
        have c4b0 : decide (97 ≤ a0) = false := decide_eq_false c4
        clear c4
        obtain rfl := Option.some.inj H
        go_enter Tryz.func225, Tryz.ntmps225
        go_wp2
        go_ret
        exact ⟨by first | rfl | (simp; done) | (simp [*]; done), by repeat (first | exact Drawn0.refl _ | apply Drawn0.step)⟩
  · rw [if_neg c2] at H
    have c2b0 : decide (65 ≤ a0) = false := decide_eq_false c2
    clear c2
    by_cases c6 : a0 ≥ 97
    · rw [if_pos c6] at H
      have c6b0 : decide (97 ≤ a0) = true := decide_eq_true c6
      clear c6
      by_cases c7 : a0 ≤ 122
      · rw [if_pos c7] at H
        have c7b0 : decide (a0 ≤ 122) = true := decide_eq_true c7
        clear c7
        obtain rfl := Option.some.inj H
        go_enter Tryz.func225, Tryz.ntmps225
        go_wp2
        go_ret
        exact ⟨by first | rfl | (simp; done) | (simp [*]; done), by repeat (first | exact Drawn0.refl _ | apply Drawn0.step)⟩
      · rw [if_neg c7] at H
        have c7b0 : decide (a0 ≤ 122) = false := decide_eq_false c7
        clear c7
        obtain rfl := Option.some.inj H
        go_enter Tryz.func225, Tryz.ntmps225
        go_wp2
        go_ret
        exact ⟨by first | rfl | (simp; done) | (simp [*]; done), by repeat (first | exact Drawn0.refl _ | apply Drawn0.step)⟩
    · rw [if_neg c6] at H
      have c6b0 : decide (97 ≤ a0) = false := decide_eq_false c6
      clear c6
      obtain rfl := Option.some.inj H
      go_enter Tryz.func225, Tryz.ntmps225
      go_wp2
      go_ret
      exact ⟨by first | rfl | (simp; done) | (simp [*]; done), by repeat (first | exact Drawn0.refl _ | apply Drawn0.step)⟩

/-! ### liaisonref23_more: function 224 -/
def liaisonref23_more.f (a0 : Int) : Option (Bool) := (liaisonref23_letter.f a0).bind fun t104 => (if t104 = true then (some true) else (if a0 ≥ 48 then (if a0 ≤ 57 then (some true) else (if a0 = 45 then (some true) else (some (a0 == 46)))) else (if a0 = 45 then (some true) else (some (a0 == 46)))))
set_option maxHeartbeats 8000000 in
set_option maxRecDepth 100000 in
theorem liaisonref23_more.calls (a0 : Int) (r : Bool) (w : World) (h : liaisonref23_more.f a0 = some r) :
    Calls Tryz.prog 224 #[.int .u8 a0] w fun e w' => e = .returned (.bool r) ∧ Drawn0 w w' := by
  have H : ((liaisonref23_letter.f a0).bind fun t104 => (if t104 = true then (some true) else (if a0 ≥ 48 then (if a0 ≤ 57 then (some true) else (if a0 = 45 then (some true) else (some (a0 == 46)))) else (if a0 = 45 then (some true) else (some (a0 == 46)))))) = some r := h
  clear h
  replace H := Option.bind_eq_some_iff.mp H
  obtain ⟨t104, A20, H⟩ := H
  replace H : (if t104 = true then (some true) else (if a0 ≥ 48 then (if a0 ≤ 57 then (some true) else (if a0 = 45 then (some true) else (some (a0 == 46)))) else (if a0 = 45 then (some true) else (some (a0 == 46))))) = some r := H
  have A2 := Aside0.mk A20
  clear A20
  by_cases c3 : t104 = true
  · subst c3
    have H1 : (some true) = some r := by rw [if_pos rfl] at H; exact H
    clear H
    have H := H1
    clear H1
    obtain rfl := Option.some.inj H
    go_enter Tryz.func224, Tryz.ntmps224
    go_wp2_with (first | ((with_reducible refine gate_callee (f := 225) rfl ?_); refine goesL_ (some 4) rfl rfl Tryz.func225 (by kernel_rfl) rfl #[.int .u8 a0] rfl (by (try simp only [List.map_toArray, List.map_cons, List.map_nil]); first | done | rfl | (simp only [List.length_drop, List.length_take]; rfl)) ?_; (with_reducible refine (liaisonref23_letter.calls a0 true _ A2.out).mono ?_); rintro e w' ⟨rfl, ⟨nd, rfl⟩⟩; refine ⟨_, rfl, ?_⟩))
    go_ret
    exact ⟨by first | rfl | (simp; done) | (simp [*]; done), by repeat (first | exact Drawn0.refl _ | apply Drawn0.step)⟩
  · replace c3 := Bool.eq_false_iff.mpr c3
    subst c3
    have H1 : (if a0 ≥ 48 then (if a0 ≤ 57 then (some true) else (if a0 = 45 then (some true) else (some (a0 == 46)))) else (if a0 = 45 then (some true) else (some (a0 == 46)))) = some r := by rw [if_neg (show ¬ (false = true) by decide)] at H; exact H
    clear H
    have H := H1
    clear H1
    by_cases c4 : a0 ≥ 48
    · rw [if_pos c4] at H
      have c4b0 : decide (48 ≤ a0) = true := decide_eq_true c4
      clear c4
      by_cases c5 : a0 ≤ 57
      · rw [if_pos c5] at H
        have c5b0 : decide (a0 ≤ 57) = true := decide_eq_true c5
        clear c5
        obtain rfl := Option.some.inj H
        go_enter Tryz.func224, Tryz.ntmps224
        go_wp2_with (first | ((with_reducible refine gate_callee (f := 225) rfl ?_); refine goesL_ (some 4) rfl rfl Tryz.func225 (by kernel_rfl) rfl #[.int .u8 a0] rfl (by (try simp only [List.map_toArray, List.map_cons, List.map_nil]); first | done | rfl | (simp only [List.length_drop, List.length_take]; rfl)) ?_; (with_reducible refine (liaisonref23_letter.calls a0 false _ A2.out).mono ?_); rintro e w' ⟨rfl, ⟨nd, rfl⟩⟩; refine ⟨_, rfl, ?_⟩))
        go_ret
        exact ⟨by first | rfl | (simp; done) | (simp [*]; done), by repeat (first | exact Drawn0.refl _ | apply Drawn0.step)⟩
      · rw [if_neg c5] at H
        have c5b0 : decide (a0 ≤ 57) = false := decide_eq_false c5
        clear c5
        by_cases c6 : a0 = 45
        · rw [if_pos c6] at H
          have c6b0 : (a0 == 45) = true := beq_iff_eq.mpr c6
          have c6b1 : (a0 != 45) = false := bne_eq_false_iff_eq.mpr c6
          clear c6
          obtain rfl := Option.some.inj H
          go_enter Tryz.func224, Tryz.ntmps224
          go_wp2_with (first | ((with_reducible refine gate_callee (f := 225) rfl ?_); refine goesL_ (some 4) rfl rfl Tryz.func225 (by kernel_rfl) rfl #[.int .u8 a0] rfl (by (try simp only [List.map_toArray, List.map_cons, List.map_nil]); first | done | rfl | (simp only [List.length_drop, List.length_take]; rfl)) ?_; (with_reducible refine (liaisonref23_letter.calls a0 false _ A2.out).mono ?_); rintro e w' ⟨rfl, ⟨nd, rfl⟩⟩; refine ⟨_, rfl, ?_⟩))
          go_ret
          exact ⟨by first | rfl | (simp; done) | (simp [*]; done), by repeat (first | exact Drawn0.refl _ | apply Drawn0.step)⟩
        · rw [if_neg c6] at H
          have c6b0 : (a0 == 45) = false := beq_eq_false_iff_ne.mpr c6
          have c6b1 : (a0 != 45) = true := bne_iff_ne.mpr c6
          obtain rfl := Option.some.inj H
          go_enter Tryz.func224, Tryz.ntmps224
          go_wp2_with (first | ((with_reducible refine gate_callee (f := 225) rfl ?_); refine goesL_ (some 4) rfl rfl Tryz.func225 (by kernel_rfl) rfl #[.int .u8 a0] rfl (by (try simp only [List.map_toArray, List.map_cons, List.map_nil]); first | done | rfl | (simp only [List.length_drop, List.length_take]; rfl)) ?_; (with_reducible refine (liaisonref23_letter.calls a0 false _ A2.out).mono ?_); rintro e w' ⟨rfl, ⟨nd, rfl⟩⟩; refine ⟨_, rfl, ?_⟩))
          go_ret
          exact ⟨by first | rfl | (simp; done) | (simp [*]; done), by repeat (first | exact Drawn0.refl _ | apply Drawn0.step)⟩
    · rw [if_neg c4] at H
      have c4b0 : decide (48 ≤ a0) = false := decide_eq_false c4
      clear c4
      by_cases c7 : a0 = 45
      · rw [if_pos c7] at H
        have c7b0 : (a0 == 45) = true := beq_iff_eq.mpr c7
        have c7b1 : (a0 != 45) = false := bne_eq_false_iff_eq.mpr c7
        clear c7
        obtain rfl := Option.some.inj H
        go_enter Tryz.func224, Tryz.ntmps224
        go_wp2_with (first | ((with_reducible refine gate_callee (f := 225) rfl ?_); refine goesL_ (some 4) rfl rfl Tryz.func225 (by kernel_rfl) rfl #[.int .u8 a0] rfl (by (try simp only [List.map_toArray, List.map_cons, List.map_nil]); first | done | rfl | (simp only [List.length_drop, List.length_take]; rfl)) ?_; (with_reducible refine (liaisonref23_letter.calls a0 false _ A2.out).mono ?_); rintro e w' ⟨rfl, ⟨nd, rfl⟩⟩; refine ⟨_, rfl, ?_⟩))
        go_ret
        exact ⟨by first | rfl | (simp; done) | (simp [*]; done), by repeat (first | exact Drawn0.refl _ | apply Drawn0.step)⟩
      · rw [if_neg c7] at H
        have c7b0 : (a0 == 45) = false := beq_eq_false_iff_ne.mpr c7
        have c7b1 : (a0 != 45) = true := bne_iff_ne.mpr c7
        obtain rfl := Option.some.inj H
        go_enter Tryz.func224, Tryz.ntmps224
        go_wp2_with (first | ((with_reducible refine gate_callee (f := 225) rfl ?_); refine goesL_ (some 4) rfl rfl Tryz.func225 (by kernel_rfl) rfl #[.int .u8 a0] rfl (by (try simp only [List.map_toArray, List.map_cons, List.map_nil]); first | done | rfl | (simp only [List.length_drop, List.length_take]; rfl)) ?_; (with_reducible refine (liaisonref23_letter.calls a0 false _ A2.out).mono ?_); rintro e w' ⟨rfl, ⟨nd, rfl⟩⟩; refine ⟨_, rfl, ?_⟩))
        go_ret
        exact ⟨by first | rfl | (simp; done) | (simp [*]; done), by repeat (first | exact Drawn0.refl _ | apply Drawn0.step)⟩

end Go.Proofs.YtcmjaaigkbjpaaaGreatDoor.PX
