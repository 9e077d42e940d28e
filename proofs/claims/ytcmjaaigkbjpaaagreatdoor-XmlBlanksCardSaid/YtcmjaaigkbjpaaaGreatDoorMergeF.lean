/- Own texts, merged for the hand-in. -/
import Derived.RangeFuncNested
import Derived.RangeFuncBound
import Derived.RangeFuncCalls
import Derived.RangeFuncLeaves
import Derived.Shelf.Abstract
import Derived.OwnWalkIn
import Derived.TacticsInMore
import Derived.LoopNIn
import Derived.LoopIn
import Derived.Test.YtcmjaaigkbjpaaaGreatDoorMergeC
import Derived.Test.YtcmjaaigkbjpaaaGreatDoorMergeE

/- Walks: xml's Word, at an element with one text below it. -/
namespace Go.Proofs.YtcmjaaigkbjpaaaGreatDoor.Lia
open Go.RowKit Go.Shelf Go.Proofs.YtcmjaaigkbjpaaaGreatDoorW.PrintWords PX
attribute [local go_sem] Oper.semAt_some

theorem room_none {F : Fence} (hd : F.depth = none) (k : Nat) : F.room k := fun d h => by rw [hd] at h; cases h
theorem yield_depth {F : Fence} (hd : F.depth = none) {m : Nat} (m' : Nat) {P : Program} {l : Nat} {args : Array Value} {W : World} {R : Ending → World → Prop} (h : YieldAt F m P l args W R) : YieldAt F m' P l args W R := by
  obtain ⟨fn, tmps, assign, body, hy, h1, h2⟩ := h
  exact ⟨fn, tmps, assign, body, hy, h1, fun c cs _ => h2 c cs (room_none hd _)⟩
/-- All blocks of cells but the builder's and rows of bytes are kept. -/
def KpB (b : Nat) (W W' : World) : Prop := W.heap.size ≤ W'.heap.size ∧ ∀ j c t fz, j ≠ b → t ≠ 5 → W.heap[j]? = some (.cells c t fz) → W'.heap[j]? = some (.cells c t fz)
theorem KpB.refl (b : Nat) (W : World) : KpB b W W := ⟨Nat.le_refl _, fun _ _ _ _ _ _ h => h⟩
theorem KpB.trans {b : Nat} {A B C : World} (h : KpB b A B) (k : KpB b B C) : KpB b A C := ⟨Nat.le_trans h.1 k.1, fun j c t fz hj ht hh => k.2 j c t fz hj ht (h.2 j c t fz hj ht hh)⟩
theorem KpB.alloc (b : Nat) (W : World) (o : Obj) : KpB b W (W.alloc o) :=
  ⟨by simp, fun j _ _ _ _ _ h => (Below.heap_alloc W o j (Array.getElem?_eq_some_iff.1 h).1).trans h⟩
theorem KpB.kept {b B : Nat} {W W' : World} (h : Lib.OthersKept 5 (some b) W W') (hb : Below B W W') : KpB b W W' := by
  refine ⟨hb.size, fun j c t fz hj ht hh => ?_⟩
  have := h j (.cells c t fz) hh (by intro e; exact hj (Option.some.inj e)) (by rintro c' fz' e; cases e; exact ht rfl)
  exact this
abbrev BStr := { x : Str // x.length ≤ 1000 }
section
variable {F : Fence} (hd : F.depth = none) (h203 : F.fn 203) (hro : F.round = none) (l b N : Nat) (J Jx : List BStr → World → Prop)
  (hJa : ∀ s W o, J s W → J s (W.alloc o))
  (hY : ∀ m pre x W, J pre W → pre.length < N → YieldAt F m Tryz.prog l #[.string ⟨x.1.toArray⟩] W fun e W' =>
    (e = .returned (.bool true) ∧ J (pre ++ [x]) W' ∧ KpB b W W') ∨ (e = .returned (.bool false) ∧ Jx (pre ++ [x]) W'))
include hd h203 hro hJa hY
set_option maxHeartbeats 2000000 in
set_option maxRecDepth 100000 in
theorem each_leaf (nm : Str) (t : BStr) (A1 A2 : Option Addr) (n1 c1 c2 n : Nat) (pre : List BStr) (W : World) (hJ : J pre W) (hN : pre.length < N) (hb : b < W.heap.size) :
    CallsIn F n Tryz.prog 203 #[.agg #[.string ⟨nm.toArray⟩, .slice A1 n1 c1, .slice A2 0 c2, .string ⟨t.1.toArray⟩], .func (.yield l) #[] #[]] W fun e W' =>
      (e = .returned (.bool true) ∧ J (pre ++ [t]) W' ∧ KpB b W W') ∨ (e = .returned (.bool false) ∧ Jx (pre ++ [t]) W') := by
  have hdd : ∀ k : Nat, (F.depth.isSome = true → 1 ≤ k) := fun k h => by rw [hd] at h; cases h
  have hJ1 := hJa pre W (.cells #[.string ⟨nm.toArray⟩, .slice A1 n1 c1, .slice A2 0 c2, .string ⟨t.1.toArray⟩] 28) hJ
  have hy := hY (n - 1) pre t _ hJ1 hN
  have hk := newBlk W (.cells #[.string ⟨nm.toArray⟩, .slice A1 n1 c1, .slice A2 0 c2, .string ⟨t.1.toArray⟩] 28)
  have hka := KpB.alloc b W (.cells #[.string ⟨nm.toArray⟩, .slice A1 n1 c1, .slice A2 0 c2, .string ⟨t.1.toArray⟩] 28)
  have hy2 := YieldAt.mono (R' := fun e W' => (e = .returned (.bool true) ∧ J (pre ++ [t]) W' ∧ KpB b W W' ∧ W'.cell? ⟨W.heap.size, 2, none⟩ = some (.slice A2 0 c2)) ∨ (e = .returned (.bool false) ∧ Jx (pre ++ [t]) W')) hy
    fun e W' h => h.elim (fun ⟨he, hj, hk1⟩ => .inl ⟨he, hj, hka.trans hk1, (blk_cell (hk1.2 _ _ _ _ (by omega) (by decide) hk) 2)⟩) .inr
  obtain ⟨fn, tmps, assign, body, hy3, hR⟩ := hy2
  have HR := Lib.hid hR
  clear hY hJa hJ hJ1 hk hka hR hy
  refine callsIn_of_wp Tryz.func203 rfl h203 ?_ hro
  simp only [Tryz.ntmps203, List.size_toArray, List.length_cons, List.length_nil, Nat.reduceAdd, Nat.reduceSub, Array.replicate_succ, Array.replicate_zero, List.push_toArray, List.append_toArray, List.nil_append, List.cons_append]
  gi_wp2_with ((try refine ⟨hdd _, ?_⟩); refine HR.out.mono ?_; clear HR; rintro e W1 (⟨rfl, hj1, hk1, c12⟩ | ⟨rfl, hx1⟩))
  · gi_loopw [15] (fun v wr => v = .int .i64 0 ∧ wr = W1) (fun _ _ => 0)
    case atStart => exact ⟨rfl, rfl⟩
    case round =>
      obtain ⟨rfl, rfl⟩ := hrel
      gi_wp2
      go_ret
      exact .inl ⟨rfl, hj1, hk1⟩
  · go_ret
    exact .inr ⟨rfl, hx1⟩
set_option maxHeartbeats 4000000 in
set_option maxRecDepth 100000 in
theorem each_root (nm nm1 : Str) (t0 t : BStr) (A1 : Option Addr) (kb : Nat) (n1 c1 c2 n : Nat) (B1 B2 : Option Addr) (m1 d1 d2 : Nat) (pre : List BStr) (W : World) (hJ : J pre W) (hN : pre.length + 1 < N) (hb : b < W.heap.size)
    (hblk : ∃ cs tt fz, W.heap[kb]? = some (.cells cs tt fz) ∧ kb ≠ b ∧ tt ≠ 5)
    (h0 : W.cell? ⟨kb, 0, none⟩ = some (.string ⟨nm1.toArray⟩)) (h1 : W.cell? ⟨kb, 1, none⟩ = some (.slice B1 m1 d1)) (h2 : W.cell? ⟨kb, 2, none⟩ = some (.slice B2 0 d2)) (h3 : W.cell? ⟨kb, 3, none⟩ = some (.string ⟨t.1.toArray⟩)) :
    CallsIn F n Tryz.prog 203 #[.agg #[.string ⟨nm.toArray⟩, .slice A1 n1 c1, .slice (some ⟨kb, 0, none⟩) 1 c2, .string ⟨t0.1.toArray⟩], .func (.yield l) #[] #[]] W fun e W' =>
      (e = .returned (.bool true) ∧ J (pre ++ [t0] ++ [t]) W' ∧ KpB b W W') ∨ (e = .returned (.bool false) ∧ (Jx (pre ++ [t0]) W' ∨ Jx (pre ++ [t0] ++ [t]) W')) := by
  have hdd : ∀ k : Nat, (F.depth.isSome = true → 1 ≤ k) := fun k h => by rw [hd] at h; cases h
  have hJ1 := hJa pre W (.cells #[.string ⟨nm.toArray⟩, .slice A1 n1 c1, .slice (some ⟨kb, 0, none⟩) 1 c2, .string ⟨t0.1.toArray⟩] 28) hJ
  have hy := hY (n - 1) pre t0 _ hJ1 (by omega)
  have hk := newBlk W (.cells #[.string ⟨nm.toArray⟩, .slice A1 n1 c1, .slice (some ⟨kb, 0, none⟩) 1 c2, .string ⟨t0.1.toArray⟩] 28)
  have hka := KpB.alloc b W (.cells #[.string ⟨nm.toArray⟩, .slice A1 n1 c1, .slice (some ⟨kb, 0, none⟩) 1 c2, .string ⟨t0.1.toArray⟩] 28)
  have hlf := fun (m : Nat) (W : World) hJ hb => each_leaf hd h203 hro l b N J Jx hJa hY nm1 t B1 B2 m1 d1 d2 m (pre ++ [t0]) W hJ (by simp; omega) hb
  have hcs : ∀ W', KpB b W W' → ∀ j v, W.cell? ⟨kb, j, none⟩ = some v → W'.cell? ⟨kb, j, none⟩ = some v := by
    obtain ⟨cs, tt, fz, hh, hne, h5⟩ := hblk
    intro W' hk j v hv
    have h' := hk.2 _ _ _ _ hne h5 hh
    simp only [World.cell?, hh] at hv
    simp only [World.cell?, h']
    exact hv
  have hy2 := YieldAt.mono (R' := fun e W' => (e = .returned (.bool true) ∧ J (pre ++ [t0]) W' ∧ KpB b W W' ∧ W'.cell? ⟨W.heap.size, 2, none⟩ = some (.slice (some ⟨kb, 0, none⟩) 1 c2)) ∨ (e = .returned (.bool false) ∧ Jx (pre ++ [t0]) W')) hy
    fun e W' h => h.elim (fun ⟨he, hj, hk1⟩ => .inl ⟨he, hj, hka.trans hk1, (blk_cell (hk1.2 _ _ _ _ (by omega) (by decide) hk) 2)⟩) .inr
  obtain ⟨fn, tmps, assign, body, hy3, hR⟩ := hy2
  have HR := Lib.hid hR
  have HLF := Lib.hid hlf
  have HCS := Lib.hid hcs
  have HJA := Lib.hid hJa
  clear hY hJa hJ hJ1 hk hka hR hy hlf hcs hblk
  refine callsIn_of_wp Tryz.func203 rfl h203 ?_ hro
  simp only [Tryz.ntmps203, List.size_toArray, List.length_cons, List.length_nil, Nat.reduceAdd, Nat.reduceSub, Array.replicate_succ, Array.replicate_zero, List.push_toArray, List.append_toArray, List.nil_append, List.cons_append]
  gi_wp2_with ((try refine ⟨hdd _, ?_⟩); refine HR.out.mono ?_; clear HR; rintro e W1 (⟨rfl, hj1, hk1, c12⟩ | ⟨rfl, hx1⟩))
  · gi_loopw [15] (fun v wr => ∃ k : Nat, k ≤ 1 ∧ v = .int .i64 k ∧ J (pre ++ [t0] ++ [t].take k) wr ∧ KpB b W wr) (fun v _ => 1 - (intOf v).toNat)
    case atStart => exact ⟨0, by omega, rfl, by simpa using hj1, hk1⟩
    case round =>
      obtain ⟨k, hk, rfl, hjr, hkr⟩ := hrel
      by_cases hk0 : k = 0
      · subst hk0
        have hjr' : J (pre ++ [t0]) wr := by simpa using hjr
        have e0 := HCS.out wr hkr _ _ h0
        have e1 := HCS.out wr hkr _ _ h1
        have e2 := HCS.out wr hkr _ _ h2
        have e3 := HCS.out wr hkr _ _ h3
        have hz := hkr.1
        gi_wp2_with ((try refine ⟨hdd _, ?_⟩); gi_at_call 203; refine (HLF.out _ _ (HJA.out _ _ _ hjr') (by simp; omega)).mono ?_; rintro e W2 (⟨rfl, hj2, hk2⟩ | ⟨rfl, hx2⟩))
        · go_roundw
          case rel => exact ⟨1, by omega, by go_num, by simpa using hj2, (hkr.trans (KpB.alloc _ _ _)).trans hk2⟩
          case measure => simp [intOf]
        · go_ret
          exact .inr ⟨rfl, .inr hx2⟩
      · obtain rfl : k = 1 := by omega
        gi_wp2
        go_ret
        exact .inl ⟨rfl, by simpa using hjr, hkr⟩
  · go_ret
    exact .inr ⟨rfl, .inl hx1⟩
end
section
open Fence
theorem wide_fn (k : Nat) : Fence.wide.fn k := trivial
set_option maxHeartbeats 2000000 in
set_option maxRecDepth 100000 in
theorem texts_stops (b Bt kb n : Nat) (nm nm1 : Str) (t0 t : BStr) (A1 : Option Addr) (n1 c1 c2 : Nat) (B1 B2 : Option Addr) (m1 d1 d2 : Nat) (w : World) (hb : b < w.heap.size)
    (hbt : w.heap[Bt]? = some (.cells #[.string ⟨nm.toArray⟩, .slice A1 n1 c1, .slice (some ⟨kb, 0, none⟩) 1 c2, .string ⟨t0.1.toArray⟩] 28 (0, 0)))
    (hblk : ∃ cs tt fz, w.heap[kb]? = some (.cells cs tt fz) ∧ kb ≠ b ∧ tt ≠ 5)
    (h0 : w.cell? ⟨kb, 0, none⟩ = some (.string ⟨nm1.toArray⟩)) (h1 : w.cell? ⟨kb, 1, none⟩ = some (.slice B1 m1 d1)) (h2 : w.cell? ⟨kb, 2, none⟩ = some (.slice B2 0 d2)) (h3 : w.cell? ⟨kb, 3, none⟩ = some (.string ⟨t.1.toArray⟩)) :
    SeqStopsK Fence.wide n Tryz.prog 202 #[.pointer (some ⟨Bt, 0, none⟩)] (fun x : BStr => #[.string ⟨x.1.toArray⟩]) (KpB b) (fun ys => ys = [t0, t]) (fun _ => True) 2 w := by
  intro l J Jx W hW hJ hJx hY hJ0
  obtain ⟨cs, tt, fz, hh, hne, h5⟩ := hblk
  have hkb := (Array.getElem?_eq_some_iff.1 hh).1
  have hbtl := (Array.getElem?_eq_some_iff.1 hbt).1
  have hc : ∀ j v, w.cell? ⟨kb, j, none⟩ = some v → W.cell? ⟨kb, j, none⟩ = some v := fun j v hv => (hW.cell (p := ⟨kb, j, none⟩) hkb).trans hv
  have hbt2 := (hW.block _ hbtl).trans hbt
  have hr := each_root (F := Fence.wide) rfl (wide_fn _) rfl l b 2 J Jx (fun s W o h => hJ s W _ none h (World.grownBy_alloc W o none) (fun r e => by cases e))
    (fun m pre x W h1 h2 => yield_depth rfl m (hY pre x W h1 h2)) nm nm1 t0 t A1 kb n1 c1 c2 (n - 1) B1 B2 m1 d1 d2 [] W hJ0 (by simp) (by have := hW.size; omega)
    ⟨cs, tt, fz, (hW.block _ hkb).trans hh, hne, h5⟩ (hc _ _ h0) (hc _ _ h1) (hc _ _ h2) (hc _ _ h3)
  have q0 := blk_cell hbt2 0
  have q1 := blk_cell hbt2 1
  have q2 := blk_cell hbt2 2
  have q3 := blk_cell hbt2 3
  have HR := Lib.hid hr
  have hdd : ∀ k : Nat, (Fence.wide.depth.isSome = true → 1 ≤ k) := fun k h => by cases h
  clear hr hc hbt2 hh hbt hY hJ hJx hJ0 h0 h1 h2 h3
  show CallsIn Fence.wide n Tryz.prog 202 #[.func (.yield l) #[] #[], .pointer (some ⟨Bt, 0, none⟩)] W _
  refine callsIn_of_wp Tryz.func202 rfl (wide_fn _) ?_ rfl
  simp only [Tryz.ntmps202, List.size_toArray, List.length_cons, List.length_nil, Nat.reduceAdd, Nat.reduceSub, Array.replicate_succ, Array.replicate_zero, List.push_toArray, List.append_toArray, List.nil_append, List.cons_append]
  gi_wp2_with fail
  refine ⟨trivial, hdd _, ?_⟩
  refine HR.out.mono ?_
  rintro e W1 (⟨rfl, hj, hk⟩ | ⟨rfl, hx⟩)
  · gi_wp2
    go_end0
    exact ⟨⟨_, rfl⟩, .inl ⟨_, rfl, hj⟩⟩
  · gi_wp2
    go_end0
    exact ⟨⟨_, rfl⟩, .inr (hx.elim (fun h => ⟨_, trivial, h⟩) (fun h => ⟨_, trivial, h⟩))⟩
end
theorem texts_any (v0 v1 v2 v3 : Value) (w : World) : Calls Tryz.prog 138 #[.agg #[v0, v1, v2, v3]] w fun e w' => e = .returned (.func (.func 202) #[] #[.pointer (some ⟨w.heap.size, 0, none⟩)]) ∧ w' = w.alloc (.cells #[v0, v1, v2, v3] 28) := by
  go_enter Tryz.func138, Tryz.ntmps138
  go_wp2
  go_ret
  exact ⟨rfl, rfl⟩
/-- What a builder's loop keeps. -/
def bytesOfTexts (pre : List BStr) : Str := (pre.map (·.1)).flatten
def IWord (b : Nat) (w0 : World) (pre : List BStr) (W : World) : Prop := Lib.IsBuilderF 150 5 b b (Lib.byteCells (bytesOfTexts pre)) W ∧ Below b w0 W
theorem texts_len : ∀ pre : List BStr, (bytesOfTexts pre).length ≤ 1000 * pre.length
  | [] => by simp [bytesOfTexts]
  | x :: pre => by
    have := texts_len pre
    have h := x.2
    simp only [bytesOfTexts, List.map_cons, List.flatten_cons, List.length_append, List.length_cons] at this ⊢
    omega
theorem bytesOfTexts_snoc (pre : List BStr) (x : BStr) : bytesOfTexts (pre ++ [x]) = bytesOfTexts pre ++ x.1 := by simp [bytesOfTexts]
theorem isB_cells {T : TypeId} {B b : Nat} {bs : List Value} {W : World} (h : Lib.IsBuilderF T 5 B b bs W) : ∃ c f, W.heap[b]? = some (.cells c T f) := by
  rcases h with ⟨_, v, hv, _⟩ | ⟨_, v, hv, _⟩ <;> exact ⟨_, _, hv⟩
theorem isB_kept {T : TypeId} {B b : Nat} {bs : List Value} {W W' : World} {row : Option Nat} (h : Lib.IsBuilderF T 5 B b bs W) (hg : W.grownBy W' row) (hr : ∀ r, row = some r → ∃ o : Obj, W.heap[r]? = some o ∧ o.isCells = false) : Lib.IsBuilderF T 5 B b bs W' := by
  have key : ∀ p, Lib.BuilderAtF T 5 B b p bs W → Lib.BuilderAtF T 5 B b p bs W' := by
    intro p h
    have hlt := h.lt
    obtain ⟨hB, v, hv, hown, hne⟩ := h
    refine ⟨hB, v, (hg.block b hlt ?_).trans hv, hown.kept hg ?_, hne⟩
    · intro e
      obtain ⟨o, ho, hc⟩ := hr b e.symm
      rw [hv] at ho
      cases ho
      cases hc
    · by_cases he : v.ownBlock = none
      · exact .inl he
      · refine .inr ?_
        intro e
        obtain ⟨g, hgv⟩ := Option.ne_none_iff_exists'.1 he
        obtain ⟨c, fz, hcell⟩ := Lib.ownsRowF_kind hown g hgv
        obtain ⟨o, ho, hc⟩ := hr g (e ▸ hgv)
        rw [hcell] at ho
        cases ho
        cases hc
  exact h.elim (fun x => .inl (key _ x)) (fun x => .inr (key _ x))
theorem iword_own (b B : Nat) (w0 : World) (hB : b ≤ B) (hb : b ≤ w0.heap.size) : OwnFrom B (IWord b w0) := by
  refine OwnFrom.and ?_ (ownFrom_below hb hB)
  exact Own.from (I := fun s W => Lib.IsBuilderF 150 5 b b (Lib.byteCells (bytesOfTexts s)) W) (fun s W W' row hs hg hr => isB_kept hs hg hr) B
set_option maxHeartbeats 4000000 in
set_option maxRecDepth 100000 in
theorem word_two (kb : Nat) (nm nm1 : Str) (t0 t : BStr) (A1 : Option Addr) (n1 c1 c2 : Nat) (B1 B2 : Option Addr) (m1 d1 d2 : Nat) (w : World)
    (hblk : ∃ cs tt fz, w.heap[kb]? = some (.cells cs tt fz) ∧ tt ≠ 5)
    (h0 : w.cell? ⟨kb, 0, none⟩ = some (.string ⟨nm1.toArray⟩)) (h1 : w.cell? ⟨kb, 1, none⟩ = some (.slice B1 m1 d1)) (h2 : w.cell? ⟨kb, 2, none⟩ = some (.slice B2 0 d2)) (h3 : w.cell? ⟨kb, 3, none⟩ = some (.string ⟨t.1.toArray⟩)) :
    Calls Tryz.prog 75 #[.agg #[.string ⟨nm.toArray⟩, .slice A1 n1 c1, .slice (some ⟨kb, 0, none⟩) 1 c2, .string ⟨t0.1.toArray⟩]] w fun e w' => e = .returned (.string ⟨(t0.1 ++ t.1).toArray⟩) ∧ Below w.heap.size w w' := by
  refine (callsIn_wide (n := 20)).1 ?_
  have hdd : ∀ k : Nat, (Fence.wide.depth.isSome = true → 1 ≤ k) := fun k h => by cases h
  refine callsIn_of_wp_marks Tryz.func75 rfl (wide_fn _) ?_ rfl
  simp only [Tryz.ntmps75, List.size_toArray, List.length_cons, List.length_nil, Nat.reduceAdd, Nat.reduceSub, Array.replicate_succ, Array.replicate_zero, List.push_toArray, List.append_toArray, List.nil_append, List.cons_append]
  have hx := fun W => callsIn_wide (n := 19).2 (texts_any (.string ⟨nm.toArray⟩) (.slice A1 n1 c1) (.slice (some ⟨kb, 0, none⟩) 1 c2) (.string ⟨t0.1.toArray⟩) W)
  obtain ⟨cs, tt, fz, hh, h5⟩ := hblk
  have hkb := (Array.getElem?_eq_some_iff.1 hh).1
  have hI0 := Lib.IsBuilderF.of (Lib.fresh_isBuilder 150 5 (w.alloc (.cells #[.string ⟨nm.toArray⟩, .slice A1 n1 c1, .slice (some ⟨kb, 0, none⟩) 1 c2, .string ⟨t0.1.toArray⟩] 28)))
  have hI1 := hI0.alloc (.cells #[.string ⟨nm.toArray⟩, .slice A1 n1 c1, .slice (some ⟨kb, 0, none⟩) 1 c2, .string ⟨t0.1.toArray⟩] 28)
  have hbt := newBlk ((w.alloc (.cells #[.string ⟨nm.toArray⟩, .slice A1 n1 c1, .slice (some ⟨kb, 0, none⟩) 1 c2, .string ⟨t0.1.toArray⟩] 28)).alloc (.cells #[.pointer none, .slice none 0 0] 150)) (.cells #[.string ⟨nm.toArray⟩, .slice A1 n1 c1, .slice (some ⟨kb, 0, none⟩) 1 c2, .string ⟨t0.1.toArray⟩] 28)
  have hB3 := (((Below.refl _ w).alloc (Nat.le_refl _) (.cells #[.string ⟨nm.toArray⟩, .slice A1 n1 c1, .slice (some ⟨kb, 0, none⟩) 1 c2, .string ⟨t0.1.toArray⟩] 28)).alloc (by simp) (.cells #[.pointer none, .slice none 0 0] 150)).alloc (by simp; omega) (.cells #[.string ⟨nm.toArray⟩, .slice A1 n1 c1, .slice (some ⟨kb, 0, none⟩) 1 c2, .string ⟨t0.1.toArray⟩] 28)
  gi_wp2_with fail
  refine ⟨trivial, (hx _).mono ?_⟩
  rintro e w' ⟨rfl, rfl⟩
  simp only [World.size_alloc] at hI0 hI1 hbt
  clear hx hI0
  gi_wp2_with fail
  obtain ⟨W, hW⟩ : ∃ W, (((w.alloc (.cells #[.string ⟨nm.toArray⟩, .slice A1 n1 c1, .slice (some ⟨kb, 0, none⟩) 1 c2, .string ⟨t0.1.toArray⟩] 28)).alloc (.cells #[.pointer none, .slice none 0 0] 150)).alloc (.cells #[.string ⟨nm.toArray⟩, .slice A1 n1 c1, .slice (some ⟨kb, 0, none⟩) 1 c2, .string ⟨t0.1.toArray⟩] 28)) = W := ⟨_, rfl⟩
  have hWs : W.heap.size = w.heap.size + 1 + 1 + 1 := by rw [← hW]; simp
  rw [hW] at hI1 hbt hB3 ⊢
  have hcell : ∀ j v, w.cell? ⟨kb, j, none⟩ = some v → W.cell? ⟨kb, j, none⟩ = some v := fun j v hv => (hB3.cell (p := ⟨kb, j, none⟩) hkb).trans hv
  refine wpIn_rangeFunc_ownF rfl (by omega) (gf := 202) (lb := #[.pointer (some ⟨w.heap.size + 1 + 1, 0, none⟩)]) rfl (wide_fn _) (enters_of Tryz.func202 (by kernel_rfl) rfl)
    (texts_stops (w.heap.size + 1) (w.heap.size + 1 + 1) kb _ nm nm1 t0 t A1 n1 c1 c2 B1 B2 m1 d1 d2 W (by omega) hbt ⟨cs, tt, fz, (hB3.block _ hkb).trans hh, by omega, h5⟩ (hcell _ _ h0) (hcell _ _ h1) (hcell _ _ h2) (hcell _ _ h3))
    (fun h k => h.trans k) ?kb (Below.refl _ _) (fun _ => rfl) (IWord (w.heap.size + 1) W) (fun _ _ _ => False) (iword_own _ _ _ (by omega) (by omega)) (fun _ _ _ _ _ hs _ _ => hs.elim) ⟨hI1, Below.refl _ _⟩
    (fun x => { tmps := #[.agg #[.string ⟨nm.toArray⟩, .slice A1 n1 c1, .slice (some ⟨kb, 0, none⟩) 1 c2, .string ⟨t0.1.toArray⟩], .pointer (some ⟨w.heap.size, 0, none⟩), .string ⟨#[]⟩, .pointer (some ⟨w.heap.size + 1, 0, none⟩), .string ⟨x.1.toArray⟩, .agg #[.string ⟨nm.toArray⟩, .slice A1 n1 c1, .slice (some ⟨kb, 0, none⟩) 1 c2, .string ⟨t0.1.toArray⟩], .func (.func 202) #[] #[.pointer (some ⟨w.heap.size + 1 + 1, 0, none⟩)], .string ⟨x.1.toArray⟩, undef, undef, undef], defers := [] }) ?assign ?body ?done ?stop
  case kb =>
    intro W1 l o o' hl ho hc _
    refine ⟨by simp [World.putObj], fun j c t fz hj ht hh => ?_⟩
    have hjl : j ≠ l := by
      rintro rfl
      rw [ho] at hh
      cases hh
      cases hc
    exact ((grownBy_putObj' W1 l o').block j (Array.getElem?_eq_some_iff.1 hh).1 (by intro e; exact hjl (Option.some.inj e))).trans hh
  case assign =>
    intro l x W K hK
    gi_wp2
    exact hK
  case body =>
    rintro l pre x W1 ⟨hI, hbw⟩ hlen
    have hpl := texts_len pre
    have hx1 := x.2
    have hbz : w.heap.size + 1 ≤ W1.heap.size := by have := hbw.size; omega
    have hws := callsIn_wide (n := 17).2 (writeString_any (.inl rfl) ⟨x.1.toArray⟩ hI (by rw [Lib.byteCells_length, size_mk]; omega) hbz)
    gi_wp2_with fail
    refine ⟨trivial, (CallsIn.inRound l hws).mono ?_⟩
    rintro e w4 ⟨rfl, h4, b4, k4⟩
    gi_wp2
    refine ⟨⟨b4.size, fun k o hk ho => ?_⟩, KpB.kept k4 b4, ?_, hbw.trans b4⟩
    · refine k4 k o hk ?_ ?_
      · intro e
        have e := Option.some.inj e
        subst e
        obtain ⟨c, f, hc⟩ := isB_cells hI
        rw [hc] at hk
        cases hk
        cases ho
      · rintro c fz rfl
        cases ho
    · rw [bytesOfTexts_snoc, Lib.byteCells_append]
      exact Or.inr h4
  case done =>
    rintro D ys W1 hD rfl ⟨hI, hbw⟩ hK
    have hbz : w.heap.size + 1 ≤ W1.heap.size := by have := hbw.size; omega
    have hst := callsIn_wide (n := 19).2 (Tryz.Builder_String_any_k (w.heap.size + 1) (w.heap.size + 1) (bytesOfTexts [t0, t]) W1 hI hbz)
    gi_wp2_with fail
    refine ⟨trivial, hst.mono ?_⟩
    rintro e w5 ⟨rfl, _, b5, k5⟩
    have hK5 : w5.heap[D]? = some (.deferred (some [])) := k5 D _ hK (by intro e; have e := Option.some.inj e; omega) (by rintro c fz e; cases e)
    gi_wp2
    refine ⟨by simp, .inl ⟨_, _, rfl, run_takeDeferred hK5, ?_⟩⟩
    refine ⟨_, results_tmp rfl _ _ _, ?_, ?_⟩
    · simp [bytesOfTexts]
    · exact (hB3.trans ((hbw.trans b5).mono (by omega))).trans (belowK_b (w := w) (Nat.le_refl _) w5 D _ _ (by omega) hK5 rfl rfl)
  case stop =>
    rintro D c pre W _ _ h _
    exact h.elim
end Go.Proofs.YtcmjaaigkbjpaaaGreatDoor.Lia

/- Walks: the chapter's example of layer 23. -/
namespace Go.Proofs.YtcmjaaigkbjpaaaGreatDoor.Lia
open Go.RowKit Go.Proofs.YtcmjaaigkbjpaaaGreatDoorW.PrintWords PX

def aliveS : Str := [60, 97, 32, 98, 61, 39, 49, 39, 62, 120, 38, 97, 109, 112, 59, 121, 60, 47, 97, 62]
def aliveE : Elem := .mk [97] [([98], [49])] [.mk [] [] [] [120, 38, 121]] []
theorem parse_alive : parse aliveS = .ok aliveE := by kernel_rfl
/-- A row of one that the call has made. -/
theorem own_one {α : Type} {d : Kd α} {e : Nat} {w : World} {base : Nat} {ok : Nat → Prop} {A : Option Addr} {c : Nat} {xs : List α} (h : d.R e w base ok (.slice A xs.length c) xs) (hn : 0 < xs.length) :
    ∃ g, A = some ⟨g, 0, none⟩ ∧ base ≤ g ∧ ∃ cs, w.heap[g]? = some (.cells cs e (0, 0)) := by
  obtain ⟨inner, ho⟩ := Kd.R_own h
  rcases ho.2 with ⟨_, h0⟩ | ⟨g, cap, cur, hv, hg, hh, _⟩
  · omega
  · simp only [Value.slice.injEq] at hv
    exact ⟨g, hv.1, hg, cur, hh⟩
theorem alive_data {w : World} {base : Nat} {ok : Nat → Prop} {A1 A2 : Option Addr} {c1 c2 : Nat} (hM : Kd.M k28 w base ok (toE aliveE) (elV (toE aliveE) A1 c1 A2 c2)) :
    ∃ g1 g2 B1 B2 d1 d2, A1 = some ⟨g1, 0, none⟩ ∧ A2 = some ⟨g2, 0, none⟩ ∧ base ≤ g1 ∧ base ≤ g2 ∧ w.cell? ⟨g1, 1, none⟩ = some (.string ⟨#[49]⟩) ∧ (∃ cs, w.heap[g2]? = some (.cells cs 28 (0, 0))) ∧
      w.cell? ⟨g2, 0, none⟩ = some (.string ⟨#[]⟩) ∧ w.cell? ⟨g2, 1, none⟩ = some (.slice B1 0 d1) ∧ w.cell? ⟨g2, 2, none⟩ = some (.slice B2 0 d2) ∧ w.cell? ⟨g2, 3, none⟩ = some (.string ⟨#[120, 38, 121]⟩) := by
  obtain ⟨v1, v2, e, h1, h2⟩ := k28_openM hM
  simp only [elV, List.cons.injEq] at e
  obtain ⟨_, rfl, rfl, _⟩ := e
  obtain ⟨g1, rfl, hb1, _⟩ := own_one h1 (by decide)
  obtain ⟨g2, rfl, hb2, hc2⟩ := own_one h2 (by decide)
  obtain ⟨A, c, e1, _, hC1⟩ := Kd.R_reads h1
  obtain ⟨A', c', e2, _, hC2⟩ := Kd.R_reads h2
  simp only [Value.slice.injEq] at e1 e2
  obtain ⟨rfl, _⟩ := e1
  obtain ⟨rfl, _⟩ := e2
  obtain ⟨ad, ea, _, q1⟩ := at_T69 hC1 0 (by omega) (by decide)
  obtain ⟨ad', A1', c1', A2', c2', ea', r0, r1, r2, r3, _⟩ := at_T28 hC2 0 (by omega) (by decide)
  simp only [Option.some.injEq] at ea ea'
  subst ea ea'
  refine ⟨g1, g2, _, _, _, _, rfl, rfl, hb1, hb2, q1, hc2, r0, r1, r2, r3⟩
set_option maxHeartbeats 2000000 in
set_option maxRecDepth 100000 in
theorem alive_any {eb : Nat → Addr} {n0 : Nat} {w : World} (hE : Env eb n0 w) : Calls Tryz.prog 28 #[] w fun e w' => e = .returned (.bool true) ∧ Below w.heap.size w w' := by
  have hp := parse_any (s := aliveS) hE
  rw [parse_alive] at hp
  have HP := Lib.hid hp
  clear hp
  go_enter Tryz.func28, Tryz.ntmps28
  go_wp2_with fail
  refine (show Calls Tryz.prog 32 #[.string ⟨aliveS.toArray⟩] w _ from HP.out).mono ?_
  rintro e w1 ⟨A1, c1, A2, c2, rfl, hM, hb1⟩
  obtain ⟨g1, g2, B1, B2, d1, d2, rfl, rfl, hg1, hg2, q1, ⟨cs, hc2⟩, r0, r1, r2, r3⟩ := alive_data hM
  have hl1 : g1 < w1.heap.size := World.block_lt_of_cell? w1 _ q1
  have hl2 : g2 < w1.heap.size := (Array.getElem?_eq_some_iff.1 hc2).1
  have hw := fun W (hb : Below w1.heap.size w1 W) => word_two g2 [97] [] ⟨[], by simp⟩ ⟨[120, 38, 121], by simp⟩ (some ⟨g1, 0, none⟩) 1 c1 c2 B1 B2 0 d1 d2 W ⟨cs, 28, (0, 0), (hb.block _ hl2).trans hc2, by decide⟩
    ((hb.cell (p := ⟨g2, 0, none⟩) hl2).trans r0) ((hb.cell (p := ⟨g2, 1, none⟩) hl2).trans r1) ((hb.cell (p := ⟨g2, 2, none⟩) hl2).trans r2) ((hb.cell (p := ⟨g2, 3, none⟩) hl2).trans r3)
  have HW := Lib.hid hw
  clear hw hM hc2 r0 r1 r2 r3
  have hel : (elV (toE aliveE) (some ⟨g1, 0, none⟩) c1 (some ⟨g2, 0, none⟩) c2).toArray = #[.string ⟨#[97]⟩, .slice (some ⟨g1, 0, none⟩) 1 c1, .slice (some ⟨g2, 0, none⟩) 1 c2, .string ⟨#[]⟩] := rfl
  rw [hel]
  clear hel
  go_wp2_with fail
  refine (HW.out _ ((Below.refl _ _).alloc (Nat.le_refl _) _)).mono ?_
  rintro e w2 ⟨rfl, hb2⟩
  go_wp2
  go_ret
  exact ⟨rfl, (hb1.alloc hb1.size _).trans (hb2.mono (by have := hb1.size; simp; omega))⟩
end Go.Proofs.YtcmjaaigkbjpaaaGreatDoor.Lia
