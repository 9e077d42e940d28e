/- Own texts, merged for the hand-in. -/
import Derived.Test.YtcmjaaigkbjpaaaGreatDoorMergeD
import Derived.Defers
import Derived.Recover
import Derived.Deep.RegionWith
import Derived.Test.YtcmjaaigkbjpaaaGreatDoorMergeI
import Derived.Great.BuildSlice

/- Walks: xml's element. -/
namespace Go.Proofs.YtcmjaaigkbjpaaaGreatDoor.Lia
open Go.RowKit Go.Proofs.YtcmjaaigkbjpaaaGreatDoorW.PrintWords PX

theorem elem1 {b kr : Nat} {s : Str} {d : Int} {W : World} (hc : W.cell? ⟨kr, 0, none⟩ = some (.pointer (some ⟨b, 0, none⟩))) (hR : RB b s d W) (u : FrameMode) :
    CallsD Tryz.prog 148 #[.pointer (some ⟨kr, 0, none⟩)] u W fun e u' w' => u' = u ∧ (e = .returned (.tuple #[]) ∧ w' = W.setCell ⟨b, 1, none⟩ (.int .i64 (wrap64 (d - 1)))) := by
  have c1 := hR.c1
  have f1 := hR.f 1
  clear hR
  go_enter_d Tryz.func148, Tryz.ntmps148
  go_wp2
  go_end0
  exact ⟨rfl, rfl⟩
def elDef (kr : Nat) : Deferred := { target := .fn (.func 148) #[.pointer (some ⟨kr, 0, none⟩)], args := #[] }
theorem leave_bad {eb : Nat → Addr} {b kr : Nat} {s : Str} {d : Int} {W : World} (hc : W.cell? ⟨kr, 0, none⟩ = some (.pointer (some ⟨b, 0, none⟩))) (hR : RB b s d W) {tmps : Array Value} {R : Ending → World → Prop} {k : Err}
    (h : R (.panicked (badC eb k)) (W.setCell ⟨b, 1, none⟩ (.int .i64 (wrap64 (d - 1))))) : Leaves Tryz.prog Tryz.f87 tmps R [elDef kr] (.panicking (badC eb k)) W := by
  refine leaves_cons (f := 148) (args := #[.pointer (some ⟨kr, 0, none⟩)]) (by simp) (by simp [go_sem]) ?_
  refine (elem1 hc hR _).mono ?_
  rintro e u' w' ⟨rfl, rfl, rfl⟩
  have hs : settle (.panicking (badC eb k)) = .panicking (badC eb k) := by simp [settle, badC]
  show Leaves Tryz.prog Tryz.f87 tmps R [] (settle (.panicking (badC eb k))) _
  rw [hs]
  exact h
theorem leave_ok {b kr : Nat} {s : Str} {d : Int} {W : World} (hc : W.cell? ⟨kr, 0, none⟩ = some (.pointer (some ⟨b, 0, none⟩))) (hR : RB b s d W) {tmps : Array Value} {R : Ending → World → Prop}
    (h : ∃ v, (results Tryz.f87 tmps).run Tryz.prog (W.setCell ⟨b, 1, none⟩ (.int .i64 (wrap64 (d - 1)))) = .ok v (W.setCell ⟨b, 1, none⟩ (.int .i64 (wrap64 (d - 1)))) ∧ R (.returned v) (W.setCell ⟨b, 1, none⟩ (.int .i64 (wrap64 (d - 1))))) : Leaves Tryz.prog Tryz.f87 tmps R [elDef kr] .returning W := by
  refine leaves_cons (f := 148) (args := #[.pointer (some ⟨kr, 0, none⟩)]) (by simp) (by simp [go_sem]) ?_
  refine (elem1 hc hR _).mono ?_
  rintro e u' w' ⟨rfl, rfl, rfl⟩
  exact h
theorem blk_set {w : World} {k : Nat} {cs : Array Value} {t : TypeId} {fz : Nat × Nat} (h : w.heap[k]? = some (.cells cs t fz)) (i : Nat) (v : Value) :
    (w.setCell ⟨k, i, none⟩ v).heap[k]? = some (.cells (cs.setIfInBounds i v) t fz) := by
  have hl := (Array.getElem?_eq_some_iff.1 h).1
  simp [World.setCell, Array.getElem?_modify, h]
theorem blk_far {w : World} {k : Nat} {o : Obj} (h : w.heap[k]? = some o) {p : Addr} (hne : k ≠ p.block) (v : Value) : (w.setCell p v).heap[k]? = some o :=
  (Below.heap_setCell w p v k hne).trans h
theorem el_bad {eb : Nat → Addr} {n0 b : Nat} {w W' w7 : World} {r : Res (Elem × Str)} {k : Err} {ok : Elem × Str → Ending → World → Prop} {tmps : Array Value} (hb : b < w.heap.size)
    (hbad : BadR eb n0 b W' w7) (kk : W'.heap[w.heap.size]? = some (.cells #[.pointer (some ⟨b, 0, none⟩)] 164)) (hg : w.grownBy W' (some b)) (HR : Hid (r = .bad k)) :
    Leaves Tryz.prog Tryz.f87 tmps (Post eb r ok (BadR eb n0 b w)) [elDef w.heap.size] (.panicking (badC eb k)) w7 := by
  obtain ⟨hbg, sx, dx, hbR⟩ := hbad
  have kk6 := keepBlk kk hbg (by omega)
  exact leave_bad (blk_cell kk6 0) hbR.rb (post_mk_bad HR.out _ ⟨g_set (hg.trans hbg) _, _, _, hbR.set1 _⟩)
/-- The plain answer behind the name. -/
def elemB (a : Nat) (n : Str) (s : Str) : Res (Elem × Str) :=
  (attrsN (s.length + 1) [] s).bind fun (al, s) =>
    if [47].isPrefixOf s then (cut [47, 62] s).bind fun s => .ok (.mk n al [] [], s)
    else (cut [62] s).bind fun s =>
      (contentN (element a) (s.length + 1) s).bind fun (ks, s) =>
      (cut [60, 47] s).bind fun s =>
      (rname s).bind fun (m, s) =>
      if m = n then (cut [62] (blank s).2).bind fun s => .ok (.mk n al ks [], s) else .bad .form
theorem element_zero (s : Str) : element 0 s = (cut [60] s).bind fun s => (rname s).bind fun _ => .bad .depth := by
  unfold element; rfl
theorem element_succ (a : Nat) (s : Str) : element (a + 1) s = (cut [60] s).bind fun s => (rname s).bind fun x => elemB a x.1 x.2 := by
  unfold element; rfl
/-- A post whose word on a panic does not hang on the slots. -/
def AnyTmps (Q : Exit → Act → World → Prop) : Exit → Act → World → Prop
  | .panic c, a, w => ∀ ts, Q (.panic c) { a with tmps := ts } w
  | e, a, w => Q e a w
theorem AnyTmps.normal {Q : Exit → Act → World → Prop} {a : Act} {w : World} (h : Q .normal a w) : AnyTmps Q .normal a w := h
theorem wp_region_anyTmps {P : Program} {id : Nat} {ops : Array Oper} {b : Bool} {Q : Exit → Act → World → Prop} {a : Act} {w : World} (h : (Code.region id ops b).wp P (AnyTmps Q) a w) : (Code.region id ops b).wp P Q a w := by
  refine Code.wp_mono ?_ h
  intro e a w hq
  cases e with
  | panic c => exact hq a.tmps
  | _ => exact hq
/-- One way alone is what 'go_region_with' bears behind a contract: a way that has ended leaves this empty one. -/
theorem ended {G : Prop} (a : Act) (w : World) (g : G) : wpAny Tryz.prog .any #[] (fun _ _ _ => True) 0 #[] a w → G := fun _ => g
theorem grown_set4 {w w1 : World} {r : Option Nat} {k : Nat} (h : w.grownBy w1 r) (hk : w.heap.size ≤ k) (a0 a1 a2 a3 : Value) :
    w.grownBy ((((w1.setCell ⟨k, 0, none⟩ a0).setCell ⟨k, 1, none⟩ a1).setCell ⟨k, 2, none⟩ a2).setCell ⟨k, 3, none⟩ a3) r := g_setNew (g_setNew (g_setNew (g_setNew h hk _) hk _) hk _) hk _
theorem el_done {eb : Nat → Addr} {n0 b : Nat} {w w6 : World} {D : Int} {n : Str} {al : List (Str × Str)} {ks : List Elem} {s4 : Str} {A A2 : Option Addr} {cap cap2 : Nat} {b1 b2 : Nat} {r : Res (Elem × Str)} {tmps : Array Value}
    (hb : b < w.heap.size) (hD : -100000 ≤ D) (hD0 : D ≤ 11)
    (kk6 : w6.heap[w.heap.size]? = some (.cells #[.pointer (some ⟨b, 0, none⟩)] 164)) (kb6 : w6.heap[w.heap.size + 1]? = some (.cells #[.string ⟨#[]⟩, .slice none 0 0, .slice none 0 0, .string ⟨#[]⟩] 28))
    (hg : w.grownBy w6 (some b)) (hR : RS eb n0 b s4 (D + 1) w6) (h1 : w.heap.size + 1 < b1) (h2 : w.heap.size + 1 < b2)
    (hV1 : k69.R 69 w6 b1 (fun k => k ≠ b ∧ b1 ≤ k) (.slice A al.length cap) (al.map toA)) (hV2 : k28.R 28 w6 b2 (fun k => k ≠ b ∧ b2 ≤ k) (.slice A2 ks.length cap2) (toEs ks))
    (HR : Hid (r = .ok (.mk n al ks [], s4))) (ht : tmps[2]? = some (.pointer (some ⟨w.heap.size + 1, 0, none⟩))) :
    Leaves Tryz.prog Tryz.f87 tmps (Post eb r (ElOk eb n0 b D w) (BadR eb n0 b w)) [elDef w.heap.size] .returning
      ((((w6.setCell ⟨w.heap.size + 1, 0, none⟩ (.string ⟨n.toArray⟩)).setCell ⟨w.heap.size + 1, 1, none⟩ (.slice A al.length cap)).setCell ⟨w.heap.size + 1, 2, none⟩ (.slice A2 ks.length cap2)).setCell ⟨w.heap.size + 1, 3, none⟩ (.string ⟨#[]⟩)) := by
  have hlt := hR.rb.lt
  have hown := hR.own
  have htop := hR.env.top
  have j0 := blk_set (blk_set (blk_set (blk_set kb6 0 (.string ⟨n.toArray⟩)) 1 (.slice A al.length cap)) 2 (.slice A2 ks.length cap2)) 3 (.string ⟨#[]⟩)
  simp only [List.setIfInBounds_toArray, List.set_cons_succ, List.set_cons_zero] at j0
  have j1 := grown_set4 hg (k := w.heap.size + 1) (by omega) (.string ⟨n.toArray⟩) (.slice A al.length cap) (.slice A2 ks.length cap2) (.string ⟨#[]⟩)
  have j2 := blk_far (blk_far (blk_far (blk_far kk6 (p := ⟨w.heap.size + 1, 0, none⟩) (by simp) (.string ⟨n.toArray⟩)) (p := ⟨w.heap.size + 1, 1, none⟩) (by simp) (.slice A al.length cap)) (p := ⟨w.heap.size + 1, 2, none⟩) (by simp) (.slice A2 ks.length cap2)) (p := ⟨w.heap.size + 1, 3, none⟩) (by simp) (.string ⟨#[]⟩)
  have hne : w.heap.size + 1 ≠ b := by omega
  have hn0 : n0 ≤ w.heap.size + 1 := by omega
  have j3 := (((hR.far (p := ⟨w.heap.size + 1, 0, none⟩) hne hn0 (.string ⟨n.toArray⟩)).far (p := ⟨w.heap.size + 1, 1, none⟩) hne hn0 (.slice A al.length cap)).far (p := ⟨w.heap.size + 1, 2, none⟩) hne hn0 (.slice A2 ks.length cap2)).far (p := ⟨w.heap.size + 1, 3, none⟩) hne hn0 (.string ⟨#[]⟩)
  have q1 : ∀ i, ∀ k, (k ≠ b ∧ b1 ≤ k) → k ≠ (⟨w.heap.size + 1, i, none⟩ : Addr).block := by rintro i k ⟨_, hk⟩ e; simp only at e; omega
  have q2 : ∀ i, ∀ k, (k ≠ b ∧ b2 ≤ k) → k ≠ (⟨w.heap.size + 1, i, none⟩ : Addr).block := by rintro i k ⟨_, hk⟩ e; simp only at e; omega
  have v1 := Kd.R_far (Kd.R_far (Kd.R_far (Kd.R_far hV1 (q1 0) (.string ⟨n.toArray⟩)) (q1 1) (.slice A al.length cap)) (q1 2) (.slice A2 ks.length cap2)) (q1 3) (.string ⟨#[]⟩)
  have v2 := Kd.R_far (Kd.R_far (Kd.R_far (Kd.R_far hV2 (q2 0) (.string ⟨n.toArray⟩)) (q2 1) (.slice A al.length cap)) (q2 2) (.slice A2 ks.length cap2)) (q2 3) (.string ⟨#[]⟩)
  generalize ((((w6.setCell ⟨w.heap.size + 1, 0, none⟩ (.string ⟨n.toArray⟩)).setCell ⟨w.heap.size + 1, 1, none⟩ (.slice A al.length cap)).setCell ⟨w.heap.size + 1, 2, none⟩ (.slice A2 ks.length cap2)).setCell ⟨w.heap.size + 1, 3, none⟩ (.string ⟨#[]⟩)) = W at *
  have c0 := blk_cell j0 0
  have c1 := blk_cell j0 1
  have c2 := blk_cell j0 2
  have c3 := blk_cell j0 3
  have hw : wrap64 (D + 1 - 1) = D := by rw [show D + 1 - 1 = D by omega]; unfold wrap64; omega
  have hd := j3.set1 D
  have hgd := g_set (i := 1) j1 (.int .i64 D)
  have v3 := Kd.R_far (p := ⟨b, 1, none⟩) v1 (fun k hk => hk.1) (.int .i64 D)
  have v4 := Kd.R_far (p := ⟨b, 1, none⟩) v2 (fun k hk => hk.1) (.int .i64 D)
  refine leave_ok (blk_cell j2 0) j3.rb ?_
  rw [hw]
  refine ⟨.agg #[.string ⟨n.toArray⟩, .slice A al.length cap, .slice A2 ks.length cap2, .string ⟨#[]⟩], ?_, ?_⟩
  · simp [results, Tryz.results87, go_sem, ht, c0, c1, c2, c3, hne]
  · have hl1 : (toE (.mk n al ks [])).f1.length = al.length := by simp [toE]
    have hl2 : (toE (.mk n al ks [])).f2.length = ks.length := toEs_length ks
    refine post_mk_ok HR.out ⟨A, cap, A2, cap2, ?_, ?_, hgd, hd⟩
    · unfold elV; rw [hl1, hl2]; rfl
    · unfold elV; rw [hl1, hl2]
      refine k28_mkM _ _ _ (toE (.mk n al ks [])) ?_ ?_
      · exact Kd.R_mono (Kd.R_lower v3 (by omega)) (fun k hk => hk.1)
      · exact Kd.R_mono (Kd.R_lower v4 (by omega)) (fun k hk => hk.1)
set_option maxHeartbeats 4000000 in
set_option maxRecDepth 100000 in
theorem element_st {eb : Nat → Addr} {n0 b : Nat} : ∀ (a : Nat) (D : Int), 0 ≤ D → D + a = 12 → ∀ (s : Str) (w : World), RS eb n0 b s D w →
    Calls Tryz.prog 87 #[.pointer (some ⟨b, 0, none⟩)] w (Post eb (element a s) (ElOk eb n0 b D w) (BadR eb n0 b w)) := by
  intro a
  induction a with
  | zero =>
    intro D hDD hD s w h
    obtain rfl : D = 12 := by omega
    have hlt := h.rb.lt
    have htop := h.env.top
    have hown := h.own
    clear hDD hD
    have hct := fun s w h => cut_st (eb := eb) (n0 := n0) (b := b) (s := s) (d := 12) (w := w) h [60]
    have HCT := Lib.hid hct
    clear hct
    have hel := element_zero s
    have HEL := Lib.hid hel
    clear hel
    have hg0 := g_alloc (g_alloc (grown_refl w (some b)) (.cells #[.pointer (some ⟨b, 0, none⟩)] 164)) (.cells #[.string ⟨#[]⟩, .slice none 0 0, .slice none 0 0, .string ⟨#[]⟩] 28)
    have hk1 := keepBlkB (newBlk w (.cells #[.pointer (some ⟨b, 0, none⟩)] 164)) ((Below.refl _ (w.alloc (.cells #[.pointer (some ⟨b, 0, none⟩)] 164))).alloc (Nat.le_refl _) (.cells #[.string ⟨#[]⟩, .slice none 0 0, .slice none 0 0, .string ⟨#[]⟩] 28))
    have hR0 := (h.alloc (.cells #[.pointer (some ⟨b, 0, none⟩)] 164)).alloc (.cells #[.string ⟨#[]⟩, .slice none 0 0, .slice none 0 0, .string ⟨#[]⟩] 28)
    cases h1 : cut [60] s with
    | bad k =>
      have hr : element 0 s = .bad k := by rw [HEL.out, h1]; rfl
      have HR := Lib.hid hr
      have H1 := Lib.hid h1
      clear hr h1
      go_enter_defers Tryz.func87, Tryz.ntmps87
      go_wp2_with (first | (go_at_call 146; refine (post_bad H1.out (HCT.out _ _ hR0)).mono ?_; rintro e w1 ⟨rfl, hbad⟩))
      exact post_mk_bad HR.out _ (hbad.of hg0)
    | ok s1 =>
      have hr : element 0 s = (rname s1).bind fun _ => .bad .depth := by rw [HEL.out, h1]; rfl
      have HR := Lib.hid hr
      have H1 := Lib.hid h1
      clear hr h1 HEL
      go_enter_defers Tryz.func87, Tryz.ntmps87
      go_wp2_with (first | (go_at_call 146; refine (post_ok H1.out (HCT.out _ _ hR0)).mono ?_; rintro e w1 ⟨rfl, hg1, hR1⟩; have kk1 := keepBlk hk1 hg1 (by omega); have cc1 := blk_cell kk1 0))
      have hg1' := hg0.trans hg1
      clear hg1 hg0 hk1 hR0
      cases h2 : rname s1 with
      | bad k =>
        have hr : element 0 s = .bad k := by rw [HR.out, h2]; rfl
        have HR2 := Lib.hid hr
        have H2 := Lib.hid h2
        clear hr h2
        refine (post_bad H2.out (name_st hR1)).mono ?_
        rintro e w2 ⟨rfl, hbad⟩
        go_wp2
        exact post_mk_bad HR2.out _ (hbad.of hg1')
      | ok x =>
        obtain ⟨n, s2⟩ := x
        have hr : element 0 s = .bad .depth := by rw [HR.out, h2]; rfl
        have HR2 := Lib.hid hr
        have H2 := Lib.hid h2
        clear hr h2 HR
        refine (post_ok H2.out (name_st hR1)).mono ?_
        rintro e w2 ⟨rfl, hg2, hR2⟩
        have kk2 := keepBlk kk1 hg2 (by omega)
        have cc2 := blk_cell kk2 0
        have hg2' := hg1'.trans hg2
        have hz2 := hg2'.size
        have c21 := hR2.rb.c1
        have f21 := hR2.rb.f 1
        have hb2 := hR2.rb.lt
        have hq1 : w.heap.size < w2.heap.size := (Array.getElem?_eq_some_iff.1 kk2).1
        have hR3 := (hR2.set1 13).alloc (.cells #[.string ⟨n.toArray⟩, .slice none 0 0, .slice none 0 0, .string ⟨#[]⟩] 28)
        have hg3 := g_alloc (g_set (i := 1) hg2' (.int .i64 13)) (.cells #[.string ⟨n.toArray⟩, .slice none 0 0, .slice none 0 0, .string ⟨#[]⟩] 28)
        have ce := hR3.env.err 10 (by omega)
        clear hg2 hg1' kk1 cc1 hR1
        go_wp2_with fail
        exact post_mk_bad HR2.out _ ⟨hg3, _, _, hR3⟩
  | succ a ih =>
    intro D hDD hD s w h
    have hD0 : D ≤ 11 := by omega
    have hD1 : -100000 ≤ D := by omega
    have hlt := h.rb.lt
    have htop := h.env.top
    have hown := h.own
    have hsl := h.len
    have IH := Lib.hid (ih (D + 1) (by omega) (by omega))
    clear ih hD hDD
    have hct := fun s w h => cut_st (eb := eb) (n0 := n0) (b := b) (s := s) (d := D) (w := w) h [60]
    have HCT := Lib.hid hct
    clear hct
    have hel := element_succ a s
    have HEL := Lib.hid hel
    clear hel
    have hg0 := g_alloc (g_alloc (grown_refl w (some b)) (.cells #[.pointer (some ⟨b, 0, none⟩)] 164)) (.cells #[.string ⟨#[]⟩, .slice none 0 0, .slice none 0 0, .string ⟨#[]⟩] 28)
    have hk1 := keepBlkB (newBlk w (.cells #[.pointer (some ⟨b, 0, none⟩)] 164)) ((Below.refl _ (w.alloc (.cells #[.pointer (some ⟨b, 0, none⟩)] 164))).alloc (Nat.le_refl _) (.cells #[.string ⟨#[]⟩, .slice none 0 0, .slice none 0 0, .string ⟨#[]⟩] 28))
    have hk2 := newBlk (w.alloc (.cells #[.pointer (some ⟨b, 0, none⟩)] 164)) (.cells #[.string ⟨#[]⟩, .slice none 0 0, .slice none 0 0, .string ⟨#[]⟩] 28)
    have hR0 := (h.alloc (.cells #[.pointer (some ⟨b, 0, none⟩)] 164)).alloc (.cells #[.string ⟨#[]⟩, .slice none 0 0, .slice none 0 0, .string ⟨#[]⟩] 28)
    have hsz : (w.alloc (.cells #[.pointer (some ⟨b, 0, none⟩)] 164)).heap.size = w.heap.size + 1 := by simp
    rw [hsz] at hk2
    cases h1 : cut [60] s with
    | bad k =>
      have hr : element (a + 1) s = .bad k := by rw [HEL.out, h1]; rfl
      have HR := Lib.hid hr
      have H1 := Lib.hid h1
      clear hr h1 hsz
      go_enter_defers Tryz.func87, Tryz.ntmps87
      go_wp2_with (first | (go_at_call 146; refine (post_bad H1.out (HCT.out _ _ hR0)).mono ?_; rintro e w1 ⟨rfl, hbad⟩))
      exact post_mk_bad HR.out _ (hbad.of hg0)
    | ok s1 =>
      have hr : element (a + 1) s = (rname s1).bind fun x => elemB a x.1 x.2 := by rw [HEL.out, h1]; rfl
      have HR := Lib.hid hr
      have H1 := Lib.hid h1
      clear hr h1 hsz HEL
      go_enter_defers Tryz.func87, Tryz.ntmps87
      go_wp2_with (first | (go_at_call 146; refine (post_ok H1.out (HCT.out _ _ hR0)).mono ?_; rintro e w1 ⟨rfl, hg1, hR1⟩; have kk1 := keepBlk hk1 hg1 (by omega); have cc1 := blk_cell kk1 0))
      have hkb := keepBlk hk2 hg1 (by omega)
      have hg1' := hg0.trans hg1
      clear hg1 hg0 hk1 hk2 hR0
      cases h2 : rname s1 with
      | bad k =>
        have hr : element (a + 1) s = .bad k := by rw [HR.out, h2]; rfl
        have HR2 := Lib.hid hr
        have H2 := Lib.hid h2
        clear hr h2
        refine (post_bad H2.out (name_st hR1)).mono ?_
        rintro e w2 ⟨rfl, hbad⟩
        go_wp2
        exact post_mk_bad HR2.out _ (hbad.of hg1')
      | ok x =>
        obtain ⟨n, s2⟩ := x
        have hr : element (a + 1) s = elemB a n s2 := by rw [HR.out, h2]; rfl
        have HR2 := Lib.hid hr
        have H2 := Lib.hid h2
        clear hr h2 HR
        refine (post_ok H2.out (name_st hR1)).mono ?_
        rintro e w2 ⟨rfl, hg2, hR2⟩
        have kk2 := keepBlk kk1 hg2 (by omega)
        have kb2 := keepBlk hkb hg2 (by omega)
        have cc2 := blk_cell kk2 0
        have hg2' := hg1'.trans hg2
        have hz2 := hg2'.size
        have c21 := hR2.rb.c1
        have f21 := hR2.rb.f 1
        have hb2 := hR2.rb.lt
        have hq2 : w.heap.size + 1 < w2.heap.size := (Array.getElem?_eq_some_iff.1 kb2).1
        have hq1 : w.heap.size < w2.heap.size := by omega
        clear hg2 hg1' kk1 hkb cc1 hR1
        go_wp2_with fail
        have hg23 := g_alloc (g_set (i := 1) (grown_refl w2 (some b)) (.int .i64 (D + 1))) (.cells #[.string ⟨n.toArray⟩, .slice none 0 0, .slice none 0 0, .string ⟨#[]⟩] 28)
        have hR3 := (hR2.set1 (D + 1)).alloc (.cells #[.string ⟨n.toArray⟩, .slice none 0 0, .slice none 0 0, .string ⟨#[]⟩] 28)
        have ke3 := newBlk (w2.setCell ⟨b, 1, none⟩ (.int .i64 (D + 1))) (.cells #[.string ⟨n.toArray⟩, .slice none 0 0, .slice none 0 0, .string ⟨#[]⟩] 28)
        have hzs : (w2.setCell ⟨b, 1, none⟩ (.int .i64 (D + 1))).heap.size = w2.heap.size := by simp [go_sem]
        rw [hzs] at ke3
        have kk3 := keepBlk kk2 hg23 (by omega)
        have kb3 := keepBlk kb2 hg23 (by omega)
        have hg3 := hg2'.trans hg23
        have hz3 : w2.heap.size < ((w2.setCell ⟨b, 1, none⟩ (.int .i64 (D + 1))).alloc (.cells #[.string ⟨n.toArray⟩, .slice none 0 0, .slice none 0 0, .string ⟨#[]⟩] 28)).heap.size := (Array.getElem?_eq_some_iff.1 ke3).1
        generalize hW3 : ((w2.setCell ⟨b, 1, none⟩ (.int .i64 (D + 1))).alloc (.cells #[.string ⟨n.toArray⟩, .slice none 0 0, .slice none 0 0, .string ⟨#[]⟩] 28)) = w3 at *
        clear hg23 hW3 kk2 kb2 cc2 c21 f21 hR2 hg2'
        generalize hkE : w2.heap.size = kE at *
        clear hkE
        have HAT := Lib.hid (attrs_st hR3)
        cases h3 : attrsN (s2.length + 1) [] s2 with
        | bad k =>
          have hr : element (a + 1) s = .bad k := by rw [HR2.out]; unfold elemB; rw [h3]; rfl
          have HR3 := Lib.hid hr
          have H3 := Lib.hid h3
          clear hr h3
          refine (post_bad H3.out HAT.out).mono ?_
          rintro e w4 ⟨rfl, hbad⟩
          go_wp2
          obtain ⟨hbg, sx, dx, hbR⟩ := hbad
          have kk4 := keepBlk kk3 hbg (by omega)
          exact leave_bad (blk_cell kk4 0) hbR.rb (post_mk_bad HR3.out _ ⟨g_set (hg3.trans hbg) _, _, _, hbR.set1 _⟩)
        | ok x =>
          obtain ⟨al, s3⟩ := x
          have hr : element (a + 1) s = if [47].isPrefixOf s3 then (cut [47, 62] s3).bind fun s => .ok (.mk n al [] [], s)
              else (cut [62] s3).bind fun s =>
              (contentN (element a) (s.length + 1) s).bind fun (ks, s) =>
              (cut [60, 47] s).bind fun s =>
              (rname s).bind fun (m, s) =>
              if m = n then (cut [62] (blank s).2).bind fun s => .ok (.mk n al ks [], s) else .bad .form := by rw [HR2.out]; unfold elemB; rw [h3]; rfl
          have HR3 := Lib.hid hr
          have H3 := Lib.hid h3
          clear hr h3 HR2
          refine (post_ok H3.out HAT.out).mono ?_
          rintro e w4 ⟨v, rfl, hV, hg4, hR4⟩
          obtain ⟨A, cap, rfl, hcap, hC⟩ := Kd.R_reads hV
          clear hC
          have hV4 := Kd.R_bound hV
          have ke4 := keepBlk ke3 hg4 (by omega)
          have kk4 := keepBlk kk3 hg4 (by omega)
          have kb4 := keepBlk kb3 hg4 (by omega)
          have ce41 := blk_cell ke4 1
          have fe41 := blk_free ke4 1
          have cc4 := blk_cell kk4 0
          have c40 := hR4.rb.c0
          have hz4 := hg4.size
          go_wp2_with fail
          have hC4 := Lib.hid hV4
          have hg5 := g_setNew (i := 1) (hg3.trans hg4) (k := kE) (by omega) (.slice A al.length cap)
          have ke5 := blk_set ke4 1 (.slice A al.length cap)
          have kk5 := blk_far kk4 (p := ⟨kE, 1, none⟩) (by show _ ≠ kE; omega) (.slice A al.length cap)
          have kb5 := blk_far kb4 (p := ⟨kE, 1, none⟩) (by show _ ≠ kE; omega) (.slice A al.length cap)
          have hR5 := hR4.far (p := ⟨kE, 1, none⟩) (by show kE ≠ b; omega) (by show n0 ≤ kE; omega) (.slice A al.length cap)
          have hV5 := Kd.R_far (p := ⟨kE, 1, none⟩) hV4 (by rintro k ⟨_, h2, _⟩ e; simp only at e; omega) (.slice A al.length cap)
          simp only [List.setIfInBounds_toArray, List.set_cons_succ, List.set_cons_zero] at ke5
          have hml : (al.map toA).length = al.length := by simp
          rw [hml] at hcap hV5
          generalize hW5 : w4.setCell ⟨kE, 1, none⟩ (.slice A al.length cap) = w5 at *
          clear hW5 hV hV4 hC4 ce41 fe41 cc4 c40 kk4 kb4 ke4 kk3 kb3 ke3 hR3 hR4 HAT hg3 hg4 H3
          have hz5 : kE < w5.heap.size := (Array.getElem?_eq_some_iff.1 ke5).1
          have hpre := Tryz.strings_HasPrefix ⟨s3.toArray⟩ ⟨#[47]⟩ w5
          cases hp : [47].isPrefixOf s3 with
          | true =>
            have hp' : Lib.hasPrefix s3 [47] = true := hp
            simp only [hp'] at hpre
            have hr : element (a + 1) s = (cut [47, 62] s3).bind fun s => .ok (.mk n al [] [], s) := by rw [HR3.out, if_pos hp]
            have HR4 := Lib.hid hr
            clear hr hp hp' HR3
            refine hpre.mono ?_
            rintro e w6 ⟨rfl, rfl⟩
            have cc6 := blk_cell kk5 0
            have HCT5 := cut_st hR5 [47, 62]
            cases h4 : cut [47, 62] s3 with
            | bad k =>
              have hr : element (a + 1) s = .bad k := by rw [HR4.out, h4]; rfl
              have HR5 := Lib.hid hr
              have H4 := Lib.hid h4
              clear hr h4
              go_wp2_with (first | (go_at_call 146; refine (post_bad H4.out HCT5).mono ?_; rintro e w6 ⟨rfl, hbad⟩))
              obtain ⟨hbg, sx, dx, hbR⟩ := hbad
              have kk6 := keepBlk kk5 hbg (by omega)
              exact leave_bad (blk_cell kk6 0) hbR.rb (post_mk_bad HR5.out _ ⟨g_set (hg5.trans hbg) _, _, _, hbR.set1 _⟩)
            | ok s4 =>
              have hr : element (a + 1) s = .ok (.mk n al [] [], s4) := by rw [HR4.out, h4]; rfl
              have HR5 := Lib.hid hr
              have H4 := Lib.hid h4
              clear hr h4
              go_wp2_with (first | (go_at_call 146; refine (post_ok H4.out HCT5).mono ?_; rintro e w6 ⟨rfl, hg6, hR6⟩; have kk6 := keepBlk kk5 hg6 (by omega); have kb6 := keepBlk kb5 hg6 (by omega); have ke6 := keepBlk ke5 hg6 (by omega); have e0 := blk_cell ke6 0; have e1 := blk_cell ke6 1; have e2 := blk_cell ke6 2; have e3 := blk_cell ke6 3; have r0 := blk_cell kb6 0; have r1 := blk_cell kb6 1; have r2 := blk_cell kb6 2; have r3 := blk_cell kb6 3; have rf0 := blk_free kb6 0; have rf1 := blk_free kb6 1; have rf2 := blk_free kb6 2; have rf3 := blk_free kb6 3))
              refine el_done (n := n) (al := al) (ks := ([] : List Elem)) (A := A) (A2 := none) (cap := cap) (cap2 := 0) hlt hD1 hD0 kk6 kb6 (hg5.trans hg6) hR6 (b1 := w3.heap.size) (b2 := w3.heap.size) (by omega) (by omega) ?_ (Kd.R_nil _ _ _ _ _) HR5 rfl
              exact Kd.R_mono (Kd.R_grown hV5 hg6 (fun k hk e => hk.1 (by cases e; rfl))) (fun k hk => ⟨hk.1, hk.2.1⟩)
          | false =>
            have hp' : Lib.hasPrefix s3 [47] = false := hp
            simp only [hp'] at hpre
            have hr : element (a + 1) s = (cut [62] s3).bind fun s =>
              (contentN (element a) (s.length + 1) s).bind fun (ks, s) =>
              (cut [60, 47] s).bind fun s =>
              (rname s).bind fun (m, s) =>
              if m = n then (cut [62] (blank s).2).bind fun s => .ok (.mk n al ks [], s) else .bad .form := by rw [HR3.out, hp]; rfl
            have HR4 := Lib.hid hr
            clear hr hp hp' HR3
            refine hpre.mono ?_
            rintro e w6 ⟨rfl, rfl⟩
            have cc6 := blk_cell kk5 0
            have HCT5 := cut_st hR5 [62]
            cases h4 : cut [62] s3 with
            | bad k =>
              have hr : element (a + 1) s = .bad k := by rw [HR4.out, h4]; rfl
              have HR5 := Lib.hid hr
              have H4 := Lib.hid h4
              clear hr h4
              go_wp2_with (first | (go_at_call 146; refine (post_bad H4.out HCT5).mono ?_; rintro e w6 ⟨rfl, hbad⟩))
              exact el_bad hlt hbad kk5 hg5 HR5
            | ok s4 =>
              have hr : element (a + 1) s = (contentN (element a) (s4.length + 1) s4).bind fun (ks, s) =>
                (cut [60, 47] s).bind fun s =>
                (rname s).bind fun (m, s) =>
                if m = n then (cut [62] (blank s).2).bind fun s => .ok (.mk n al ks [], s) else .bad .form := by rw [HR4.out, h4]; rfl
              have HR5 := Lib.hid hr
              have H4 := Lib.hid h4
              clear hr h4
              go_wp2_with (first | (go_at_call 146; refine (post_ok H4.out HCT5).mono ?_; rintro e w6 ⟨rfl, hg6, hR6⟩; have kk6 := keepBlk kk5 hg6 (by omega); have cc6b := blk_cell kk6 0))
              have kb6 := keepBlk kb5 hg6 (by omega)
              have ke6 := keepBlk ke5 hg6 (by omega)
              have hz6 := hg6.size
              have hV6 := Kd.R_grown hV5 hg6 (fun k hk e => hk.1 (by cases e; rfl))
              have hgg6 := hg5.trans hg6
              have HCO := Lib.hid (content_st (element a) (fun s e r h => element_len a s e r h) IH.out hR6)
              clear HR4 H4 HCT5 hg6 hg5 kk5 kb5 ke5 hV5 hR5 cc6 cc6b
              cases h5 : contentN (element a) (s4.length + 1) s4 with
              | bad k =>
                have hr : element (a + 1) s = .bad k := by rw [HR5.out, h5]; rfl
                have HR6 := Lib.hid hr
                have H5 := Lib.hid h5
                clear hr h5
                refine (post_bad H5.out HCO.out).mono ?_
                rintro e w7 ⟨rfl, hbad⟩
                go_wp2
                exact el_bad hlt hbad kk6 hgg6 HR6
              | ok x =>
                obtain ⟨ks, s5⟩ := x
                have hr : element (a + 1) s = (cut [60, 47] s5).bind fun s =>
                  (rname s).bind fun (m, s) =>
                  if m = n then (cut [62] (blank s).2).bind fun s => .ok (.mk n al ks [], s) else .bad .form := by rw [HR5.out, h5]; rfl
                have HR6 := Lib.hid hr
                have H5 := Lib.hid h5
                clear hr h5 HR5
                refine (post_ok H5.out HCO.out).mono ?_
                rintro e w7 ⟨v, rfl, hU, hg7, hR7⟩
                obtain ⟨A2, cap2, rfl, hcap2, hC⟩ := Kd.R_reads hU
                clear hC
                have hU7 := Kd.R_bound hU
                have ke7 := keepBlk ke6 hg7 (by omega)
                have kk7 := keepBlk kk6 hg7 (by omega)
                have kb7 := keepBlk kb6 hg7 (by omega)
                have hV7 := Kd.R_grown hV6 hg7 (fun k hk e => hk.1 (by cases e; rfl))
                have ce7 := blk_cell ke7 2
                have fe7 := blk_free ke7 2
                have hz7 := hg7.size
                have hml : (toEs ks).length = ks.length := toEs_length ks
                have HML := Lib.hid hml
                clear hml H5 HCO
                rw [HML.out] at hU hU7
                simp only [HML.out]
                have hg8 := g_setNew (i := 2) (hgg6.trans hg7) (k := kE) (by omega) (.slice A2 ks.length cap2)
                have ke8 := blk_set ke7 2 (.slice A2 ks.length cap2)
                have kk8 := blk_far kk7 (p := ⟨kE, 2, none⟩) (by show _ ≠ kE; omega) (.slice A2 ks.length cap2)
                have kb8 := blk_far kb7 (p := ⟨kE, 2, none⟩) (by show _ ≠ kE; omega) (.slice A2 ks.length cap2)
                have hR8 := hR7.far (p := ⟨kE, 2, none⟩) (by show kE ≠ b; omega) (by show n0 ≤ kE; omega) (.slice A2 ks.length cap2)
                have hV8 := Kd.R_far (p := ⟨kE, 2, none⟩) hV7 (by rintro k ⟨_, h2, _⟩ e; simp only at e; omega) (.slice A2 ks.length cap2)
                have hU8 := Kd.R_far (p := ⟨kE, 2, none⟩) hU7 (by rintro k ⟨_, h2, _⟩ e; simp only at e; omega) (.slice A2 ks.length cap2)
                simp only [List.setIfInBounds_toArray, List.set_cons_succ, List.set_cons_zero] at ke8
                have cc8 := blk_cell kk8 0
                have HCT8 := cut_st hR8 [60, 47]
                clear hV6 hV7 hU hU7 ke6 kk6 kb6 kk7 kb7 hg7 hgg6 hR6 hR7
                cases h6 : cut [60, 47] s5 with
                | bad k =>
                  have hr : element (a + 1) s = .bad k := by rw [HR6.out, h6]; rfl
                  have HR7 := Lib.hid hr
                  have H6 := Lib.hid h6
                  clear hr h6
                  go_wp2_with (first | (go_at_call 146; refine (post_bad H6.out HCT8).mono ?_; rintro e w6 ⟨rfl, hbad⟩))
                  exact el_bad hlt hbad kk8 hg8 HR7
                | ok s6 =>
                  have hr : element (a + 1) s = (rname s6).bind fun (m, s) =>
                    if m = n then (cut [62] (blank s).2).bind fun s => .ok (.mk n al ks [], s) else .bad .form := by rw [HR6.out, h6]; rfl
                  have HR7 := Lib.hid hr
                  have H6 := Lib.hid h6
                  clear hr h6
                  go_wp2_with (first | (go_at_call 146; refine (post_ok H6.out HCT8).mono ?_; rintro e w9 ⟨rfl, hg9, hR9⟩; have kk9 := keepBlk kk8 hg9 (by omega); have ke9 := keepBlk ke8 hg9 (by omega);  have kb9 := keepBlk kb8 hg9 (by omega); have cc9 := blk_cell kk9 0))
                  have hz8 : kE < (w7.setCell ⟨kE, 2, none⟩ (.slice A2 ks.length cap2)).heap.size := (Array.getElem?_eq_some_iff.1 ke8).1
                  have hg9' := g_drewN (hg8.trans hg9) 1
                  have hV9 := Kd.R_grown (Kd.R_grown hV8 hg9 (fun k hk e => hk.1 (by cases e; rfl))) (g_drewN (grown_refl w9 (some b)) 1) (fun k hk e => hk.1 (by cases e; rfl))
                  have hU9 := Kd.R_grown (Kd.R_grown hU8 hg9 (fun k hk e => hk.1 (by cases e; rfl))) (g_drewN (grown_refl w9 (some b)) 1) (fun k hk e => hk.1 (by cases e; rfl))
                  have hR9' := hR9.drewN 1
                  have kk9' : (w9.drewN 1).heap[w.heap.size]? = _ := kk9
                  have kb9' : (w9.drewN 1).heap[w.heap.size + 1]? = _ := kb9
                  have ke9' : (w9.drewN 1).heap[kE]? = _ := ke9
                  have ce90 := blk_cell ke9 0
                  clear hR8 hg8 hg9 hV8 hU8 kk8 kb8 ke8 cc8 HCT8 HR6 H6 hR9 kb9 hz8
                  cases h7 : rname s6 with
                  | bad k =>
                    have hr : element (a + 1) s = .bad k := by rw [HR7.out, h7]; rfl
                    have HR8 := Lib.hid hr
                    have H7 := Lib.hid h7
                    clear hr h7
                    refine wp_region_anyTmps ?_
                    go_region_with (first | (go_at_call 147; refine (post_bad H7.out (name_st hR9')).mono ?_; rintro e w10 ⟨rfl, hbad⟩; refine ended ⟨#[], []⟩ w9 (fun ts => el_bad hlt hbad kk9' hg9' HR8) ?_))
                    all_goals trivial
                  | ok x =>
                    obtain ⟨m, s7⟩ := x
                    have hr : element (a + 1) s = if m = n then (cut [62] (blank s7).2).bind fun s => .ok (.mk n al ks [], s) else .bad .form := by rw [HR7.out, h7]; rfl
                    have HR8 := Lib.hid hr
                    have H7 := Lib.hid h7
                    clear hr h7
                    by_cases hmn : m = n
                    · have HQ := Lib.hid (show (m == n) = true by simpa using hmn)
                      have hr : element (a + 1) s = (cut [62] (blank s7).2).bind fun s => .ok (.mk n al ks [], s) := by rw [HR8.out, if_pos hmn]
                      have HR9 := Lib.hid hr
                      clear hr hmn HR7 HR8
                      refine wp_region_anyTmps ?_
                      go_region_with (first | (go_at_call 147; refine (post_ok H7.out (name_st hR9')).mono ?_; rintro e w10 ⟨rfl, hg10, hR10⟩; have ke10 := keepBlk ke9' hg10 (by omega); have kk10 := keepBlk kk9' hg10 (by omega); have ce100 := blk_cell ke10 0; have cc10 := blk_cell kk10 0) | (go_at_call 88; rw [HQ.out]; refine (fail_ok _).mono ?_; rintro e w11 ⟨rfl, rfl⟩))
                      all_goals (refine AnyTmps.normal ?_)
                      all_goals (go_wp2_with fail)
                      all_goals clear cc10
                      all_goals (refine (blank_st hR10).mono ?_; rintro e w12 ⟨rfl, hg12, hR12⟩; have kk12 := keepBlk kk10 hg12 (by omega); have cc12 := blk_cell kk12 0)
                      all_goals (
                        have hg12' := (hg9'.trans hg10).trans hg12
                        have HV12 := Lib.hid (Kd.R_grown (Kd.R_grown hV9 hg10 (fun k hk e => hk.1 (by cases e; rfl))) hg12 (fun k hk e => hk.1 (by cases e; rfl)))
                        have HU12 := Lib.hid (Kd.R_grown (Kd.R_grown hU9 hg10 (fun k hk e => hk.1 (by cases e; rfl))) hg12 (fun k hk e => hk.1 (by cases e; rfl)))
                        have ke12 := keepBlk ke10 hg12 (by omega)
                        have kb12 := keepBlk (keepBlk kb9' hg10 (by omega)) hg12 (by omega)
                        have HCT12 := cut_st hR12 [62]
                        clear hV9 hU9 hg10 hg12 hg9' ke10 kk10 ke9' kk9' kb9' hR10 hR9'
                        cases h8 : cut [62] (blank s7).2 with
                        | bad k =>
                          have hr : element (a + 1) s = .bad k := by rw [HR9.out, h8]; rfl
                          have HR10 := Lib.hid hr
                          have H8 := Lib.hid h8
                          clear hr h8
                          go_wp2_with (first | (go_at_call 146; refine (post_bad H8.out HCT12).mono ?_; rintro e w6 ⟨rfl, hbad⟩))
                          exact el_bad hlt hbad kk12 hg12' HR10
                        | ok s8 =>
                          have hr : element (a + 1) s = .ok (.mk n al ks [], s8) := by rw [HR9.out, h8]; rfl
                          have HR10 := Lib.hid hr
                          have H8 := Lib.hid h8
                          clear hr h8
                          go_wp2_with (first | (go_at_call 146; refine (post_ok H8.out HCT12).mono ?_; rintro e w13 ⟨rfl, hg13, hR13⟩; have kk13 := keepBlk kk12 hg13 (by omega); have kb13 := keepBlk kb12 hg13 (by omega); have ke13 := keepBlk ke12 hg13 (by omega); have e0 := blk_cell ke13 0; have e1 := blk_cell ke13 1; have e2 := blk_cell ke13 2; have e3 := blk_cell ke13 3; have r0 := blk_cell kb13 0; have r1 := blk_cell kb13 1; have r2 := blk_cell kb13 2; have r3 := blk_cell kb13 3; have rf0 := blk_free kb13 0; have rf1 := blk_free kb13 1; have rf2 := blk_free kb13 2; have rf3 := blk_free kb13 3))
                          refine el_done (n := n) (al := al) (ks := ks) (A := A) (A2 := A2) (cap := cap) (cap2 := cap2) hlt hD1 hD0 kk13 kb13 (hg12'.trans hg13) hR13 (b1 := w3.heap.size) (b2 := w6.heap.size) (by omega) (by omega) ?_ ?_ HR10 rfl
                          · exact Kd.R_mono (Kd.R_grown HV12.out hg13 (fun k hk e => hk.1 (by cases e; rfl))) (fun k hk => ⟨hk.1, hk.2.1⟩)
                          · exact Kd.R_mono (Kd.R_grown HU12.out hg13 (fun k hk e => hk.1 (by cases e; rfl))) (fun k hk => ⟨hk.1, hk.2.1⟩))
                    · have HQ := Lib.hid (show (m == n) = false by simpa using hmn)
                      have hr : element (a + 1) s = .bad .form := by rw [HR8.out, if_neg hmn]
                      have HR9 := Lib.hid hr
                      clear hr hmn
                      refine wp_region_anyTmps ?_
                      go_region_with (first | (go_at_call 147; refine (post_ok H7.out (name_st hR9')).mono ?_; rintro e w10 ⟨rfl, hg10, hR10⟩; have ke10 := keepBlk ke9' hg10 (by omega); have kk10 := keepBlk kk9' hg10 (by omega); have ce100 := blk_cell ke10 0) | (go_at_call 88; rw [HQ.out]; refine (fail_bad hR10.env).mono ?_; rintro e w11 ⟨rfl, rfl⟩; refine ended ⟨#[], []⟩ w9 (fun ts => el_bad hlt (⟨grown_refl _ _, _, _, hR10⟩ : BadR eb n0 b _ _) kk10 (hg9'.trans hg10) HR9) ?_))
                      all_goals trivial
end Go.Proofs.YtcmjaaigkbjpaaaGreatDoor.Lia

/- Walks: catch's told. -/
namespace Go.Proofs.YtcmjaaigkbjpaaaGreatDoor.Lia
open Go.RowKit Go.Proofs.YtcmjaaigkbjpaaaGreatDoorW.PrintWords PX

theorem told1 {eb : Nat → Addr} {n0 : Nat} {w : World} (h : Env eb n0 w) {k j kt : Nat} (hk : k < 14) (hj : j < 14) (hc : w.cell? ⟨kt, 0, none⟩ = some (errV eb k)) :
    Calls Tryz.prog 194 #[errV eb j, .pointer (some ⟨kt, 0, none⟩)] w fun e w' => e = .returned (.bool (decide (k = j))) ∧ w' = w := by
  have his : Calls Tryz.prog 63 #[errV eb k, errV eb j] w fun e w' => e = .returned (.bool (decide (k = j))) ∧ w' = w := by
    by_cases hkj : k = j
    · subst hkj
      simp only [decide_true]
      exact is_same _ _
    · obtain ⟨ca, ta, ha⟩ := h.row k hk
      obtain ⟨cb, tb, hb⟩ := h.row j hj
      simp only [hkj, decide_false]
      refine is_other _ _ ca cb ta tb w ?_ ha hb
      intro e
      exact hkj (h.inj k j hk hj e)
  have HIS := Lib.hid his
  clear his h hk hj
  unfold errV at hc HIS ⊢
  go_enter Tryz.func194, Tryz.ntmps194
  go_wp2_with (go_at_call 63; refine HIS.out.mono ?_; rintro e w1 ⟨rfl, rfl⟩)
  go_ret
  first | exact ⟨rfl, rfl⟩ | simp
def errRow (eb : Nat → Addr) : Array Value := #[errV eb 0, errV eb 1, errV eb 2, errV eb 3, errV eb 4, errV eb 5, errV eb 6, errV eb 7, errV eb 8, errV eb 9, errV eb 10, errV eb 11, errV eb 12, errV eb 13]
theorem errRow_at (eb : Nat → Addr) : ∀ j, j < 14 → (errRow eb)[j]? = some (errV eb j) := by
  intro j hj
  iterate 14 (rcases j with _ | j; · rfl)
  omega
theorem info37 : (Tryz.prog.info? 37).map (fun i => (i.zero, i.size)) = some (some .nilIface, 1) := by kernel_rfl
theorem und129 : Tryz.prog.underlying 129 = some (.slice 37) := by kernel_rfl
set_option maxRecDepth 100000 in
theorem own_vals {w : World} {v0 v1 v2 v3 v4 v5 v6 v7 v8 v9 v10 v11 v12 v13 : Addr} (e0 : w.cell? ⟨0, 0, none⟩ = some (.iface 337 (.pointer (some v0)))) (e1 : w.cell? ⟨1, 0, none⟩ = some (.iface 337 (.pointer (some v1)))) (e2 : w.cell? ⟨2, 0, none⟩ = some (.iface 337 (.pointer (some v2)))) (e3 : w.cell? ⟨3, 0, none⟩ = some (.iface 337 (.pointer (some v3)))) (e4 : w.cell? ⟨4, 0, none⟩ = some (.iface 337 (.pointer (some v4)))) (e5 : w.cell? ⟨5, 0, none⟩ = some (.iface 337 (.pointer (some v5)))) (e6 : w.cell? ⟨6, 0, none⟩ = some (.iface 337 (.pointer (some v6)))) (e7 : w.cell? ⟨7, 0, none⟩ = some (.iface 337 (.pointer (some v7)))) (e8 : w.cell? ⟨8, 0, none⟩ = some (.iface 337 (.pointer (some v8)))) (e9 : w.cell? ⟨9, 0, none⟩ = some (.iface 337 (.pointer (some v9)))) (e10 : w.cell? ⟨10, 0, none⟩ = some (.iface 337 (.pointer (some v10)))) (e11 : w.cell? ⟨11, 0, none⟩ = some (.iface 337 (.pointer (some v11)))) (e12 : w.cell? ⟨12, 0, none⟩ = some (.iface 337 (.pointer (some v12)))) (e13 : w.cell? ⟨13, 0, none⟩ = some (.iface 337 (.pointer (some v13)))) :
    Calls Tryz.prog 193 #[] w fun e w' => e = .returned (.slice (some ⟨w.heap.size, 0, none⟩) 14 14) ∧ w' = w.alloc (.cells #[.iface 337 (.pointer (some v0)), .iface 337 (.pointer (some v1)), .iface 337 (.pointer (some v2)), .iface 337 (.pointer (some v3)), .iface 337 (.pointer (some v4)), .iface 337 (.pointer (some v5)), .iface 337 (.pointer (some v6)), .iface 337 (.pointer (some v7)), .iface 337 (.pointer (some v8)), .iface 337 (.pointer (some v9)), .iface 337 (.pointer (some v10)), .iface 337 (.pointer (some v11)), .iface 337 (.pointer (some v12)), .iface 337 (.pointer (some v13))] 37) := by
  obtain ⟨ie, hie, hq⟩ := Option.map_eq_some_iff.1 info37
  simp only [Prod.mk.injEq] at hq
  obtain ⟨hz, hs⟩ := hq
  have HIE := Lib.hid hie
  have HZ := Lib.hid hz
  have HS := Lib.hid hs
  clear hie hz hs
  go_enter Tryz.func193, Tryz.ntmps193
  go_wp2_with (refine wpList_buildSlice (by rfl) 129 37 14 #[(0, .tmp 1), (1, .tmp 2), (2, .tmp 3), (3, .tmp 4), (4, .tmp 5), (5, .tmp 6), (6, .tmp 7), (7, .tmp 8), (8, .tmp 9), (9, .tmp 10), (10, .tmp 11), (11, .tmp 12), (12, .tmp 13), (13, .tmp 14)] (by rfl) #[.iface 337 (.pointer (some v0)), .iface 337 (.pointer (some v1)), .iface 337 (.pointer (some v2)), .iface 337 (.pointer (some v3)), .iface 337 (.pointer (some v4)), .iface 337 (.pointer (some v5)), .iface 337 (.pointer (some v6)), .iface 337 (.pointer (some v7)), .iface 337 (.pointer (some v8)), .iface 337 (.pointer (some v9)), .iface 337 (.pointer (some v10)), .iface 337 (.pointer (some v11)), .iface 337 (.pointer (some v12)), .iface 337 (.pointer (some v13))] ie .nilIface und129 HIE.out HZ.out (by rw [HS.out]; decide) (by rw [HS.out]; decide) (by rw [HS.out]; rfl) ?_)
  go_ret
  first | exact ⟨rfl, rfl⟩ | simp
theorem own_any {eb : Nat → Addr} {n0 : Nat} {w : World} (h : Env eb n0 w) :
    Calls Tryz.prog 193 #[] w fun e w' => e = .returned (.slice (some ⟨w.heap.size, 0, none⟩) 14 14) ∧ w' = w.alloc (.cells (errRow eb) 37) :=
  own_vals (h.err 0 (by omega)) (h.err 1 (by omega)) (h.err 2 (by omega)) (h.err 3 (by omega)) (h.err 4 (by omega)) (h.err 5 (by omega)) (h.err 6 (by omega)) (h.err 7 (by omega)) (h.err 8 (by omega)) (h.err 9 (by omega)) (h.err 10 (by omega)) (h.err 11 (by omega)) (h.err 12 (by omega)) (h.err 13 (by omega))
theorem idx_err {eb : Nat → Addr} {n0 : Nat} {w : World} (h : Env eb n0 w) {k kt B : Nat} (hk : k < 14) (hc : w.cell? ⟨kt, 0, none⟩ = some (errV eb k)) (hB : w.heap[B]? = some (.cells (errRow eb) 37)) :
    Calls Tryz.prog 192 #[.slice (some ⟨B, 0, none⟩) 14 14, .func (.func 194) #[] #[.pointer (some ⟨kt, 0, none⟩)]] w fun e w' => e = .returned (.int .i64 k) ∧ w' = w := by
  have ht := fun j hj => told1 h hk (j := j) hj hc
  have hr : ∀ j, j < 14 → w.cell? ⟨B, j, none⟩ = some (errV eb j) := fun j hj => (blk_cell hB j).trans (errRow_at eb j hj)
  have HT := Lib.hid ht
  have HR := Lib.hid hr
  clear ht hr h hB hc
  go_enter Tryz.func192, Tryz.ntmps192
  go_wp2
  go_loopw [8] (fun i wr => ∃ j : Nat, j ≤ k ∧ i = .int .i64 j ∧ wr = w) (fun i _ => 14 - (intOf i).toNat)
  case atStart => exact ⟨0, Nat.zero_le _, rfl, rfl⟩
  case round =>
    obtain ⟨j, hjk, rfl, rfl⟩ := hrel
    have hj14 : j < 14 := by omega
    have cj := HR.out j hj14
    have HTJ := Lib.hid (HT.out j hj14)
    by_cases hkj : k = j
    · subst hkj
      have HD := Lib.hid (show decide (k = k) = true by simp)
      go_wp2_with (go_at_call 194; refine HTJ.out.mono ?_; rintro e w2 ⟨rfl, rfl⟩; rw [HD.out])
      go_ret
      first | exact ⟨rfl, rfl⟩ | simp
    · have HD := Lib.hid (show decide (k = j) = false by simpa using hkj)
      have hlt : j < k := by omega
      clear hkj hjk
      go_wp2_with (go_at_call 194; refine HTJ.out.mono ?_; rintro e w2 ⟨rfl, rfl⟩; rw [HD.out])
      go_roundw
      case rel => exact ⟨j + 1, by omega, by go_num, by first | rfl | trivial⟩
      case measure => simp [intOf]; omega
set_option maxRecDepth 100000 in
theorem told_any {eb : Nat → Addr} {n0 : Nat} {w : World} (h : Env eb n0 w) {k : Nat} (hk : k < 14) :
    Calls Tryz.prog 121 #[errV eb k] w fun e w' => e = .returned (errV eb k) ∧ Below w.heap.size w w' := by
  have ho := fun (w : World) (h : Env eb n0 w) => own_any h
  have hi := fun (w : World) (h : Env eb n0 w) (kt B : Nat) => idx_err (w := w) (kt := kt) (B := B) h hk
  have hr := errRow_at eb k hk
  obtain ⟨ad, ha⟩ : ∃ ad, errV eb k = .iface 337 (.pointer (some ad)) := ⟨_, rfl⟩
  have hkk : (k : Int) < 14 := by omega
  rw [ha] at hr ⊢
  simp only [ha] at hi
  have hsz : (w.alloc (.cells #[.iface 337 (.pointer (some ad))] 37)).heap.size = w.heap.size + 1 := by simp
  have hsz2 : ((w.alloc (.cells #[.iface 337 (.pointer (some ad))] 37)).alloc (.cells (errRow eb) 37)).heap.size = w.heap.size + 2 := by simp
  have k0 := blk_cell (keepBlkB (newBlk w (.cells #[.iface 337 (.pointer (some ad))] 37)) ((Below.refl _ (w.alloc (.cells #[.iface 337 (.pointer (some ad))] 37))).alloc (Nat.le_refl _) (.cells (errRow eb) 37))) 0
  have k1 := newBlk (w.alloc (.cells #[.iface 337 (.pointer (some ad))] 37)) (.cells (errRow eb) 37)
  have k2 := blk_cell (newBlk ((w.alloc (.cells #[.iface 337 (.pointer (some ad))] 37)).alloc (.cells (errRow eb) 37)) (.cells (errRow eb) 37)) k
  rw [hsz] at k1
  rw [hsz2, hr] at k2
  have hwi := hi _ ((h.alloc (.cells #[.iface 337 (.pointer (some ad))] 37)).alloc (.cells (errRow eb) 37)) _ _ k0 k1
  have ho1 := ho _ (h.alloc (.cells #[.iface 337 (.pointer (some ad))] 37))
  have ho2 := ho _ ((h.alloc (.cells #[.iface 337 (.pointer (some ad))] 37)).alloc (.cells (errRow eb) 37))
  rw [hsz] at ho1
  rw [hsz2] at ho2
  have hbb : Below w.heap.size w (((w.alloc (.cells #[.iface 337 (.pointer (some ad))] 37)).alloc (.cells (errRow eb) 37)).alloc (.cells (errRow eb) 37)) :=
    (((Below.refl _ w).alloc (Nat.le_refl _) _).alloc (by rw [hsz]; omega) _).alloc (by rw [hsz2]; omega) _
  have HBB := Lib.hid hbb
  have HO1 := Lib.hid ho1
  have HO2 := Lib.hid ho2
  have HI := Lib.hid hwi
  have hie := isError (.pointer (some ad)) 20 w
  generalize hER : errRow eb = er at *
  clear ho hi h hr ha hER hk hsz hsz2 k0 k1 ho1 ho2 hwi hbb
  go_enter Tryz.func121, Tryz.ntmps121
  go_wp2_with (first | (go_at_call 193; refine HO1.out.mono ?_; rintro e w1 ⟨rfl, rfl⟩) | (go_at_call 193; refine HO2.out.mono ?_; rintro e w1 ⟨rfl, rfl⟩) | (go_at_call 192; refine HI.out.mono ?_; rintro e w1 ⟨rfl, rfl⟩))
  go_ret
  first | exact ⟨rfl, HBB.out⟩ | exact HBB.out
end Go.Proofs.YtcmjaaigkbjpaaaGreatDoor.Lia

/- Walks: xml's Parse. -/
namespace Go.Proofs.YtcmjaaigkbjpaaaGreatDoor.Lia
open Go.RowKit Go.Proofs.YtcmjaaigkbjpaaaGreatDoorW.PrintWords PX

theorem below_grown {w w' : World} {b : Nat} (hg : w.grownBy w' (some b)) (hb : w.heap.size ≤ b) : Below w.heap.size w w' :=
  ⟨hg.os, hg.tape, hg.output, hg.size, fun i hi => hg.block i hi (by rintro e; cases e; omega)⟩
theorem set4_blk {W : World} {k : Nat} {o0 o1 o2 o3 : Value} {t : TypeId} (h : W.heap[k]? = some (.cells #[o0, o1, o2, o3] t)) (a0 a1 a2 a3 : Value) :
    ((((W.setCell ⟨k, 0, none⟩ a0).setCell ⟨k, 1, none⟩ a1).setCell ⟨k, 2, none⟩ a2).setCell ⟨k, 3, none⟩ a3).heap[k]? = some (.cells #[a0, a1, a2, a3] t) := by
  have j0 := blk_set (blk_set (blk_set (blk_set h 0 a0) 1 a1) 2 a2) 3 a3
  simpa only [List.setIfInBounds_toArray, List.set_cons_succ, List.set_cons_zero] using j0
theorem set4_M {W : World} {k base : Nat} {ok : Nat → Prop} {x : S28} {cs : List Value} (h : k28.M W base ok x cs) (hk : ∀ j, ok j → j ≠ k) (a0 a1 a2 a3 : Value) :
    k28.M ((((W.setCell ⟨k, 0, none⟩ a0).setCell ⟨k, 1, none⟩ a1).setCell ⟨k, 2, none⟩ a2).setCell ⟨k, 3, none⟩ a3) base ok x cs :=
  Kd.M_far (Kd.M_far (Kd.M_far (Kd.M_far h hk a0) hk a1) hk a2) hk a3
/-- What the reader's one run answers. -/
def parse1 (s : Str) : Res Elem := (element 12 s).bind fun x => if x.2 = [] then .ok x.1 else .bad .form
def TreeOk (w : World) (x : Elem) (e : Ending) (w' : World) : Prop :=
  ∃ A1 c1 A2 c2, e = .returned (.agg (elV (toE x) A1 c1 A2 c2).toArray) ∧ Kd.M k28 w' w.heap.size (fun _ => True) (toE x) (elV (toE x) A1 c1 A2 c2) ∧ Below w.heap.size w w'
set_option maxRecDepth 100000 in
theorem parse1_any {eb : Nat → Addr} {n0 ks : Nat} {s : Str} {w : World} (h : Env eb n0 w) (hs : s.length < 4294967281) (hc : w.cell? ⟨ks, 0, none⟩ = some (.string ⟨s.toArray⟩)) :
    Calls Tryz.prog 86 #[.pointer (some ⟨ks, 0, none⟩)] w (Post eb (parse1 s) (TreeOk w) (fun w' => Below w.heap.size w w')) := by
  have htop := h.top
  have hks : ks < w.heap.size := World.block_lt_of_cell? w _ hc
  have hsz : (w.alloc (.cells #[.string ⟨#[]⟩, .slice none 0 0, .slice none 0 0, .string ⟨#[]⟩] 28)).heap.size = w.heap.size + 1 := by simp
  have hkb := newBlk (w.alloc (.cells #[.string ⟨#[]⟩, .slice none 0 0, .slice none 0 0, .string ⟨#[]⟩] 28)) (.cells #[.string ⟨s.toArray⟩, .int .i64 0] 166)
  rw [hsz] at hkb
  have hR : RS eb n0 (w.heap.size + 1) s 0 ((w.alloc (.cells #[.string ⟨#[]⟩, .slice none 0 0, .slice none 0 0, .string ⟨#[]⟩] 28)).alloc (.cells #[.string ⟨s.toArray⟩, .int .i64 0] 166)) :=
    ⟨(h.alloc _).alloc _, hkb, by omega, hs⟩
  have hel := element_st 12 0 (by omega) (by omega) s _ hR
  have HEL := Lib.hid hel
  have hk0 := keepBlkB (newBlk w (.cells #[.string ⟨#[]⟩, .slice none 0 0, .slice none 0 0, .string ⟨#[]⟩] 28)) ((Below.refl _ (w.alloc (.cells #[.string ⟨#[]⟩, .slice none 0 0, .slice none 0 0, .string ⟨#[]⟩] 28))).alloc (Nat.le_refl _) (.cells #[.string ⟨s.toArray⟩, .int .i64 0] 166))
  have hg0 := g_alloc (g_alloc (grown_refl w (some (w.heap.size + 1))) (.cells #[.string ⟨#[]⟩, .slice none 0 0, .slice none 0 0, .string ⟨#[]⟩] 28)) (.cells #[.string ⟨s.toArray⟩, .int .i64 0] 166)
  have hp : parse1 s = (element 12 s).bind fun x => if x.2 = [] then .ok x.1 else .bad .form := rfl
  have HP := Lib.hid hp
  clear hel hp hsz hkb hR h
  cases h1 : element 12 s with
  | bad k =>
    have hr : parse1 s = .bad k := by rw [HP.out, h1]; rfl
    have HR := Lib.hid hr
    have H1 := Lib.hid h1
    clear hr h1
    go_enter Tryz.func86, Tryz.ntmps86
    go_wp2_with (go_at_call 87; refine (post_bad H1.out HEL.out).mono ?_; rintro e w1 ⟨rfl, hbad⟩)
    exact ⟨rfl, post_mk_bad HR.out _ (below_grown (hg0.trans hbad.1) (by omega))⟩
  | ok x =>
    obtain ⟨e, r⟩ := x
    have H1 := Lib.hid h1
    have hr : parse1 s = if r = [] then .ok e else .bad .form := by rw [HP.out, h1]; rfl
    have HR := Lib.hid hr
    clear hr h1
    go_enter Tryz.func86, Tryz.ntmps86
    go_wp2_with (go_at_call 87; refine (post_ok H1.out HEL.out).mono ?_; rintro e' w1 ⟨A1, c1, A2, c2, rfl, hM, hg1, hR1⟩; have c10 := hR1.rb.c0; have hz1 := hR1.rb.lt; unfold elV at *)
    have hsz2 : ((w.alloc (.cells #[.string ⟨#[]⟩, .slice none 0 0, .slice none 0 0, .string ⟨#[]⟩] 28)).alloc (.cells #[.string ⟨s.toArray⟩, .int .i64 0] 166)).heap.size = w.heap.size + 2 := by simp
    have hM0 := k28.M_bound hM
    rw [hsz2] at hM0
    have hg2 := g_alloc (hg0.trans hg1) (.cells #[.string (toE e).f0, .slice A1 (toE e).f1.length c1, .slice A2 (toE e).f2.length c2, .string (toE e).f3] 28)
    have hM1 := Kd.M_below hM0 ((Below.refl _ w1).alloc (Nat.le_refl _) (.cells #[.string (toE e).f0, .slice A1 (toE e).f1.length c1, .slice A2 (toE e).f2.length c2, .string (toE e).f3] 28))
    have he := newBlk w1 (.cells #[.string (toE e).f0, .slice A1 (toE e).f1.length c1, .slice A2 (toE e).f2.length c2, .string (toE e).f3] 28)
    have hk1 := keepBlkB (keepBlk hk0 hg1 (by omega)) ((Below.refl _ w1).alloc (Nat.le_refl _) (.cells #[.string (toE e).f0, .slice A1 (toE e).f1.length c1, .slice A2 (toE e).f2.length c2, .string (toE e).f3] 28))
    have hEnv := (hR1.alloc (.cells #[.string (toE e).f0, .slice A1 (toE e).f1.length c1, .slice A2 (toE e).f2.length c2, .string (toE e).f3] 28)).env
    generalize hW2 : (w1.alloc (.cells #[.string (toE e).f0, .slice A1 (toE e).f1.length c1, .slice A2 (toE e).f2.length c2, .string (toE e).f3] 28)) = w2 at *
    generalize hk : w1.heap.size = kE at *
    clear hW2 hk hM hM0 hg1 hR1 c10 hk0 hg0 hsz2
    cases r with
    | nil =>
      have hr : parse1 s = .ok e := by rw [HR.out, if_pos rfl]
      have HR2 := Lib.hid hr
      clear hr HR
      refine (fail_ok _).mono ?_
      rintro e' w3 ⟨rfl, rfl⟩
      have e0 := blk_cell he 0
      have e1 := blk_cell he 1
      have e2 := blk_cell he 2
      have e3 := blk_cell he 3
      have r0 := blk_cell hk1 0
      have r1 := blk_cell hk1 1
      have r2 := blk_cell hk1 2
      have r3 := blk_cell hk1 3
      have rf0 := blk_free hk1 0
      have rf1 := blk_free hk1 1
      have rf2 := blk_free hk1 2
      have rf3 := blk_free hk1 3
      go_wp2_with fail
      have hs := set4_blk hk1 (.string (toE e).f0) (.slice A1 (toE e).f1.length c1) (.slice A2 (toE e).f2.length c2) (.string (toE e).f3)
      have hgs := grown_set4 hg2 (k := w.heap.size) (Nat.le_refl _) (.string (toE e).f0) (.slice A1 (toE e).f1.length c1) (.slice A2 (toE e).f2.length c2) (.string (toE e).f3)
      have hMs := set4_M hM1 (k := w.heap.size) (by rintro j ⟨_, hj, _⟩ rfl; omega) (.string (toE e).f0) (.slice A1 (toE e).f1.length c1) (.slice A2 (toE e).f2.length c2) (.string (toE e).f3)
      generalize ((((w3.setCell ⟨w.heap.size, 0, none⟩ (.string (toE e).f0)).setCell ⟨w.heap.size, 1, none⟩ (.slice A1 (toE e).f1.length c1)).setCell ⟨w.heap.size, 2, none⟩ (.slice A2 (toE e).f2.length c2)).setCell ⟨w.heap.size, 3, none⟩ (.string (toE e).f3)) = W at *
      have q0 := blk_cell hs 0
      have q1 := blk_cell hs 1
      have q2 := blk_cell hs 2
      have q3 := blk_cell hs 3
      refine bodyPost_ret (v := .agg (elV (toE e) A1 c1 A2 c2).toArray) ?_ rfl (post_mk_ok HR2.out ⟨A1, c1, A2, c2, rfl, k28.M_mono (fun _ _ => trivial) (k28.M_lower (by omega) hMs), below_grown hgs (by omega)⟩)
      simp [results, Tryz.results86, go_sem, q0, q1, q2, q3, elV]
    | cons c r =>
      have hr : parse1 s = .bad .form := by rw [HR.out, if_neg (by simp)]
      have HR2 := Lib.hid hr
      clear hr HR
      refine (fail_bad hEnv).mono ?_
      rintro e' w3 ⟨rfl, rfl⟩
      go_wp2_with fail
      exact ⟨rfl, post_mk_bad HR2.out _ (below_grown hg2 (by omega))⟩
end Go.Proofs.YtcmjaaigkbjpaaaGreatDoor.Lia

/- Walks: catch's Try over a tree, and xml's Parse. -/
namespace Go.Proofs.YtcmjaaigkbjpaaaGreatDoor.Lia
open Go.RowKit Go.Proofs.YtcmjaaigkbjpaaaGreatDoorW.PrintWords PX

theorem try1_idle (p q r : Addr) (w : World) (hc : w.cell? p = some (.bool true)) :
    CallsD Tryz.prog 129 #[.pointer (some p), .pointer (some q), .pointer (some r)] .returning w fun e u' w' => e = .returned (.tuple #[]) ∧ u' = .returning ∧ w' = w := by
  refine callsD_of_wpS Tryz.func129 rfl fun c₀ cs hu => ?_
  apply wpS_seq
  apply wpS_region
  simp [wpOpsS, go_sem, recoverD, hu, Tryz.ntmps129, Exit.thenS]
  apply wpS_seq
  apply wpS_region
  simp [wpOpsS, go_sem, hc, Exit.thenS]
  refine wpS_cond (t := false) (by simp [Act.eval, Array.replicate]) ?_
  simp only [Bool.false_eq_true, if_false]
  refine wpS_of_wp (wp_skip ?_)
  cases c₀
  simp_all [bodyPostS, results, Tryz.results129]
theorem wp_at {P : Program} {c : Code} {Q : Exit → Act → World → Prop} {a a' : Act} {w : World} (ht : a = a') (h : c.wp P Q a' w) : c.wp P Q a w := ht ▸ h
set_option maxHeartbeats 2000000 in
theorem try1_panic {eb : Nat → Addr} {n0 kd kr ke : Nat} {w : World} (h : Env eb n0 w) {k : Nat} (hk : k < 14) (hc : w.cell? ⟨kd, 0, none⟩ = some (.bool false))
    {o0 o1 o2 o3 o4 : Value} (hr : w.heap[kr]? = some (.cells #[o0, o1, o2, o3] 28)) (he : w.heap[ke]? = some (.cells #[o4] 37)) :
    CallsD Tryz.prog 129 #[.pointer (some ⟨kd, 0, none⟩), .pointer (some ⟨kr, 0, none⟩), .pointer (some ⟨ke, 0, none⟩)] (.panicking [{ v := errV eb k, recovered := false }]) w
      fun e u' w' => e = .returned (.tuple #[]) ∧ u' = .panicking [{ v := errV eb k, recovered := true }] ∧
        ∃ w1, Below w.heap.size w w1 ∧ w' = ((((w1.setCell ⟨kr, 0, none⟩ (.string ⟨#[]⟩)).setCell ⟨kr, 1, none⟩ (.slice none 0 0)).setCell ⟨kr, 2, none⟩ (.slice none 0 0)).setCell ⟨kr, 3, none⟩ (.string ⟨#[]⟩)).setCell ⟨ke, 0, none⟩ (errV eb k) := by
  have hb0 := ((Below.refl _ w).alloc (Nat.le_refl _) (.cells #[.string ⟨#[]⟩, .slice none 0 0, .slice none 0 0, .string ⟨#[]⟩] 28))
  have HT := Lib.hid (told_any ((h.alloc (.cells #[.string ⟨#[]⟩, .slice none 0 0, .slice none 0 0, .string ⟨#[]⟩] 28)).drewN 1) hk)
  have hbd : Below w.heap.size w ((w.alloc (.cells #[.string ⟨#[]⟩, .slice none 0 0, .slice none 0 0, .string ⟨#[]⟩] 28)).drewN 1) := ⟨hb0.os, hb0.tape, hb0.output, hb0.size, hb0.block⟩
  have hzb : ((w.alloc (.cells #[.string ⟨#[]⟩, .slice none 0 0, .slice none 0 0, .string ⟨#[]⟩] 28)).drewN 1).heap[w.heap.size]? = _ := newBlk w (.cells #[.string ⟨#[]⟩, .slice none 0 0, .slice none 0 0, .string ⟨#[]⟩] 28)
  have HZ := Lib.hid hzb
  clear hzb
  have hne : ke ≠ kr := by rintro rfl; rw [hr] at he; simp at he
  have hne' : kr ≠ ke := Ne.symm hne
  have HB := Lib.hid hbd
  have HR := Lib.hid (keepBlkB hr hbd)
  have HE := Lib.hid (keepBlkB he hbd)
  clear h hk hb0 hr he hbd
  refine callsD_of_wpS Tryz.func129 rfl fun c₀ cs hu => ?_
  generalize hv : errV eb k = v at *
  obtain ⟨ad, rfl⟩ : ∃ ad, v = .iface 337 (.pointer (some ad)) := ⟨_, hv.symm⟩
  clear hv
  apply wpS_seq
  apply wpS_region
  simp [wpOpsS, go_sem, recoverD, hu, Tryz.ntmps129, Exit.thenS]
  apply wpS_seq
  apply wpS_region
  simp [wpOpsS, go_sem, hc, Exit.thenS]
  refine wpS_cond (t := true) (by simp [Act.eval, Array.replicate]) ?_
  simp only [if_true]
  refine wpS_of_wp ?_
  refine wp_at (a' := ⟨#[.pointer (some ⟨kd, 0, none⟩), .pointer (some ⟨kr, 0, none⟩), .pointer (some ⟨ke, 0, none⟩), .iface 337 (.pointer (some ad)), undef, .iface 337 (.pointer (some ad)), .bool false, .bool true, undef, undef, undef], []⟩) (by rfl) ?_
  go_wp2_with fail
  have cz := blk_cell (newBlk w (.cells #[.string ⟨#[]⟩, .slice none 0 0, .slice none 0 0, .string ⟨#[]⟩] 28))
  have z0 := cz 0
  have z1 := cz 1
  have z2 := cz 2
  have z3 := cz 3
  clear cz
  go_region_with (first | (go_at_call 121; refine HT.out.mono ?_; rintro e w1 ⟨rfl, hb1⟩; have hr1 := keepBlkB HR.out hb1; have he1 := keepBlkB HE.out hb1; have r0 := blk_cell hr1 0; have r1 := blk_cell hr1 1; have r2 := blk_cell hr1 2; have r3 := blk_cell hr1 3; have rf0 := blk_free hr1 0; have rf1 := blk_free hr1 1; have rf2 := blk_free hr1 2; have rf3 := blk_free hr1 3; have e0 := blk_cell he1 0; have ef0 := blk_free he1 0; have hz1 := keepBlkB HZ.out hb1; have y0 := blk_cell hz1 0; have y1 := blk_cell hz1 1; have y2 := blk_cell hz1 2; have y3 := blk_cell hz1 3))
  all_goals (
    have hfin := HB.out.trans (hb1.mono HB.out.size)
    clear HB HT HR HE HZ
    cases c₀
    show bodyPostS _ _ _ _ _ _ _ _ _
    simp [bodyPostS, results, Tryz.results129]
    exact ⟨_, hfin, rfl⟩)
end Go.Proofs.YtcmjaaigkbjpaaaGreatDoor.Lia

/- Walks: catch's Try over a tree; xml's Parse. -/
namespace Go.Proofs.YtcmjaaigkbjpaaaGreatDoor.Lia
open Go.RowKit Go.Proofs.YtcmjaaigkbjpaaaGreatDoorW.PrintWords PX

/-- What Try answers: the tree and no error, or the zero tree and the error. -/
def ResOk (eb : Nat → Addr) (w : World) (r : Res Elem) (e : Ending) (w' : World) : Prop :=
  match r with
  | .ok x => ∃ A1 c1 A2 c2, e = .returned (.tuple #[.agg (elV (toE x) A1 c1 A2 c2).toArray, .nilIface]) ∧ Kd.M k28 w' w.heap.size (fun _ => True) (toE x) (elV (toE x) A1 c1 A2 c2) ∧ Below w.heap.size w w'
  | .bad k => e = .returned (.tuple #[.agg #[.string ⟨#[]⟩, .slice none 0 0, .slice none 0 0, .string ⟨#[]⟩], errV eb k.num]) ∧ Below w.heap.size w w'
def zE : Obj := .cells #[.string ⟨#[]⟩, .slice none 0 0, .slice none 0 0, .string ⟨#[]⟩] 28
/-- Try's own three cells, laid. -/
def tryW (w : World) : World := ((w.alloc (.cells #[.string ⟨#[]⟩, .slice none 0 0, .slice none 0 0, .string ⟨#[]⟩] 28)).alloc (.cells #[.nilIface] 37)).alloc (.cells #[.bool false] 4)
theorem tryW_size (w : World) : (tryW w).heap.size = w.heap.size + 1 + 1 + 1 := by simp [tryW]
theorem tryW_below (w : World) : Below w.heap.size w (tryW w) :=
  (((Below.refl _ w).alloc (Nat.le_refl _) _).alloc (by simp) _).alloc (by simp; omega) _
theorem tryW_r (w : World) : (tryW w).heap[w.heap.size]? = some (.cells #[.string ⟨#[]⟩, .slice none 0 0, .slice none 0 0, .string ⟨#[]⟩] 28) :=
  keepBlkB (newBlk w _) (((Below.refl _ _).alloc (Nat.le_refl _) _).alloc (by simp) _)
theorem tryW_e (w : World) : (tryW w).heap[w.heap.size + 1]? = some (.cells #[.nilIface] 37) := by
  have h := keepBlkB (newBlk (w.alloc (.cells #[.string ⟨#[]⟩, .slice none 0 0, .slice none 0 0, .string ⟨#[]⟩] 28)) (.cells #[.nilIface] 37)) ((Below.refl _ _).alloc (Nat.le_refl _) (.cells #[.bool false] 4))
  have hz : (w.alloc (.cells #[.string ⟨#[]⟩, .slice none 0 0, .slice none 0 0, .string ⟨#[]⟩] 28)).heap.size = w.heap.size + 1 := by simp
  rw [hz] at h
  exact h
theorem tryW_d (w : World) : (tryW w).heap[w.heap.size + 1 + 1]? = some (.cells #[.bool false] 4) := by
  have h := newBlk ((w.alloc (.cells #[.string ⟨#[]⟩, .slice none 0 0, .slice none 0 0, .string ⟨#[]⟩] 28)).alloc (.cells #[.nilIface] 37)) (.cells #[.bool false] 4)
  have hz : ((w.alloc (.cells #[.string ⟨#[]⟩, .slice none 0 0, .slice none 0 0, .string ⟨#[]⟩] 28)).alloc (.cells #[.nilIface] 37)).heap.size = w.heap.size + 1 + 1 := by simp
  rw [hz] at h
  exact h
theorem try_any {eb : Nat → Addr} {n0 ks : Nat} {s : Str} {w : World} (h : Env eb n0 w) (hs : s.length < 4294967281) (hc : w.cell? ⟨ks, 0, none⟩ = some (.string ⟨s.toArray⟩)) :
    Calls Tryz.prog 64 #[.func (.func 86) #[] #[.pointer (some ⟨ks, 0, none⟩)]] w (ResOk eb w (parse1 s)) := by
  have htop := h.top
  have hks : ks < w.heap.size := World.block_lt_of_cell? w _ hc
  have hks1 : ks < w.heap.size + 1 := by omega
  have hks2 : ks < w.heap.size + 1 + 1 := by omega
  have hp1 := fun (W : World) (hE : Env eb n0 W) (hcc : W.cell? ⟨ks, 0, none⟩ = some (.string ⟨s.toArray⟩)) => parse1_any hE hs hcc
  have HP1 := Lib.hid hp1
  have H := Lib.hid h
  clear hp1 h
  cases h1 : parse1 s with
  | bad k =>
    have H1 := Lib.hid h1
    clear h1
    go_enter_defers Tryz.func64, Tryz.ntmps64
    go_wp2_with fail
    show Calls Tryz.prog 86 #[.pointer (some ⟨ks, 0, none⟩)] (tryW w) _
    have hEW := H.out.below (tryW_below w)
    refine (post_bad H1.out (HP1.out _ hEW (by rw [(tryW_below w).cell hks]; exact hc))).mono ?_
    rintro e w1 ⟨rfl, hb1⟩
    have kr := keepBlkB (tryW_r w) hb1
    have ke := keepBlkB (tryW_e w) hb1
    have kd := keepBlkB (tryW_d w) hb1
    have hsz := tryW_size w
    have hz1 := hb1.size
    go_wp2
    show Leaves _ _ _ _ _ _ _
    refine leaves_cons (f := 129) (args := #[.pointer (some ⟨w.heap.size + 1 + 1, 0, none⟩), .pointer (some ⟨w.heap.size, 0, none⟩), .pointer (some ⟨w.heap.size + 1, 0, none⟩)]) (by simp) (by simp [go_sem]) ?_
    refine (try1_panic (hEW.below hb1) (Err.num_lt k) (blk_cell kd 0) kr ke).mono ?_
    rintro e u' w2 ⟨rfl, rfl, w3, hb3, rfl⟩
    have kr3 := set4_blk (keepBlkB kr hb3) (.string ⟨#[]⟩) (.slice none 0 0) (.slice none 0 0) (.string ⟨#[]⟩)
    have kr4 := blk_far kr3 (p := ⟨w.heap.size + 1, 0, none⟩) (by simp) (errV eb k.num)
    have ke4 := blk_set (blk_far (blk_far (blk_far (blk_far (keepBlkB ke hb3) (p := ⟨w.heap.size, 0, none⟩) (by simp) (.string ⟨#[]⟩)) (p := ⟨w.heap.size, 1, none⟩) (by simp) (.slice none 0 0)) (p := ⟨w.heap.size, 2, none⟩) (by simp) (.slice none 0 0)) (p := ⟨w.heap.size, 3, none⟩) (by simp) (.string ⟨#[]⟩)) 0 (errV eb k.num)
    simp only [List.setIfInBounds_toArray, List.set_cons_zero] at ke4
    have hbb : Below w.heap.size w (((((w3.setCell ⟨w.heap.size, 0, none⟩ (.string ⟨#[]⟩)).setCell ⟨w.heap.size, 1, none⟩ (.slice none 0 0)).setCell ⟨w.heap.size, 2, none⟩ (.slice none 0 0)).setCell ⟨w.heap.size, 3, none⟩ (.string ⟨#[]⟩)).setCell ⟨w.heap.size + 1, 0, none⟩ (errV eb k.num)) :=
      ((((((tryW_below w).trans (hb1.mono (by omega))).trans (hb3.mono (by omega))).setCell (p := ⟨w.heap.size, 0, none⟩) (Nat.le_refl _) _).setCell (p := ⟨w.heap.size, 1, none⟩) (Nat.le_refl _) _).setCell (p := ⟨w.heap.size, 2, none⟩) (Nat.le_refl _) _).setCell (p := ⟨w.heap.size, 3, none⟩) (Nat.le_refl _) _ |>.setCell (p := ⟨w.heap.size + 1, 0, none⟩) (by simp) _
    generalize (((((w3.setCell ⟨w.heap.size, 0, none⟩ (.string ⟨#[]⟩)).setCell ⟨w.heap.size, 1, none⟩ (.slice none 0 0)).setCell ⟨w.heap.size, 2, none⟩ (.slice none 0 0)).setCell ⟨w.heap.size, 3, none⟩ (.string ⟨#[]⟩)).setCell ⟨w.heap.size + 1, 0, none⟩ (errV eb k.num)) = W at *
    have q0 := blk_cell kr4 0
    have q1 := blk_cell kr4 1
    have q2 := blk_cell kr4 2
    have q3 := blk_cell kr4 3
    have q4 := blk_cell ke4 0
    refine ⟨.tuple #[.agg #[.string ⟨#[]⟩, .slice none 0 0, .slice none 0 0, .string ⟨#[]⟩], errV eb k.num], ?_, rfl, hbb⟩
    simp [results, Tryz.results64, go_sem, q0, q1, q2, q3, q4]
  | ok x =>
    have H1 := Lib.hid h1
    clear h1
    go_enter_defers Tryz.func64, Tryz.ntmps64
    go_wp2_with fail
    show Calls Tryz.prog 86 #[.pointer (some ⟨ks, 0, none⟩)] (tryW w) _
    have hEW := H.out.below (tryW_below w)
    refine (post_ok H1.out (HP1.out _ hEW (by rw [(tryW_below w).cell hks]; exact hc))).mono ?_
    rintro e w1 ⟨A1, c1, A2, c2, rfl, hM, hb1⟩
    have kr := keepBlkB (tryW_r w) hb1
    have ke := keepBlkB (tryW_e w) hb1
    have kd := keepBlkB (tryW_d w) hb1
    have hsz := tryW_size w
    have hz1 := hb1.size
    have r0 := blk_cell kr 0
    have r1 := blk_cell kr 1
    have r2 := blk_cell kr 2
    have r3 := blk_cell kr 3
    have rf0 := blk_free kr 0
    have rf1 := blk_free kr 1
    have rf2 := blk_free kr 2
    have rf3 := blk_free kr 3
    have e0 := blk_cell ke 0
    have ef0 := blk_free ke 0
    have d0 := blk_cell kd 0
    have df0 := blk_free kd 0
    have KR := Lib.hid kr
    have KE := Lib.hid ke
    have KD := Lib.hid kd
    have HSZ := Lib.hid hsz
    clear kr ke kd hsz hz1
    unfold elV at *
    go_wp2_with fail
    have hsz := HSZ.out
    have hz1 := hb1.size
    have kr4 := blk_far (set4_blk (blk_far (set4_blk KR.out (.string (toE x).f0) (.slice A1 (toE x).f1.length c1) (.slice A2 (toE x).f2.length c2) (.string (toE x).f3)) (p := ⟨w.heap.size + 1 + 1, 0, none⟩) (by dsimp only; omega) (.bool true)) (.string (toE x).f0) (.slice A1 (toE x).f1.length c1) (.slice A2 (toE x).f2.length c2) (.string (toE x).f3)) (p := ⟨w.heap.size + 1, 0, none⟩) (by dsimp only; omega) .nilIface
    have ke4 := blk_set (blk_far (blk_far (blk_far (blk_far (blk_far (blk_far (blk_far (blk_far (blk_far (KE.out) (p := ⟨w.heap.size, 0, none⟩) (by dsimp only; omega) (.string (toE x).f0)) (p := ⟨w.heap.size, 1, none⟩) (by dsimp only; omega) (.slice A1 (toE x).f1.length c1)) (p := ⟨w.heap.size, 2, none⟩) (by dsimp only; omega) (.slice A2 (toE x).f2.length c2)) (p := ⟨w.heap.size, 3, none⟩) (by dsimp only; omega) (.string (toE x).f3)) (p := ⟨w.heap.size + 1 + 1, 0, none⟩) (by dsimp only; omega) (.bool true)) (p := ⟨w.heap.size, 0, none⟩) (by dsimp only; omega) (.string (toE x).f0)) (p := ⟨w.heap.size, 1, none⟩) (by dsimp only; omega) (.slice A1 (toE x).f1.length c1)) (p := ⟨w.heap.size, 2, none⟩) (by dsimp only; omega) (.slice A2 (toE x).f2.length c2)) (p := ⟨w.heap.size, 3, none⟩) (by dsimp only; omega) (.string (toE x).f3)) 0 .nilIface
    have kd4 := blk_far (blk_far (blk_far (blk_far (blk_far (blk_set (blk_far (blk_far (blk_far (blk_far (KD.out) (p := ⟨w.heap.size, 0, none⟩) (by dsimp only; omega) (.string (toE x).f0)) (p := ⟨w.heap.size, 1, none⟩) (by dsimp only; omega) (.slice A1 (toE x).f1.length c1)) (p := ⟨w.heap.size, 2, none⟩) (by dsimp only; omega) (.slice A2 (toE x).f2.length c2)) (p := ⟨w.heap.size, 3, none⟩) (by dsimp only; omega) (.string (toE x).f3)) 0 (.bool true)) (p := ⟨w.heap.size, 0, none⟩) (by dsimp only; omega) (.string (toE x).f0)) (p := ⟨w.heap.size, 1, none⟩) (by dsimp only; omega) (.slice A1 (toE x).f1.length c1)) (p := ⟨w.heap.size, 2, none⟩) (by dsimp only; omega) (.slice A2 (toE x).f2.length c2)) (p := ⟨w.heap.size, 3, none⟩) (by dsimp only; omega) (.string (toE x).f3)) (p := ⟨w.heap.size + 1, 0, none⟩) (by dsimp only; omega) .nilIface
    simp only [List.setIfInBounds_toArray, List.set_cons_zero] at ke4 kd4
    have hM0 := k28.M_bound hM
    have hM4 := Kd.M_far (set4_M (Kd.M_far (set4_M hM0 (k := w.heap.size) (by rintro j ⟨_, hj, _⟩ rfl; omega) (.string (toE x).f0) (.slice A1 (toE x).f1.length c1) (.slice A2 (toE x).f2.length c2) (.string (toE x).f3)) (p := ⟨w.heap.size + 1 + 1, 0, none⟩) (by rintro j ⟨_, hj, _⟩ e; simp only at e; omega) (.bool true)) (k := w.heap.size) (by rintro j ⟨_, hj, _⟩ rfl; omega) (.string (toE x).f0) (.slice A1 (toE x).f1.length c1) (.slice A2 (toE x).f2.length c2) (.string (toE x).f3)) (p := ⟨w.heap.size + 1, 0, none⟩) (by rintro j ⟨_, hj, _⟩ e; simp only at e; omega) .nilIface
    have hbb := (((((((((((tryW_below w).trans (hb1.mono (by omega))).setCell (p := ⟨w.heap.size, 0, none⟩) (Nat.le_refl _) (.string (toE x).f0)).setCell (p := ⟨w.heap.size, 1, none⟩) (Nat.le_refl _) (.slice A1 (toE x).f1.length c1)).setCell (p := ⟨w.heap.size, 2, none⟩) (Nat.le_refl _) (.slice A2 (toE x).f2.length c2)).setCell (p := ⟨w.heap.size, 3, none⟩) (Nat.le_refl _) (.string (toE x).f3)).setCell (p := ⟨w.heap.size + 1 + 1, 0, none⟩) (by show _ ≤ w.heap.size + 1 + 1; omega) (.bool true)).setCell (p := ⟨w.heap.size, 0, none⟩) (Nat.le_refl _) (.string (toE x).f0)).setCell (p := ⟨w.heap.size, 1, none⟩) (Nat.le_refl _) (.slice A1 (toE x).f1.length c1)).setCell (p := ⟨w.heap.size, 2, none⟩) (Nat.le_refl _) (.slice A2 (toE x).f2.length c2)).setCell (p := ⟨w.heap.size, 3, none⟩) (Nat.le_refl _) (.string (toE x).f3)).setCell (p := ⟨w.heap.size + 1, 0, none⟩) (by show _ ≤ w.heap.size + 1; omega) .nilIface
    generalize ((((((((((w1).setCell ⟨w.heap.size, 0, none⟩ (.string (toE x).f0)).setCell ⟨w.heap.size, 1, none⟩ (.slice A1 (toE x).f1.length c1)).setCell ⟨w.heap.size, 2, none⟩ (.slice A2 (toE x).f2.length c2)).setCell ⟨w.heap.size, 3, none⟩ (.string (toE x).f3)).setCell ⟨w.heap.size + 1 + 1, 0, none⟩ (.bool true)).setCell ⟨w.heap.size, 0, none⟩ (.string (toE x).f0)).setCell ⟨w.heap.size, 1, none⟩ (.slice A1 (toE x).f1.length c1)).setCell ⟨w.heap.size, 2, none⟩ (.slice A2 (toE x).f2.length c2)).setCell ⟨w.heap.size, 3, none⟩ (.string (toE x).f3)).setCell ⟨w.heap.size + 1, 0, none⟩ .nilIface = W at *
    have q0 := blk_cell kr4 0
    have q1 := blk_cell kr4 1
    have q2 := blk_cell kr4 2
    have q3 := blk_cell kr4 3
    have q4 := blk_cell ke4 0
    show Leaves _ _ _ _ _ _ _
    refine leaves_cons (f := 129) (args := #[.pointer (some ⟨w.heap.size + 1 + 1, 0, none⟩), .pointer (some ⟨w.heap.size, 0, none⟩), .pointer (some ⟨w.heap.size + 1, 0, none⟩)]) (by simp) (by simp [go_sem]) ?_
    refine (try1_idle _ _ _ _ (blk_cell kd4 0)).mono ?_
    rintro e u' w2 ⟨rfl, rfl, rfl⟩
    refine ⟨.tuple #[.agg (elV (toE x) A1 c1 A2 c2).toArray, .nilIface], ?_, A1, c1, A2, c2, rfl, k28.M_mono (fun _ _ => trivial) (k28.M_lower (by omega) hM4), hbb⟩
    simp [results, Tryz.results64, go_sem, q0, q1, q2, q3, q4, elV]
end Go.Proofs.YtcmjaaigkbjpaaaGreatDoor.Lia

/- Walks: xml's Parse itself. -/
namespace Go.Proofs.YtcmjaaigkbjpaaaGreatDoor.Lia
open Go.RowKit Go.Proofs.YtcmjaaigkbjpaaaGreatDoorW.PrintWords PX

theorem parse_any {eb : Nat → Addr} {n0 : Nat} {s : Str} {w : World} (h : Env eb n0 w) :
    Calls Tryz.prog 32 #[.string ⟨s.toArray⟩] w (ResOk eb w (parse s)) := by
  by_cases hl : 20000 < s.length
  · have hr : parse s = .bad .long := by unfold parse; rw [if_pos hl]
    rw [hr]
    have hd : decide ((20000 : Int) < s.length) = true := by simp; omega
    have e2 := h.err 2 (by omega)
    have htop := h.top
    have h2 : 2 < w.heap.size := by have := h.lt; omega
    clear h hr
    unfold errV at e2
    go_enter Tryz.func32, Tryz.ntmps32
    go_wp2_with fail
    go_region_with fail
    all_goals (go_wp2_with fail)
    all_goals (
      have hsz : (w.alloc (.cells #[.string ⟨s.toArray⟩] 9)).heap.size = w.heap.size + 1 := by simp
      have hz := newBlk (w.alloc (.cells #[.string ⟨s.toArray⟩] 9)) (.cells #[.string ⟨#[]⟩, .slice none 0 0, .slice none 0 0, .string ⟨#[]⟩] 28)
      rw [hsz] at hz
      have hb := ((Below.refl _ w).alloc (Nat.le_refl _) (.cells #[.string ⟨s.toArray⟩] 9)).alloc (by rw [hsz]; omega) (.cells #[.string ⟨#[]⟩, .slice none 0 0, .slice none 0 0, .string ⟨#[]⟩] 28)
      have hbd : Below w.heap.size w ((w.alloc (.cells #[.string ⟨s.toArray⟩] 9)).alloc (.cells #[.string ⟨#[]⟩, .slice none 0 0, .slice none 0 0, .string ⟨#[]⟩] 28)).drew := ⟨hb.os, hb.tape, hb.output, hb.size, hb.block⟩
      have hzd : ((w.alloc (.cells #[.string ⟨s.toArray⟩] 9)).alloc (.cells #[.string ⟨#[]⟩, .slice none 0 0, .slice none 0 0, .string ⟨#[]⟩] 28)).drew.heap[w.heap.size + 1]? = _ := hz
      generalize ((w.alloc (.cells #[.string ⟨s.toArray⟩] 9)).alloc (.cells #[.string ⟨#[]⟩, .slice none 0 0, .slice none 0 0, .string ⟨#[]⟩] 28)).drew = W at *
      have q0 := blk_cell hzd 0
      have q1 := blk_cell hzd 1
      have q2 := blk_cell hzd 2
      have q3 := blk_cell hzd 3
      refine bodyPost_ret (v := .tuple #[.agg #[.string ⟨#[]⟩, .slice none 0 0, .slice none 0 0, .string ⟨#[]⟩], errV eb 2]) ?_ rfl ⟨rfl, hbd⟩
      simp [results, Tryz.results32, go_sem, Act.put, errV, q0, q1, q2, q3])
  · have hr : parse s = parse1 s := by unfold parse; rw [if_neg hl]; rfl
    rw [hr]
    have hd : decide ((20000 : Int) < s.length) = false := by simp; omega
    have hsz : (w.alloc (.cells #[.string ⟨s.toArray⟩] 9)).heap.size = w.heap.size + 1 := by simp
    have hk0 := keepBlkB (newBlk w (.cells #[.string ⟨s.toArray⟩] 9)) ((Below.refl _ (w.alloc (.cells #[.string ⟨s.toArray⟩] 9))).alloc (Nat.le_refl _) (.cells #[.string ⟨#[]⟩, .slice none 0 0, .slice none 0 0, .string ⟨#[]⟩] 28))
    have hz := newBlk (w.alloc (.cells #[.string ⟨s.toArray⟩] 9)) (.cells #[.string ⟨#[]⟩, .slice none 0 0, .slice none 0 0, .string ⟨#[]⟩] 28)
    rw [hsz] at hz
    have HT := Lib.hid (try_any ((h.alloc (.cells #[.string ⟨s.toArray⟩] 9)).alloc (.cells #[.string ⟨#[]⟩, .slice none 0 0, .slice none 0 0, .string ⟨#[]⟩] 28)) (by omega) (blk_cell hk0 0))
    have HZ := Lib.hid hz
    have hb := ((Below.refl _ w).alloc (Nat.le_refl _) (.cells #[.string ⟨s.toArray⟩] 9)).alloc (by rw [hsz]; omega) (.cells #[.string ⟨#[]⟩, .slice none 0 0, .slice none 0 0, .string ⟨#[]⟩] 28)
    have HB := Lib.hid hb
    have hsz2 : ((w.alloc (.cells #[.string ⟨s.toArray⟩] 9)).alloc (.cells #[.string ⟨#[]⟩, .slice none 0 0, .slice none 0 0, .string ⟨#[]⟩] 28)).heap.size = w.heap.size + 2 := by simp
    have HSZ := Lib.hid hsz2
    clear hsz2 hb hz hk0 hsz h hr
    go_enter Tryz.func32, Tryz.ntmps32
    go_wp2_with fail
    refine HT.out.mono ?_
    intro e w1 hres
    cases h1 : parse1 s with
    | bad k =>
      rw [h1] at hres
      obtain ⟨rfl, hb1⟩ := hres
      have H1 := Lib.hid h1
      clear h1
      have hk := keepBlkB HZ.out hb1
      have r0 := blk_cell hk 0
      have r1 := blk_cell hk 1
      have r2 := blk_cell hk 2
      have r3 := blk_cell hk 3
      have rf0 := blk_free hk 0
      have rf1 := blk_free hk 1
      have rf2 := blk_free hk 2
      have rf3 := blk_free hk 3
      have HK := Lib.hid hk
      clear hk
      go_wp2_with fail
      have hs := set4_blk HK.out (.string ⟨#[]⟩) (.slice none 0 0) (.slice none 0 0) (.string ⟨#[]⟩)
      have hbb := ((((HB.out.trans (hb1.mono HB.out.size)).setCell (p := ⟨w.heap.size + 1, 0, none⟩) (by show _ ≤ w.heap.size + 1; omega) (.string ⟨#[]⟩)).setCell (p := ⟨w.heap.size + 1, 1, none⟩) (by show _ ≤ w.heap.size + 1; omega) (.slice none 0 0)).setCell (p := ⟨w.heap.size + 1, 2, none⟩) (by show _ ≤ w.heap.size + 1; omega) (.slice none 0 0)).setCell (p := ⟨w.heap.size + 1, 3, none⟩) (by show _ ≤ w.heap.size + 1; omega) (.string ⟨#[]⟩)
      generalize ((((w1.setCell ⟨w.heap.size + 1, 0, none⟩ (.string ⟨#[]⟩)).setCell ⟨w.heap.size + 1, 1, none⟩ (.slice none 0 0)).setCell ⟨w.heap.size + 1, 2, none⟩ (.slice none 0 0)).setCell ⟨w.heap.size + 1, 3, none⟩ (.string ⟨#[]⟩)) = W at *
      have q0 := blk_cell hs 0
      have q1 := blk_cell hs 1
      have q2 := blk_cell hs 2
      have q3 := blk_cell hs 3
      rw [H1.out]
      refine bodyPost_ret (v := .tuple #[.agg #[.string ⟨#[]⟩, .slice none 0 0, .slice none 0 0, .string ⟨#[]⟩], errV eb k.num]) ?_ rfl ⟨rfl, hbb⟩
      simp [results, Tryz.results32, go_sem, q0, q1, q2, q3, elV]
    | ok x =>
      rw [h1] at hres
      obtain ⟨A1, c1, A2, c2, rfl, hM, hb1⟩ := hres
      have H1 := Lib.hid h1
      clear h1
      unfold elV at *
      have hk := keepBlkB HZ.out hb1
      have r0 := blk_cell hk 0
      have r1 := blk_cell hk 1
      have r2 := blk_cell hk 2
      have r3 := blk_cell hk 3
      have rf0 := blk_free hk 0
      have rf1 := blk_free hk 1
      have rf2 := blk_free hk 2
      have rf3 := blk_free hk 3
      have HK := Lib.hid hk
      clear hk
      go_wp2_with fail
      have hs := set4_blk HK.out (.string (toE x).f0) (.slice A1 (toE x).f1.length c1) (.slice A2 (toE x).f2.length c2) (.string (toE x).f3)
      have hbb := ((((HB.out.trans (hb1.mono HB.out.size)).setCell (p := ⟨w.heap.size + 1, 0, none⟩) (by show _ ≤ w.heap.size + 1; omega) (.string (toE x).f0)).setCell (p := ⟨w.heap.size + 1, 1, none⟩) (by show _ ≤ w.heap.size + 1; omega) (.slice A1 (toE x).f1.length c1)).setCell (p := ⟨w.heap.size + 1, 2, none⟩) (by show _ ≤ w.heap.size + 1; omega) (.slice A2 (toE x).f2.length c2)).setCell (p := ⟨w.heap.size + 1, 3, none⟩) (by show _ ≤ w.heap.size + 1; omega) (.string (toE x).f3)
      have hM0 := k28.M_bound hM
      have hM4 := set4_M hM0 (k := w.heap.size + 1) (by rintro j ⟨_, hj, _⟩ rfl; rw [HSZ.out] at hj; omega) (.string (toE x).f0) (.slice A1 (toE x).f1.length c1) (.slice A2 (toE x).f2.length c2) (.string (toE x).f3)
      generalize ((((w1.setCell ⟨w.heap.size + 1, 0, none⟩ (.string (toE x).f0)).setCell ⟨w.heap.size + 1, 1, none⟩ (.slice A1 (toE x).f1.length c1)).setCell ⟨w.heap.size + 1, 2, none⟩ (.slice A2 (toE x).f2.length c2)).setCell ⟨w.heap.size + 1, 3, none⟩ (.string (toE x).f3)) = W at *
      have q0 := blk_cell hs 0
      have q1 := blk_cell hs 1
      have q2 := blk_cell hs 2
      have q3 := blk_cell hs 3
      rw [H1.out]
      refine bodyPost_ret (v := .tuple #[.agg (elV (toE x) A1 c1 A2 c2).toArray, .nilIface]) ?_ rfl ⟨A1, c1, A2, c2, rfl, k28.M_mono (fun _ _ => trivial) (k28.M_lower HB.out.size hM4), hbb⟩
      simp [results, Tryz.results32, go_sem, q0, q1, q2, q3, elV]
end Go.Proofs.YtcmjaaigkbjpaaaGreatDoor.Lia
