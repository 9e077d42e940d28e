/- Own texts, merged for the hand-in. -/
import Derived.Test.YtcmjaaigkbjpaaaGreatDoorMergeC

/- Walks: xml's attr. -/
namespace Go.Proofs.YtcmjaaigkbjpaaaGreatDoor.Lia
open Go.RowKit
attribute [local go_sem] ext_take ext_drop

theorem keepBlk {w1 w2 : World} {b k : Nat} {o : Obj} (h : w1.heap[k]? = some o) (hg : w1.grownBy w2 (some b)) (hne : k ≠ b) : w2.heap[k]? = some o :=
  (hg.block k (Array.getElem?_eq_some_iff.1 h).1 (fun e => by cases e; exact hne rfl)).trans h
theorem keepBlkB {w1 w2 : World} {k : Nat} {o : Obj} (h : w1.heap[k]? = some o) (hb : Below w1.heap.size w1 w2) : w2.heap[k]? = some o :=
  (hb.block k (Array.getElem?_eq_some_iff.1 h).1).trans h
theorem newBlk (w : World) (o : Obj) : (w.alloc o).heap[w.heap.size]? = some o := by
  show (w.heap.push o)[w.heap.size]? = _
  simp
theorem blk_cell {w : World} {k : Nat} {cs : Array Value} {t : TypeId} {fz : Nat × Nat} (h : w.heap[k]? = some (.cells cs t fz)) (i : Nat) : w.cell? ⟨k, i, none⟩ = cs[i]? := by simp [World.cell?, h]
theorem blk_free {w : World} {k : Nat} {cs : Array Value} {t : TypeId} (h : w.heap[k]? = some (.cells cs t (0, 0))) (i : Nat) : w.frozen? ⟨k, i, none⟩ = false := by simp [World.frozen?, h]

theorem blank_len (s : Str) : (blank s).2.length ≤ s.length := by
  have := congrArg List.length (List.takeWhile_append_dropWhile (p := isBlank) (l := s))
  simp only [List.length_append] at this
  show (s.dropWhile isBlank).length ≤ _
  omega
theorem rname_len {s x r : Str} (h : rname s = .ok (x, r)) : r.length ≤ s.length := by
  unfold rname at h
  split at h
  · simp only [Res.ok.injEq, Prod.mk.injEq] at h
    rw [← h.2]
    have := congrArg List.length (List.takeWhile_append_dropWhile (p := fun c => isSign c || c == 58) (l := s))
    simp only [List.length_append] at this
    omega
  · cases h
theorem upTo_len {cs s x r : Str} (h : upTo cs s = .ok (x, r)) : r.length + x.length = s.length := by
  rcases idx_any cs s with ⟨_, h2⟩ | ⟨k, _, hk, h2⟩
  · rw [h2] at h; cases h
  · rw [h2] at h
    simp only [Res.ok.injEq, Prod.mk.injEq] at h
    rw [← h.1, ← h.2, List.length_drop, List.length_take]
    omega
theorem cut_len {p s r : Str} (h : cut p s = .ok r) : r.length ≤ s.length := by
  unfold cut at h
  split at h
  · simp only [Res.ok.injEq] at h; rw [← h, List.length_drop]; omega
  · cases h
section
variable {eb : Nat → Addr} {n0 b : Nat} {s : Str} {d : Int} {w : World}
/-- A step of the reader: what it answers, what it leaves. -/
def Step (eb : Nat → Addr) (n0 b : Nat) (d : Int) (w : World) (v : Value) (r : Str) (e : Ending) (w' : World) : Prop := e = .returned v ∧ w.grownBy w' (some b) ∧ RS eb n0 b r d w'
theorem blank_st (h : RS eb n0 b s d w) : Calls Tryz.prog 152 #[.pointer (some ⟨b, 0, none⟩)] w (Step eb n0 b d w (.int .i64 ((blank s).1 : Nat)) (blank s).2) := by
  have hl := h.len
  refine (blank_any h.rb (by omega)).mono fun e w' ⟨he, w1, hb1, hw⟩ => ⟨he, ?_, ?_⟩
  · rw [hw]; exact g_set (g_below (grown_refl _ _) hb1) _
  · rw [hw]; exact (h.below hb1).set0 _ (blank_len s)
theorem cut_st (h : RS eb n0 b s d w) (p : Str) : Calls Tryz.prog 146 #[.pointer (some ⟨b, 0, none⟩), .string ⟨p.toArray⟩] w (Post eb (cut p s) (fun r => Step eb n0 b d w (.tuple #[]) r) (BadR eb n0 b w)) := by
  cases hp : p.isPrefixOf s with
  | true =>
    refine (cut_ok h.rb p hp).mono ?_
    rintro e w' ⟨rfl, rfl⟩
    exact post_mk_ok (x := s.drop p.length) (by unfold cut; rw [hp]; rfl) ⟨rfl, g_set (grown_refl _ _) _, h.set0 _ (by rw [List.length_drop]; omega)⟩
  | false =>
    refine (cut_bad h.env h.rb p hp).mono ?_
    rintro e w' ⟨rfl, rfl⟩
    exact post_mk_bad (by unfold cut; rw [hp]; rfl) _ ⟨grown_refl _ _, _, _, h⟩
theorem calls_post {α : Type} {r : Res α} {ok ok' : α → Ending → World → Prop} {bad : World → Prop} {f : Nat} {args : Array Value} (h : Calls Tryz.prog f args w (Post eb r ok bad)) (hk : ∀ x e w', r = .ok x → ok x e w' → ok' x e w') : Calls Tryz.prog f args w (Post eb r ok' bad) :=
  h.mono fun e w' hp => by
    cases r with
    | ok x => exact hk x e w' rfl hp
    | bad k => exact hp
theorem name_st (h : RS eb n0 b s d w) : Calls Tryz.prog 147 #[.pointer (some ⟨b, 0, none⟩)] w (Post eb (rname s) (fun x => Step eb n0 b d w (.string ⟨x.1.toArray⟩) x.2) (BadR eb n0 b w)) :=
  calls_post (rname_any h.env h.own h.rb h.len) fun x e w' hx ⟨he, hg, hR⟩ => ⟨he, hg, h.env.grown hg h.own, hR, h.own, by have := rname_len hx; have := h.len; omega⟩
theorem upTo_st (h : RS eb n0 b s d w) (cs : Str) (h1 : 1 ≤ cs.length) (h2 : cs.length ≤ 2) (ha : ∀ (j : Nat) b, cs[j]? = some b → b.toNat < 128) :
    Calls Tryz.prog 212 #[.pointer (some ⟨b, 0, none⟩), .string ⟨cs.toArray⟩] w (Post eb (upTo cs s) (fun x => Step eb n0 b d w (.string ⟨x.1.toArray⟩) x.2) (BadR eb n0 b w)) :=
  calls_post (upTo_any h.env h.own h.rb h.len cs h1 h2 ha) fun x e w' hx ⟨he, hg, hR⟩ => ⟨he, hg, h.env.grown hg h.own, hR, h.own, by have := upTo_len hx; have := h.len; omega⟩

def attrC (nm : Str) (m : UInt8) (s : Str) : Res ((Str × Str) × Str) :=
  (upTo [m, 60] s).bind fun (v, s) => (cut [m] s).bind fun s => (text v).bind fun v => .ok ((nm, v), s)
def attrB (nm : Str) (s : Str) : Res ((Str × Str) × Str) :=
  match (blank s).2 with
  | [] => .bad .form
  | m :: s => if m = 34 ∨ m = 39 then attrC nm m s else .bad .form
def attrV (x : Str × Str) : Value := .agg #[.string ⟨x.1.toArray⟩, .string ⟨x.2.toArray⟩]
theorem attr_st (h : RS eb n0 b s d w) :
    Calls Tryz.prog 208 #[.pointer (some ⟨b, 0, none⟩)] w (Post eb (attr s) (fun x => Step eb n0 b d w (attrV x.1) x.2) (BadR eb n0 b w)) := by
  have hlt := h.rb.lt
  have hown := h.own
  have htop := h.env.top
  have hn := name_st (h.alloc (.cells #[.string ⟨#[]⟩, .string ⟨#[]⟩] 69))
  have HN := Lib.hid hn
  clear hn
  have hk0 := newBlk w (.cells #[.string ⟨#[]⟩, .string ⟨#[]⟩] 69)
  have hg0 := g_alloc (grown_refl w (some b)) (.cells #[.string ⟨#[]⟩, .string ⟨#[]⟩] 69)
  cases h1 : rname s with
  | bad k =>
    have hr : attr s = .bad k := by unfold attr; rw [h1]; rfl
    have HR := Lib.hid hr
    have H1 := Lib.hid h1
    clear hr h1
    go_enter Tryz.func208, Tryz.ntmps208
    go_wp2_with (go_at_call 147; refine (post_bad H1.out HN.out).mono ?_; rintro e w1 ⟨rfl, hbad⟩)
    exact ⟨rfl, post_mk_bad HR.out _ (hbad.of hg0)⟩
  | ok x =>
    obtain ⟨nm, s1⟩ := x
    have hr : attr s = (cut [61] (blank s1).2).bind (attrB nm) := by unfold attr; rw [h1]; rfl
    have HR := Lib.hid hr
    have H1 := Lib.hid h1
    clear hr h1
    go_enter Tryz.func208, Tryz.ntmps208
    go_wp2_with (go_at_call 147; refine (post_ok H1.out HN.out).mono ?_; rintro e w1 ⟨rfl, hg1, hR1⟩)
    refine (blank_st hR1).mono ?_
    rintro e w2 ⟨rfl, hg2, hR2⟩
    have hk2 := keepBlk (keepBlk hk0 hg1 (by omega)) hg2 (by omega)
    have hg12 := (hg0.trans hg1).trans hg2
    clear hg0 hg1 hg2 hk0 hR1
    cases h3 : cut [61] (blank s1).2 with
    | bad k =>
      have hr : attr s = .bad k := by rw [HR.out, h3]; rfl
      have HR2 := Lib.hid hr
      have H3 := Lib.hid h3
      clear hr h3
      go_wp2_with (go_at_call 146; refine (post_bad H3.out (cut_st hR2 [61])).mono ?_; rintro e w3 ⟨rfl, hbad⟩)
      exact ⟨rfl, post_mk_bad HR2.out _ (hbad.of hg12)⟩
    | ok s3 =>
      have hr : attr s = attrB nm s3 := by rw [HR.out, h3]; rfl
      have HR3 := Lib.hid hr
      have H3 := Lib.hid h3
      clear hr h3 HR
      go_wp2_with (go_at_call 146; refine (post_ok H3.out (cut_st hR2 [61])).mono ?_; rintro e w3 ⟨rfl, hg3, hR3⟩)
      refine (blank_st hR3).mono ?_
      rintro e w4 ⟨rfl, hg4, hR4⟩
      have hk4 := keepBlk (keepBlk hk2 hg3 (by omega)) hg4 (by omega)
      have hg14 := (hg12.trans hg3).trans hg4
      clear hg3 hg4 hg12 hk2 hR3 hR2
      have c4 := hR4.rb.c0
      have f4 := hR4.rb.f 0
      rcases h5 : (blank s3).2 with _ | ⟨m, s5⟩
      · have hr : attr s = .bad .form := by rw [HR3.out]; unfold attrB; rw [h5]
        have HR5 := Lib.hid hr
        rw [h5] at c4
        clear hr h5
        go_wp2_with (go_at_call 88; refine (fail_bad hR4.env).mono ?_; rintro e w5 ⟨rfl, rfl⟩)
        exact ⟨rfl, post_mk_bad HR5.out _ ⟨hg14, _, _, hR4⟩⟩
      · rw [h5] at c4 hR4
        have hz : 0 < (⟨(m :: s5).toArray⟩ : ByteArray).size := by rw [size_mk]; simp
        by_cases hm : m = 34 ∨ m = 39
        · have hr : attr s = attrC nm m s5 := by rw [HR3.out]; unfold attrB; rw [h5]; simp only [hm, if_true]
          have HR5 := Lib.hid hr
          have hl5 := hR4.len
          have ha2 : ∀ (j : Nat) b, ([m, 60] : Str)[j]? = some b → b.toNat < 128 := by
            intro j x hj
            match j, hj with
            | 0, hj => cases hj; rcases hm with rfl | rfl <;> decide
            | 1, hj => cases hj; decide
            | k + 2, hj => cases hj
          have HA2 := Lib.hid ha2
          clear hr h5 ha2
          have q : (((((⟨(m :: s5).toArray⟩ : ByteArray)[0]'hz).toNat : Int) == 34) = true) ∨ ((((((⟨(m :: s5).toArray⟩ : ByteArray)[0]'hz).toNat : Int) == 34) = false) ∧ (((((⟨(m :: s5).toArray⟩ : ByteArray)[0]'hz).toNat : Int) == 39) = true)) := by
            rcases hm with rfl | rfl
            · left; rfl
            · right; exact ⟨rfl, rfl⟩
          clear hm
          have key : Calls Tryz.prog 146 #[.pointer (some ⟨b, 0, none⟩), .string ⟨[m].toArray⟩] w4 (Step eb n0 b d w4 (.tuple #[]) s5) :=
            post_ok (x := s5) (by unfold cut; simp) (cut_st hR4 [m])
          have KEY := Lib.hid key
          clear key
          rcases q with q | ⟨q, q'⟩
          · go_wp2_with (first | (go_at_call 88; refine (fail_ok _).mono ?_; rintro e w5 ⟨rfl, rfl⟩) | (go_at_call 146; refine KEY.out.mono ?_; rintro e w6 ⟨rfl, hg6, hR6⟩))
            have hk6 := keepBlk hk4 hg6 (by omega)
            have hg16 := hg14.trans hg6
            clear hg6 hg14 hk4 hR4 c4 f4
            cases h7 : upTo [m, 60] s5 with
            | bad k =>
              have hr : attr s = .bad k := by rw [HR5.out]; unfold attrC; rw [h7]; rfl
              have HR7 := Lib.hid hr
              have H7 := Lib.hid h7
              clear hr h7
              refine (post_bad H7.out (upTo_st hR6 [m, 60] (by simp) (by simp) HA2.out)).mono ?_
              rintro e w7 ⟨rfl, hbad⟩
              go_wp2
              exact ⟨rfl, post_mk_bad HR7.out _ (hbad.of hg16)⟩
            | ok x =>
              obtain ⟨v, s7⟩ := x
              have hvl := upTo_len h7
              have hl6 := hR6.len
              have hr : attr s = (cut [m] s7).bind fun s => (text v).bind fun v => .ok ((nm, v), s) := by rw [HR5.out]; unfold attrC; rw [h7]; rfl
              have HR7 := Lib.hid hr
              have H7 := Lib.hid h7
              clear hr h7
              refine (post_ok H7.out (upTo_st hR6 [m, 60] (by simp) (by simp) HA2.out)).mono ?_
              rintro e w7 ⟨rfl, hg7, hR7⟩
              have hk7 := keepBlk hk6 hg7 (by omega)
              have hg17 := hg16.trans hg7
              clear hg7 hg16 hk6 hR6
              cases h8 : cut [m] s7 with
              | bad k =>
                have hr : attr s = .bad k := by rw [HR7.out, h8]; rfl
                have HR8 := Lib.hid hr
                have H8 := Lib.hid h8
                clear hr h8
                go_wp2_with (go_at_call 146; refine (post_bad H8.out (cut_st hR7 [m])).mono ?_; rintro e w8 ⟨rfl, hbad⟩)
                exact ⟨rfl, post_mk_bad HR8.out _ (hbad.of hg17)⟩
              | ok s8 =>
                have hr : attr s = (text v).bind fun v => .ok ((nm, v), s8) := by rw [HR7.out, h8]; rfl
                have HR8 := Lib.hid hr
                have H8 := Lib.hid h8
                clear hr h8
                go_wp2_with (go_at_call 146; refine (post_ok H8.out (cut_st hR7 [m])).mono ?_; rintro e w8 ⟨rfl, hg8, hR8⟩)
                have hk8 := keepBlk hk7 hg8 (by omega)
                have hg18 := hg17.trans hg8
                clear hg8 hg17 hk7 hR7
                have htx := text_any hR8.env v (by omega)
                have HTX := Lib.hid htx
                clear htx
                cases h9 : text v with
                | bad k =>
                  have hr : attr s = .bad k := by rw [HR8.out, h9]; rfl
                  have HR9 := Lib.hid hr
                  have H9 := Lib.hid h9
                  clear hr h9
                  refine (post_bad H9.out HTX.out).mono ?_
                  rintro e w9 ⟨rfl, hbad⟩
                  go_wp2
                  exact ⟨rfl, post_mk_bad HR9.out _ ⟨g_below hg18 hbad, _, _, hR8.below hbad⟩⟩
                | ok u =>
                  have hr : attr s = .ok ((nm, u), s8) := by rw [HR8.out, h9]; rfl
                  have HR9 := Lib.hid hr
                  have H9 := Lib.hid h9
                  clear hr h9
                  refine (post_ok H9.out HTX.out).mono ?_
                  rintro e w9 ⟨rfl, hb9⟩
                  have hk9 := keepBlkB hk8 hb9
                  have hg19 := g_below hg18 hb9
                  have hR9 := hR8.below hb9
                  clear hb9 hg18 hk8 hR8
                  have c0 := blk_cell hk9 0
                  have c1 := blk_cell hk9 1
                  have f0 := blk_free hk9 0
                  have f1 := blk_free hk9 1
                  go_wp2
                  refine bodyPost_ret (v := attrV (nm, u)) ?_ rfl (post_mk_ok HR9.out ⟨rfl, g_setNew (g_setNew hg19 (Nat.le_refl _) _) (Nat.le_refl _) _, (hR9.far (by simp; omega) (by simp; omega) _).far (by simp; omega) (by simp; omega) _⟩)
                  simp [results, Tryz.results208, go_sem, c0, c1, attrV]
          · go_wp2_with (first | (go_at_call 88; refine (fail_ok _).mono ?_; rintro e w5 ⟨rfl, rfl⟩) | (go_at_call 146; refine KEY.out.mono ?_; rintro e w6 ⟨rfl, hg6, hR6⟩))
            have hk6 := keepBlk hk4 hg6 (by omega)
            have hg16 := hg14.trans hg6
            clear hg6 hg14 hk4 hR4 c4 f4
            cases h7 : upTo [m, 60] s5 with
            | bad k =>
              have hr : attr s = .bad k := by rw [HR5.out]; unfold attrC; rw [h7]; rfl
              have HR7 := Lib.hid hr
              have H7 := Lib.hid h7
              clear hr h7
              refine (post_bad H7.out (upTo_st hR6 [m, 60] (by simp) (by simp) HA2.out)).mono ?_
              rintro e w7 ⟨rfl, hbad⟩
              go_wp2
              exact ⟨rfl, post_mk_bad HR7.out _ (hbad.of hg16)⟩
            | ok x =>
              obtain ⟨v, s7⟩ := x
              have hvl := upTo_len h7
              have hl6 := hR6.len
              have hr : attr s = (cut [m] s7).bind fun s => (text v).bind fun v => .ok ((nm, v), s) := by rw [HR5.out]; unfold attrC; rw [h7]; rfl
              have HR7 := Lib.hid hr
              have H7 := Lib.hid h7
              clear hr h7
              refine (post_ok H7.out (upTo_st hR6 [m, 60] (by simp) (by simp) HA2.out)).mono ?_
              rintro e w7 ⟨rfl, hg7, hR7⟩
              have hk7 := keepBlk hk6 hg7 (by omega)
              have hg17 := hg16.trans hg7
              clear hg7 hg16 hk6 hR6
              cases h8 : cut [m] s7 with
              | bad k =>
                have hr : attr s = .bad k := by rw [HR7.out, h8]; rfl
                have HR8 := Lib.hid hr
                have H8 := Lib.hid h8
                clear hr h8
                go_wp2_with (go_at_call 146; refine (post_bad H8.out (cut_st hR7 [m])).mono ?_; rintro e w8 ⟨rfl, hbad⟩)
                exact ⟨rfl, post_mk_bad HR8.out _ (hbad.of hg17)⟩
              | ok s8 =>
                have hr : attr s = (text v).bind fun v => .ok ((nm, v), s8) := by rw [HR7.out, h8]; rfl
                have HR8 := Lib.hid hr
                have H8 := Lib.hid h8
                clear hr h8
                go_wp2_with (go_at_call 146; refine (post_ok H8.out (cut_st hR7 [m])).mono ?_; rintro e w8 ⟨rfl, hg8, hR8⟩)
                have hk8 := keepBlk hk7 hg8 (by omega)
                have hg18 := hg17.trans hg8
                clear hg8 hg17 hk7 hR7
                have htx := text_any hR8.env v (by omega)
                have HTX := Lib.hid htx
                clear htx
                cases h9 : text v with
                | bad k =>
                  have hr : attr s = .bad k := by rw [HR8.out, h9]; rfl
                  have HR9 := Lib.hid hr
                  have H9 := Lib.hid h9
                  clear hr h9
                  refine (post_bad H9.out HTX.out).mono ?_
                  rintro e w9 ⟨rfl, hbad⟩
                  go_wp2
                  exact ⟨rfl, post_mk_bad HR9.out _ ⟨g_below hg18 hbad, _, _, hR8.below hbad⟩⟩
                | ok u =>
                  have hr : attr s = .ok ((nm, u), s8) := by rw [HR8.out, h9]; rfl
                  have HR9 := Lib.hid hr
                  have H9 := Lib.hid h9
                  clear hr h9
                  refine (post_ok H9.out HTX.out).mono ?_
                  rintro e w9 ⟨rfl, hb9⟩
                  have hk9 := keepBlkB hk8 hb9
                  have hg19 := g_below hg18 hb9
                  have hR9 := hR8.below hb9
                  clear hb9 hg18 hk8 hR8
                  have c0 := blk_cell hk9 0
                  have c1 := blk_cell hk9 1
                  have f0 := blk_free hk9 0
                  have f1 := blk_free hk9 1
                  go_wp2
                  refine bodyPost_ret (v := attrV (nm, u)) ?_ rfl (post_mk_ok HR9.out ⟨rfl, g_setNew (g_setNew hg19 (Nat.le_refl _) _) (Nat.le_refl _) _, (hR9.far (by simp; omega) (by simp; omega) _).far (by simp; omega) (by simp; omega) _⟩)
                  simp [results, Tryz.results208, go_sem, c0, c1, attrV]
        · have hr : attr s = .bad .form := by rw [HR3.out]; unfold attrB; rw [h5]; simp only [hm, if_false]
          have HR5 := Lib.hid hr
          clear hr h5
          have q1 : ((((⟨(m :: s5).toArray⟩ : ByteArray)[0]'hz).toNat : Int) == 34) = false := by
            rw [beq_eq_false_iff_ne]; intro h; exact hm (.inl (UInt8.toNat_inj.1 (by show m.toNat = 34; have : (m.toNat : Int) = 34 := h; omega)))
          have q2 : ((((⟨(m :: s5).toArray⟩ : ByteArray)[0]'hz).toNat : Int) == 39) = false := by
            rw [beq_eq_false_iff_ne]; intro h; exact hm (.inr (UInt8.toNat_inj.1 (by show m.toNat = 39; have : (m.toNat : Int) = 39 := h; omega)))
          clear hm
          go_wp2_with (go_at_call 88; refine (fail_bad hR4.env).mono ?_; rintro e w5 ⟨rfl, rfl⟩)
          exact ⟨rfl, post_mk_bad HR5.out _ ⟨hg14, _, _, hR4⟩⟩
end
end Go.Proofs.YtcmjaaigkbjpaaaGreatDoor.Lia

/- Walks: xml's attrs. -/
namespace Go.Proofs.YtcmjaaigkbjpaaaGreatDoor.Lia
open Go.RowKit Go.Proofs.YtcmjaaigkbjpaaaGreatDoorW.PrintWords PX

theorem attrs1_any (x y u v : ByteArray) (ka : Nat) (w : World) (hk : w.heap[ka]? = some (.cells #[.string u, .string v] 69 (0, 0))) :
    Calls Tryz.prog 210 #[.agg #[.string x, .string y], .pointer (some ⟨ka, 0, none⟩)] w fun e w' => e = .returned (.bool (x.toList == u.toList)) ∧ Below w.heap.size w w' := by
  have c0 : w.cell? ⟨ka, 0, none⟩ = some (.string u) := blk_cell hk 0
  have hlt := (Array.getElem?_eq_some_iff.1 hk).1
  go_enter Tryz.func210, Tryz.ntmps210
  go_wp2
  go_ret
  exact ⟨rfl, (Below.refl _ _).alloc (Nat.le_refl _) _⟩

def sameName (u : ByteArray) (y : S69) : Bool := y.f0.toList == u.toList
def IdxOk (b : Bool) (w : World) (e : Ending) (w' : World) : Prop := ∃ r : Int, e = .returned (.int .i64 r) ∧ decide (0 ≤ r) = b ∧ Below w.heap.size w w'
theorem indexFunc_attr (u v : ByteArray) (ka : Nat) (w : World) (hk : w.heap[ka]? = some (.cells #[.string u, .string v] 69 (0, 0))) (xs : List S69) (A : Option Addr) (c : Nat) (hC : Kd.C k69 w A xs.length xs) (hn : xs.length ≤ 9223372036854775807) :
    Calls Tryz.prog 257 #[.slice A xs.length c, .func (.func 210) #[] #[.pointer (some ⟨ka, 0, none⟩)]] w (IdxOk (xs.any (sameName u)) w) := by
  have HC : Hid (Kd.C k69 w A xs.length xs) := hC
  have hlt := (Array.getElem?_eq_some_iff.1 hk).1
  have HK := Lib.hid hk
  clear hC hk
  go_enter Tryz.func257, Tryz.ntmps257
  go_wp2
  go_loopw [8] (fun i wr => ∃ k : Nat, k ≤ xs.length ∧ i = .int .i64 k ∧ (xs.take k).any (sameName u) = false ∧ Below w.heap.size w wr) (fun i _ => xs.length - (intOf i).toNat)
  case atStart => exact ⟨0, Nat.zero_le _, rfl, by simp, Below.refl _ _⟩
  case round =>
    obtain ⟨k, hkl, rfl, hany, hb⟩ := hrel
    have HA := Lib.hid hany
    clear hany
    by_cases hlt : k < xs.length
    · obtain ⟨ad, rfl, h0, h1⟩ := at_T69 HC.out (k : Int) (by omega) (by omega)
      simp only [Int.toNat_natCast] at h0 h1
      have h0' := (hb.cell (World.block_lt_of_cell? w _ h0)).trans h0
      have h1' := (hb.cell (World.block_lt_of_cell? w _ h1)).trans h1
      have hk' : wr.heap[ka]? = some (.cells #[.string u, .string v] 69 (0, 0)) := keepBlkB HK.out hb
      have HK2 := Lib.hid hk'
      have hs : (xs.take (k + 1)).any (sameName u) = ((xs.take k).any (sameName u) || sameName u (rd_T69 xs k)) := by
        rw [List.take_succ_eq_append_getElem hlt, List.any_append]
        simp [rd_T69, List.getD_eq_getElem?_getD, List.getElem?_eq_getElem hlt]
      have hsz := hb.size
      rw [HA.out, Bool.false_or] at hs
      have HS := Lib.hid hs
      clear h0 h1 hk' hs
      generalize hq : sameName u (rd_T69 xs k) = q at *
      have hq2 : ((rd_T69 xs k).f0.toList == u.toList) = q := hq
      have HQ2 := Lib.hid hq2
      clear hq hq2
      cases q with
      | true =>
        go_wp2_with (go_at_call 210; refine (attrs1_any _ _ u v ka _ HK2.out).mono ?_; rintro e w2 ⟨rfl, hb2⟩; rw [HQ2.out])
        go_ret
        refine ⟨(k : Int), rfl, ?_, hb.trans (hb2.mono (by omega))⟩
        have : xs.any (sameName u) = true := by
          rw [← List.take_append_drop (k + 1) xs, List.any_append, HS.out]; rfl
        rw [this]; simp
      | false =>
        go_wp2_with (go_at_call 210; refine (attrs1_any _ _ u v ka _ HK2.out).mono ?_; rintro e w2 ⟨rfl, hb2⟩; rw [HQ2.out])
        go_roundw
        case rel => exact ⟨k + 1, by omega, by go_num, HS.out, hb.trans (hb2.mono (by omega))⟩
        case measure => simp [intOf]; omega
    · go_wp2
      go_ret
      refine ⟨-1, rfl, ?_, hb⟩
      have := HA.out
      rw [List.take_of_length_le (by omega)] at this
      rw [this]; rfl
theorem containsFunc_attr (u v : ByteArray) (ka : Nat) (w : World) (hk : w.heap[ka]? = some (.cells #[.string u, .string v] 69 (0, 0))) (xs : List S69) (A : Option Addr) (c : Nat) (hC : Kd.C k69 w A xs.length xs) (hn : xs.length ≤ 9223372036854775807) :
    Calls Tryz.prog 209 #[.slice A xs.length c, .func (.func 210) #[] #[.pointer (some ⟨ka, 0, none⟩)]] w fun e w' => e = .returned (.bool (xs.any (sameName u))) ∧ Below w.heap.size w w' := by
  have h := indexFunc_attr u v ka w hk xs A c hC hn
  have H := Lib.hid h
  clear h hC hk
  go_enter Tryz.func209, Tryz.ntmps209
  go_wp2_with (go_at_call 257; refine H.out.mono ?_; rintro e w2 ⟨r, rfl, hr, hb⟩)
  go_ret
  exact ⟨by rw [← hr]; rfl, hb⟩

def toA (x : Str × Str) : S69 := ⟨⟨x.1.toArray⟩, ⟨x.2.toArray⟩⟩
theorem any_toA (a : Str × Str) (out : List (Str × Str)) : (out.map toA).any (sameName ⟨a.1.toArray⟩) = out.any (fun b => b.1 == a.1) := by
  induction out with
  | nil => rfl
  | cons x t ih =>
    simp only [List.map_cons, List.any_cons, ih]
    congr 1
    show ((⟨x.1.toArray⟩ : ByteArray).toList == (⟨a.1.toArray⟩ : ByteArray).toList) = _
    rw [toList_mk, toList_mk]

theorem g_own {w W w1 : World} {r row : Option Nat} (h : w.grownBy W r) (hg : W.grownBy w1 row) (hr : ∀ k, row = some k → w.heap.size ≤ k) : w.grownBy w1 r :=
  ⟨hg.os.trans h.os, hg.tape.trans h.tape, hg.output.trans h.output, Nat.le_trans h.size hg.size, fun i hi hne => (hg.block i (Nat.lt_of_lt_of_le hi h.size) (fun e => by have := hr i e.symm; omega)).trans (h.block i hi hne)⟩
theorem RS.grownRow {eb : Nat → Addr} {n0 b : Nat} {s : Str} {d : Int} {W w1 : World} {row : Option Nat} (h : RS eb n0 b s d W) (hg : W.grownBy w1 row) (hr : ∀ k, row = some k → b < k) : RS eb n0 b s d w1 := by
  have hn := h.own
  refine ⟨h.env.keep ((Below.refl n0 W).grown hg h.env.top (fun k e => by have := hr k e; omega)), h.rb.of (hg.block b h.rb.lt (fun e => by have := hr b e.symm; omega)), h.own, h.len⟩
theorem R_base {α : Type} {d : Kd α} {e : Nat} {w : World} {base : Nat} {ok : Nat → Prop} {v : Value} {xs : List α} (h : d.R e w base ok v xs) (k : Nat) (hk : v.ownBlock = some k) : base ≤ k := by
  obtain ⟨inner, ho⟩ := Kd.R_own h
  exact own_base ho k hk
theorem cut_len1 {p s r : Str} (h : cut p s = .ok r) : r.length + p.length = s.length := by
  unfold cut at h
  split at h
  · rename_i hp
    simp only [Res.ok.injEq] at h
    have := (List.isPrefixOf_iff_prefix.1 hp).length_le
    rw [← h, List.length_drop]; omega
  · cases h
theorem Res.bind_ok {α β : Type} {r : Res α} {f : α → Res β} {y : β} (h : r.bind f = .ok y) : ∃ x, r = .ok x ∧ f x = .ok y := by
  cases r with
  | ok x => exact ⟨x, rfl, h⟩
  | bad k => cases h
theorem attr_len {s r : Str} {a : Str × Str} (h : attr s = .ok (a, r)) : r.length < s.length := by
  unfold attr at h
  obtain ⟨⟨nm, s1⟩, h1, h⟩ := Res.bind_ok h
  obtain ⟨s2, h2, h⟩ := Res.bind_ok h
  have l1 := rname_len h1
  have l2 := cut_len1 h2
  have l3 := blank_len s1
  have l4 := blank_len s2
  simp only [List.length_singleton] at l2
  cases h5 : (blank s2).2 with
  | nil => rw [h5] at h; cases h
  | cons m s5 =>
    rw [h5] at h l4
    simp only at h
    split at h
    · obtain ⟨⟨v, s6⟩, h6, h⟩ := Res.bind_ok h
      obtain ⟨s7, h7, h⟩ := Res.bind_ok h
      obtain ⟨u, h8, h⟩ := Res.bind_ok h
      have l6 := upTo_len h6
      have l7 := cut_len1 h7
      simp only [Res.ok.injEq, Prod.mk.injEq] at h
      rw [← h.2]
      simp only [List.length_cons] at l4
      simp only [List.length_singleton] at l7
      omega
    · cases h
theorem info69 : (Tryz.prog.info? 69).map (fun i => (i.zero, i.size, i.bytes)) = some (some (.agg #[.string ⟨#[]⟩, .string ⟨#[]⟩]), 2, 32) := by kernel_rfl
/-- What 'attrs' answers: the attributes, in a row of the call's own. -/
def AttrsOk (eb : Nat → Addr) (n0 b : Nat) (d : Int) (w : World) (x : List (Str × Str) × Str) (e : Ending) (w' : World) : Prop :=
  ∃ v, e = .returned v ∧ Kd.R k69 69 w' w.heap.size (fun k => k ≠ b) v (x.1.map toA) ∧ w.grownBy w' (some b) ∧ RS eb n0 b x.2 d w'
set_option maxRecDepth 100000 in
theorem attrs_st {eb : Nat → Addr} {n0 b : Nat} {s : Str} {d : Int} {w : World} (h : RS eb n0 b s d w) :
    Calls Tryz.prog 149 #[.pointer (some ⟨b, 0, none⟩)] w (Post eb (attrsN (s.length + 1) [] s) (AttrsOk eb n0 b d w) (BadR eb n0 b w)) := by
  have hlt := h.rb.lt
  have htop := h.env.top
  have hown := h.own
  go_enter Tryz.func149, Tryz.ntmps149
  go_wp2
  go_loopw [3] (fun v wr => ∃ (out : List (Str × Str)) (r : Str) (n : Nat), out.length ≤ 12 ∧ Kd.R k69 69 wr w.heap.size (fun k => k ≠ b) v (out.map toA) ∧ w.grownBy wr (some b) ∧ RS eb n0 b r d wr ∧ attrsN n out r = attrsN (s.length + 1) [] s ∧ r.length < n) (fun _ wr => match wr.cell? ⟨b, 0, none⟩ with | some (.string x) => x.size | _ => 0)
  case atStart => exact ⟨[], s, s.length + 1, by simp, Kd.R_nil _ _ _ _ _, grown_refl _ _, h, rfl, by omega⟩
  case round =>
    obtain ⟨out, r, n, ho, hv, hg, hR, heq, hn⟩ := hrel
    obtain ⟨n, rfl⟩ : ∃ m, n = m + 1 := ⟨n - 1, by omega⟩
    have HEQ := Lib.hid heq
    have HV := Lib.hid hv
    have HG := Lib.hid hg
    have hbl := blank_len r
    have hst := blank_st hR
    have HST := Lib.hid hst
    have c00 := hR.rb.c0
    have CW := Lib.hid c00
    clear heq hv hg hst c00
    rcases hb : blank r with ⟨c, r1⟩
    rw [hb] at hbl
    simp only [hb] at HST
    have HB := Lib.hid hb
    clear hb
    cases c with
    | zero =>
      have hres : attrsN (s.length + 1) [] s = .ok (out, r1) := by rw [← HEQ.out]; simp only [attrsN, HB.out]
      have HRES := Lib.hid hres
      clear hres
      go_wp2_with (go_at_call 152; refine HST.out.mono ?_; rintro e w1 ⟨rfl, hg1, hR1⟩)
      go_ret
      exact post_mk_ok HRES.out ⟨_, rfl, Kd.R_grown HV.out hg1 (fun k hk e => hk (by cases e; rfl)), HG.out.trans hg1, hR1⟩
    | succ c =>
      rcases r1 with _ | ⟨m, r1⟩
      · have hres : attrsN (s.length + 1) [] s = .ok (out, []) := by rw [← HEQ.out]; simp only [attrsN, HB.out]
        have HRES := Lib.hid hres
        clear hres
        go_wp2_with (go_at_call 152; refine HST.out.mono ?_; rintro e w1 ⟨rfl, hg1, hR1⟩; have c1 := hR1.rb.c0)
        go_ret
        exact post_mk_ok HRES.out ⟨_, rfl, Kd.R_grown HV.out hg1 (fun k hk e => hk (by cases e; rfl)), HG.out.trans hg1, hR1⟩
      · have hz : 0 < (⟨(m :: r1).toArray⟩ : ByteArray).size := by rw [size_mk]; simp
        by_cases hm : m = 47 ∨ m = 62
        · have hres : attrsN (s.length + 1) [] s = .ok (out, m :: r1) := by rw [← HEQ.out]; simp only [attrsN, HB.out, hm, if_true]
          have HRES := Lib.hid hres
          clear hres
          have q : ((((((⟨(m :: r1).toArray⟩ : ByteArray)[0]'hz).toNat : Int) != 47) = false)) ∨ ((((((⟨(m :: r1).toArray⟩ : ByteArray)[0]'hz).toNat : Int) != 47) = true) ∧ (((((⟨(m :: r1).toArray⟩ : ByteArray)[0]'hz).toNat : Int) != 62) = false)) := by
            rcases hm with rfl | rfl
            · left; rfl
            · right; exact ⟨rfl, rfl⟩
          clear hm
          rcases q with q | ⟨q, q'⟩ <;>
          · go_wp2_with (go_at_call 152; refine HST.out.mono ?_; rintro e w1 ⟨rfl, hg1, hR1⟩; have c1 := hR1.rb.c0)
            go_ret
            exact post_mk_ok HRES.out ⟨_, rfl, Kd.R_grown HV.out hg1 (fun k hk e => hk (by cases e; rfl)), HG.out.trans hg1, hR1⟩
        · have hres : attrsN (s.length + 1) [] s = (attr (m :: r1)).bind fun (a, s) => if out.length < 12 ∧ (out.any fun b => b.1 == a.1) = false then attrsN n (out ++ [a]) s else .bad .form := by
            rw [← HEQ.out]; simp only [attrsN, HB.out, hm, if_false]
          have HRES := Lib.hid hres
          clear hres
          have q : ((((((⟨(m :: r1).toArray⟩ : ByteArray)[0]'hz).toNat : Int) != 47) = true)) := by
            rw [bne_iff_ne]; intro h; exact hm (.inl (UInt8.toNat_inj.1 (by show m.toNat = 47; have : (m.toNat : Int) = 47 := h; omega)))
          have q' : ((((((⟨(m :: r1).toArray⟩ : ByteArray)[0]'hz).toNat : Int) != 62) = true)) := by
            rw [bne_iff_ne]; intro h; exact hm (.inr (UInt8.toNat_inj.1 (by show m.toNat = 62; have : (m.toNat : Int) = 62 := h; omega)))
          clear hm
          go_wp2_with (go_at_call 152; refine HST.out.mono ?_; rintro e w1 ⟨rfl, hg1, hR1⟩; have c1 := hR1.rb.c0)
          have HV1 := Lib.hid (Kd.R_grown HV.out hg1 (fun k hk e => hk (by cases e; rfl)))
          have HG1 := Lib.hid (HG.out.trans hg1)
          have hz1 := HG1.out.size
          clear hg1 HV HG c1 q q'
          cases h2 : attr (m :: r1) with
          | bad k =>
            have hr : attrsN (s.length + 1) [] s = .bad k := by rw [HRES.out, h2]; rfl
            have HR := Lib.hid hr
            have H2 := Lib.hid h2
            clear hr h2
            refine (post_bad H2.out (attr_st hR1)).mono ?_
            rintro e w2 ⟨rfl, hbad⟩
            go_wp2
            exact ⟨rfl, post_mk_bad HR.out _ (hbad.of HG1.out)⟩
          | ok x =>
            obtain ⟨a, r2⟩ := x
            have hr : attrsN (s.length + 1) [] s = if out.length < 12 ∧ (out.any fun b => b.1 == a.1) = false then attrsN n (out ++ [a]) r2 else .bad .form := by rw [HRES.out, h2]; rfl
            have HR := Lib.hid hr
            have H2 := Lib.hid h2
            have hal := attr_len h2
            clear hr h2
            refine (post_ok H2.out (attr_st hR1)).mono ?_
            rintro e w2 ⟨rfl, hg2, hR2⟩
            have HV2 := Lib.hid (Kd.R_grown HV1.out hg2 (fun k hk e => hk (by cases e; rfl)))
            have HG2 := Lib.hid (HG1.out.trans hg2)
            have hz2 := HG2.out.size
            clear hg2 HV1 HG1 hR1
            unfold attrV
            obtain ⟨A, cap, rfl, hcap, hC⟩ := Kd.R_reads HV2.out
            have HCX := Lib.hid hC
            have hany := any_toA a out
            have HANY := Lib.hid hany
            have hxl : (out.map toA).length = out.length := List.length_map ..
            have HXL := Lib.hid hxl
            have hmap : (out ++ [a]).map toA = out.map toA ++ [toA a] := by simp
            have HMAP := Lib.hid hmap
            clear hC hany hxl hmap
            generalize out.map toA = xs at *
            by_cases h12 : out.length < 12
            · have h12' : (xs.length : Int) < 12 := by rw [HXL.out]; omega
              have hcf := fun w hk hC => containsFunc_attr ⟨a.1.toArray⟩ ⟨a.2.toArray⟩ w2.heap.size w hk xs A cap hC (by have := HXL.out; omega)
              have HCF := Lib.hid hcf
              clear hcf
              cases hq : xs.any (sameName ⟨a.1.toArray⟩) with
              | true =>
                have hr : attrsN (s.length + 1) [] s = .bad .form := by
                  rw [HR.out, if_neg]; rw [← HANY.out, hq]; simp
                have HR3 := Lib.hid hr
                have HQ := Lib.hid hq
                clear hr hq
                go_wp2_with (first | (go_at_call 209; refine (HCF.out _ (newBlk _ _) (Kd.C_below HCX.out ((Below.refl _ _).alloc (Nat.le_refl _) _))).mono ?_; rintro e w3 ⟨rfl, hb3⟩; rw [HQ.out]) | (go_at_call 88; refine (fail_bad ((hR2.alloc _).env.below hb3)).mono ?_; rintro e w4 ⟨rfl, rfl⟩))
                exact ⟨rfl, post_mk_bad HR3.out _ ⟨g_below (g_alloc HG2.out _) hb3, _, _, (hR2.alloc _).below hb3⟩⟩
              | false =>
                have hr : attrsN (s.length + 1) [] s = attrsN n (out ++ [a]) r2 := by
                  rw [HR.out, if_pos]; exact ⟨h12, by rw [← HANY.out, hq]⟩
                have HR3 := Lib.hid hr
                have HQ := Lib.hid hq
                clear hr hq
                go_wp2_with (first | (go_at_call 209; refine (HCF.out _ (newBlk _ _) (Kd.C_below HCX.out ((Below.refl _ _).alloc (Nat.le_refl _) _))).mono ?_; rintro e w3 ⟨rfl, hb3⟩; rw [HQ.out]; have hk3 := keepBlkB (newBlk w2 _) hb3; have c30 := blk_cell hk3 0; have c31 := blk_cell hk3 1; have HV3 := Lib.hid (Kd.R_below (Kd.R_below HV2.out ((Below.refl _ _).alloc (Nat.le_refl _) _)) hb3); have HG3 := Lib.hid (g_below (g_alloc HG2.out _) hb3); have hR3 := (hR2.alloc _).below hb3; have hz3 := HG3.out.size) | (go_at_call 88; refine (fail_ok _).mono ?_; rintro e w4 ⟨rfl, rfl⟩) | (at_builtin; go_loud (refine Kd.R_append k69 (w0 := _) w.heap.size rfl (.tmp 43) (.tmp 45) 25 69 (.agg #[.string ⟨#[]⟩, .string ⟨#[]⟩]) 32 rfl Tryz.underlying25 info69 rfl (by decide) (by decide) _ xs (toA a) [.string ⟨a.1.toArray⟩, .string ⟨a.2.toArray⟩] (fun k => k ≠ b) (fun _ => False) rfl rfl (k69_mkM _ _ _ (toA a)) (fun _ hk => hk.elim) (fun k hk => by have h1 := hz3; omega) HV3.out ((Below.refl _ _).mono hz3) hz3 (by have := HXL.out; omega) ?_); intro v1 w5 hv5 hb5 hg5 _))
                have hal' := hal
                simp only [List.length_cons] at hal'
                have hr5 := hR3.grownRow hg5 (fun k e => by have h1 := R_base HV3.out k e; omega)
                refine ⟨⟨out ++ [a], r2, n, by simp only [List.length_append, List.length_singleton]; omega, by rw [HMAP.out]; exact hv5, g_own HG3.out hg5 (fun k e => R_base HV3.out k e), hr5, HR3.out.symm, by simp only [List.length_cons] at hbl; omega⟩, ?_⟩
                rw [hr5.rb.c0, CW.out]
                simp only [size_mk]
                simp only [List.length_cons] at hbl
                omega
            · have h12' : decide ((xs.length : Int) < 12) = false := by rw [HXL.out]; simp; omega
              have hr : attrsN (s.length + 1) [] s = .bad .form := by
                rw [HR.out, if_neg]; rintro ⟨h, _⟩; exact h12 h
              have HR3 := Lib.hid hr
              clear hr
              go_wp2_with (first | (go_at_call 88; refine (fail_bad (hR2.alloc _).env).mono ?_; rintro e w4 ⟨rfl, rfl⟩))
              exact ⟨rfl, post_mk_bad HR3.out _ ⟨g_alloc HG2.out _, _, _, hR2.alloc _⟩⟩
end Go.Proofs.YtcmjaaigkbjpaaaGreatDoor.Lia

/- Walks: xml's content. -/
namespace Go.Proofs.YtcmjaaigkbjpaaaGreatDoor.Lia
open Go.RowKit Go.Proofs.YtcmjaaigkbjpaaaGreatDoorW.PrintWords PX

mutual
/-- A tree as the walks say it. -/
def toE : Elem → S28
  | .mk n al ks t => ⟨⟨n.toArray⟩, al.map toA, toEs ks, ⟨t.toArray⟩⟩
def toEs : List Elem → List S28
  | [] => []
  | k :: t => toE k :: toEs t
end
theorem toEs_map : ∀ l, toEs l = l.map toE
  | [] => rfl
  | k :: t => by rw [toEs, toEs_map t]; rfl
theorem toEs_snoc (l : List Elem) (e : Elem) : toEs (l ++ [e]) = toEs l ++ [toE e] := by rw [toEs_map, toEs_map, List.map_append]; rfl
theorem toEs_length (l : List Elem) : (toEs l).length = l.length := by rw [toEs_map, List.length_map]

theorem attrsN_len : ∀ (n : Nat) (out o : List (Str × Str)) (s r : Str), attrsN n out s = .ok (o, r) → r.length ≤ s.length
  | 0, out, o, s, r, h => by simp only [attrsN, Res.ok.injEq, Prod.mk.injEq] at h; rw [h.2]; omega
  | n + 1, out, o, s, r, h => by
    have hb := blank_len s
    unfold attrsN at h
    rcases hq : blank s with ⟨c, r1⟩
    rw [hq] at h hb
    cases c with
    | zero => simp only [Res.ok.injEq, Prod.mk.injEq] at h; rw [← h.2]; exact hb
    | succ c =>
      cases r1 with
      | nil => simp only [Res.ok.injEq, Prod.mk.injEq] at h; rw [← h.2]; simp
      | cons m r1 =>
        simp only at h
        split at h
        · simp only [Res.ok.injEq, Prod.mk.injEq] at h; rw [← h.2]; exact hb
        · obtain ⟨⟨a, s1⟩, h1, h⟩ := Res.bind_ok h
          have l1 := attr_len h1
          simp only at h
          split at h
          · have := attrsN_len n _ _ _ _ h
            simp only at hb
            omega
          · cases h
theorem contentN_len (el : Str → Res (Elem × Str)) (hel : ∀ s e r, el s = .ok (e, r) → r.length < s.length) : ∀ (n : Nat) (s : Str) (k : List Elem) (r : Str), contentN el n s = .ok (k, r) → k.length + r.length ≤ s.length
  | 0, s, k, r, h => by simp only [contentN, Res.ok.injEq, Prod.mk.injEq] at h; rw [← h.1, ← h.2]; simp
  | n + 1, s, k, r, h => by
    unfold contentN at h
    split at h
    · simp only [Res.ok.injEq, Prod.mk.injEq] at h; rw [← h.1, ← h.2]; simp
    · obtain ⟨⟨t, s1⟩, h1, h⟩ := Res.bind_ok h
      have l1 := upTo_len h1
      simp only at h
      split at h
      · obtain ⟨⟨e, s2⟩, h2, h⟩ := Res.bind_ok h
        obtain ⟨⟨k1, s3⟩, h3, h⟩ := Res.bind_ok h
        have l2 := hel _ _ _ h2
        dsimp only at h3
        have l3 := contentN_len el hel n _ _ _ h3
        simp only [Res.ok.injEq, Prod.mk.injEq] at h
        rw [← h.1, ← h.2, List.length_cons]; omega
      · rename_i ht
        obtain ⟨u, h2, h⟩ := Res.bind_ok h
        obtain ⟨⟨k1, s3⟩, h3, h⟩ := Res.bind_ok h
        have l3 := contentN_len el hel n _ _ _ h3
        have : 1 ≤ t.length := by cases t with | nil => exact absurd rfl ht | cons => simp
        simp only [Res.ok.injEq, Prod.mk.injEq] at h
        rw [← h.1, ← h.2, List.length_cons]; omega
theorem element_len : ∀ (d : Nat) (s : Str) (e : Elem) (r : Str), element d s = .ok (e, r) → r.length < s.length
  | 0, s, e, r, h => by
    unfold element at h
    obtain ⟨s1, h1, h⟩ := Res.bind_ok h
    obtain ⟨⟨n, s2⟩, h2, h⟩ := Res.bind_ok h
    cases h
  | d + 1, s, e, r, h => by
    unfold element at h
    obtain ⟨s1, h1, h⟩ := Res.bind_ok h
    obtain ⟨⟨n, s2⟩, h2, h⟩ := Res.bind_ok h
    obtain ⟨⟨al, s3⟩, h3, h⟩ := Res.bind_ok h
    have l1 := cut_len1 h1
    have l2 := rname_len h2
    have l3 := attrsN_len _ _ _ _ _ h3
    simp only [List.length_singleton] at l1
    simp only at h
    split at h
    · obtain ⟨s4, h4, h⟩ := Res.bind_ok h
      have l4 := cut_len h4
      simp only [Res.ok.injEq, Prod.mk.injEq] at h
      rw [← h.2]; omega
    · obtain ⟨s4, h4, h⟩ := Res.bind_ok h
      obtain ⟨⟨ks, s5⟩, h5, h⟩ := Res.bind_ok h
      obtain ⟨s6, h6, h⟩ := Res.bind_ok h
      obtain ⟨⟨m, s7⟩, h7, h⟩ := Res.bind_ok h
      have l4 := cut_len h4
      have l5 := contentN_len _ (fun s e r h => element_len d s e r h) _ _ _ _ h5
      dsimp only at h6
      have l6 := cut_len h6
      have l7 := rname_len h7
      simp only at h
      split at h
      · obtain ⟨s8, h8, h⟩ := Res.bind_ok h
        have l8 := cut_len h8
        have l9 := blank_len s7
        simp only [Res.ok.injEq, Prod.mk.injEq] at h
        rw [← h.2]; omega
      · cases h

def elV (x : S28) (A1 : Option Addr) (c1 : Nat) (A2 : Option Addr) (c2 : Nat) : List Value := [.string x.f0, .slice A1 x.f1.length c1, .slice A2 x.f2.length c2, .string x.f3]
/-- What an element's reading leaves. -/
def ElOk (eb : Nat → Addr) (n0 b : Nat) (d : Int) (w : World) (x : Elem × Str) (e : Ending) (w' : World) : Prop :=
  ∃ A1 c1 A2 c2, e = .returned (.agg (elV (toE x.1) A1 c1 A2 c2).toArray) ∧ Kd.M k28 w' w.heap.size (fun k => k ≠ b) (toE x.1) (elV (toE x.1) A1 c1 A2 c2) ∧ w.grownBy w' (some b) ∧ RS eb n0 b x.2 d w'
def ContOk (eb : Nat → Addr) (n0 b : Nat) (d : Int) (w : World) (x : List Elem × Str) (e : Ending) (w' : World) : Prop :=
  ∃ v, e = .returned v ∧ Kd.R k28 28 w' w.heap.size (fun k => k ≠ b) v (toEs x.1) ∧ w.grownBy w' (some b) ∧ RS eb n0 b x.2 d w'
theorem info28 : (Tryz.prog.info? 28).map (fun i => (i.zero, i.size, i.bytes)) = some (some (.agg #[.string ⟨#[]⟩, .slice none 0 0, .slice none 0 0, .string ⟨#[]⟩]), 4, 80) := by kernel_rfl
set_option maxRecDepth 100000 in
theorem content_st {eb : Nat → Addr} {n0 b : Nat} {d : Int} (el : Str → Res (Elem × Str)) (hlen : ∀ s e r, el s = .ok (e, r) → r.length < s.length)
    (hel : ∀ (s : Str) (w : World), RS eb n0 b s d w → Calls Tryz.prog 87 #[.pointer (some ⟨b, 0, none⟩)] w (Post eb (el s) (ElOk eb n0 b d w) (BadR eb n0 b w)))
    {s : Str} {w : World} (h : RS eb n0 b s d w) :
    Calls Tryz.prog 151 #[.pointer (some ⟨b, 0, none⟩)] w (Post eb (contentN el (s.length + 1) s) (ContOk eb n0 b d w) (BadR eb n0 b w)) := by
  have hlt := h.rb.lt
  have htop := h.env.top
  have hown := h.own
  have hsl := h.len
  have HEL := Lib.hid hel
  have HLEN := Lib.hid hlen
  clear hel hlen
  go_enter Tryz.func151, Tryz.ntmps151
  go_wp2
  go_loopw [3] (fun v wr => ∃ (done : List Elem) (r : Str) (n : Nat), Kd.R k28 28 wr w.heap.size (fun k => k ≠ b) v (toEs done) ∧ w.grownBy wr (some b) ∧ RS eb n0 b r d wr ∧ ((contentN el n r).bind fun x => .ok (done ++ x.1, x.2)) = contentN el (s.length + 1) s ∧ r.length < n ∧ done.length + r.length ≤ s.length) (fun _ wr => match wr.cell? ⟨b, 0, none⟩ with | some (.string x) => x.size | _ => 0)
  case atStart =>
    refine ⟨[], s, s.length + 1, Kd.R_nil _ _ _ _ _, grown_refl _ _, h, ?_, by omega, by simp⟩
    cases contentN el (s.length + 1) s <;> rfl
  case round =>
    obtain ⟨done, r, n, hv, hg, hR, heq, hn, hdl⟩ := hrel
    obtain ⟨n, rfl⟩ : ∃ m, n = m + 1 := ⟨n - 1, by omega⟩
    have HEQ := Lib.hid heq
    have HV := Lib.hid hv
    have HG := Lib.hid hg
    have hzr := hg.size
    have c00 := hR.rb.c0
    have CW := Lib.hid c00
    have hpre := fun w => Tryz.strings_HasPrefix ⟨r.toArray⟩ ⟨#[60, 47]⟩ w
    clear heq hv hg
    cases hp : [60, 47].isPrefixOf r with
    | true =>
      have hp' : Lib.hasPrefix r [60, 47] = true := hp
      simp only [hp'] at hpre
      have hres : contentN el (s.length + 1) s = .ok (done, r) := by rw [← HEQ.out]; simp [contentN, hp, Res.bind]
      have HRES := Lib.hid hres
      have HPRE := Lib.hid hpre
      clear hres hpre hp hp'
      go_wp2_with (go_at_call 150; refine (HPRE.out _).mono ?_; rintro e w1 ⟨rfl, rfl⟩)
      go_ret
      exact post_mk_ok HRES.out ⟨_, rfl, HV.out, HG.out, hR⟩
    | false =>
      have hp' : Lib.hasPrefix r [60, 47] = false := hp
      simp only [hp'] at hpre
      have hres : contentN el (s.length + 1) s = ((upTo [60] r).bind fun x =>
          if x.1 = [] then (el x.2).bind fun y => (contentN el n y.2).bind fun k => .ok (y.1 :: k.1, k.2)
          else (text x.1).bind fun t => (contentN el n x.2).bind fun k => .ok (.mk [] [] [] t :: k.1, k.2)).bind fun x => .ok (done ++ x.1, x.2) := by
        rw [← HEQ.out]; simp only [contentN, hp, Bool.false_eq_true, if_false]
      have HRES := Lib.hid hres
      have HPRE := Lib.hid hpre
      clear hres hpre hp hp'
      have hup := fun w h => upTo_st (w := w) (s := r) (d := d) (eb := eb) (n0 := n0) (b := b) h [60] (by simp) (by simp) (by intro j x hj; match j, hj with | 0, hj => cases hj; decide | k + 1, hj => cases hj)
      have HUP := Lib.hid hup
      clear hup
      cases h1 : upTo [60] r with
      | bad k =>
        have hr : contentN el (s.length + 1) s = .bad k := by rw [HRES.out, h1]; rfl
        have HR := Lib.hid hr
        have H1 := Lib.hid h1
        clear hr h1
        go_wp2_with (first | (go_at_call 150; refine (HPRE.out _).mono ?_; rintro e w1 ⟨rfl, rfl⟩) | (go_at_call 212; refine (post_bad H1.out (HUP.out _ hR)).mono ?_; rintro e w2 ⟨rfl, hbad⟩))
        exact ⟨rfl, post_mk_bad HR.out _ (hbad.of HG.out)⟩
      | ok x =>
        obtain ⟨t, r1⟩ := x
        have hul := upTo_len h1
        have hr : contentN el (s.length + 1) s = (if t = [] then (el r1).bind fun y => (contentN el n y.2).bind fun k => .ok (y.1 :: k.1, k.2)
          else (text t).bind fun t => (contentN el n r1).bind fun k => .ok (.mk [] [] [] t :: k.1, k.2)).bind fun x => .ok (done ++ x.1, x.2) := by rw [HRES.out, h1]; rfl
        have HR := Lib.hid hr
        have H1 := Lib.hid h1
        clear hr h1
        by_cases ht : t = []
        · subst ht
          have hr : contentN el (s.length + 1) s = ((el r1).bind fun y => (contentN el n y.2).bind fun k => .ok (y.1 :: k.1, k.2)).bind fun x => .ok (done ++ x.1, x.2) := by rw [HR.out]; rfl
          have HR2 := Lib.hid hr
          clear hr HR
          obtain ⟨A, cap, rfl, hcap, hC⟩ := Kd.R_reads HV.out
          have hxl := toEs_length done
          have hsn := fun e => toEs_snoc done e
          have HXL := Lib.hid hxl
          have HSN := Lib.hid hsn
          clear hC hxl hsn
          generalize toEs done = xs at *
          go_wp2_with (first | (go_at_call 150; refine (HPRE.out _).mono ?_; rintro e w1 ⟨rfl, rfl⟩) | (go_at_call 212; refine (post_ok H1.out (HUP.out _ hR)).mono ?_; rintro e w2 ⟨rfl, hg2, hR2⟩))
          have HV2 := Lib.hid (Kd.R_grown HV.out hg2 (fun k hk e => hk (by cases e; rfl)))
          have HG2 := Lib.hid (HG.out.trans hg2)
          have hz2 := HG2.out.size
          clear hg2 HV HG hR
          cases h3 : el r1 with
          | bad k =>
            have hr : contentN el (s.length + 1) s = .bad k := by rw [HR2.out, h3]; rfl
            have HR3 := Lib.hid hr
            have H3 := Lib.hid h3
            clear hr h3
            refine (post_bad H3.out (HEL.out _ _ hR2)).mono ?_
            rintro e w3 ⟨rfl, hbad⟩
            go_wp2
            exact ⟨rfl, post_mk_bad HR3.out _ (hbad.of HG2.out)⟩
          | ok x =>
            obtain ⟨e, r2⟩ := x
            have hrl := HLEN.out _ _ _ h3
            have hr : contentN el (s.length + 1) s = ((contentN el n r2).bind fun x => .ok ((done ++ [e]) ++ x.1, x.2)) := by
              rw [HR2.out, h3]; simp only [Res.bind]; cases contentN el n r2 <;> simp
            have HR3 := Lib.hid hr
            have H3 := Lib.hid h3
            clear hr h3
            refine (post_ok H3.out (HEL.out _ _ hR2)).mono ?_
            rintro e' w3 ⟨A1, c1, A2, c2, rfl, hM, hg3, hR3⟩
            have HV3 := Lib.hid (Kd.R_grown HV2.out hg3 (fun k hk e => hk (by cases e; rfl)))
            have hown2 : ∀ k, (Value.slice A xs.length cap).ownBlock = some k → k < w2.heap.size := by
              intro k hk
              obtain ⟨inner, ho⟩ := Kd.R_own HV2.out
              exact own_lt ho k hk
            have hM2 := k28.M_lower hz2 (k28.M_mono (ok' := fun k => k ≠ b ∧ w2.heap.size ≤ k) (fun k hk => ⟨hk.1, hk.2.1⟩) (k28.M_bound hM))
            have HM2 := Lib.hid hM2
            have HOWN := Lib.hid hown2
            have HG3 := Lib.hid (HG2.out.trans hg3)
            have hz3 := HG3.out.size
            have hz23 := hg3.size
            clear hM hM2 hown2 hg3 HV2 HG2 hR2
            unfold elV
            go_wp2_with (first | (at_builtin; go_loud (refine Kd.R_append k28 (w0 := _) w.heap.size rfl (.tmp 21) (.tmp 24) 26 28 (.agg #[.string ⟨#[]⟩, .slice none 0 0, .slice none 0 0, .string ⟨#[]⟩]) 80 rfl Tryz.underlying26 info28 rfl (by decide) (by decide) _ xs (toE e) (elV (toE e) A1 c1 A2 c2) (fun k => k ≠ b) (fun k => k ≠ b ∧ w2.heap.size ≤ k) rfl rfl HM2.out (fun k hk => ⟨hk.1, fun e => by have h1 := HOWN.out k e.symm; have h2 := hk.2; omega⟩) (fun k hk => by have h1 := hz3; omega) HV3.out ((Below.refl _ _).mono hz3) hz3 (by have h1 := HXL.out; omega) ?_); intro v1 w5 hv5 hb5 hg5 _))
            have hr5 := hR3.grownRow hg5 (fun k e => by have h1 := R_base HV3.out k e; omega)
            refine ⟨⟨done ++ [e], r2, n, by rw [HSN.out]; exact hv5, g_own HG3.out hg5 (fun k e => R_base HV3.out k e), hr5, HR3.out.symm, by omega, by simp only [List.length_append, List.length_singleton]; omega⟩, ?_⟩
            rw [hr5.rb.c0, CW.out]
            simp only [size_mk]
            omega
        · have hr : contentN el (s.length + 1) s = ((text t).bind fun t => (contentN el n r1).bind fun k => .ok (.mk [] [] [] t :: k.1, k.2)).bind fun x => .ok (done ++ x.1, x.2) := by rw [HR.out, if_neg ht]
          have HR2 := Lib.hid hr
          have htl : 1 ≤ t.length := by cases t with | nil => exact absurd rfl ht | cons => simp
          have hte : t.isEmpty = false := by simpa using ht
          have hte' : (!t.isEmpty) = true := by simpa using ht
          clear hr HR ht
          obtain ⟨A, cap, rfl, hcap, hC⟩ := Kd.R_reads HV.out
          have hxl := toEs_length done
          have hsn := fun e => toEs_snoc done e
          have HXL := Lib.hid hxl
          have HSN := Lib.hid hsn
          clear hC hxl hsn
          generalize toEs done = xs at *
          go_wp2_with (first | (go_at_call 150; refine (HPRE.out _).mono ?_; rintro e w1 ⟨rfl, rfl⟩) | (go_at_call 212; refine (post_ok H1.out (HUP.out _ hR)).mono ?_; rintro e w2 ⟨rfl, hg2, hR2⟩))
          have HV2 := Lib.hid (Kd.R_grown HV.out hg2 (fun k hk e => hk (by cases e; rfl)))
          have HG2 := Lib.hid (HG.out.trans hg2)
          have hz2 := HG2.out.size
          clear hg2 HV HG hR
          have htx := text_any hR2.env t (by omega)
          have HTX := Lib.hid htx
          clear htx
          cases h3 : text t with
          | bad k =>
            have hr : contentN el (s.length + 1) s = .bad k := by rw [HR2.out, h3]; rfl
            have HR3 := Lib.hid hr
            have H3 := Lib.hid h3
            clear hr h3
            refine (post_bad H3.out HTX.out).mono ?_
            rintro e w3 ⟨rfl, hbad⟩
            go_wp2
            exact ⟨rfl, post_mk_bad HR3.out _ ⟨g_below HG2.out hbad, _, _, hR2.below hbad⟩⟩
          | ok u =>
            have hr : contentN el (s.length + 1) s = ((contentN el n r1).bind fun x => .ok ((done ++ [.mk [] [] [] u]) ++ x.1, x.2)) := by
              rw [HR2.out, h3]; simp only [Res.bind]; cases contentN el n r1 <;> simp
            have HR3 := Lib.hid hr
            have H3 := Lib.hid h3
            clear hr h3
            refine (post_ok H3.out HTX.out).mono ?_
            rintro e' w3 ⟨rfl, hb3⟩
            have HV3 := Lib.hid (Kd.R_below HV2.out hb3)
            have HG3 := Lib.hid (g_below HG2.out hb3)
            have hR3 := hR2.below hb3
            have hz3 := HG3.out.size
            clear hb3 HV2 HG2 hR2
            go_wp2_with (first | (at_builtin; go_loud (refine Kd.R_append k28 (w0 := _) w.heap.size rfl (.tmp 15) (.tmp 19) 26 28 (.agg #[.string ⟨#[]⟩, .slice none 0 0, .slice none 0 0, .string ⟨#[]⟩]) 80 rfl Tryz.underlying26 info28 rfl (by decide) (by decide) _ xs (toE (.mk [] [] [] u)) (elV (toE (.mk [] [] [] u)) none 0 none 0) (fun k => k ≠ b) (fun _ => False) rfl rfl (k28_mkM _ _ _ (toE (.mk [] [] [] u)) (Kd.R_nil _ _ _ _ _) (Kd.R_nil _ _ _ _ _)) (fun k hk => hk.elim) (fun k hk => by have h1 := hz3; omega) HV3.out ((Below.refl _ _).mono hz3) hz3 (by have h1 := HXL.out; omega) ?_); intro v1 w5 hv5 hb5 hg5 _))
            have hr5 := hR3.grownRow hg5 (fun k e => by have h1 := R_base HV3.out k e; omega)
            refine ⟨⟨done ++ [.mk [] [] [] u], r1, n, by rw [HSN.out]; exact hv5, g_own HG3.out hg5 (fun k e => R_base HV3.out k e), hr5, HR3.out.symm, by omega, by simp only [List.length_append, List.length_singleton]; omega⟩, ?_⟩
            rw [hr5.rb.c0, CW.out]
            simp only [size_mk]
            omega
end Go.Proofs.YtcmjaaigkbjpaaaGreatDoor.Lia
