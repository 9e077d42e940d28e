/- Own texts, merged for the hand-in. -/
import Derived.Test.YtcmjaaigkbjpaaaGreatDoorRows
import Derived.Test.YtcmjaaigkbjpaaaGreatDoorMergeI
import Derived.Test.YtcmjaaigkbjpaaaGreatDoorShelf
import Derived.ProofKit
import Derived.OpenShut
import Derived.LaidMore
import Derived.Lay
import Derived.PinnedBridge
import Derived.Lib.LaidU8
import Derived.Stop.LaidErr
import Derived.Stop.LaidTwo
import Derived.Stop.Joined
import Derived.Shelf.Vars
import Derived.HandedShaped

/- What a row's condition gives the walks: package api's errors, the library's tables (Env); a row's frame with the world's shape handed on. -/
namespace Go.Proofs.YtcmjaaigkbjpaaaGreatDoor.Lia
open Go.ChangeShapes Go.WideShapes Go.ChangeAt Go.RowKit

theorem own : ownKnob Tryz.prog.godebug = none := by kernel_rfl
theorem star : "*" ++ "errors.errorString" = "*errors.errorString" := by decide
theorem row337 (u : TypeId) (h : Tryz.prog.typeName? 3 u = some "*errors.errorString") : u = 337 :=
  typeName_ptr_named (nm := "errors.errorString") (by rw [star]; kernel_rfl) (by kernel_rfl) (by decide) u (by rw [star]; exact h)
/-- The listed variables of the rows of layers 23 to 25. -/
def laidL : List (String × DataW Unit) := Rows.xmlEscapesRow.laid
def errNames : List String := ["liaison/api.ErrRange", "liaison/api.ErrShort", "liaison/api.ErrLong", "liaison/api.ErrForm", "liaison/api.ErrCheck", "liaison/api.ErrFull", "liaison/api.ErrPower", "liaison/api.ErrNone", "liaison/api.ErrState", "liaison/api.ErrTwice", "liaison/api.ErrDepth", "liaison/api.ErrExpired", "liaison/api.ErrPanic", "liaison/api.ErrProtocol"]
/-- One of package api's errors, as a listed variable reads. -/
def ErrIs (W : World) (k : Nat) (text : List UInt8) : Prop := ∃ (a : Addr) (s : ByteArray), W.cell? ⟨k, 0, none⟩ = some (.iface 337 (.pointer (some a))) ∧ W.cell? a = some (.string s) ∧ s.data.toList = text ∧ ∃ c t, W.heap[a.block]? = some (.cells c t (0, 0))
theorem errs_two {n0 n1 : String} {text0 text1 : List UInt8} {r : List (String × DataW Unit)} {W : World} {g0 g1 : Nat}
    (h : laidMet Tryz.prog ((n0, .iface "*errors.errorString" (.ptr (.agg [.lit (.string text0)]))) :: (n1, .iface "*errors.errorString" (.ptr (.agg [.lit (.string text1)]))) :: r) W)
    (hg0 : Tryz.prog.globalNamed n0 = some g0) (ht0 : (Tryz.prog.globals[g0]?).map (·.type) = some 37) (hg1 : Tryz.prog.globalNamed n1 = some g1) (ht1 : (Tryz.prog.globals[g1]?).map (·.type) = some 37) :
    ErrIs W g0 text0 ∧ ErrIs W g1 text1 := by
  obtain ⟨a0, a1, s0, s1, c0, c1, t0, t1, hv0, hv1, hc0, hs0, _, hc1, hs1, _, _, hb0, hb1⟩ := laid_sentinels2 h hg0 ht0 hg1 ht1 Tryz.underlying37 row337 Tryz.underlying337 Tryz.underlying359 rfl rfl Tryz.underlying9 (by kernel_rfl) (by kernel_rfl)
  refine ⟨⟨a0, s0, ?_, hc0, hs0, c0, t0, hb0⟩, ⟨a1, s1, ?_, hc1, hs1, c1, t1, hb1⟩⟩
  · simpa using World.var?_cell hg0 hv0 0
  · simpa using World.var?_cell hg1 hv1 0
def errText (k : Nat) : List UInt8 := ([[108, 105, 97, 105, 115, 111, 110, 58, 32, 114, 97, 110, 103, 101], [108, 105, 97, 105, 115, 111, 110, 58, 32, 115, 104, 111, 114, 116], [108, 105, 97, 105, 115, 111, 110, 58, 32, 108, 111, 110, 103], [108, 105, 97, 105, 115, 111, 110, 58, 32, 102, 111, 114, 109], [108, 105, 97, 105, 115, 111, 110, 58, 32, 99, 104, 101, 99, 107], [108, 105, 97, 105, 115, 111, 110, 58, 32, 102, 117, 108, 108], [108, 105, 97, 105, 115, 111, 110, 58, 32, 112, 111, 119, 101, 114], [108, 105, 97, 105, 115, 111, 110, 58, 32, 110, 111, 110, 101], [108, 105, 97, 105, 115, 111, 110, 58, 32, 115, 116, 97, 116, 101], [108, 105, 97, 105, 115, 111, 110, 58, 32, 116, 119, 105, 99, 101], [108, 105, 97, 105, 115, 111, 110, 58, 32, 100, 101, 112, 116, 104], [108, 105, 97, 105, 115, 111, 110, 58, 32, 101, 120, 112, 105, 114, 101, 100], [108, 105, 97, 105, 115, 111, 110, 58, 32, 112, 97, 110, 105, 99], [108, 105, 97, 105, 115, 111, 110, 58, 32, 112, 114, 111, 116, 111, 99, 111, 108]] : List (List UInt8)).getD k []
theorem errText_inj : ∀ i j : Fin 14, errText i.val = errText j.val → i = j := by decide +kernel
theorem errs_all {W : World} (h : laidMet Tryz.prog laidL W) : ∀ k, k < 14 → ErrIs W k (errText k) := by
  have h4 := h.tail.tail.tail.tail
  have p0 := errs_two (g0 := 0) (g1 := 1) (text0 := errText 0) (text1 := errText 1) h4 (by kernel_rfl) (by kernel_rfl) (by kernel_rfl) (by kernel_rfl)
  have h6 := h4.tail.tail
  have p2 := errs_two (g0 := 2) (g1 := 3) (text0 := errText 2) (text1 := errText 3) h6 (by kernel_rfl) (by kernel_rfl) (by kernel_rfl) (by kernel_rfl)
  have h8 := h6.tail.tail
  have p4 := errs_two (g0 := 4) (g1 := 5) (text0 := errText 4) (text1 := errText 5) h8 (by kernel_rfl) (by kernel_rfl) (by kernel_rfl) (by kernel_rfl)
  have h10 := h8.tail.tail
  have p6 := errs_two (g0 := 6) (g1 := 7) (text0 := errText 6) (text1 := errText 7) h10 (by kernel_rfl) (by kernel_rfl) (by kernel_rfl) (by kernel_rfl)
  have h12 := h10.tail.tail
  have p8 := errs_two (g0 := 8) (g1 := 9) (text0 := errText 8) (text1 := errText 9) h12 (by kernel_rfl) (by kernel_rfl) (by kernel_rfl) (by kernel_rfl)
  have h14 := h12.tail.tail
  have p10 := errs_two (g0 := 10) (g1 := 11) (text0 := errText 10) (text1 := errText 11) h14 (by kernel_rfl) (by kernel_rfl) (by kernel_rfl) (by kernel_rfl)
  have h16 := h14.tail.tail
  have p12 := errs_two (g0 := 12) (g1 := 13) (text0 := errText 12) (text1 := errText 13) h16 (by kernel_rfl) (by kernel_rfl) (by kernel_rfl) (by kernel_rfl)
  intro k hk
  match k, hk with
  | 0, _ => exact p0.1
  | 1, _ => exact p0.2
  | 2, _ => exact p2.1
  | 3, _ => exact p2.2
  | 4, _ => exact p4.1
  | 5, _ => exact p4.2
  | 6, _ => exact p6.1
  | 7, _ => exact p6.2
  | 8, _ => exact p8.1
  | 9, _ => exact p8.2
  | 10, _ => exact p10.1
  | 11, _ => exact p10.2
  | 12, _ => exact p12.1
  | 13, _ => exact p12.2
theorem env_of_laid {W : World} (hL : laidMetH Tryz.prog laidL W) (hsh : W.ShapedOpen Tryz.prog) : ∃ eb, Env eb W.heap.size W := by
  rw [MakeChecks.laidMetH_plain _ _ _ (by kernel_rfl)] at hL
  have he := errs_all hL
  obtain ⟨cs23, h23, _, _⟩ := hsh.1 23 (zero := Array.replicate 64 (.int .u8 0)) (t := 336) (of_decide_eq_true (by kernel_rfl)) (show ((begin Tryz.prog (fun _ _ => 0) default).world.heap[23]?).bind Obj.row? = some (Array.replicate 64 (.int .u8 0), 336) by kernel_rfl)
  have hsz : 24 ≤ W.heap.size := (Array.getElem?_eq_some_iff.1 h23).1
  obtain ⟨m, hm⟩ := cell_of_shapedOpen_int (P := Tryz.prog) (g := 20) (t := 3) (zero := #[.int .i64 0]) hsh (of_decide_eq_true (by kernel_rfl)) (by kernel_rfl) rfl (by kernel_rfl) (by kernel_rfl) Tryz.underlying3
  classical
  refine ⟨fun k => if h : k < 14 then Classical.choose (he k h) else ⟨0, 0, none⟩, hsz, Nat.le_refl _, ?_, ?_, ?_, ?_, ⟨m, hm⟩, ?_, ?_⟩
  · intro k hk
    simp only [hk, dif_pos]
    obtain ⟨s, _, hc, _, _⟩ := Classical.choose_spec (he k hk)
    exact World.block_lt_of_cell? _ _ hc
  · intro k hk
    unfold errV
    simp only [hk, dif_pos]
    obtain ⟨s, h0, _⟩ := Classical.choose_spec (he k hk)
    exact h0
  · intro k hk
    simp only [hk, dif_pos]
    obtain ⟨s, _, _, _, hr⟩ := Classical.choose_spec (he k hk)
    exact hr
  · intro i j hi hj e
    simp only [hi, hj, dif_pos] at e
    obtain ⟨s, _, hc, hs, _⟩ := Classical.choose_spec (he i hi)
    obtain ⟨s', _, hc', hs', _⟩ := Classical.choose_spec (he j hj)
    rw [e] at hc
    rw [hc'] at hc
    have := Option.some.inj hc
    simp only [Value.string.injEq] at this
    subst this
    have := errText_inj ⟨i, hi⟩ ⟨j, hj⟩ (hs.symm.trans hs')
    exact congrArg Fin.val this
  · have hF : ("unicode/utf8.first", Lib.firstData) ∈ laidL := by
      have : Rows.laid_unicode_utf8_first = Lib.firstData := Pinned.utf8First_eq
      rw [← this]
      simp [laidL, Rows.xmlEscapesRow]
    have hA : ("unicode/utf8.acceptRanges", Lib.acceptData) ∈ laidL := by
      have : (Rows.laid_unicode_utf8_acceptRanges : DataW Unit) = Lib.acceptData := by kernel_rfl
      rw [← this]
      simp [laidL, Rows.xmlEscapesRow]
    exact utf8Tabs_of_reads (ρ := Tryz.lays197_ren) { Tryz.lays197 with } ⟨by kernel_rfl, by kernel_rfl, by kernel_rfl, by kernel_rfl, by kernel_rfl, by kernel_rfl, by kernel_rfl⟩ (Lib.laidMet.reads hL hF) (Lib.laidMet.reads hL hA)
  · have h2 := hL.tail.tail
    have ht : Lib.TabIs Tryz.prog W "internal/strconv.uint64pow10" .u64 Lib.pow10Tab := by
      refine Lib.tabIs_of_head (g := 21) (t := 326) (e := 306) (n := 20) (by kernel_rfl) (by kernel_rfl) (by kernel_rfl) (by kernel_rfl) (by kernel_rfl) (by kernel_rfl) (rest := laidL.tail.tail.tail) ?_
      exact h2
    intro i hi
    have := ht.cell (g := 21) (by kernel_rfl) i (by have : Lib.pow10Tab.length = 20 := by decide
                                                    omega)
    rw [this]
    simp [Lib.pow10Tab, hi]
/-- A row's frame: what its condition lists, and the world's shape, handed on. -/
theorem returns_laid {H : Type} {enc : TypeId × Value → H} {a : Assume} {C : Checked} {os : Os} {f : FuncId} {fn : Func} {s : ChangeSpec} {conds : List PathCond} {apart fresh handsOn again : Bool} {X : World → Array Value → Prop}
    (hX : ∀ (w w' : World) (args : Array Value), w.heap = w'.heap → X w args → X w' args)
    (own : ownKnob C.prog.godebug = none) (started : os.Started) (noInit : C.prog.inits.idxOf? f = none) (hfn : C.prog.funcs[f]? = some fn)
    (witness : ∃ (w : World) (tape : Tape) (i : Input), w.os = os ∧ (w.forCall tape i).Shaped C.prog ∧ i.vars = [] ∧ Input.okWide C.prog (w.forCall tape i) .any w.heap.size f i ∧
      ((s.pre enc C.prog fn conds apart (w.forCall tape i).memory i.args ∧ X (w.forCall tape i).memory i.args) ∧ sizedMet enc C.prog fn (OpenSpec.ofChange s) apart (w.forCall tape i).memory i.args) ∧ a.holds C.prog (lone (Frame.enter C.prog f i.args .normal) [] (w.forCall tape i)))
    (contract : ∀ (W : World) (base : Nat) (args : Array Value) (ds gs : List (DataW H)) (before : List MemPlace),
      (∀ (j : Nat) t v, fn.params[j]? = some t → args[j]? = some v → Value.okWide C.prog W .any base t v) →
      DataW.Whole enc C.prog fn.params.toList s.vars apart W args.toList ds gs before →
      (DataW.weightsEach C.prog (fn.params.toList ++ s.plain.varTypes C.prog) (ds ++ gs)).all (· ≤ reachBytes) = true → X W args → W.ShapedOpen C.prog →
      Calls C.prog f args W fun e W' => ∃ v, e = .returned v ∧ s.post enc C.prog fn apart fresh handsOn again W args v W') :
    ReturnsInHanded a C os f .any (fun w args => (s.pre enc C.prog fn conds apart w args ∧ X w args) ∧ sizedMet enc C.prog fn (OpenSpec.ofChange s) apart w args) (s.post enc C.prog fn apart fresh handsOn again) := by
  refine returnsInHanded_of_calls own started noInit witness ?_
  intro w tape i _ hsh _ hok hpre _
  obtain ⟨_, _, _, fn', hfn', _, _, _, _, hval⟩ := hok
  have e : fn' = fn := Option.some.inj (hfn'.symm.trans hfn)
  subst e
  obtain ⟨⟨⟨ds, gs, before, hw, _⟩, hx⟩, hz⟩ := hpre
  have hw' := DataW.Whole.of_heap (w' := w.forCall tape i) (by rfl) hw
  refine (contract (w.forCall tape i) w.heap.size i.args ds gs before hval hw' (hz.weights hw) (hX _ _ _ (by rfl) hx) hsh).mono fun e W' ⟨v, he, hp⟩ => ?_
  subst he
  exact ChangeSpec.post_blind hp
end Go.Proofs.YtcmjaaigkbjpaaaGreatDoor.Lia

/- A world that meets the rows' condition (the witness). -/
namespace Go.Proofs.YtcmjaaigkbjpaaaGreatDoor.Lia
open Go.RowKit

theorem wit_zip (os : Os) (args : Array Value) : ((World.laidAll Tryz.prog os laidL).forCall (fun _ _ => 0) ⟨#[], args, []⟩).variablesZipB Tryz.prog = true := by kernel_rfl
theorem wit_rest (os : Os) (args : Array Value) : ((((World.laidAll Tryz.prog os laidL).forCall (fun _ _ => 0) ⟨#[], args, []⟩).heap.toList.drop Tryz.prog.globals.size).take ((begin Tryz.prog (fun _ _ => 0) default).world.heap.size - Tryz.prog.globals.size)) =
    (begin Tryz.prog (fun _ _ => 0) default).world.heap.toList.drop Tryz.prog.globals.size := by kernel_rfl
theorem wit_shaped (os : Os) (args : Array Value) : ((World.laidAll Tryz.prog os laidL).forCall (fun _ _ => 0) ⟨#[], args, []⟩).Shaped Tryz.prog := World.shaped_of_ZipB (wit_zip os args) (wit_rest os args)
theorem wit_fits (os : Os) : (World.holding Tryz.prog os ⟨#[], #[], []⟩).layFits Tryz.prog laidL [] = true := by kernel_rfl
theorem wit_ifaces (os : Os) : (World.holding Tryz.prog os ⟨#[], #[], []⟩).layIfaces Tryz.prog laidL (World.laidAll Tryz.prog os laidL) = true := by kernel_rfl
theorem wit_laid (os : Os) (args : Array Value) : laidMetH Tryz.prog laidL ((World.laidAll Tryz.prog os laidL).forCall (fun _ _ => 0) ⟨#[], args, []⟩).memory := by
  rw [MakeChecks.laidMetH_plain _ _ _ (by kernel_rfl)]
  exact laidMet_laidAll _ (wit_fits os) (wit_ifaces os)
end Go.Proofs.YtcmjaaigkbjpaaaGreatDoor.Lia
