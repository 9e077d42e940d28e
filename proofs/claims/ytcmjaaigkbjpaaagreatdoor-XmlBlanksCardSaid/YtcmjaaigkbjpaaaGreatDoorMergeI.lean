/- Own texts, merged for the hand-in. -/
import Derived.Test.YtcmjaaigkbjpaaaGreatDoorProg
import Derived.Test.YtcmjaaigkbjpaaaGreatDoorMergeA
import Derived.WalkKit
import Derived.KernelRfl
import Derived.LaidEql
import Derived.Stop.Asserts
import Derived.RowKitTokens
import Derived.ShapedOpen
import Derived.Lib.LaidU8
import Derived.Lib.Hide
import Derived.WalkSpells
import Derived.WalkLawsBesides
import Derived.OneCell

/- errors.Is at the program's own errors (turned from the guide's worked Sentry). -/
namespace Go.Proofs.YtcmjaaigkbjpaaaGreatDoor.Lia
open Go.RowKit Go.Extern.Stop Go.Stop Go.Extern

/-- The model's own row of (reflectlite.rtype).Comparable. -/
def comparableRow : Array Value → Sem Value := Extern.ReflectliteType.method fun t => do Extern.Rtype.noPackHeld "Comparable" t; pure (.bool (← typeInfo t).comparable)
theorem isTypeOf (v : Value) (w : World) : (Extern.ReflectliteType.typeOf #[.iface 337 v]).run Tryz.prog w = .ok (.iface 261 (.agg #[.pointer (some ⟨24, 337, none⟩)])) w := by kernel_rfl
theorem isComparable (w : World) : (comparableRow #[.agg #[.pointer (some ⟨24, 337, none⟩)]]).run Tryz.prog w = .ok (.bool true) w := by kernel_rfl
theorem isMethodComparable (v : Value) (w : World) : (Go.method 470 261 v "Comparable").run Tryz.prog w = .ok (318, v) w := by kernel_rfl
theorem isComp : (Tryz.prog.info? 337).map (·.comparable) = some true := by kernel_rfl
theorem isSize : (Tryz.prog.info? 359).map (·.size) = some 1 := by kernel_rfl
theorem noIsE (v : Value) (xT : TypeId) (w : World) : (Instr.typeAssert (.iface 337 v) xT 263 true).run Tryz.prog w = .ok (.tuple #[.nilIface, .bool false]) w := run_typeAssert_lacksB Tryz.underlying263 (by kernel_rfl) (by kernel_rfl) v xT w
theorem noUnwrapE (v : Value) (xT : TypeId) (w : World) : (Instr.typeAssert (.iface 337 v) xT 265 true).run Tryz.prog w = .ok (.tuple #[.nilIface, .bool false]) w := run_typeAssert_lacksB Tryz.underlying265 (by kernel_rfl) (by kernel_rfl) v xT w
theorem noUnwrapsE (v : Value) (xT : TypeId) (w : World) : (Instr.typeAssert (.iface 337 v) xT 267 true).run Tryz.prog w = .ok (.tuple #[.nilIface, .bool false]) w := run_typeAssert_lacksB Tryz.underlying267 (by kernel_rfl) (by kernel_rfl) v xT w
theorem isError (v : Value) (xT : TypeId) (w : World) : (Instr.typeAssert (.iface 337 v) xT 37 true).run Tryz.prog w = .ok (.tuple #[.iface 337 v, .bool true]) w := run_typeAssert_hasB Tryz.underlying37 (by kernel_rfl) v xT w

set_option maxRecDepth 100000 in
theorem is_same (a : Addr) (w : World) :
    Calls Tryz.prog 63 #[.iface 337 (.pointer (some a)), .iface 337 (.pointer (some a))] w fun e w' => e = .returned (.bool true) ∧ w' = w := by
  obtain ⟨i, hi, hcmp⟩ := Option.map_eq_some_iff.1 isComp
  obtain ⟨j, hj, hjs⟩ := Option.map_eq_some_iff.1 isSize
  have h8 := @run_callFunc_extern Tryz.prog 127 _ Extern.ReflectliteType.typeOf Tryz.func127 (by kernel_rfl) (by kernel_rfl) (by kernel_rfl) (by kernel_rfl)
  have h32 := @run_callFunc_extern Tryz.prog 318 _ comparableRow Tryz.func318 (by kernel_rfl) (by kernel_rfl) (by kernel_rfl) (by kernel_rfl)
  have tT := isTypeOf
  have cT := isComparable
  have mR := isMethodComparable
  have heq := run_eql_iface_ptr_same (P := Tryz.prog) w a Tryz.underlying37 Tryz.underlying337 hi hcmp hj
  go_enter Tryz.func63, Tryz.ntmps63
  go_wp2
  refine wp_loop_rounds 1 ?_
  rw [rounds_succ]
  go_wp2
  go_ret
  exact ⟨rfl, rfl⟩

set_option maxRecDepth 100000 in
theorem is_other (a b : Addr) (ca cb : Array Value) (ta tb : TypeId) (w : World) (hne : a ≠ b) (ha : w.heap[a.block]? = some (.cells ca ta (0, 0))) (hb : w.heap[b.block]? = some (.cells cb tb (0, 0))) :
    Calls Tryz.prog 63 #[.iface 337 (.pointer (some a)), .iface 337 (.pointer (some b))] w fun e w' => e = .returned (.bool false) ∧ w' = w := by
  obtain ⟨i, hi, hcmp⟩ := Option.map_eq_some_iff.1 isComp
  obtain ⟨j, hj, hjs⟩ := Option.map_eq_some_iff.1 isSize
  have h8 := @run_callFunc_extern Tryz.prog 127 _ Extern.ReflectliteType.typeOf Tryz.func127 (by kernel_rfl) (by kernel_rfl) (by kernel_rfl) (by kernel_rfl)
  have h32 := @run_callFunc_extern Tryz.prog 318 _ comparableRow Tryz.func318 (by kernel_rfl) (by kernel_rfl) (by kernel_rfl) (by kernel_rfl)
  have tT := isTypeOf
  have cT := isComparable
  have mR := isMethodComparable
  have nE := noIsE
  have uE := noUnwrapE
  have vE := noUnwrapsE
  have heq := run_eql_iface_ptr_other (P := Tryz.prog) w Tryz.underlying37 Tryz.underlying337 hi hcmp hj (by rw [hjs]; decide) hne ha hb
  go_enter Tryz.func63, Tryz.ntmps63
  go_wp2
  refine wp_loop_rounds 1 ?_
  rw [rounds_succ]
  go_wp2
  go_ret
  exact ⟨rfl, rfl⟩

end Go.Proofs.YtcmjaaigkbjpaaaGreatDoor.Lia

/- The base of the walks: what a world holds at a call (Env); words on worlds. -/
namespace Go.Proofs.YtcmjaaigkbjpaaaGreatDoor.Lia
open Go.RowKit Go.Extern.Stop Go.Stop Go.Extern

/-- The k-th of package api's errors, at eb k. -/
def errV (eb : Nat → Addr) (k : Nat) : Value := .iface 337 (.pointer (some (eb k)))
/-- What a world holds at every call: package api's errors, each at its own place; the library's tables; all of it below n0. -/
structure Env (eb : Nat → Addr) (n0 : Nat) (w : World) : Prop where
  lt : 24 ≤ n0
  top : n0 ≤ w.heap.size
  ebLt : ∀ k, k < 14 → (eb k).block < n0
  err : ∀ k, k < 14 → w.cell? ⟨k, 0, none⟩ = some (errV eb k)
  row : ∀ k, k < 14 → ∃ c t, w.heap[(eb k).block]? = some (.cells c t (0, 0))
  inj : ∀ i j, i < 14 → j < 14 → eb i = eb j → i = j
  maxLen : ∃ m, w.cell? ⟨20, 0, none⟩ = some (.int .i64 m)
  tabs : Lib.Utf8Tabs 14 15 w
  pow : ∀ i, i < 20 → w.cell? ⟨21, i, none⟩ = some (.int .u64 (10 ^ i))

theorem Env.keep {eb : Nat → Addr} {n0 : Nat} {w w' : World} (h : Env eb n0 w) (hb : Below n0 w w') : Env eb n0 w' := by
  have h24 := h.lt
  have hc : ∀ (p : Addr) v, p.block < n0 → w.cell? p = some v → w'.cell? p = some v := fun p v hp hv => (hb.cell hp).trans hv
  refine ⟨h.lt, Nat.le_trans h.top hb.size, h.ebLt, fun k hk => hc ⟨k, 0, none⟩ _ (by show k < n0; omega) (h.err k hk), fun k hk => ?_, h.inj, ?_, ?_, fun i hi => hc ⟨21, i, none⟩ _ (by show 21 < n0; omega) (h.pow i hi)⟩
  · obtain ⟨c, t, he⟩ := h.row k hk
    exact ⟨c, t, (hb.block _ (h.ebLt k hk)).trans he⟩
  · obtain ⟨m, hm⟩ := h.maxLen
    exact ⟨m, hc ⟨20, 0, none⟩ _ (by show 20 < n0; omega) hm⟩
  · exact ⟨fun c hcc => hc ⟨14, c, none⟩ _ (by show 14 < n0; omega) (h.tabs.1 c hcc), fun i hi => ⟨hc ⟨15, 2 * i, none⟩ _ (by show 15 < n0; omega) (h.tabs.2 i hi).1, hc ⟨15, 2 * i + 1, none⟩ _ (by show 15 < n0; omega) (h.tabs.2 i hi).2⟩⟩
theorem Env.below {eb : Nat → Addr} {n0 : Nat} {w w' : World} (h : Env eb n0 w) (hb : Below w.heap.size w w') : Env eb n0 w' := h.keep (hb.mono h.top)
theorem Env.grown {eb : Nat → Addr} {n0 : Nat} {w w' : World} {b : Nat} (h : Env eb n0 w) (hg : w.grownBy w' (some b)) (hb : n0 ≤ b) : Env eb n0 w' :=
  h.keep ((Below.refl n0 w).grown hg h.top (fun k e => by cases e; exact hb))
theorem Env.alloc {eb : Nat → Addr} {n0 : Nat} {w : World} (h : Env eb n0 w) (o : Obj) : Env eb n0 (w.alloc o) := h.keep ((Below.refl n0 w).alloc h.top o)
theorem Env.drewN {eb : Nat → Addr} {n0 : Nat} {w : World} (h : Env eb n0 w) (k : Nat) : Env eb n0 (w.drewN k) := h.keep ⟨rfl, rfl, rfl, Nat.le_refl _, fun _ _ => rfl⟩
theorem Env.drew {eb : Nat → Addr} {n0 : Nat} {w : World} (h : Env eb n0 w) : Env eb n0 w.drew := h.drewN 1
theorem Env.setCell {eb : Nat → Addr} {n0 : Nat} {w : World} (h : Env eb n0 w) {p : Addr} (hp : n0 ≤ p.block) (v : Value) : Env eb n0 (w.setCell p v) := h.keep ((Below.refl n0 w).setCell hp v)

/-- The number of a plain error. -/
def Err.num : Err → Nat | .long => 2 | .form => 3 | .depth => 10
theorem Err.num_lt (e : Err) : e.num < 14 := by cases e <;> decide
/-- The chain of a panic with this error. -/
def badC (eb : Nat → Addr) (k : Err) : List PanicEntry := [{ v := errV eb k.num, recovered := false }]

theorem fail_ok (w : World) : Calls Tryz.prog 88 #[.bool true] w fun e w' => e = .returned (.tuple #[]) ∧ w' = w := by
  go_enter Tryz.func88, Tryz.ntmps88
  go_wp2
  go_end0
  exact ⟨rfl, rfl⟩
theorem fail_bad {eb : Nat → Addr} {n0 : Nat} {w : World} (h : Env eb n0 w) : Calls Tryz.prog 88 #[.bool false] w fun e w' => e = .panicked (badC eb .form) ∧ w' = w := by
  have h3 : w.cell? ⟨3, 0, none⟩ = some (.iface 337 (.pointer (some (eb 3)))) := h.err 3 (by omega)
  clear h
  go_enter Tryz.func88, Tryz.ntmps88
  go_wp2
  exact ⟨rfl, rfl, rfl⟩

theorem ext_any (s : Str) (i j : Nat) : (⟨s.toArray⟩ : ByteArray).extract i j = ⟨((s.drop i).take (j - i)).toArray⟩ := by
  have h : ((⟨s.toArray⟩ : ByteArray).extract i j).data = ((s.drop i).take (j - i)).toArray := by
    rw [ByteArray.data_extract]
    simp [List.extract_eq_take_drop]
  cases hh : (⟨s.toArray⟩ : ByteArray).extract i j
  rw [hh] at h
  exact congrArg ByteArray.mk h
theorem ext_take (s : Str) (j : Nat) : (⟨s.toArray⟩ : ByteArray).extract 0 j = ⟨(s.take j).toArray⟩ := by rw [ext_any]; simp
theorem ext_drop (s : Str) (i : Nat) : (⟨s.toArray⟩ : ByteArray).extract i s.length = ⟨(s.drop i).toArray⟩ := by
  rw [ext_any, List.take_of_length_le (by simp)]

/-- How a call ends whose plain answer is r: as 'ok' says, or by the panic of r's error in a world of which 'bad' holds. -/
def Post {α : Type} (eb : Nat → Addr) (r : Res α) (ok : α → Ending → World → Prop) (bad : World → Prop) (e : Ending) (w : World) : Prop :=
  match r with
  | .ok x => ok x e w
  | .bad k => e = .panicked (badC eb k) ∧ bad w
section
variable {α : Type} {eb : Nat → Addr} {r : Res α} {ok : α → Ending → World → Prop} {bad : World → Prop} {f : Nat} {args : Array Value} {w : World}
theorem post_ok {x : α} (hr : r = .ok x) (h : Calls Tryz.prog f args w (Post eb r ok bad)) : Calls Tryz.prog f args w (ok x) := by
  subst hr; exact h
theorem post_bad {k : Err} (hr : r = .bad k) (h : Calls Tryz.prog f args w (Post eb r ok bad)) : Calls Tryz.prog f args w fun e w' => e = .panicked (badC eb k) ∧ bad w' := by
  subst hr; exact h
theorem post_mk_ok {x : α} (hr : r = .ok x) {e : Ending} (h : ok x e w) : Post eb r ok bad e w := by
  subst hr; exact h
theorem post_mk_bad {k : Err} (hr : r = .bad k) (w : World) (h : bad w) : Post eb r ok bad (.panicked (badC eb k)) w := by
  subst hr; exact ⟨rfl, h⟩
end

/-- The reader at block b: what is still to be read, and how deep it is. -/
def RB (b : Nat) (s : Str) (d : Int) (w : World) : Prop := w.heap[b]? = some (.cells #[.string ⟨s.toArray⟩, .int .i64 d] 166 (0, 0))
theorem RB.c0 {b : Nat} {s : Str} {d : Int} {w : World} (h : RB b s d w) : w.cell? ⟨b, 0, none⟩ = some (.string ⟨s.toArray⟩) := by
  unfold RB at h; simp [World.cell?, h]
theorem RB.c1 {b : Nat} {s : Str} {d : Int} {w : World} (h : RB b s d w) : w.cell? ⟨b, 1, none⟩ = some (.int .i64 d) := by
  unfold RB at h; simp [World.cell?, h]
theorem RB.f {b : Nat} {s : Str} {d : Int} {w : World} (h : RB b s d w) (i : Nat) : w.frozen? ⟨b, i, none⟩ = false := by
  unfold RB at h; simp [World.frozen?, h]
theorem RB.lt {b : Nat} {s : Str} {d : Int} {w : World} (h : RB b s d w) : b < w.heap.size := (Array.getElem?_eq_some_iff.1 h).1
theorem RB.of {b : Nat} {s : Str} {d : Int} {w w' : World} (h : RB b s d w) (hk : w'.heap[b]? = w.heap[b]?) : RB b s d w' := hk.trans h
theorem RB.below {b : Nat} {s : Str} {d : Int} {w w' : World} (h : RB b s d w) (hb : Below w.heap.size w w') : RB b s d w' := h.of (hb.block b h.lt)
theorem RB.set0 {b : Nat} {s : Str} {d : Int} {w : World} (h : RB b s d w) (t : Str) : RB b t d (w.setCell ⟨b, 0, none⟩ (.string ⟨t.toArray⟩)) := by
  have := h.lt
  unfold RB at h ⊢
  simp [World.setCell, Array.getElem?_modify, h]
theorem RB.set1 {b : Nat} {s : Str} {d : Int} {w : World} (h : RB b s d w) (k : Int) : RB b s k (w.setCell ⟨b, 1, none⟩ (.int .i64 k)) := by
  have := h.lt
  unfold RB at h ⊢
  simp [World.setCell, Array.getElem?_modify, h]
theorem grown_refl (w : World) (r : Option Nat) : w.grownBy w r := ⟨rfl, rfl, rfl, Nat.le_refl _, fun _ _ _ => rfl⟩
theorem grown_of_below {w w1 : World} (h : Below w.heap.size w w1) (row : Option Nat) : w.grownBy w1 row := ⟨h.os, h.tape, h.output, h.size, fun i hi _ => h.block i hi⟩
theorem grown_set (w : World) (p : Addr) (v : Value) : w.grownBy (w.setCell p v) (some p.block) := by
  have hb := (Below.refl w.heap.size w)
  refine ⟨rfl, rfl, rfl, by simp [World.setCell], fun i hi hne => Below.heap_setCell w p v i (fun e => hne (by rw [e]))⟩
theorem g_below {w w1 w2 : World} {r : Option Nat} (h : w.grownBy w1 r) (hb : Below w1.heap.size w1 w2) : w.grownBy w2 r := h.trans (grown_of_below hb r)
theorem g_set {w w1 : World} {b i : Nat} (h : w.grownBy w1 (some b)) (v : Value) : w.grownBy (w1.setCell ⟨b, i, none⟩ v) (some b) := h.trans (grown_set w1 ⟨b, i, none⟩ v)
theorem g_drewN {w w1 : World} {r : Option Nat} (h : w.grownBy w1 r) (n : Nat) : w.grownBy (w1.drewN n) r := h.trans ⟨rfl, rfl, rfl, Nat.le_refl _, fun _ _ _ => rfl⟩
theorem g_drew {w w1 : World} {r : Option Nat} (h : w.grownBy w1 r) : w.grownBy w1.drew r := g_drewN h 1
theorem g_alloc {w w1 : World} {r : Option Nat} (h : w.grownBy w1 r) (o : Obj) : w.grownBy (w1.alloc o) r := h.trans (grown_of_below ((Below.refl _ w1).alloc (Nat.le_refl _) o) r)
theorem RB.drewN {b : Nat} {s : Str} {d : Int} {w : World} (h : RB b s d w) (n : Nat) : RB b s d (w.drewN n) := h
theorem RB.drew {b : Nat} {s : Str} {d : Int} {w : World} (h : RB b s d w) : RB b s d w.drew := h
theorem RB.alloc {b : Nat} {s : Str} {d : Int} {w : World} (h : RB b s d w) (o : Obj) : RB b s d (w.alloc o) := h.of (Below.heap_alloc w o b h.lt)
theorem g_setNew {w w1 : World} {r : Option Nat} {k i : Nat} (h : w.grownBy w1 r) (hk : w.heap.size ≤ k) (v : Value) : w.grownBy (w1.setCell ⟨k, i, none⟩ v) r :=
  ⟨h.os, h.tape, h.output, Nat.le_trans h.size (by simp [World.setCell]), fun j hj hr => (Below.heap_setCell w1 ⟨k, i, none⟩ v j (by show j ≠ k; omega)).trans (h.block j hj hr)⟩
/-- The reader at block b, in a good world. -/
structure RS (eb : Nat → Addr) (n0 b : Nat) (s : Str) (d : Int) (w : World) : Prop where
  env : Env eb n0 w
  rb : RB b s d w
  own : n0 ≤ b
  len : s.length < 4294967281
section
variable {eb : Nat → Addr} {n0 b : Nat} {s : Str} {d : Int} {w : World}
theorem RS.alloc (h : RS eb n0 b s d w) (o : Obj) : RS eb n0 b s d (w.alloc o) := ⟨h.env.alloc o, h.rb.alloc o, h.own, h.len⟩
theorem RS.below {w' : World} (h : RS eb n0 b s d w) (hb : Below w.heap.size w w') : RS eb n0 b s d w' := ⟨h.env.below hb, h.rb.below hb, h.own, h.len⟩
theorem RS.drewN (h : RS eb n0 b s d w) (n : Nat) : RS eb n0 b s d (w.drewN n) := ⟨h.env.drewN n, h.rb.drewN n, h.own, h.len⟩
theorem RS.set0 (h : RS eb n0 b s d w) (t : Str) (ht : t.length ≤ s.length) : RS eb n0 b t d (w.setCell ⟨b, 0, none⟩ (.string ⟨t.toArray⟩)) := ⟨h.env.setCell h.own _, h.rb.set0 t, h.own, by have := h.len; omega⟩
theorem RS.set1 (h : RS eb n0 b s d w) (k : Int) : RS eb n0 b s k (w.setCell ⟨b, 1, none⟩ (.int .i64 k)) := ⟨h.env.setCell h.own _, h.rb.set1 k, h.own, h.len⟩
theorem RS.far {p : Addr} (h : RS eb n0 b s d w) (hp : p.block ≠ b) (hn : n0 ≤ p.block) (v : Value) : RS eb n0 b s d (w.setCell p v) := ⟨h.env.setCell hn _, h.rb.of (Below.heap_setCell w p v b (Ne.symm hp)), h.own, h.len⟩
/-- What a panic leaves of a reader's world. -/
def BadR (eb : Nat → Addr) (n0 b : Nat) (w w' : World) : Prop := w.grownBy w' (some b) ∧ ∃ s d, RS eb n0 b s d w'
theorem BadR.of {W w' : World} (h : BadR eb n0 b W w') (hg : w.grownBy W (some b)) : BadR eb n0 b w w' := ⟨hg.trans h.1, h.2⟩
end
end Go.Proofs.YtcmjaaigkbjpaaaGreatDoor.Lia
