/- Own texts, merged for the hand-in. -/
import Derived.Lib.ValidLaws
import Derived.Lib.RuneBytes
import Derived.Lib.DecodeNEq
import Derived.Lib.MapLaws
import Derived.Lib.TrimUEq

/- The plain functions of layer 23: what the program's functions compute, on lists of bytes. No program in sight. -/
namespace Go.Proofs.YtcmjaaigkbjpaaaGreatDoor.Lia
open Go.Lib

abbrev Str := List UInt8

inductive Err where
  | form | long | depth
  deriving DecidableEq

inductive Res (α : Type) where
  | ok (x : α)
  | bad (e : Err)

def Res.bind {α β : Type} : Res α → (α → Res β) → Res β
  | .ok x, f => f x
  | .bad e, _ => .bad e

def isLetter (c : UInt8) : Bool := (97 ≤ c && c ≤ 122) || (65 ≤ c && c ≤ 90) || c == 95
def isSign (c : UInt8) : Bool := isLetter c || (48 ≤ c && c ≤ 57) || c == 45 || c == 46

def part : Str → Bool
  | [] => false
  | c :: t => decide (t.length < 64) && isLetter c && (c :: t).all isSign

/-- What is ahead of the first c, and what is behind it, if there is one. -/
def cutAt (c : UInt8) : Str → Str × Option Str
  | [] => ([], none)
  | x :: t => if x = c then ([], some t) else ((x :: (cutAt c t).1), (cutAt c t).2)

def name (s : Str) : Bool :=
  part (cutAt 58 s).1 && (match (cutAt 58 s).2 with | none => true | some b => part b)

def may (r : Nat) : Bool :=
  if r < 32 then r == 9 || r == 10 || r == 13
  else if r = 65534 ∨ r = 65535 then false
  else decide (r < 55296) || (decide (57344 ≤ r) && decide (r ≤ 1114111))

/-- All signs of a text may stand there: by rounds. -/
def allMay : Nat → Str → Bool
  | 0, _ => true
  | n + 1, l => if l = [] then true else may (decodeL l).1 && allMay n (l.drop (decodeL l).2)

def signs (l : Str) : Bool := validD l && allMay l.length l

def amp : Str := [38, 97, 109, 112, 59]
def lt : Str := [38, 108, 116, 59]
def gt : Str := [38, 103, 116, 59]
def cr : Str := [38, 35, 49, 51, 59]
def quot : Str := [38, 113, 117, 111, 116, 59]
def tab : Str := [38, 35, 57, 59]
def nl : Str := [38, 35, 49, 48, 59]

def escaped (r : Nat) (value : Bool) : Option Str :=
  if r = 60 then some lt
  else if r = 62 then some gt
  else if r = 38 then some amp
  else if r = 13 then some cr
  else if value = false then none
  else if r = 34 then some quot
  else if r = 9 then some tab
  else if r = 10 then some nl
  else none

/-- One sign as it is written. -/
def escOne (value : Bool) (r size : Nat) : Str :=
  if (r = 65533 ∧ size = 1) ∨ may r = false then []
  else match escaped r value with
    | some t => t
    | none => encodeRune r

def escapeN (value : Bool) : Nat → Str → Str
  | 0, _ => []
  | n + 1, l => if l = [] then [] else escOne value (decodeL l).1 (decodeL l).2 ++ escapeN value n (l.drop (decodeL l).2)

def escape (l : Str) (value : Bool) : Str := escapeN value l.length l

inductive Elem where
  | mk (name : Str) (attrs : List (Str × Str)) (kids : List Elem) (text : Str)

namespace Elem
def name : Elem → Str | mk n _ _ _ => n
def attrs : Elem → List (Str × Str) | mk _ a _ _ => a
def kids : Elem → List Elem | mk _ _ k _ => k
def text : Elem → Str | mk _ _ _ t => t
end Elem

def none_ : Elem := .mk [] [] [] []

/-! reading -/
def isBlank (c : UInt8) : Bool := c == 32 || c == 9 || c == 10 || c == 13
def cut (p s : Str) : Res Str := if p.isPrefixOf s then .ok (s.drop p.length) else .bad .form
def blank (s : Str) : Nat × Str := ((s.takeWhile isBlank).length, s.dropWhile isBlank)
/-- All ahead of the first byte that is one of some. -/
def upTo (some_ : Str) (s : Str) : Res (Str × Str) :=
  match s.dropWhile (fun c => !some_.contains c) with
  | [] => .bad .form
  | c :: t => .ok (s.takeWhile (fun c => !some_.contains c), c :: t)
def rname (s : Str) : Res (Str × Str) :=
  if name (s.takeWhile fun c => isSign c || c == 58) then .ok (s.takeWhile fun c => isSign c || c == 58, s.dropWhile fun c => isSign c || c == 58) else .bad .form

def named (s : Str) : Option Str :=
  if s = [108, 116] then some [60]
  else if s = [103, 116] then some [62]
  else if s = [97, 109, 112] then some [38]
  else if s = [113, 117, 111, 116] then some [34]
  else if s = [97, 112, 111, 115] then some [39]
  else none

/-- A digit's value; 99: it is none. -/
def digit (c : UInt8) : Nat :=
  if 48 ≤ c ∧ c ≤ 57 then c.toNat - 48
  else if 97 ≤ c ∧ c ≤ 102 then c.toNat - 87
  else if 65 ≤ c ∧ c ≤ 70 then c.toNat - 55
  else 99

def number (base : Nat) : Nat → Str → Option Nat
  | n, [] => some n
  | n, c :: t => if digit c < base then number base (n * base + digit c) t else none

def reference (s : Str) : Res Str :=
  match named s with
  | some t => .ok t
  | none => match s with
    | 35 :: t =>
      let (base, d) : Nat × Str := match t with | 120 :: u => (16, u) | _ => (10, t)
      if d = [] ∨ 8 < d.length then .bad .form
      else match number base 0 d with
        | none => .bad .form
        | some n => if may n then .ok (encodeRune n) else .bad .form
    | _ => .bad .form

/-- The signs behind references, by rounds. -/
def textN : Nat → Str → Res Str
  | 0, _ => .ok []
  | n + 1, s => match cutAt 38 s with
    | (a, none) => .ok a
    | (a, some b) => match cutAt 59 b with
      | (_, none) => .bad .form
      | (nm, some rest) => (reference nm).bind fun t => (textN n rest).bind fun u => .ok (a ++ t ++ u)

def text (s : Str) : Res Str := if signs s then textN (s.length + 1) s else .bad .form

def attr (s : Str) : Res ((Str × Str) × Str) :=
  (rname s).bind fun (n, s) =>
  (cut [61] (blank s).2).bind fun s =>
  match (blank s).2 with
  | [] => .bad .form
  | m :: s => if m = 34 ∨ m = 39 then
      (upTo [m, 60] s).bind fun (v, s) =>
      (cut [m] s).bind fun s =>
      (text v).bind fun v => .ok ((n, v), s)
    else .bad .form

def attrsN : Nat → List (Str × Str) → Str → Res (List (Str × Str) × Str)
  | 0, out, s => .ok (out, s)
  | n + 1, out, s => match blank s with
    | (0, s) => .ok (out, s)
    | (_ + 1, []) => .ok (out, [])
    | (_ + 1, c :: t) => if c = 47 ∨ c = 62 then .ok (out, c :: t)
      else (attr (c :: t)).bind fun (a, s) =>
        if out.length < 12 ∧ (out.any fun b => b.1 == a.1) = false then attrsN n (out ++ [a]) s else .bad .form

def contentN (el : Str → Res (Elem × Str)) : Nat → Str → Res (List Elem × Str)
  | 0, s => .ok ([], s)
  | n + 1, s =>
    if [60, 47].isPrefixOf s then .ok ([], s)
    else (upTo [60] s).bind fun (t, s) =>
      if t = [] then (el s).bind fun (e, s) => (contentN el n s).bind fun (k, s) => .ok (e :: k, s)
      else (text t).bind fun t => (contentN el n s).bind fun (k, s) => .ok (.mk [] [] [] t :: k, s)

/-- An element, so many of which may stand in each other. -/
def element : Nat → Str → Res (Elem × Str)
  | d, s =>
    (cut [60] s).bind fun s =>
    (rname s).bind fun (n, s) =>
    match d with
    | 0 => .bad .depth
    | d + 1 =>
      (attrsN (s.length + 1) [] s).bind fun (as, s) =>
      if [47].isPrefixOf s then (cut [47, 62] s).bind fun s => .ok (.mk n as [] [], s)
      else (cut [62] s).bind fun s =>
        (contentN (element d) (s.length + 1) s).bind fun (ks, s) =>
        (cut [60, 47] s).bind fun s =>
        (rname s).bind fun (m, s) =>
        if m = n then (cut [62] (blank s).2).bind fun s => .ok (.mk n as ks [], s) else .bad .form

def parse (s : Str) : Res Elem :=
  if 20000 < s.length then .bad .long
  else (element 12 s).bind fun (e, s) => if s = [] then .ok e else .bad .form

/-! writing -/
def attrsRight : List (Str × Str) → List (Str × Str) → Bool
  | _, [] => true
  | ahead, a :: t => name a.1 && signs a.2 && !(ahead.any fun b => b.1 == a.1) && attrsRight (ahead ++ [a]) t

mutual
/-- Right, so many of which may stand in each other. -/
def right : Nat → Elem → Bool
  | 0, _ => false
  | d + 1, .mk n as ks t => Lia.name n && t == [] && (attrsRight [] as && decide (as.length ≤ 12)) && rightKids d false ks
def rightKids : Nat → Bool → List Elem → Bool
  | _, _, [] => true
  | d, beside, k :: t =>
    (if k.name ≠ [] then right d k else !(k.text == [] || beside || !k.attrs.isEmpty || !k.kids.isEmpty || !signs k.text)) && rightKids d (k.name == []) t
end

def writeAttrs : List (Str × Str) → Str
  | [] => []
  | (n, v) :: t => [32] ++ n ++ [61, 34] ++ escape v true ++ [34] ++ writeAttrs t

mutual
def write : Elem → Str
  | .mk n as ks t =>
    if n = [] then escape t false
    else [60] ++ n ++ writeAttrs as ++ (if ks.isEmpty then [47, 62] else [62] ++ writes ks ++ [60, 47] ++ n ++ [62])
def writes : List Elem → Str
  | [] => []
  | k :: t => write k ++ writes t
end

def toText (e : Elem) : Res Str :=
  if right 12 e then (if (write e).length ≤ 20000 then .ok (write e) else .bad .long) else .bad .form

end Go.Proofs.YtcmjaaigkbjpaaaGreatDoor.Lia

/- Plain laws of layer 23: signs and escapes: what is escaped is read as it was. No program in sight. -/
namespace Go.Proofs.YtcmjaaigkbjpaaaGreatDoor.Lia
open Go.Lib

theorem may_iff (r : Nat) : may r = true ↔ (r = 9 ∨ r = 10 ∨ r = 13 ∨ (32 ≤ r ∧ r ≠ 65534 ∧ r ≠ 65535 ∧ (r < 55296 ∨ (57344 ≤ r ∧ r ≤ 1114111)))) := by
  unfold may
  by_cases h : r < 32
  · rw [if_pos h]
    simp only [Bool.or_eq_true, beq_iff_eq]
    omega
  · rw [if_neg h]
    by_cases h2 : r = 65534 ∨ r = 65535
    · rw [if_pos h2]
      simp only [Bool.false_eq_true, false_iff]
      omega
    · rw [if_neg h2]
      simp only [Bool.or_eq_true, Bool.and_eq_true, decide_eq_true_eq]
      omega
theorem enc1 (r : Nat) (h : r ≤ 127) : ∃ a : UInt8, encodeRune r = [a] ∧ a.toNat = r := by
  refine ⟨_, by unfold encodeRune; rw [encodeRuneZ_one (by omega) (by omega)]; rfl, ?_⟩
  simp
  omega
theorem enc2 (r : Nat) (h0 : 128 ≤ r) (h1 : r ≤ 2047) : ∃ a b : UInt8, encodeRune r = [a, b] ∧ a.toNat = 192 + r / 64 ∧ b.toNat = 128 + r % 64 := by
  refine ⟨_, _, by unfold encodeRune; rw [encodeRuneZ_two (by omega) (by omega)]; rfl, ?_, ?_⟩ <;> simp <;> omega
theorem enc3 (r : Nat) (h : (2048 ≤ r ∧ r < 55296) ∨ (57343 < r ∧ r ≤ 65535)) : ∃ a b c : UInt8, encodeRune r = [a, b, c] ∧ a.toNat = 224 + r / 4096 ∧ b.toNat = 128 + r / 64 % 64 ∧ c.toNat = 128 + r % 64 := by
  refine ⟨_, _, _, by unfold encodeRune; rw [encodeRuneZ_three (by omega)]; rfl, ?_, ?_, ?_⟩ <;> simp <;> omega
theorem enc4 (r : Nat) (h0 : 65536 ≤ r) (h1 : r ≤ 1114111) : ∃ a b c d : UInt8, encodeRune r = [a, b, c, d] ∧ a.toNat = 240 + r / 262144 ∧ b.toNat = 128 + r / 4096 % 64 ∧ c.toNat = 128 + r / 64 % 64 ∧ d.toNat = 128 + r % 64 := by
  refine ⟨_, _, _, _, by unfold encodeRune; rw [encodeRuneZ_four (by omega) (by omega)]; rfl, ?_, ?_, ?_, ?_⟩ <;> simp <;> omega
theorem dec_enc (r : Nat) (t : Str) (h : r < 55296 ∨ (57344 ≤ r ∧ r ≤ 1114111)) : decodeL (encodeRune r ++ t) = (r, (encodeRune r).length) := by
  by_cases h1 : r ≤ 127
  · obtain ⟨a, e, ha⟩ := enc1 r h1
    rw [e]
    have := decodeL_ascii a t (by omega)
    rw [ha] at this
    exact this
  by_cases h2 : r ≤ 2047
  · obtain ⟨a, b, e, ha, hb⟩ := enc2 r (by omega) h2
    rw [e, decodeL_N]
    simp only [List.cons_append, List.nil_append, List.getD_cons_zero, List.getD_cons_succ, ha, hb, List.length_cons, List.length_nil]
    unfold decodeN
    rw [if_neg (by omega), if_pos (by omega), if_pos (by omega)]
    refine Prod.ext ?_ rfl
    show _ = r
    omega
  by_cases h3 : r ≤ 65535
  · obtain ⟨a, b, c, e, ha, hb, hc⟩ := enc3 r (by omega)
    rw [e, decodeL_N]
    simp only [List.cons_append, List.nil_append, List.getD_cons_zero, List.getD_cons_succ, ha, hb, hc, List.length_cons, List.length_nil]
    unfold decodeN
    rw [if_neg (by omega), if_neg (by omega), if_pos (by omega), if_pos (by omega)]
    refine Prod.ext ?_ rfl
    show _ = r
    omega
  · obtain ⟨a, b, c, d, e, ha, hb, hc, hd⟩ := enc4 r (by omega) (by omega)
    rw [e, decodeL_N]
    simp only [List.cons_append, List.nil_append, List.getD_cons_zero, List.getD_cons_succ, ha, hb, hc, hd, List.length_cons, List.length_nil]
    unfold decodeN
    rw [if_neg (by omega), if_neg (by omega), if_neg (by omega), if_pos (by omega), if_pos (by omega)]
    refine Prod.ext ?_ rfl
    show _ = r
    omega
/-- A sign's bytes: the sign itself below 128, or all of them from 128 on. -/
theorem enc_cases (r : Nat) (h : r < 55296 ∨ (57344 ≤ r ∧ r ≤ 1114111)) : (r ≤ 127 ∧ ∃ a : UInt8, encodeRune r = [a] ∧ a.toNat = r) ∨ (128 ≤ r ∧ 2 ≤ (encodeRune r).length ∧ ∀ c ∈ encodeRune r, 128 ≤ c.toNat) := by
  by_cases h1 : r ≤ 127
  · exact .inl ⟨h1, enc1 r h1⟩
  refine .inr ⟨by omega, ?_⟩
  by_cases h2 : r ≤ 2047
  · obtain ⟨a, b, e, ha, hb⟩ := enc2 r (by omega) h2
    rw [e]
    simp
    omega
  by_cases h3 : r ≤ 65535
  · obtain ⟨a, b, c, e, ha, hb, hc⟩ := enc3 r (by omega)
    rw [e]
    simp
    omega
  · obtain ⟨a, b, c, d, e, ha, hb, hc, hd⟩ := enc4 r (by omega) (by omega)
    rw [e]
    simp
    omega
theorem may_ok {r : Nat} (h : may r = true) : r < 55296 ∨ (57344 ≤ r ∧ r ≤ 1114111) := by
  rw [may_iff] at h
  omega

/-- The signs of a text that may stand. -/
def runesN : Nat → Str → List Nat
  | 0, _ => []
  | n + 1, l => if l = [] then [] else (if ((decodeL l).1 = 65533 ∧ (decodeL l).2 = 1) ∨ may (decodeL l).1 = false then [] else [(decodeL l).1]) ++ runesN n (l.drop (decodeL l).2)
def runes (l : Str) : List Nat := runesN l.length l
def enc (rs : List Nat) : Str := rs.flatMap fun r : Nat => encodeRune (r : Int)
def esc1 (b : Bool) (r : Nat) : Str := match escaped r b with | some t => t | none => encodeRune r
theorem enc_cons (r : Nat) (rs : List Nat) : enc (r :: rs) = encodeRune r ++ enc rs := by simp [enc]
theorem enc_append (a b : List Nat) : enc (a ++ b) = enc a ++ enc b := by simp [enc]
theorem escapeN_runes (b : Bool) : ∀ n l, escapeN b n l = (runesN n l).flatMap (esc1 b)
  | 0, _ => rfl
  | n + 1, l => by
    unfold escapeN runesN
    by_cases h : l = []
    · rw [if_pos h, if_pos h]; rfl
    · rw [if_neg h, if_neg h, List.flatMap_append, escapeN_runes b n]
      congr 1
      unfold escOne
      by_cases h2 : ((decodeL l).1 = 65533 ∧ (decodeL l).2 = 1) ∨ may (decodeL l).1 = false
      · rw [if_pos h2, if_pos h2]; rfl
      · rw [if_neg h2, if_neg h2, List.flatMap_singleton]; rfl
theorem escape_runes (l : Str) (b : Bool) : escape l b = (runes l).flatMap (esc1 b) := escapeN_runes b _ l
theorem runesN_may : ∀ n l r, r ∈ runesN n l → may r = true
  | 0, _, _, h => by simp [runesN] at h
  | n + 1, l, r, h => by
    unfold runesN at h
    by_cases h1 : l = []
    · rw [if_pos h1] at h; simp at h
    · rw [if_neg h1] at h
      rcases List.mem_append.1 h with h | h
      · by_cases h2 : ((decodeL l).1 = 65533 ∧ (decodeL l).2 = 1) ∨ may (decodeL l).1 = false
        · rw [if_pos h2] at h; simp at h
        · rw [if_neg h2] at h
          simp only [List.mem_singleton] at h
          subst h
          simp only [not_or, Bool.not_eq_false] at h2
          exact h2.2
      · exact runesN_may n _ r h
theorem runes_may {l : Str} {r : Nat} (h : r ∈ runes l) : may r = true := runesN_may _ _ r h
theorem runesN_len : ∀ n l, (runesN n l).length ≤ n
  | 0, _ => by simp [runesN]
  | n + 1, l => by
    unfold runesN
    have := runesN_len n (l.drop (decodeL l).2)
    by_cases h1 : l = []
    · rw [if_pos h1]; simp
    · rw [if_neg h1, List.length_append]
      split <;> simp <;> omega
theorem runes_len (l : Str) : (runes l).length ≤ l.length := runesN_len _ l
theorem encN_signs : ∀ n l, l.length ≤ n → validD l = true → allMay n l = true → enc (runesN n l) = l
  | 0, l, h, _, _ => by
    have : l = [] := List.eq_nil_of_length_eq_zero (by omega)
    subst this; rfl
  | n + 1, l, h, hv, hm => by
    unfold runesN
    by_cases h1 : l = []
    · rw [if_pos h1, h1]; rfl
    · rw [if_neg h1]
      unfold allMay at hm
      rw [if_neg h1, Bool.and_eq_true] at hm
      rw [validD_step l h1] at hv
      by_cases h2 : (decodeL l).1 = 65533 ∧ (decodeL l).2 = 1
      · rw [if_pos h2] at hv; cases hv
      · rw [if_neg h2] at hv
        rw [if_neg (by rw [hm.1]; simp; simpa using h2)]
        have hw := decodeL_width l
        rw [List.singleton_append, enc_cons, encN_signs n _ (by rw [List.length_drop]; have : 0 < l.length := List.length_pos_iff.2 h1; omega) hv hm.2, encode_decode l h1 h2, List.take_append_drop]
theorem enc_runes {l : Str} (h : signs l = true) : enc (runes l) = l := by
  unfold signs at h
  rw [Bool.and_eq_true] at h
  exact encN_signs _ l (Nat.le_refl _) h.1 h.2
theorem not_bad (r : Nat) (h : r < 55296 ∨ (57344 ≤ r ∧ r ≤ 1114111)) : ¬ (r = 65533 ∧ (encodeRune r).length = 1) := by
  rintro ⟨h1, h2⟩
  rcases enc_cases r h with ⟨h3, _⟩ | ⟨_, h3, _⟩ <;> omega
theorem enc_ne (r : Nat) (t : Str) (h : r < 55296 ∨ (57344 ≤ r ∧ r ≤ 1114111)) : encodeRune r ++ t ≠ [] := by
  rcases enc_cases r h with ⟨_, a, e, _⟩ | ⟨_, h3, _⟩
  · rw [e]; simp
  · intro e
    have := congrArg List.length e
    rw [List.length_append, List.length_nil] at this
    omega
theorem enc_valid : ∀ rs : List Nat, (∀ r ∈ rs, may r = true) → validD (enc rs) = true
  | [], _ => rfl
  | r :: rs, h => by
    have hr := may_ok (h r (by simp))
    rw [enc_cons, validD_step _ (enc_ne r _ hr), dec_enc r _ hr, if_neg (not_bad r hr)]
    simp only [List.drop_left]
    exact enc_valid rs fun x hx => h x (by simp [hx])
theorem enc_may : ∀ (n : Nat) (rs : List Nat), (∀ r ∈ rs, may r = true) → allMay n (enc rs) = true
  | 0, _, _ => rfl
  | n + 1, [], _ => by simp [allMay, enc]
  | n + 1, r :: rs, h => by
    have hr := may_ok (h r (by simp))
    unfold allMay
    rw [enc_cons, if_neg (enc_ne r _ hr), dec_enc r _ hr]
    simp only [List.drop_left, h r (by simp), Bool.true_and]
    exact enc_may n rs fun x hx => h x (by simp [hx])
theorem signs_enc {rs : List Nat} (h : ∀ r ∈ rs, may r = true) : signs (enc rs) = true := by
  unfold signs
  rw [enc_valid rs h, enc_may _ rs h]; rfl
theorem runesN_enc : ∀ (n : Nat) (rs : List Nat), (∀ r ∈ rs, may r = true) → rs.length ≤ n → runesN n (enc rs) = rs
  | 0, rs, _, hn => by
    have : rs = [] := List.eq_nil_of_length_eq_zero (by omega)
    subst this; rfl
  | n + 1, [], _, _ => by simp [runesN, enc]
  | n + 1, r :: rs, h, hn => by
    have hr := may_ok (h r (by simp))
    unfold runesN
    rw [enc_cons, if_neg (enc_ne r _ hr), dec_enc r _ hr]
    simp only [List.drop_left]
    rw [if_neg (by rw [h r (by simp)]; simp only [Bool.true_eq_false, or_false]; exact not_bad r hr), runesN_enc n rs (fun x hx => h x (by simp [hx])) (by simp at hn; omega)]
    rfl
theorem enc_len : ∀ rs : List Nat, (∀ r ∈ rs, may r = true) → rs.length ≤ (enc rs).length
  | [], _ => by simp [enc]
  | r :: rs, h => by
    have hr := may_ok (h r (by simp))
    have := enc_len rs fun x hx => h x (by simp [hx])
    rw [enc_cons, List.length_append, List.length_cons]
    rcases enc_cases r hr with ⟨_, a, e, _⟩ | ⟨_, h3, _⟩
    · rw [e]; simp; omega
    · omega
theorem runes_enc {rs : List Nat} (h : ∀ r ∈ rs, may r = true) : runes (enc rs) = rs := runesN_enc _ rs h (enc_len rs h)

/-! reading references -/
theorem cutAt_ne {c x : UInt8} (t : Str) (h : x ≠ c) : cutAt c (x :: t) = (x :: (cutAt c t).1, (cutAt c t).2) := by simp [cutAt, h]
theorem cutAt_here (c : UInt8) (t : Str) : cutAt c (c :: t) = ([], some t) := by simp [cutAt]
theorem cutAt_app {c : UInt8} : ∀ {p : Str} (t : Str), c ∉ p → cutAt c (p ++ c :: t) = (p, some t)
  | [], t, _ => cutAt_here c t
  | x :: p, t, h => by
    rw [List.cons_append, cutAt_ne _ (by intro e; exact h (by simp [e])), cutAt_app t (by intro e; exact h (by simp [e]))]
theorem cutAt_is {c : UInt8} : ∀ {s a r : Str}, cutAt c s = (a, some r) → s = a ++ c :: r ∧ c ∉ a
  | [], a, r, h => by simp [cutAt] at h
  | x :: t, a, r, h => by
    by_cases e : x = c
    · subst e
      rw [cutAt_here] at h
      simp only [Prod.mk.injEq, Option.some.injEq] at h
      obtain ⟨rfl, rfl⟩ := h
      simp
    · rw [cutAt_ne t e] at h
      simp only [Prod.mk.injEq] at h
      obtain ⟨rfl, h2⟩ := h
      obtain ⟨h3, h4⟩ := cutAt_is (c := c) (s := t) (a := (cutAt c t).1) (r := r) (by rw [← h2])
      refine ⟨?_, ?_⟩
      · rw [List.cons_append, ← h3]
      · simp only [List.mem_cons, not_or]
        exact ⟨fun he => e he.symm, h4⟩
theorem cutAt_no {c : UInt8} : ∀ {s a : Str}, cutAt c s = (a, none) → s = a ∧ c ∉ a
  | [], a, h => by simp [cutAt] at h; simp [h]
  | x :: t, a, h => by
    by_cases e : x = c
    · subst e
      rw [cutAt_here] at h
      simp at h
    · rw [cutAt_ne t e] at h
      simp only [Prod.mk.injEq] at h
      obtain ⟨rfl, h2⟩ := h
      obtain ⟨h3, h4⟩ := cutAt_no (c := c) (s := t) (a := (cutAt c t).1) (by rw [← h2])
      refine ⟨by rw [← h3], ?_⟩
      simp only [List.mem_cons, not_or]
      exact ⟨fun he => e he.symm, h4⟩
theorem cutAt_lt {c : UInt8} {s a r : Str} (h : cutAt c s = (a, some r)) : r.length < s.length := by
  rw [(cutAt_is h).1]; simp; omega
theorem textN_fuel : ∀ n m s, s.length < n → s.length < m → textN n s = textN m s
  | 0, _, _, h, _ => by omega
  | _ + 1, 0, _, _, h => by omega
  | n + 1, m + 1, s, h1, h2 => by
    unfold textN
    rcases hc : cutAt 38 s with ⟨a, _ | b⟩
    · rfl
    · dsimp only
      have l1 := cutAt_lt hc
      rcases hd : cutAt 59 b with ⟨nm, _ | rest⟩
      · rfl
      · dsimp only
        have l2 := cutAt_lt hd
        rw [textN_fuel n m rest (by omega) (by omega)]
/-- A text behind its references. -/
def Tx (s : Str) : Res Str := textN (s.length + 1) s
theorem Tx_nil : Tx [] = .ok [] := rfl
theorem Tx_plain (c : UInt8) (s : Str) (h : c ≠ 38) : Tx (c :: s) = (Tx s).bind fun u => .ok (c :: u) := by
  have e1 : Tx s = textN (s.length + 1 + 1) s := textN_fuel _ _ s (by omega) (by omega)
  rw [e1]
  show textN (s.length + 1 + 1) (c :: s) = _
  generalize s.length + 1 = k
  unfold textN
  rw [cutAt_ne s h]
  rcases hc : cutAt 38 s with ⟨a, _ | b⟩
  · rfl
  · dsimp only
    rcases hd : cutAt 59 b with ⟨nm, _ | rest⟩
    · rfl
    · dsimp only
      cases reference nm with
      | bad e => rfl
      | ok t =>
        dsimp only [Res.bind]
        cases textN k rest <;> rfl
theorem Tx_plains : ∀ (p s : Str), (38 : UInt8) ∉ p → Tx (p ++ s) = (Tx s).bind fun u => .ok (p ++ u)
  | [], s, _ => by simp only [List.nil_append]; cases Tx s <;> rfl
  | c :: p, s, h => by
    rw [List.cons_append, Tx_plain c _ (by rintro rfl; exact h (by simp)), Tx_plains p s (by intro e; exact h (by simp [e]))]
    cases Tx s <;> rfl
theorem Tx_ref (nm t s : Str) (hn : (59 : UInt8) ∉ nm) (hr : reference nm = .ok t) : Tx (38 :: (nm ++ 59 :: s)) = (Tx s).bind fun u => .ok (t ++ u) := by
  have e1 : Tx s = textN ((38 :: (nm ++ 59 :: s)).length) s := textN_fuel _ _ s (by omega) (by simp; omega)
  rw [e1]
  unfold Tx
  generalize (38 :: (nm ++ 59 :: s)).length = k
  conv => lhs; unfold textN
  rw [cutAt_here]
  dsimp only
  rw [cutAt_app s hn]
  dsimp only
  rw [hr]
  rfl
theorem Tx_esc1 (b : Bool) (r : Nat) (s : Str) (h : may r = true) : Tx (esc1 b r ++ s) = (Tx s).bind fun u => .ok (encodeRune r ++ u) := by
  have hp : r ≠ 38 → Tx (encodeRune r ++ s) = (Tx s).bind fun u => .ok (encodeRune r ++ u) := by
    intro h38
    refine Tx_plains _ s ?_
    intro hm
    rcases enc_cases r (may_ok h) with ⟨_, a, e, ha⟩ | ⟨_, _, h3⟩
    · rw [e] at hm
      simp only [List.mem_singleton] at hm
      subst hm
      exact h38 ha.symm
    · have := h3 _ hm
      simp at this
  unfold esc1 escaped
  by_cases e1 : r = 60
  · subst e1; exact Tx_ref [108, 116] [60] s (by decide) rfl
  rw [if_neg e1]
  by_cases e2 : r = 62
  · subst e2; exact Tx_ref [103, 116] [62] s (by decide) rfl
  rw [if_neg e2]
  by_cases e3 : r = 38
  · subst e3; exact Tx_ref [97, 109, 112] [38] s (by decide) rfl
  rw [if_neg e3]
  by_cases e4 : r = 13
  · subst e4; exact Tx_ref [35, 49, 51] [13] s (by decide) rfl
  rw [if_neg e4]
  by_cases e5 : b = false
  · rw [if_pos e5]; exact hp e3
  rw [if_neg e5]
  by_cases e6 : r = 34
  · subst e6; exact Tx_ref [113, 117, 111, 116] [34] s (by decide) rfl
  rw [if_neg e6]
  by_cases e7 : r = 9
  · subst e7; exact Tx_ref [35, 57] [9] s (by decide) rfl
  rw [if_neg e7]
  by_cases e8 : r = 10
  · subst e8; exact Tx_ref [35, 49, 48] [10] s (by decide) rfl
  rw [if_neg e8]
  exact hp e3
theorem Tx_escs (b : Bool) : ∀ rs : List Nat, (∀ r ∈ rs, may r = true) → Tx (rs.flatMap (esc1 b)) = .ok (enc rs)
  | [], _ => rfl
  | r :: rs, h => by
    rw [List.flatMap_cons, Tx_esc1 b r _ (h r (by simp)), Tx_escs b rs fun x hx => h x (by simp [hx]), enc_cons]
    rfl

/-! which signs a text is made of -/
def Good (l : Str) : Prop := ∃ rs : List Nat, (∀ r ∈ rs, may r = true) ∧ l = enc rs
theorem Good.nil : Good [] := ⟨[], by simp, rfl⟩
theorem Good.app {a b : Str} (ha : Good a) (hb : Good b) : Good (a ++ b) := by
  obtain ⟨x, hx, rfl⟩ := ha
  obtain ⟨y, hy, rfl⟩ := hb
  exact ⟨x ++ y, fun r hr => (List.mem_append.1 hr).elim (hx r) (hy r), (enc_append x y).symm⟩
theorem Good.one {r : Nat} (h : may r = true) : Good (encodeRune r) := ⟨[r], by simpa using h, by simp [enc]⟩
theorem good_ascii : ∀ p : Str, (∀ c ∈ p, 32 ≤ c.toNat ∧ c.toNat ≤ 127) → Good p
  | [], _ => Good.nil
  | c :: p, h => by
    have hc := h c (by simp)
    have h1 : Good [c] := by
      obtain ⟨a, e, ha⟩ := enc1 c.toNat hc.2
      have : a = c := UInt8.toNat_inj.1 ha
      subst this
      rw [← e]
      exact Good.one ((may_iff _).2 (by omega))
    exact h1.app (good_ascii p fun x hx => h x (by simp [hx]))
theorem good_iff (l : Str) : signs l = true ↔ Good l := by
  constructor
  · intro h
    exact ⟨runes l, fun r hr => runes_may hr, (enc_runes h).symm⟩
  · rintro ⟨rs, h, rfl⟩
    exact signs_enc h
theorem escaped_cases (r : Nat) (b : Bool) : escaped r b = none ∨ ∃ t ∈ [lt, gt, amp, cr, quot, tab, nl], escaped r b = some t := by
  unfold escaped
  repeat' split
  all_goals simp
theorem good_esc1 (b : Bool) (r : Nat) (h : may r = true) : Good (esc1 b r) := by
  unfold esc1
  rcases escaped_cases r b with e | ⟨t, ht, e⟩
  · rw [e]; exact Good.one h
  · rw [e]
    have : ∀ t ∈ [lt, gt, amp, cr, quot, tab, nl], ∀ c ∈ t, 32 ≤ c.toNat ∧ c.toNat ≤ 127 := by decide
    exact good_ascii t (this t ht)
theorem good_escs (b : Bool) : ∀ rs : List Nat, (∀ r ∈ rs, may r = true) → Good (rs.flatMap (esc1 b))
  | [], _ => Good.nil
  | r :: rs, h => by
    rw [List.flatMap_cons]
    exact (good_esc1 b r (h r (by simp))).app (good_escs b rs fun x hx => h x (by simp [hx]))
theorem signs_escape (l : Str) (b : Bool) : signs (escape l b) = true := by
  rw [good_iff, escape_runes]
  exact good_escs b _ fun r hr => runes_may hr
/-- What was escaped is read as what may stand of it. -/
theorem text_escape (l : Str) (b : Bool) : text (escape l b) = .ok (enc (runes l)) := by
  unfold text
  rw [if_pos (signs_escape l b), escape_runes]
  exact Tx_escs b _ fun r hr => runes_may hr
theorem text_escape_signs {l : Str} (h : signs l = true) (b : Bool) : text (escape l b) = .ok l := by
  rw [text_escape, enc_runes h]
theorem esc1_no (b : Bool) (r : Nat) (c : UInt8) (h : may r = true) (hc : c = 60 ∨ (c = 34 ∧ b = true)) : c ∉ esc1 b r := by
  unfold esc1
  rcases escaped_cases r b with e | ⟨t, ht, e⟩
  · rw [e]
    dsimp only
    intro hm
    have hr : r ≠ c.toNat := by
      rintro rfl
      rcases hc with rfl | ⟨rfl, rfl⟩ <;> simp [escaped] at e
    have hlt : c.toNat ≤ 127 := by rcases hc with rfl | ⟨rfl, _⟩ <;> decide
    rcases enc_cases r (may_ok h) with ⟨_, a, e2, ha⟩ | ⟨_, _, h3⟩
    · rw [e2] at hm
      simp only [List.mem_singleton] at hm
      subst hm
      exact hr ha.symm
    · have := h3 _ hm
      omega
  · rw [e]
    have : ∀ t ∈ [lt, gt, amp, cr, quot, tab, nl], (60 : UInt8) ∉ t ∧ (34 : UInt8) ∉ t := by decide
    rcases hc with rfl | ⟨rfl, _⟩
    · exact (this t ht).1
    · exact (this t ht).2
theorem escape_no (l : Str) (b : Bool) (c : UInt8) (hc : c = 60 ∨ (c = 34 ∧ b = true)) : c ∉ escape l b := by
  rw [escape_runes]
  intro h
  obtain ⟨r, hr, h2⟩ := List.mem_flatMap.1 h
  exact esc1_no b r c (runes_may hr) hc h2
theorem esc1_len (b : Bool) (r : Nat) : (esc1 b r).length ≤ 6 := by
  unfold esc1
  rcases escaped_cases r b with e | ⟨t, ht, e⟩
  · rw [e]
    have := encodeRuneZ_length r
    unfold encodeRune
    simp only [List.length_map]
    omega
  · rw [e]
    have : ∀ t ∈ [lt, gt, amp, cr, quot, tab, nl], t.length ≤ 6 := by decide
    exact this t ht
theorem escs_len (b : Bool) : ∀ rs : List Nat, (rs.flatMap (esc1 b)).length ≤ 6 * rs.length
  | [] => by simp
  | r :: rs => by
    have h1 := esc1_len b r
    have h2 := escs_len b rs
    rw [List.flatMap_cons, List.length_append, List.length_cons]
    omega
theorem escape_len (l : Str) (b : Bool) : (escape l b).length ≤ 6 * l.length := by
  rw [escape_runes]
  have := escs_len b (runes l)
  have := runes_len l
  omega
theorem esc1_ne (b : Bool) (r : Nat) (h : may r = true) : esc1 b r ≠ [] := by
  unfold esc1
  rcases escaped_cases r b with e | ⟨t, ht, e⟩
  · rw [e]
    have := enc_ne r [] (may_ok h)
    simpa using this
  · rw [e]
    have : ∀ t ∈ [lt, gt, amp, cr, quot, tab, nl], t ≠ [] := by decide
    exact this t ht
theorem escape_ne {l : Str} (h : signs l = true) (hl : l ≠ []) (b : Bool) : escape l b ≠ [] := by
  rw [escape_runes]
  have := enc_runes h
  cases hr : runes l with
  | nil => rw [hr] at this; exact absurd this.symm hl
  | cons r rs =>
    rw [List.flatMap_cons]
    have h1 := esc1_ne b r (runes_may (l := l) (by rw [hr]; simp))
    intro e
    rw [List.append_eq_nil_iff] at e
    exact h1 e.1
end Go.Proofs.YtcmjaaigkbjpaaaGreatDoor.Lia

/- Plain laws of layer 23: what is written is parsed to what it was. No program in sight. -/
namespace Go.Proofs.YtcmjaaigkbjpaaaGreatDoor.Lia
open Go.Lib

theorem dw_app {f : UInt8 → Bool} : ∀ (p : Str) (c : UInt8) (t : Str), (∀ x ∈ p, f x = true) → f c = false → (p ++ c :: t).dropWhile f = c :: t ∧ (p ++ c :: t).takeWhile f = p
  | [], c, t, _, hc => by simp [List.dropWhile_cons, List.takeWhile_cons, hc]
  | x :: p, c, t, h, hc => by
    have hx := h x (by simp)
    obtain ⟨h1, h2⟩ := dw_app p c t (fun y hy => h y (by simp [hy])) hc
    rw [List.cons_append, List.dropWhile_cons, List.takeWhile_cons, hx, h1, h2]
    exact ⟨rfl, rfl⟩
theorem upTo_app (cs p : Str) (c : UInt8) (t : Str) (hp : ∀ x ∈ p, cs.contains x = false) (hc : cs.contains c = true) : upTo cs (p ++ c :: t) = .ok (p, c :: t) := by
  obtain ⟨h1, h2⟩ := dw_app (f := fun c => !cs.contains c) p c t (fun x hx => by rw [hp x hx]; rfl) (by rw [hc]; rfl)
  unfold upTo
  rw [h1, h2]
theorem part_is {s : Str} (h : part s = true) : ∃ c t, s = c :: t ∧ isLetter c = true ∧ s.length ≤ 64 ∧ ∀ x ∈ s, isSign x = true := by
  cases s with
  | nil => cases h
  | cons c t =>
    unfold part at h
    simp only [Bool.and_eq_true, decide_eq_true_eq, List.all_eq_true] at h
    exact ⟨c, t, rfl, h.1.2, by simp; omega, h.2⟩
/-- What a name is. -/
theorem name_is {n : Str} (h : name n = true) : ∃ c t, n = c :: t ∧ isLetter c = true ∧ n.length ≤ 129 ∧ ∀ x ∈ n, (isSign x || x == 58) = true := by
  unfold name at h
  rw [Bool.and_eq_true] at h
  rcases hc : cutAt 58 n with ⟨a, _ | b⟩
  · rw [hc] at h
    obtain ⟨e, _⟩ := cutAt_no hc
    obtain ⟨c, t, h1, h2, h3, h4⟩ := part_is h.1
    simp only at h1 h3 h4
    rw [e]
    exact ⟨c, t, h1, h2, by omega, fun x hx => by rw [h4 x hx]; rfl⟩
  · rw [hc] at h
    obtain ⟨e, _⟩ := cutAt_is hc
    obtain ⟨c, t, h1, h2, h3, h4⟩ := part_is h.1
    obtain ⟨_, _, _, _, h5, h6⟩ := part_is h.2
    simp only at h1 h3 h4
    refine ⟨c, t ++ 58 :: b, by rw [e, h1]; rfl, h2, by rw [e]; simp; omega, ?_⟩
    intro x hx
    rw [e] at hx
    rcases List.mem_append.1 hx with hx | hx
    · rw [h4 x hx]; rfl
    · rcases List.mem_cons.1 hx with rfl | hx
      · simp
      · rw [h6 x hx]; rfl
theorem rname_app {n : Str} (h : name n = true) (c : UInt8) (t : Str) (hc : (isSign c || c == 58) = false) : rname (n ++ c :: t) = .ok (n, c :: t) := by
  obtain ⟨_, _, _, _, _, h4⟩ := name_is h
  obtain ⟨h1, h2⟩ := dw_app n c t h4 hc
  unfold rname
  rw [h1, h2, if_pos h]
theorem letter_not {c : UInt8} (h : isLetter c = true) : isBlank c = false ∧ c ≠ 47 ∧ c ≠ 62 ∧ c ≠ 60 ∧ isSign c = true := by
  revert h
  refine (fun (p : ∀ c : Fin 256, isLetter (UInt8.ofNat c.val) = true → isBlank (UInt8.ofNat c.val) = false ∧ UInt8.ofNat c.val ≠ 47 ∧ UInt8.ofNat c.val ≠ 62 ∧ UInt8.ofNat c.val ≠ 60 ∧ isSign (UInt8.ofNat c.val) = true) => ?_) (by decide +kernel)
  have := p ⟨c.toNat, c.toNat_lt⟩
  simpa using this
theorem blank_none (c : UInt8) (t : Str) (h : isBlank c = false) : blank (c :: t) = (0, c :: t) := by
  unfold blank
  simp [List.takeWhile_cons, List.dropWhile_cons, h]
theorem blank_one (c : UInt8) (t : Str) (h : isBlank c = false) : blank (32 :: c :: t) = (1, c :: t) := by
  unfold blank
  have h32 : isBlank 32 = true := by decide
  simp [List.takeWhile_cons, List.dropWhile_cons, h, h32]
theorem cut_app (p t : Str) : cut p (p ++ t) = .ok t := by
  unfold cut
  rw [if_pos (by simp)]
  simp
theorem attr_app (nm v t : Str) (h : name nm = true) : attr (nm ++ (61 :: 34 :: (escape v true ++ 34 :: t))) = .ok ((nm, enc (runes v)), t) := by
  unfold attr
  rw [rname_app h 61 _ (by decide)]
  dsimp only [Res.bind]
  rw [blank_none 61 _ (by decide)]
  dsimp only
  rw [show cut [61] (61 :: 34 :: (escape v true ++ 34 :: t)) = .ok (34 :: (escape v true ++ 34 :: t)) from cut_app [61] _]
  dsimp only
  rw [blank_none 34 _ (by decide)]
  dsimp only
  rw [if_pos (Or.inl rfl), upTo_app [34, 60] (escape v true) 34 t ?_ (by decide)]
  · dsimp only
    rw [show cut [34] (34 :: t) = .ok t from cut_app [34] t]
    dsimp only
    rw [text_escape]
  · intro x hx
    have h1 := escape_no v true 34 (.inr ⟨rfl, rfl⟩)
    have h2 := escape_no v true 60 (.inl rfl)
    have e1 : x ≠ 34 := by rintro rfl; exact h1 hx
    have e2 : x ≠ 60 := by rintro rfl; exact h2 hx
    simp [e1, e2]
theorem attrsN_write : ∀ (as ahead : List (Str × Str)) (n : Nat) (c : UInt8) (rest : Str), attrsRight ahead as = true → ahead.length + as.length ≤ 12 → as.length < n → c = 47 ∨ c = 62 →
    attrsN n ahead (writeAttrs as ++ c :: rest) = .ok (ahead ++ as, c :: rest)
  | [], ahead, n, c, rest, _, _, hn, hc => by
    obtain ⟨n, rfl⟩ : ∃ m, n = m + 1 := ⟨n - 1, by simp at hn; omega⟩
    have hb : isBlank c = false := by rcases hc with rfl | rfl <;> decide
    unfold attrsN
    rw [show writeAttrs [] ++ c :: rest = c :: rest from rfl, blank_none c rest hb]
    simp
  | (nm, v) :: as, ahead, n, c, rest, hr, hl, hn, hc => by
    obtain ⟨n, rfl⟩ : ∃ m, n = m + 1 := ⟨n - 1, by omega⟩
    unfold attrsRight at hr
    simp only [Bool.and_eq_true, Bool.not_eq_true'] at hr
    obtain ⟨⟨⟨h1, h2⟩, h3⟩, h4⟩ := hr
    obtain ⟨x, u, e, hx, _, _⟩ := name_is h1
    obtain ⟨g1, g2, g3, _, _⟩ := letter_not hx
    have es : writeAttrs ((nm, v) :: as) ++ c :: rest = 32 :: (nm ++ (61 :: 34 :: (escape v true ++ 34 :: (writeAttrs as ++ c :: rest)))) := by
      simp [writeAttrs]
    have es2 : nm ++ (61 :: 34 :: (escape v true ++ 34 :: (writeAttrs as ++ c :: rest))) = x :: (u ++ (61 :: 34 :: (escape v true ++ 34 :: (writeAttrs as ++ c :: rest)))) := by rw [e]; rfl
    have ha := attr_app nm v (writeAttrs as ++ c :: rest) h1
    rw [es]
    unfold attrsN
    rw [es2, blank_one x _ g1]
    dsimp only
    rw [if_neg (by rintro (h | h) <;> contradiction), ← es2, ha, enc_runes h2]
    dsimp only [Res.bind]
    simp only [List.length_cons] at hl hn
    rw [if_pos ⟨by omega, h3⟩, attrsN_write as (ahead ++ [(nm, v)]) n c rest h4 (by simp; omega) (by omega) hc]
    simp
theorem writeAttrs_len : ∀ as : List (Str × Str), as.length ≤ (writeAttrs as).length
  | [] => by simp [writeAttrs]
  | (nm, v) :: as => by
    have := writeAttrs_len as
    simp [writeAttrs]
    omega
theorem element_suc (a : Nat) (s : Str) : element (a + 1) s = (cut [60] s).bind fun s => (rname s).bind fun (n, s) => (attrsN (s.length + 1) [] s).bind fun (al, s) =>
    if [47].isPrefixOf s then (cut [47, 62] s).bind fun s => .ok (.mk n al [] [], s)
    else (cut [62] s).bind fun s =>
      (contentN (element a) (s.length + 1) s).bind fun (ks, s) =>
      (cut [60, 47] s).bind fun s =>
      (rname s).bind fun (m, s) =>
      if m = n then (cut [62] (blank s).2).bind fun s => .ok (.mk n al ks [], s) else .bad .form := by
  unfold element; rfl
theorem element_zer (s : Str) : element 0 s = (cut [60] s).bind fun s => (rname s).bind fun _ => .bad .depth := by
  unfold element; rfl
theorem right_succ (d : Nat) (n : Str) (as : List (Str × Str)) (ks : List Elem) (t : Str) (h : right (d + 1) (.mk n as ks t) = true) :
    name n = true ∧ t = [] ∧ attrsRight [] as = true ∧ as.length ≤ 12 ∧ rightKids d false ks = true := by
  unfold right at h
  simp only [Bool.and_eq_true, decide_eq_true_eq, beq_iff_eq] at h
  exact ⟨h.1.1.1, h.1.1.2, h.1.2.1, h.1.2.2, h.2⟩
theorem name_ne {n : Str} (h : name n = true) : n ≠ [] := by
  obtain ⟨c, t, e, _⟩ := name_is h
  rw [e]; simp
theorem right_name {d : Nat} {e : Elem} (h : right d e = true) : name e.name = true := by
  cases d with
  | zero => unfold right at h; cases h
  | succ d =>
    obtain ⟨n, as, ks, t⟩ := e
    exact (right_succ d n as ks t h).1
/-- How a right element is written. -/
theorem write_el (n : Str) (as : List (Str × Str)) (ks : List Elem) (t : Str) (h : n ≠ []) (rest : Str) :
    write (.mk n as ks t) ++ rest = 60 :: (n ++ (writeAttrs as ++ (if ks.isEmpty then 47 :: 62 :: rest else 62 :: (writes ks ++ 60 :: 47 :: (n ++ 62 :: rest))))) := by
  unfold write
  rw [if_neg h]
  cases ks with
  | nil => simp
  | cons k ks => simp
theorem write_starts {d : Nat} {e : Elem} (h : right d e = true) (rest : Str) : ∃ c u, write e ++ rest = 60 :: c :: u ∧ isLetter c = true := by
  have hn := right_name h
  obtain ⟨n, as, ks, t⟩ := e
  simp only [Elem.name] at hn
  obtain ⟨c, u, e, hc, _⟩ := name_is hn
  rw [write_el n as ks t (name_ne hn)]
  refine ⟨c, u ++ (writeAttrs as ++ (if ks.isEmpty then 47 :: 62 :: rest else 62 :: (writes ks ++ 60 :: 47 :: (n ++ 62 :: rest)))), ?_, hc⟩
  rw [e]
  rfl
theorem rightKids_cons (d : Nat) (b : Bool) (k : Elem) (ks : List Elem) (h : rightKids d b (k :: ks) = true) :
    (k.name ≠ [] ∧ right d k = true ∧ rightKids d false ks = true) ∨ (k.name = [] ∧ b = false ∧ k = .mk [] [] [] k.text ∧ k.text ≠ [] ∧ signs k.text = true ∧ rightKids d true ks = true) := by
  unfold rightKids at h
  rw [Bool.and_eq_true] at h
  obtain ⟨h1, h2⟩ := h
  by_cases hn : k.name = []
  · rw [if_neg (by simpa using hn)] at h1
    simp only [Bool.not_eq_true', Bool.or_eq_false_iff, beq_eq_false_iff_ne, Bool.not_eq_false', List.isEmpty_iff] at h1
    obtain ⟨⟨⟨⟨a1, a2⟩, a3⟩, a4⟩, a5⟩ := h1
    rw [show (k.name == []) = true by rw [hn]; rfl] at h2
    refine .inr ⟨hn, a2, ?_, by simpa using a1, a5, h2⟩
    obtain ⟨n, as, kk, t⟩ := k
    simp only [Elem.name, Elem.attrs, Elem.kids] at hn a3 a4
    subst hn a3 a4
    rfl
  · rw [if_pos hn] at h1
    rw [show (k.name == []) = false by simpa using hn] at h2
    exact .inl ⟨hn, h1, h2⟩
theorem write_text (t : Str) : write (.mk [] [] [] t) = escape t false := by
  unfold write; rw [if_pos rfl]
/-- Behind a text an element stands, or the end. -/
theorem kids_start (d : Nat) (tail : Str) : ∀ ks, rightKids d true ks = true → ∃ u, writes ks ++ 60 :: 47 :: tail = 60 :: u
  | [], _ => ⟨47 :: tail, rfl⟩
  | k :: ks, h => by
    rcases rightKids_cons d true k ks h with ⟨_, h1, _⟩ | ⟨_, h1, _⟩
    · obtain ⟨c, u, e, _⟩ := write_starts h1 (writes ks ++ 60 :: 47 :: tail)
      refine ⟨c :: u, ?_⟩
      rw [← e]
      simp [writes]
    · cases h1
theorem kids_write (d : Nat) (ih : ∀ e, right d e = true → ∀ rest, element d (write e ++ rest) = .ok (e, rest)) (tail : Str) :
    ∀ (ks : List Elem) (b : Bool) (n : Nat), rightKids d b ks = true → ks.length < n → contentN (element d) n (writes ks ++ 60 :: 47 :: tail) = .ok (ks, 60 :: 47 :: tail)
  | [], b, n, _, hn => by
    obtain ⟨n, rfl⟩ : ∃ m, n = m + 1 := ⟨n - 1, by simp at hn; omega⟩
    unfold contentN
    rw [show writes [] ++ 60 :: 47 :: tail = 60 :: 47 :: tail from rfl, if_pos (by simp [List.isPrefixOf])]
  | k :: ks, b, n, h, hn => by
    obtain ⟨n, rfl⟩ : ∃ m, n = m + 1 := ⟨n - 1, by omega⟩
    simp only [List.length_cons] at hn
    have es : writes (k :: ks) ++ 60 :: 47 :: tail = write k ++ (writes ks ++ 60 :: 47 :: tail) := by simp [writes]
    rw [es]
    unfold contentN
    rcases rightKids_cons d b k ks h with ⟨_, h1, h2⟩ | ⟨_, rfl, h1, h2, h3, h4⟩
    · obtain ⟨c, u, e, hc⟩ := write_starts h1 (writes ks ++ 60 :: 47 :: tail)
      obtain ⟨_, g2, _, _, _⟩ := letter_not hc
      have hi := ih k h1 (writes ks ++ 60 :: 47 :: tail)
      rw [if_neg (by rw [e]; simp [List.isPrefixOf]; exact fun h => g2 h.symm)]
      rw [show upTo [60] (write k ++ (writes ks ++ 60 :: 47 :: tail)) = .ok ([], write k ++ (writes ks ++ 60 :: 47 :: tail)) by rw [e]; exact upTo_app [60] [] 60 (c :: u) (by simp) (by decide)]
      dsimp only [Res.bind]
      rw [if_pos rfl, hi]
      dsimp only
      rw [kids_write d ih tail ks false n h2 (by omega)]
    · obtain ⟨u, hu⟩ := kids_start d tail ks h4
      have hne := escape_ne h3 h2 false
      have h60 := escape_no k.text false 60 (.inl rfl)
      rw [h1, write_text]
      generalize k.text = t at *
      rw [hu]
      cases he : escape t false with
      | nil => exact absurd he hne
      | cons x xs =>
        have hx : x ≠ 60 := by rintro rfl; exact h60 (by rw [he]; simp)
        rw [if_neg (by simp [List.isPrefixOf]; intro h; exact absurd h.symm hx)]
        rw [← he, upTo_app [60] (escape t false) 60 u (fun y hy => by simp [show y ≠ 60 from fun e => h60 (e ▸ hy)]) (by decide)]
        dsimp only [Res.bind]
        rw [if_neg hne, text_escape_signs h3]
        dsimp only
        rw [← hu, kids_write d ih tail ks true n h4 (by omega)]
theorem kids_len (d : Nat) : ∀ (ks : List Elem) (b : Bool), rightKids d b ks = true → ks.length ≤ (writes ks).length
  | [], _, _ => by simp
  | k :: ks, b, h => by
    rw [show writes (k :: ks) = write k ++ writes ks by simp [writes], List.length_append, List.length_cons]
    rcases rightKids_cons d b k ks h with ⟨_, h1, h2⟩ | ⟨_, rfl, h1, h2, h3, h4⟩
    · obtain ⟨c, u, e, hc⟩ := write_starts h1 []
      have := kids_len d ks false h2
      rw [List.append_nil] at e
      rw [e]
      simp
      omega
    · have hne := escape_ne h3 h2 false
      have := kids_len d ks true h4
      rw [h1, write_text]
      have : 0 < (escape k.text false).length := List.length_pos_iff.2 hne
      omega
theorem elem_write : ∀ d e, right d e = true → ∀ rest, element d (write e ++ rest) = .ok (e, rest)
  | 0, e, h, _ => by unfold right at h; cases h
  | d + 1, .mk n as ks t, h, rest => by
    obtain ⟨h1, rfl, h3, h4, h5⟩ := right_succ d n as ks t h
    have ih := elem_write d
    rw [write_el n as ks [] (name_ne h1), element_suc]
    rw [show cut [60] (60 :: (n ++ (writeAttrs as ++ if ks.isEmpty = true then 47 :: 62 :: rest else 62 :: (writes ks ++ 60 :: 47 :: (n ++ 62 :: rest))))) = .ok (n ++ (writeAttrs as ++ if ks.isEmpty = true then 47 :: 62 :: rest else 62 :: (writes ks ++ 60 :: 47 :: (n ++ 62 :: rest)))) from cut_app [60] _]
    dsimp only [Res.bind]
    obtain ⟨c, u, hs, hc⟩ : ∃ c u, (if ks.isEmpty = true then 47 :: 62 :: rest else 62 :: (writes ks ++ 60 :: 47 :: (n ++ 62 :: rest))) = c :: u ∧ ((c = 47 ∧ u = 62 :: rest ∧ ks = []) ∨ (c = 62 ∧ u = writes ks ++ 60 :: 47 :: (n ++ 62 :: rest))) := by
      cases ks with
      | nil => exact ⟨47, _, rfl, .inl ⟨rfl, rfl, rfl⟩⟩
      | cons k ks => exact ⟨62, _, rfl, .inr ⟨rfl, rfl⟩⟩
    rw [hs]
    obtain ⟨x, y, hx, hxs⟩ : ∃ x y, writeAttrs as ++ c :: u = x :: y ∧ (isSign x || x == 58) = false := by
      cases as with
      | nil => refine ⟨c, u, rfl, ?_⟩; rcases hc with ⟨rfl, _⟩ | ⟨rfl, _⟩ <;> decide
      | cons a as => obtain ⟨nm, v⟩ := a; refine ⟨32, _, by simp [writeAttrs]; rfl, by decide⟩
    rw [hx, rname_app h1 x y hxs, ← hx]
    dsimp only
    rw [attrsN_write as [] _ c u h3 (by simpa using h4) (by have := writeAttrs_len as; simp; omega) (by rcases hc with ⟨rfl, _⟩ | ⟨rfl, _⟩ <;> simp)]
    dsimp only [List.nil_append]
    rcases hc with ⟨rfl, rfl, rfl⟩ | ⟨rfl, rfl⟩
    · rw [if_pos (by simp [List.isPrefixOf]), show cut [47, 62] (47 :: 62 :: rest) = .ok rest from cut_app [47, 62] rest]
    · rw [if_neg (by simp [List.isPrefixOf]), show cut [62] (62 :: (writes ks ++ 60 :: 47 :: (n ++ 62 :: rest))) = .ok (writes ks ++ 60 :: 47 :: (n ++ 62 :: rest)) from cut_app [62] _]
      dsimp only
      rw [kids_write d ih (n ++ 62 :: rest) ks false _ h5 (by have := kids_len d ks false h5; simp; omega)]
      dsimp only
      rw [show cut [60, 47] (60 :: 47 :: (n ++ 62 :: rest)) = .ok (n ++ 62 :: rest) from cut_app [60, 47] _]
      dsimp only
      rw [rname_app h1 62 rest (by decide)]
      dsimp only
      rw [if_pos rfl, blank_none 62 rest (by decide)]
      dsimp only
      rw [show cut [62] (62 :: rest) = .ok rest from cut_app [62] rest]
/-- A right tree that isn't too long is parsed from its text. -/
theorem parse_write {e : Elem} {s : Str} (h : toText e = .ok s) : parse s = .ok e := by
  unfold toText at h
  by_cases h1 : right 12 e = true
  · rw [if_pos h1] at h
    by_cases h2 : (write e).length ≤ 20000
    · rw [if_pos h2] at h
      simp only [Res.ok.injEq] at h
      subst h
      unfold parse
      rw [if_neg (by omega)]
      have := elem_write 12 e h1 []
      rw [List.append_nil] at this
      rw [this]
      rfl
    · rw [if_neg h2] at h; cases h
  · rw [if_neg h1] at h; cases h
end Go.Proofs.YtcmjaaigkbjpaaaGreatDoor.Lia

/- Plain laws of layer 23: what is parsed is right, and short enough to be written. No program in sight. -/
namespace Go.Proofs.YtcmjaaigkbjpaaaGreatDoor.Lia
open Go.Lib

theorem bind_is {α β : Type} {r : Res α} {f : α → Res β} {y : β} (h : r.bind f = .ok y) : ∃ x, r = .ok x ∧ f x = .ok y := by
  cases r with
  | ok x => exact ⟨x, rfl, h⟩
  | bad k => cases h
theorem good_split : ∀ (rs : List Nat) (a : Str) (c : UInt8) (r : Str), c.toNat ≤ 127 → (∀ x ∈ rs, may x = true) → a ++ c :: r = enc rs → Good a ∧ Good r
  | [], a, c, r, _, _, e => by simp [enc] at e
  | x :: rs, a, c, r, hc, h, e => by
    have hx := h x (by simp)
    have hrs : ∀ y ∈ rs, may y = true := fun y hy => h y (by simp [hy])
    rw [enc_cons] at e
    rcases enc_cases x (may_ok hx) with ⟨_, y, ey, _⟩ | ⟨_, h2, h3⟩
    · rw [ey] at e
      cases a with
      | nil =>
        simp only [List.nil_append, List.cons_append, List.cons.injEq] at e
        exact ⟨Good.nil, ⟨rs, hrs, e.2⟩⟩
      | cons z a =>
        simp only [List.cons_append, List.nil_append, List.cons.injEq] at e
        obtain ⟨h4, h5⟩ := good_split rs a c r hc hrs e.2
        refine ⟨?_, h5⟩
        rw [e.1]
        exact (show Good [y] from ey ▸ Good.one hx).app h4
    · rcases List.append_eq_append_iff.1 e with ⟨a', e1, e2⟩ | ⟨c', e1, e2⟩
      · cases a' with
        | nil =>
          rw [List.append_nil] at e1
          rw [List.nil_append] at e2
          refine ⟨e1 ▸ Good.one hx, ?_⟩
          exact (good_split rs [] c r hc hrs e2).2
        | cons z a' =>
          exfalso
          simp only [List.cons_append, List.cons.injEq] at e2
          have := h3 z (by rw [e1]; simp)
          rw [← e2.1] at this
          omega
      · obtain ⟨h4, h5⟩ := good_split rs c' c r hc hrs e2.symm
        exact ⟨by rw [e1]; exact (Good.one hx).app h4, h5⟩
theorem Good.split {a r : Str} {c : UInt8} (hc : c.toNat ≤ 127) (h : Good (a ++ c :: r)) : Good a ∧ Good r := by
  obtain ⟨rs, hm, e⟩ := h
  exact good_split rs a c r hc hm e
theorem enc_len4 (r : Nat) : (encodeRune r).length ≤ 4 := by
  have := encodeRuneZ_length r
  unfold encodeRune
  rw [List.length_map]
  omega
theorem reference_is {nm t : Str} (h : reference nm = .ok t) : Good t ∧ t ≠ [] ∧ t.length ≤ nm.length + 2 := by
  unfold reference at h
  cases hn : named nm with
  | some u =>
    rw [hn] at h
    simp only [Res.ok.injEq] at h
    subst h
    unfold named at hn
    repeat' split at hn
    all_goals (first | (simp only [Option.some.injEq] at hn; subst hn; exact ⟨good_ascii _ (by decide), by decide, by simp⟩) | cases hn)
  | none =>
    rw [hn] at h
    dsimp only at h
    split at h
    · rename_i tl
      have key : ∀ (p : Nat × Str), p.2.length ≤ tl.length → (if p.2 = [] ∨ 8 < p.2.length then Res.bad Err.form else match number p.1 0 p.2 with | none => .bad .form | some n => if may n then .ok (encodeRune n) else .bad .form) = .ok t → Good t ∧ t ≠ [] ∧ t.length ≤ (35 :: tl).length + 2 := by
        intro p hp h
        by_cases h1 : p.2 = [] ∨ 8 < p.2.length
        · rw [if_pos h1] at h; cases h
        · rw [if_neg h1] at h
          cases h2 : number p.1 0 p.2 with
          | none => rw [h2] at h; cases h
          | some n =>
            rw [h2] at h
            dsimp only at h
            by_cases h3 : may n = true
            · rw [if_pos h3] at h
              simp only [Res.ok.injEq] at h
              subst h
              have h4 := enc_len4 n
              have h5 := enc_ne n [] (may_ok h3)
              rw [List.append_nil] at h5
              have h6 : 0 < p.2.length := by
                rw [List.length_pos_iff]
                intro e
                exact h1 (.inl e)
              refine ⟨Good.one h3, h5, ?_⟩
              simp only [List.length_cons]
              omega
            · rw [if_neg h3] at h; cases h
      split at h
      · rename_i u
        exact key (16, u) (by simp) h
      · exact key (10, tl) (by simp) h
    · cases h
theorem textN_is : ∀ (n : Nat) (s v : Str), s.length < n → Good s → textN n s = .ok v → Good v ∧ v.length ≤ s.length ∧ (s ≠ [] → v ≠ [])
  | 0, s, _, h, _, _ => by omega
  | n + 1, s, v, hn, hg, h => by
    unfold textN at h
    rcases hc : cutAt 38 s with ⟨a, _ | b⟩
    · rw [hc] at h
      simp only [Res.ok.injEq] at h
      obtain ⟨e, _⟩ := cutAt_no hc
      subst h
      rw [← e]
      exact ⟨hg, Nat.le_refl _, fun h => h⟩
    · rw [hc] at h
      dsimp only at h
      obtain ⟨e, _⟩ := cutAt_is hc
      rw [e] at hg
      obtain ⟨ga, gb⟩ := hg.split (by decide)
      rcases hd : cutAt 59 b with ⟨nm, _ | rest⟩
      · rw [hd] at h; cases h
      · rw [hd] at h
        dsimp only at h
        obtain ⟨e2, _⟩ := cutAt_is hd
        rw [e2] at gb
        obtain ⟨_, gr⟩ := gb.split (by decide)
        obtain ⟨t, ht, h⟩ := bind_is h
        obtain ⟨u, hu, h⟩ := bind_is h
        simp only [Res.ok.injEq] at h
        obtain ⟨gt, t0, tl⟩ := reference_is ht
        have hl : rest.length < n := by
          have := congrArg List.length e
          have := congrArg List.length e2
          simp at *
          omega
        obtain ⟨gu, ul, _⟩ := textN_is n rest u hl gr hu
        subst h
        refine ⟨(ga.app gt).app gu, ?_, ?_⟩
        · rw [e, e2]
          simp
          omega
        · intro _ e3
          simp at e3
          exact t0 e3.2.1
theorem text_is {s v : Str} (h : text s = .ok v) : signs v = true ∧ v.length ≤ s.length ∧ (s ≠ [] → v ≠ []) := by
  unfold text at h
  by_cases hs : signs s = true
  · rw [if_pos hs] at h
    obtain ⟨h1, h2, h3⟩ := textN_is _ s v (Nat.lt_succ_self _) ((good_iff s).1 hs) h
    exact ⟨(good_iff v).2 h1, h2, h3⟩
  · rw [if_neg hs] at h; cases h
theorem rname_is {s n r : Str} (h : rname s = .ok (n, r)) : name n = true ∧ n.length + r.length = s.length := by
  unfold rname at h
  by_cases hn : name (s.takeWhile fun c => isSign c || c == 58) = true
  · rw [if_pos hn] at h
    simp only [Res.ok.injEq, Prod.mk.injEq] at h
    obtain ⟨rfl, rfl⟩ := h
    refine ⟨hn, ?_⟩
    rw [← List.length_append, List.takeWhile_append_dropWhile]
  · rw [if_neg hn] at h; cases h
theorem cut_is {p s r : Str} (h : cut p s = .ok r) : p.length + r.length = s.length := by
  unfold cut at h
  by_cases hp : p.isPrefixOf s = true
  · rw [if_pos hp] at h
    simp only [Res.ok.injEq] at h
    subst h
    have := (List.isPrefixOf_iff_prefix.1 hp).length_le
    rw [List.length_drop]
    omega
  · rw [if_neg hp] at h; cases h
theorem blank_is (s : Str) : (blank s).1 + (blank s).2.length = s.length := by
  unfold blank
  dsimp only
  rw [← List.length_append, List.takeWhile_append_dropWhile]
theorem upTo_is {cs s x r : Str} (h : upTo cs s = .ok (x, r)) : x.length + r.length = s.length ∧ ∃ c u, r = c :: u ∧ cs.contains c = true := by
  unfold upTo at h
  cases hd : s.dropWhile (fun c => !cs.contains c) with
  | nil => rw [hd] at h; cases h
  | cons c u =>
    rw [hd] at h
    simp only [Res.ok.injEq, Prod.mk.injEq] at h
    obtain ⟨rfl, rfl⟩ := h
    refine ⟨?_, c, u, rfl, ?_⟩
    · rw [← hd, ← List.length_append, List.takeWhile_append_dropWhile]
    · have := List.head?_dropWhile_not (fun c => !cs.contains c) s
      rw [hd] at this
      simpa using this
theorem attr_is {s r : Str} {a : Str × Str} (h : attr s = .ok (a, r)) : name a.1 = true ∧ signs a.2 = true ∧ a.1.length + 3 + a.2.length + r.length ≤ s.length := by
  unfold attr at h
  obtain ⟨⟨n, s1⟩, h1, h⟩ := bind_is h
  obtain ⟨hn, l1⟩ := rname_is h1
  obtain ⟨s2, h2, h⟩ := bind_is h
  have l2 := cut_is h2
  have l3 := blank_is s1
  have l4 := blank_is s2
  cases hb : (blank s2).2 with
  | nil => rw [hb] at h; cases h
  | cons m s3 =>
    rw [hb] at h l4
    dsimp only at h
    by_cases hm : m = 34 ∨ m = 39
    · rw [if_pos hm] at h
      obtain ⟨⟨v, s4⟩, h5, h⟩ := bind_is h
      obtain ⟨l5, _⟩ := upTo_is h5
      obtain ⟨s5, h6, h⟩ := bind_is h
      have l6 := cut_is h6
      obtain ⟨v2, h7, h⟩ := bind_is h
      obtain ⟨g1, g2, _⟩ := text_is h7
      simp only [Res.ok.injEq, Prod.mk.injEq] at h
      obtain ⟨rfl, rfl⟩ := h
      refine ⟨hn, g1, ?_⟩
      dsimp only
      simp only [List.length_cons, List.length_nil] at *
      omega
    · rw [if_neg hm] at h; cases h
theorem attrsRight_snoc (a : Str × Str) : ∀ (l ahead : List (Str × Str)), attrsRight ahead l = true → name a.1 = true → signs a.2 = true → ((ahead ++ l).any fun b => b.1 == a.1) = false → attrsRight ahead (l ++ [a]) = true
  | [], ahead, _, h1, h2, h3 => by
    rw [List.append_nil] at h3
    simp [attrsRight, h1, h2, h3]
  | x :: l, ahead, h, h1, h2, h3 => by
    unfold attrsRight at h
    rw [Bool.and_eq_true] at h
    rw [List.cons_append]
    unfold attrsRight
    rw [h.1, attrsRight_snoc a l (ahead ++ [x]) h.2 h1 h2 (by simpa using h3)]
    rfl
theorem writeAttrs_snoc (a : Str × Str) : ∀ l : List (Str × Str), (writeAttrs (l ++ [a])).length = (writeAttrs l).length + a.1.length + 4 + (escape a.2 true).length
  | [] => by
    obtain ⟨n, v⟩ := a
    simp [writeAttrs]
    omega
  | (n, v) :: l => by
    rw [List.cons_append]
    simp only [writeAttrs, List.length_append, List.length_cons, List.length_nil]
    rw [writeAttrs_snoc a l]
    omega
theorem attrsN_is : ∀ (n : Nat) (out : List (Str × Str)) (s : Str) (o : List (Str × Str)) (r : Str), attrsN n out s = .ok (o, r) → attrsRight [] out = true → out.length ≤ 12 →
    attrsRight [] o = true ∧ o.length ≤ 12 ∧ (writeAttrs o).length + 6 * r.length ≤ (writeAttrs out).length + 6 * s.length
  | 0, out, s, o, r, h, h1, h2 => by
    simp only [attrsN, Res.ok.injEq, Prod.mk.injEq] at h
    obtain ⟨rfl, rfl⟩ := h
    exact ⟨h1, h2, Nat.le_refl _⟩
  | n + 1, out, s, o, r, h, h1, h2 => by
    unfold attrsN at h
    have lb := blank_is s
    rcases hb : blank s with ⟨k, s1⟩
    rw [hb] at h lb
    dsimp only at lb
    cases k with
    | zero =>
      simp only [Res.ok.injEq, Prod.mk.injEq] at h
      obtain ⟨rfl, rfl⟩ := h
      exact ⟨h1, h2, by omega⟩
    | succ k =>
      cases s1 with
      | nil =>
        simp only [Res.ok.injEq, Prod.mk.injEq] at h
        obtain ⟨rfl, rfl⟩ := h
        exact ⟨h1, h2, by simp⟩
      | cons c t =>
        dsimp only at h
        by_cases hc : c = 47 ∨ c = 62
        · rw [if_pos hc] at h
          simp only [Res.ok.injEq, Prod.mk.injEq] at h
          obtain ⟨rfl, rfl⟩ := h
          exact ⟨h1, h2, by omega⟩
        · rw [if_neg hc] at h
          obtain ⟨⟨a, s2⟩, h3, h⟩ := bind_is h
          obtain ⟨g1, g2, g3⟩ := attr_is h3
          dsimp only at h
          by_cases h4 : out.length < 12 ∧ (out.any fun b => b.1 == a.1) = false
          · rw [if_pos h4] at h
            obtain ⟨e1, e2, e3⟩ := attrsN_is n (out ++ [a]) s2 o r h (attrsRight_snoc a out [] h1 g1 g2 (by simpa using h4.2)) (by simp; omega)
            refine ⟨e1, e2, ?_⟩
            rw [writeAttrs_snoc] at e3
            have := escape_len a.2 true
            omega
          · rw [if_neg h4] at h; cases h
theorem writes_cons (k : Elem) (ks : List Elem) : writes (k :: ks) = write k ++ writes ks := by simp [writes]
theorem contentN_is (d : Nat) (el : Str → Res (Elem × Str)) (hel : ∀ s e r, el s = .ok (e, r) → right d e = true ∧ (write e).length + 6 * r.length ≤ 6 * s.length) :
    ∀ (n : Nat) (s : Str) (ks : List Elem) (r : Str) (b : Bool), contentN el n s = .ok (ks, r) → (b = true → s.head? = some 60) → rightKids d b ks = true ∧ (writes ks).length + 6 * r.length ≤ 6 * s.length
  | 0, s, ks, r, b, h, _ => by
    simp only [contentN, Res.ok.injEq, Prod.mk.injEq] at h
    obtain ⟨rfl, rfl⟩ := h
    exact ⟨by simp [rightKids], by simp [writes]⟩
  | n + 1, s, ks, r, b, h, hb => by
    unfold contentN at h
    by_cases hp : [60, 47].isPrefixOf s = true
    · rw [if_pos hp] at h
      simp only [Res.ok.injEq, Prod.mk.injEq] at h
      obtain ⟨rfl, rfl⟩ := h
      exact ⟨by simp [rightKids], by simp [writes]⟩
    · rw [if_neg hp] at h
      obtain ⟨⟨t, s1⟩, h1, h⟩ := bind_is h
      obtain ⟨l1, c, u, hc, hc2⟩ := upTo_is h1
      dsimp only at h
      have hc3 : c = 60 := by simpa using hc2
      by_cases ht : t = []
      · rw [if_pos ht] at h
        obtain ⟨⟨e, s2⟩, h2, h⟩ := bind_is h
        obtain ⟨⟨k, s3⟩, h3, h⟩ := bind_is h
        simp only [Res.ok.injEq, Prod.mk.injEq] at h
        obtain ⟨rfl, rfl⟩ := h
        obtain ⟨g1, g2⟩ := hel s1 e s2 h2
        obtain ⟨g3, g4⟩ := contentN_is d el hel n s2 k s3 false h3 (by simp)
        have hn := name_ne (right_name g1)
        refine ⟨?_, ?_⟩
        · unfold rightKids
          rw [if_pos hn, g1, show (e.name == []) = false by simpa using hn, g3]
          rfl
        · rw [writes_cons, List.length_append]
          omega
      · rw [if_neg ht] at h
        obtain ⟨v, h2, h⟩ := bind_is h
        obtain ⟨⟨k, s3⟩, h3, h⟩ := bind_is h
        simp only [Res.ok.injEq, Prod.mk.injEq] at h
        obtain ⟨rfl, rfl⟩ := h
        obtain ⟨g1, g2, g5⟩ := text_is h2
        obtain ⟨g3, g4⟩ := contentN_is d el hel n s1 k s3 true h3 (by intro _; rw [hc, hc3]; rfl)
        have hbf : b = false := by
          cases b with
          | false => rfl
          | true =>
            exfalso
            have h60 := hb rfl
            cases s with
            | nil => cases h60
            | cons x xs =>
              simp only [List.head?_cons, Option.some.injEq] at h60
              subst h60
              unfold upTo at h1
              rw [show (60 :: xs).dropWhile (fun c => !([60] : Str).contains c) = 60 :: xs by simp [List.dropWhile_cons]] at h1
              simp only [Res.ok.injEq, Prod.mk.injEq] at h1
              apply ht
              rw [← h1.1]
              simp [List.takeWhile_cons]
        have g6 := g5 ht
        refine ⟨?_, ?_⟩
        · unfold rightKids
          rw [if_neg (by simp [Elem.name])]
          simp only [Elem.name, Elem.text, Elem.attrs, Elem.kids]
          rw [hbf, g1]
          rw [show (([] : Str) == []) = true by rfl, g3]
          simp [g6]
        · rw [writes_cons, List.length_append, write_text]
          have := escape_len v false
          omega
theorem element_is : ∀ (d : Nat) (s : Str) (e : Elem) (r : Str), element d s = .ok (e, r) → right d e = true ∧ (write e).length + 6 * r.length ≤ 6 * s.length
  | 0, s, e, r, h => by
    rw [element_zer] at h
    obtain ⟨_, _, h⟩ := bind_is h
    obtain ⟨_, _, h⟩ := bind_is h
    cases h
  | d + 1, s, e, r, h => by
    rw [element_suc] at h
    obtain ⟨s1, h1, h⟩ := bind_is h
    have l1 := cut_is h1
    obtain ⟨⟨n, s2⟩, h2, h⟩ := bind_is h
    obtain ⟨hn, l2⟩ := rname_is h2
    obtain ⟨⟨al, s3⟩, h3, h⟩ := bind_is h
    obtain ⟨ga, gl, l3⟩ := attrsN_is _ [] s2 al s3 h3 rfl (by simp)
    have hne := name_ne hn
    dsimp only at h
    have hwr : ∀ ks, write (.mk n al ks []) = 60 :: (n ++ (writeAttrs al ++ (if ks.isEmpty then 47 :: 62 :: [] else 62 :: (writes ks ++ 60 :: 47 :: (n ++ 62 :: []))))) := fun ks => by
      have := write_el n al ks [] hne []
      rw [List.append_nil] at this
      exact this
    have hri : ∀ ks, rightKids d false ks = true → right (d + 1) (.mk n al ks []) = true := fun ks hk => by
      unfold right
      rw [hn, ga, hk]
      simp [gl]
    simp only [writeAttrs, List.length_nil, Nat.zero_add, List.length_cons] at l3 l1
    by_cases hp : [47].isPrefixOf s3 = true
    · rw [if_pos hp] at h
      obtain ⟨s4, h4, h⟩ := bind_is h
      have l4 := cut_is h4
      simp only [Res.ok.injEq, Prod.mk.injEq] at h
      obtain ⟨rfl, rfl⟩ := h
      refine ⟨hri [] (by simp [rightKids]), ?_⟩
      rw [hwr]
      simp only [List.isEmpty_nil, if_true, List.length_cons, List.length_append, List.length_nil] at *
      omega
    · rw [if_neg hp] at h
      obtain ⟨s4, h4, h⟩ := bind_is h
      have l4 := cut_is h4
      obtain ⟨⟨ks, s5⟩, h5, h⟩ := bind_is h
      obtain ⟨gk, l5⟩ := contentN_is d (element d) (fun s e r h => element_is d s e r h) _ s4 ks s5 false h5 (by simp)
      obtain ⟨s6, h6, h⟩ := bind_is h
      have l6 := cut_is h6
      obtain ⟨⟨m, s7⟩, h7, h⟩ := bind_is h
      obtain ⟨_, l7⟩ := rname_is h7
      dsimp only at h
      by_cases hm : m = n
      · rw [if_pos hm] at h
        obtain ⟨s8, h8, h⟩ := bind_is h
        have l8 := cut_is h8
        have l9 := blank_is s7
        simp only [Res.ok.injEq, Prod.mk.injEq] at h
        obtain ⟨rfl, rfl⟩ := h
        refine ⟨hri ks gk, ?_⟩
        rw [hwr]
        subst hm
        split <;> simp only [List.length_cons, List.length_append, List.length_nil] at * <;> omega
      · rw [if_neg hm] at h; cases h
/-- What was parsed of a text of not too many bytes is written, and parsed again. -/
theorem toText_parse {s : Str} {e : Elem} (h : parse s = .ok e) (hl : s.length ≤ 3000) : toText e = .ok (write e) := by
  unfold parse at h
  by_cases h1 : 20000 < s.length
  · rw [if_pos h1] at h; cases h
  · rw [if_neg h1] at h
    obtain ⟨⟨e', r⟩, h2, h⟩ := bind_is h
    dsimp only at h
    by_cases hr : r = []
    · rw [if_pos hr] at h
      simp only [Res.ok.injEq] at h
      subst h
      obtain ⟨h3, h4⟩ := element_is 12 s e' r h2
      unfold toText
      rw [if_pos h3, if_pos (by omega)]
    · rw [if_neg hr] at h; cases h
end Go.Proofs.YtcmjaaigkbjpaaaGreatDoor.Lia

/- Plain laws of layer 23: blanks within marks; how deep, how many attributes, how long. No program in sight. -/
namespace Go.Proofs.YtcmjaaigkbjpaaaGreatDoor.Lia
open Go.Lib

theorem blank_app (p : Str) (c : UInt8) (t : Str) (hp : ∀ x ∈ p, isBlank x = true) (hc : isBlank c = false) : blank (p ++ c :: t) = (p.length, c :: t) := by
  obtain ⟨h1, h2⟩ := dw_app (f := isBlank) p c t hp hc
  unfold blank
  rw [h1, h2]
theorem blank_not {c : UInt8} (h : isBlank c = true) : (isSign c || c == 58) = false := by
  unfold isBlank at h
  simp only [Bool.or_eq_true, beq_iff_eq] at h
  rcases h with ((rfl | rfl) | rfl) | rfl <;> decide
theorem rname_gap {n : Str} (h : name n = true) (g : Str) (c : UInt8) (t : Str) (hg : ∀ x ∈ g, isBlank x = true) (hc : (isSign c || c == 58) = false) : rname (n ++ (g ++ c :: t)) = .ok (n, g ++ c :: t) := by
  cases g with
  | nil => exact rname_app h c t hc
  | cons x g => exact rname_app h x _ (blank_not (hg x (by simp)))
theorem attr_gap (v g t : Str) (hg : ∀ x ∈ g, isBlank x = true) :
    attr (107 :: (g ++ 61 :: (g ++ 34 :: (escape v true ++ 34 :: t)))) = .ok (([107], enc (runes v)), t) := by
  unfold attr
  rw [show rname (107 :: (g ++ 61 :: (g ++ 34 :: (escape v true ++ 34 :: t)))) = .ok ([107], g ++ 61 :: (g ++ 34 :: (escape v true ++ 34 :: t))) from rname_gap (n := [107]) (by decide +kernel) g 61 _ hg (by decide)]
  dsimp only [Res.bind]
  rw [blank_app g 61 _ hg (by decide)]
  dsimp only
  rw [show cut [61] (61 :: (g ++ 34 :: (escape v true ++ 34 :: t))) = .ok (g ++ 34 :: (escape v true ++ 34 :: t)) from cut_app [61] _]
  dsimp only
  rw [blank_app g 34 _ hg (by decide)]
  dsimp only
  rw [if_pos (Or.inl rfl), upTo_app [34, 60] (escape v true) 34 t ?_ (by decide)]
  · dsimp only
    rw [show cut [34] (34 :: t) = .ok t from cut_app [34] t]
    dsimp only
    rw [text_escape]
  · intro x hx
    have h1 := escape_no v true 34 (.inr ⟨rfl, rfl⟩)
    have h2 := escape_no v true 60 (.inl rfl)
    have e1 : x ≠ 34 := by rintro rfl; exact h1 hx
    have e2 : x ≠ 60 := by rintro rfl; exact h2 hx
    simp [e1, e2]
/-- Blanks within marks don't matter, nor how an element without content ends. -/
theorem parse_gap (n v g : Str) (hn : name n = true) (hg : ∀ x ∈ g, isBlank x = true) (hl : n.length ≤ 100 ∧ v.length ≤ 200 ∧ g.length ≤ 20) :
    parse (60 :: (n ++ 32 :: (g ++ 107 :: (g ++ 61 :: (g ++ 34 :: (escape v true ++ 34 :: (g ++ 62 :: 60 :: 47 :: (n ++ (g ++ [62]))))))))) = .ok (.mk n [([107], enc (runes v))] [] []) := by
  have hel := escape_len v true
  unfold parse
  rw [if_neg (by simp only [List.length_cons, List.length_append, List.length_nil]; omega), element_suc]
  rw [show cut [60] (60 :: (n ++ 32 :: (g ++ 107 :: (g ++ 61 :: (g ++ 34 :: (escape v true ++ 34 :: (g ++ 62 :: 60 :: 47 :: (n ++ (g ++ [62]))))))))) = .ok (n ++ 32 :: (g ++ 107 :: (g ++ 61 :: (g ++ 34 :: (escape v true ++ 34 :: (g ++ 62 :: 60 :: 47 :: (n ++ (g ++ [62])))))))) from cut_app [60] _]
  dsimp only [Res.bind]
  rw [rname_app hn 32 _ (by decide)]
  dsimp only
  have hat : ∀ k, attrsN (k + 2) [] (32 :: (g ++ 107 :: (g ++ 61 :: (g ++ 34 :: (escape v true ++ 34 :: (g ++ 62 :: 60 :: 47 :: (n ++ (g ++ [62])))))))) = .ok ([([107], enc (runes v))], 62 :: 60 :: 47 :: (n ++ (g ++ [62]))) := by
    intro k
    unfold attrsN
    rw [show blank (32 :: (g ++ 107 :: (g ++ 61 :: (g ++ 34 :: (escape v true ++ 34 :: (g ++ 62 :: 60 :: 47 :: (n ++ (g ++ [62])))))))) = (g.length + 1, 107 :: (g ++ 61 :: (g ++ 34 :: (escape v true ++ 34 :: (g ++ 62 :: 60 :: 47 :: (n ++ (g ++ [62]))))))) from
      blank_app (32 :: g) 107 _ (fun x hx => by rcases List.mem_cons.1 hx with rfl | hx; (decide); exact hg x hx) (by decide)]
    dsimp only
    rw [if_neg (by decide), attr_gap v g _ hg]
    dsimp only [Res.bind]
    rw [if_pos ⟨by decide, rfl⟩]
    unfold attrsN
    rw [blank_app g 62 _ hg (by decide)]
    cases g with
    | nil => rfl
    | cons x g => rfl
  rw [show (32 :: (g ++ 107 :: (g ++ 61 :: (g ++ 34 :: (escape v true ++ 34 :: (g ++ 62 :: 60 :: 47 :: (n ++ (g ++ [62])))))))).length + 1 = (g ++ 107 :: (g ++ 61 :: (g ++ 34 :: (escape v true ++ 34 :: (g ++ 62 :: 60 :: 47 :: (n ++ (g ++ [62]))))))).length + 2 from rfl, hat]
  dsimp only
  rw [if_neg (by simp [List.isPrefixOf]), show cut [62] (62 :: 60 :: 47 :: (n ++ (g ++ [62]))) = .ok (60 :: 47 :: (n ++ (g ++ [62]))) from cut_app [62] _]
  dsimp only
  rw [show contentN (element 11) ((60 :: 47 :: (n ++ (g ++ [62]))).length + 1) (60 :: 47 :: (n ++ (g ++ [62]))) = .ok ([], 60 :: 47 :: (n ++ (g ++ [62]))) by
    unfold contentN
    rw [if_pos (by simp [List.isPrefixOf])]]
  dsimp only
  rw [show cut [60, 47] (60 :: 47 :: (n ++ (g ++ [62]))) = .ok (n ++ (g ++ [62])) from cut_app [60, 47] _]
  dsimp only
  rw [rname_gap hn g 62 [] hg (by decide)]
  dsimp only
  rw [if_pos rfl, blank_app g 62 [] hg (by decide)]
  dsimp only
  rw [show cut [62] ([62] : Str) = .ok [] from cut_app [62] []]
  rfl
theorem escape_enc (v : Str) (b : Bool) : escape (enc (runes v)) b = escape v b := by
  rw [escape_runes, escape_runes, runes_enc fun r hr => runes_may hr]
theorem enc_runes_len (v : Str) : (enc (runes v)).length ≤ 4 * v.length := by
  have h : ∀ rs : List Nat, (enc rs).length ≤ 4 * rs.length := by
    intro rs
    induction rs with
    | nil => simp [enc]
    | cons r rs ih =>
      have := enc_len4 r
      rw [enc_cons, List.length_append, List.length_cons]
      omega
  have := h (runes v)
  have := runes_len v
  omega
theorem parse_plain (n v : Str) (hn : name n = true) (hl : n.length ≤ 100 ∧ v.length ≤ 200) :
    parse (60 :: (n ++ 32 :: 107 :: 61 :: 34 :: (escape v true ++ [34, 47, 62]))) = .ok (.mk n [([107], enc (runes v))] [] []) := by
  have hel := escape_len v true
  have hr : right 12 (.mk n [([107], enc (runes v))] [] []) = true := by
    unfold right
    rw [hn]
    simp only [attrsRight, rightKids]
    rw [show name [107] = true by decide +kernel, signs_enc fun r hr => runes_may hr]
    rfl
  have hw : write (.mk n [([107], enc (runes v))] [] []) = 60 :: (n ++ 32 :: 107 :: 61 :: 34 :: (escape v true ++ [34, 47, 62])) := by
    have := write_el n [([107], enc (runes v))] [] [] (name_ne hn) []
    rw [List.append_nil] at this
    rw [this]
    simp [writeAttrs, escape_enc]
  have hp := parse_write (e := .mk n [([107], enc (runes v))] [] []) (s := write (.mk n [([107], enc (runes v))] [] [])) (by
    unfold toText
    rw [if_pos hr, if_pos]
    rw [hw]
    simp only [List.length_cons, List.length_append, List.length_nil]
    omega)
  rw [hw] at hp
  exact hp

/-! how deep, how many attributes, how long -/
def rep : Nat → Str → Str
  | 0, _ => []
  | n + 1, s => rep n s ++ s
def resNum {α : Type} : Res α → Nat
  | .ok _ => 0
  | .bad .long => 3
  | .bad .form => 4
  | .bad .depth => 11
theorem deep_num : ∀ d : Fin 20, resNum (parse (rep (d.val + 1) [60, 97, 62] ++ rep (d.val + 1) [60, 47, 97, 62])) = if d.val + 1 ≤ 12 then 0 else 11 := by decide +kernel
def attrRow : Nat → Str
  | 0 => [60, 97]
  | n + 1 => attrRow n ++ [32, 120, UInt8.ofNat (97 + n), 61, 39, 39]
theorem attr_num : ∀ d : Fin 16, resNum (parse (attrRow d.val ++ [47, 62])) = if d.val ≤ 12 then 0 else 4 := by decide +kernel
theorem runes_x (n : Nat) : runes (List.replicate n 120) = List.replicate n 120 := by
  have h : enc (List.replicate n 120) = List.replicate n 120 := by
    induction n with
    | zero => rfl
    | succ n ih => rw [List.replicate_succ, enc_cons, ih]; rfl
  rw [← h]
  exact runes_enc fun r hr => by rw [(List.mem_replicate.1 hr).2]; decide
theorem escape_x (n : Nat) : escape (List.replicate n 120) false = List.replicate n 120 := by
  rw [escape_runes, runes_x]
  induction n with
  | zero => rfl
  | succ n ih => rw [List.replicate_succ, List.flatMap_cons, ih]; rfl
def xTree (n : Nat) : Elem := .mk [97] [] [.mk [] [] [] (List.replicate n 120)] []
def xText (n : Nat) : Str := 60 :: 97 :: 62 :: (List.replicate n 120 ++ [60, 47, 97, 62])
theorem write_x (n : Nat) : write (xTree n) = xText n := by
  unfold xTree xText
  simp [write, writes, writeAttrs, escape_x]
theorem toText_x (n : Nat) (h : 0 < n) : toText (xTree n) = if n + 7 ≤ 20000 then .ok (xText n) else .bad .long := by
  have hs : signs (List.replicate n 120) = true := by
    rw [good_iff]
    exact good_ascii _ fun c hc => by rw [(List.mem_replicate.1 hc).2]; decide
  have hr : right 12 (xTree n) = true := by
    unfold xTree
    simp only [right, rightKids, attrsRight, Elem.name, Elem.text, Elem.attrs, Elem.kids, hs]
    rw [show name [97] = true by decide +kernel]
    obtain ⟨m, rfl⟩ : ∃ m, n = m + 1 := ⟨n - 1, by omega⟩
    simp [List.replicate_succ]
  unfold toText
  rw [if_pos hr, write_x]
  have : (xText n).length = n + 7 := by simp [xText]
  rw [this]
theorem parse_x (n : Nat) (h : 0 < n) : parse (xText n) = if n + 7 ≤ 20000 then .ok (xTree n) else .bad .long := by
  have hl : (xText n).length = n + 7 := by simp [xText]
  by_cases h1 : n + 7 ≤ 20000
  · rw [if_pos h1]
    exact parse_write (by rw [toText_x n h, if_pos h1])
  · rw [if_neg h1]
    unfold parse
    rw [if_pos (by omega)]
end Go.Proofs.YtcmjaaigkbjpaaaGreatDoor.Lia
