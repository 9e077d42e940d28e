/- Own texts, merged for the hand-in. -/
import Derived.Lib.ValidLaws
import Derived.Lib.RuneBytes
import Derived.Lib.DecodeNEq
import Derived.Lib.MapLaws
import Derived.Lib.TrimUEq

/- The plain functions of layer 23: what the program's functions compute, on lists of bytes. No program in sight. -/
namespace Go.Proofs.YtcmjaaigkbjpaaaGreatDoor.Lia
open Go.Lib

abbrev Str := List UInt8

inductive Err where
  | form | long | depth
  deriving DecidableEq

inductive Res (α : Type) where
  | ok (x : α)
  | bad (e : Err)

def Res.bind {α β : Type} : Res α → (α → Res β) → Res β
  | .ok x, f => f x
  | .bad e, _ => .bad e

def isLetter (c : UInt8) : Bool := (97 ≤ c && c ≤ 122) || (65 ≤ c && c ≤ 90) || c == 95
def isSign (c : UInt8) : Bool := isLetter c || (48 ≤ c && c ≤ 57) || c == 45 || c == 46

def part : Str → Bool
  | [] => false
  | c :: t => decide (t.length < 64) && isLetter c && (c :: t).all isSign

/-- What is ahead of the first c, and what is behind it, if there is one. -/
def cutAt (c : UInt8) : Str → Str × Option Str
  | [] => ([], none)
  | x :: t => if x = c then ([], some t) else ((x :: (cutAt c t).1), (cutAt c t).2)

def name (s : Str) : Bool :=
  part (cutAt 58 s).1 && (match (cutAt 58 s).2 with | none => true | some b => part b)

def may (r : Nat) : Bool :=
  if r < 32 then r == 9 || r == 10 || r == 13
  else if r = 65534 ∨ r = 65535 then false
  else decide (r < 55296) || (decide (57344 ≤ r) && decide (r ≤ 1114111))

/-- All signs of a text may stand there: by rounds. -/
def allMay : Nat → Str → Bool
  | 0, _ => true
  | n + 1, l => if l = [] then true else may (decodeL l).1 && allMay n (l.drop (decodeL l).2)

def signs (l : Str) : Bool := validD l && allMay l.length l

def amp : Str := [38, 97, 109, 112, 59]
def lt : Str := [38, 108, 116, 59]
def gt : Str := [38, 103, 116, 59]
def cr : Str := [38, 35, 49, 51, 59]
def quot : Str := [38, 113, 117, 111, 116, 59]
def tab : Str := [38, 35, 57, 59]
def nl : Str := [38, 35, 49, 48, 59]

def escaped (r : Nat) (value : Bool) : Option Str :=
  if r = 60 then some lt
  else if r = 62 then some gt
  else if r = 38 then some amp
  else if r = 13 then some cr
  else if value = false then none
  else if r = 34 then some quot
  else if r = 9 then some tab
  else if r = 10 then some nl
  else none

/-- One sign as it is written. -/
def escOne (value : Bool) (r size : Nat) : Str :=
  if (r = 65533 ∧ size = 1) ∨ may r = false then []
  else match escaped r value with
    | some t => t
    | none => encodeRune r

def escapeN (value : Bool) : Nat → Str → Str
  | 0, _ => []
  | n + 1, l => if l = [] then [] else escOne value (decodeL l).1 (decodeL l).2 ++ escapeN value n (l.drop (decodeL l).2)

def escape (l : Str) (value : Bool) : Str := escapeN value l.length l

inductive Elem where
  | mk (name : Str) (attrs : List (Str × Str)) (kids : List Elem) (text : Str)

namespace Elem
def name : Elem → Str | mk n _ _ _ => n
def attrs : Elem → List (Str × Str) | mk _ a _ _ => a
def kids : Elem → List Elem | mk _ _ k _ => k
def text : Elem → Str | mk _ _ _ t => t
end Elem

def none_ : Elem := .mk [] [] [] []

/-! reading -/
def isBlank (c : UInt8) : Bool := c == 32 || c == 9 || c == 10 || c == 13
def cut (p s : Str) : Res Str := if p.isPrefixOf s then .ok (s.drop p.length) else .bad .form
def blank (s : Str) : Nat × Str := ((s.takeWhile isBlank).length, s.dropWhile isBlank)
/-- All ahead of the first byte that is one of some. -/
def upTo (some_ : Str) (s : Str) : Res (Str × Str) :=
  match s.dropWhile (fun c => !some_.contains c) with
  | [] => .bad .form
  | c :: t => .ok (s.takeWhile (fun c => !some_.contains c), c :: t)
def rname (s : Str) : Res (Str × Str) :=
  if name (s.takeWhile fun c => isSign c || c == 58) then .ok (s.takeWhile fun c => isSign c || c == 58, s.dropWhile fun c => isSign c || c == 58) else .bad .form

def named (s : Str) : Option Str :=
  if s = [108, 116] then some [60]
  else if s = [103, 116] then some [62]
  else if s = [97, 109, 112] then some [38]
  else if s = [113, 117, 111, 116] then some [34]
  else if s = [97, 112, 111, 115] then some [39]
  else none

/-- A digit's value; 99: it is none. -/
def digit (c : UInt8) : Nat :=
  if 48 ≤ c ∧ c ≤ 57 then c.toNat - 48
  else if 97 ≤ c ∧ c ≤ 102 then c.toNat - 87
  else if 65 ≤ c ∧ c ≤ 70 then c.toNat - 55
  else 99

def number (base : Nat) : Nat → Str → Option Nat
  | n, [] => some n
  | n, c :: t => if digit c < base then number base (n * base + digit c) t else none

def reference (s : Str) : Res Str :=
  match named s with
  | some t => .ok t
  | none => match s with
    | 35 :: t =>
      let (base, d) : Nat × Str := match t with | 120 :: u => (16, u) | _ => (10, t)
      if d = [] ∨ 8 < d.length then .bad .form
      else match number base 0 d with
        | none => .bad .form
        | some n => if may n then .ok (encodeRune n) else .bad .form
    | _ => .bad .form

/-- The signs behind references, by rounds. -/
def textN : Nat → Str → Res Str
  | 0, _ => .ok []
  | n + 1, s => match cutAt 38 s with
    | (a, none) => .ok a
    | (a, some b) => match cutAt 59 b with
      | (_, none) => .bad .form
      | (nm, some rest) => (reference nm).bind fun t => (textN n rest).bind fun u => .ok (a ++ t ++ u)

def text (s : Str) : Res Str := if signs s then textN (s.length + 1) s else .bad .form

def attr (s : Str) : Res ((Str × Str) × Str) :=
  (rname s).bind fun (n, s) =>
  (cut [61] (blank s).2).bind fun s =>
  match (blank s).2 with
  | [] => .bad .form
  | m :: s => if m = 34 ∨ m = 39 then
      (upTo [m, 60] s).bind fun (v, s) =>
      (cut [m] s).bind fun s =>
      (text v).bind fun v => .ok ((n, v), s)
    else .bad .form

def attrsN : Nat → List (Str × Str) → Str → Res (List (Str × Str) × Str)
  | 0, out, s => .ok (out, s)
  | n + 1, out, s => match blank s with
    | (0, s) => .ok (out, s)
    | (_ + 1, []) => .ok (out, [])
    | (_ + 1, c :: t) => if c = 47 ∨ c = 62 then .ok (out, c :: t)
      else (attr (c :: t)).bind fun (a, s) =>
        if out.length < 12 ∧ (out.any fun b => b.1 == a.1) = false then attrsN n (out ++ [a]) s else .bad .form

def contentN (el : Str → Res (Elem × Str)) : Nat → Str → Res (List Elem × Str)
  | 0, s => .ok ([], s)
  | n + 1, s =>
    if [60, 47].isPrefixOf s then .ok ([], s)
    else (upTo [60] s).bind fun (t, s) =>
      if t = [] then (el s).bind fun (e, s) => (contentN el n s).bind fun (k, s) => .ok (e :: k, s)
      else (text t).bind fun t => (contentN el n s).bind fun (k, s) => .ok (.mk [] [] [] t :: k, s)

/-- An element, so many of which may stand in each other. -/
def element : Nat → Str → Res (Elem × Str)
  | d, s =>
    (cut [60] s).bind fun s =>
    (rname s).bind fun (n, s) =>
    match d with
    | 0 => .bad .depth
    | d + 1 =>
      (attrsN (s.length + 1) [] s).bind fun (as, s) =>
      if [47].isPrefixOf s then (cut [47, 62] s).bind fun s => .ok (.mk n as [] [], s)
      else (cut [62] s).bind fun s =>
        (contentN (element d) (s.length + 1) s).bind fun (ks, s) =>
        (cut [60, 47] s).bind fun s =>
        (rname s).bind fun (m, s) =>
        if m = n then (cut [62] (blank s).2).bind fun s => .ok (.mk n as ks [], s) else .bad .form

def parse (s : Str) : Res Elem :=
  if 20000 < s.length then .bad .long
  else (element 12 s).bind fun (e, s) => if s = [] then .ok e else .bad .form

/-! writing -/
def attrsRight : List (Str × Str) → List (Str × Str) → Bool
  | _, [] => true
  | ahead, a :: t => name a.1 && signs a.2 && !(ahead.any fun b => b.1 == a.1) && attrsRight (ahead ++ [a]) t

mutual
/-- Right, so many of which may stand in each other. -/
def right : Nat → Elem → Bool
  | 0, _ => false
  | d + 1, .mk n as ks t => Lia.name n && t == [] && (attrsRight [] as && decide (as.length ≤ 12)) && rightKids d false ks
def rightKids : Nat → Bool → List Elem → Bool
  | _, _, [] => true
  | d, beside, k :: t =>
    (if k.name ≠ [] then right d k else !(k.text == [] || beside || !k.attrs.isEmpty || !k.kids.isEmpty || !signs k.text)) && rightKids d (k.name == []) t
end

def writeAttrs : List (Str × Str) → Str
  | [] => []
  | (n, v) :: t => [32] ++ n ++ [61, 34] ++ escape v true ++ [34] ++ writeAttrs t

mutual
def write : Elem → Str
  | .mk n as ks t =>
    if n = [] then escape t false
    else [60] ++ n ++ writeAttrs as ++ (if ks.isEmpty then [47, 62] else [62] ++ writes ks ++ [60, 47] ++ n ++ [62])
def writes : List Elem → Str
  | [] => []
  | k :: t => write k ++ writes t
end

def toText (e : Elem) : Res Str :=
  if right 12 e then (if (write e).length ≤ 20000 then .ok (write e) else .bad .long) else .bad .form

end Go.Proofs.YtcmjaaigkbjpaaaGreatDoor.Lia

/- Plain laws of layer 23: signs and escapes: what is escaped is read as it was. No program in sight. -/
namespace Go.Proofs.YtcmjaaigkbjpaaaGreatDoor.Lia
open Go.Lib

theorem may_iff (r : Nat) : may r = true ↔ (r = 9 ∨ r = 10 ∨ r = 13 ∨ (32 ≤ r ∧ r ≠ 65534 ∧ r ≠ 65535 ∧ (r < 55296 ∨ (57344 ≤ r ∧ r ≤ 1114111)))) := by
  unfold may
  by_cases h : r < 32
  · rw [if_pos h]
    simp only [Bool.or_eq_true, beq_iff_eq]
    omega
  · rw [if_neg h]
    by_cases h2 : r = 65534 ∨ r = 65535
    · rw [if_pos h2]
      simp only [Bool.false_eq_true, false_iff]
      omega
    · rw [if_neg h2]
      simp only [Bool.or_eq_true, Bool.and_eq_true, decide_eq_true_eq]
      omega
theorem enc1 (r : Nat) (h : r ≤ 127) : ∃ a : UInt8, encodeRune r = [a] ∧ a.toNat = r := by
  refine ⟨_, by unfold encodeRune; rw [encodeRuneZ_one (by omega) (by omega)]; rfl, ?_⟩
  simp
  omega
theorem enc2 (r : Nat) (h0 : 128 ≤ r) (h1 : r ≤ 2047) : ∃ a b : UInt8, encodeRune r = [a, b] ∧ a.toNat = 192 + r / 64 ∧ b.toNat = 128 + r % 64 := by
  refine ⟨_, _, by unfold encodeRune; rw [encodeRuneZ_two (by omega) (by omega)]; rfl, ?_, ?_⟩ <;> simp <;> omega
theorem enc3 (r : Nat) (h : (2048 ≤ r ∧ r < 55296) ∨ (57343 < r ∧ r ≤ 65535)) : ∃ a b c : UInt8, encodeRune r = [a, b, c] ∧ a.toNat = 224 + r / 4096 ∧ b.toNat = 128 + r / 64 % 64 ∧ c.toNat = 128 + r % 64 := by
  refine ⟨_, _, _, by unfold encodeRune; rw [encodeRuneZ_three (by omega)]; rfl, ?_, ?_, ?_⟩ <;> simp <;> omega
theorem enc4 (r : Nat) (h0 : 65536 ≤ r) (h1 : r ≤ 1114111) : ∃ a b c d : UInt8, encodeRune r = [a, b, c, d] ∧ a.toNat = 240 + r / 262144 ∧ b.toNat = 128 + r / 4096 % 64 ∧ c.toNat = 128 + r / 64 % 64 ∧ d.toNat = 128 + r % 64 := by
  refine ⟨_, _, _, _, by unfold encodeRune; rw [encodeRuneZ_four (by omega) (by omega)]; rfl, ?_, ?_, ?_, ?_⟩ <;> simp <;> omega
theorem dec_enc (r : Nat) (t : Str) (h : r < 55296 ∨ (57344 ≤ r ∧ r ≤ 1114111)) : decodeL (encodeRune r ++ t) = (r, (encodeRune r).length) := by
  by_cases h1 : r ≤ 127
  · obtain ⟨a, e, ha⟩ := enc1 r h1
    rw [e]
    have := decodeL_ascii a t (by omega)
    rw [ha] at this
    exact this
  by_cases h2 : r ≤ 2047
  · obtain ⟨a, b, e, ha, hb⟩ := enc2 r (by omega) h2
    rw [e, decodeL_N]
    simp only [List.cons_append, List.nil_append, List.getD_cons_zero, List.getD_cons_succ, ha, hb, List.length_cons, List.length_nil]
    unfold decodeN
    rw [if_neg (by omega), if_pos (by omega), if_pos (by omega)]
    refine Prod.ext ?_ rfl
    show _ = r
    omega
  by_cases h3 : r ≤ 65535
  · obtain ⟨a, b, c, e, ha, hb, hc⟩ := enc3 r (by omega)
    rw [e, decodeL_N]
    simp only [List.cons_append, List.nil_append, List.getD_cons_zero, List.getD_cons_succ, ha, hb, hc, List.length_cons, List.length_nil]
    unfold decodeN
    rw [if_neg (by omega), if_neg (by omega), if_pos (by omega), if_pos (by omega)]
    refine Prod.ext ?_ rfl
    show _ = r
    omega
  · obtain ⟨a, b, c, d, e, ha, hb, hc, hd⟩ := enc4 r (by omega) (by omega)
    rw [e, decodeL_N]
    simp only [List.cons_append, List.nil_append, List.getD_cons_zero, List.getD_cons_succ, ha, hb, hc, hd, List.length_cons, List.length_nil]
    unfold decodeN
    rw [if_neg (by omega), if_neg (by omega), if_neg (by omega), if_pos (by omega), if_pos (by omega)]
    refine Prod.ext ?_ rfl
    show _ = r
    omega
/-- A sign's bytes: the sign itself below 128, or all of them from 128 on. -/
theorem enc_cases (r : Nat) (h : r < 55296 ∨ (57344 ≤ r ∧ r ≤ 1114111)) : (r ≤ 127 ∧ ∃ a : UInt8, encodeRune r = [a] ∧ a.toNat = r) ∨ (128 ≤ r ∧ 2 ≤ (encodeRune r).length ∧ ∀ c ∈ encodeRune r, 128 ≤ c.toNat) := by
  by_cases h1 : r ≤ 127
  · exact .inl ⟨h1, enc1 r h1⟩
  refine .inr ⟨by omega, ?_⟩
  by_cases h2 : r ≤ 2047
  · obtain ⟨a, b, e, ha, hb⟩ := enc2 r (by omega) h2
    rw [e]
    simp
    omega
  by_cases h3 : r ≤ 65535
  · obtain ⟨a, b, c, e, ha, hb, hc⟩ := enc3 r (by omega)
    rw [e]
    simp
    omega
  · obtain ⟨a, b, c, d, e, ha, hb, hc, hd⟩ := enc4 r (by omega) (by omega)
    rw [e]
    simp
    omega
theorem may_ok {r : Nat} (h : may r = true) : r < 55296 ∨ (57344 ≤ r ∧ r ≤ 1114111) := by
  rw [may_iff] at h
  omega

/-- The signs of a text that may stand. -/
def runesN : Nat → Str → List Nat
  | 0, _ => []
  | n + 1, l => if l = [] then [] else (if ((decodeL l).1 = 65533 ∧ (decodeL l).2 = 1) ∨ may (decodeL l).1 = false then [] else [(decodeL l).1]) ++ runesN n (l.drop (decodeL l).2)
def runes (l : Str) : List Nat := runesN l.length l
def enc (rs : List Nat) : Str := rs.flatMap fun r : Nat => encodeRune (r : Int)
def esc1 (b : Bool) (r : Nat) : Str := match escaped r b with | some t => t | none => encodeRune r
theorem enc_cons (r : Nat) (rs : List Nat) : enc (r :: rs) = encodeRune r ++ enc rs := by simp [enc]
theorem enc_append (a b : List Nat) : enc (a ++ b) = enc a ++ enc b := by simp [enc]
theorem escapeN_runes (b : Bool) : ∀ n l, escapeN b n l = (runesN n l).flatMap (esc1 b)
  | 0, _ => rfl
  | n + 1, l => by
    unfold escapeN runesN
    by_cases h : l = []
    · rw [if_pos h, if_pos h]; rfl
    · rw [if_neg h, if_neg h, List.flatMap_append, escapeN_runes b n]
      congr 1
      unfold escOne
      by_cases h2 : ((decodeL l).1 = 65533 ∧ (decodeL l).2 = 1) ∨ may (decodeL l).1 = false
      · rw [if_pos h2, if_pos h2]; rfl
      · rw [if_neg h2, if_neg h2, List.flatMap_singleton]; rfl
theorem escape_runes (l : Str) (b : Bool) : escape l b = (runes l).flatMap (esc1 b) := escapeN_runes b _ l
theorem runesN_may : ∀ n l r, r ∈ runesN n l → may r = true
  | 0, _, _, h => by simp [runesN] at h
  | n + 1, l, r, h => by
    unfold runesN at h
    by_cases h1 : l = []
    · rw [if_pos h1] at h; simp at h
    · rw [if_neg h1] at h
      rcases List.mem_append.1 h with h | h
      · by_cases h2 : ((decodeL l).1 = 65533 ∧ (decodeL l).2 = 1) ∨ may (decodeL l).1 = false
        · rw [if_pos h2] at h; simp at h
        · rw [if_neg h2] at h
          simp only [List.mem_singleton] at h
          subst h
          simp only [not_or, Bool.not_eq_false] at h2
          exact h2.2
      · exact runesN_may n _ r h
theorem runes_may {l : Str} {r : Nat} (h : r ∈ runes l) : may r = true := runesN_may _ _ r h
theorem runesN_len : ∀ n l, (runesN n l).length ≤ n
  | 0, _ => by simp [runesN]
  | n + 1, l => by
    unfold runesN
    have := runesN_len n (l.drop (decodeL l).2)
    by_cases h1 : l = []
    · rw [if_pos h1]; simp
    · rw [if_neg h1, List.length_append]
      split <;> simp <;> omega
theorem runes_len (l : Str) : (runes l).length ≤ l.length := runesN_len _ l
theorem encN_signs : ∀ n l, l.length ≤ n → validD l = true → allMay n l = true → enc (runesN n l) = l
  | 0, l, h, _, _ => by
    have : l = [] := List.eq_nil_of_length_eq_zero (by omega)
    subst this; rfl
  | n + 1, l, h, hv, hm => by
    unfold runesN
    by_cases h1 : l = []
    · rw [if_pos h1, h1]; rfl
    · rw [if_neg h1]
      unfold allMay at hm
      rw [if_neg h1, Bool.and_eq_true] at hm
      rw [validD_step l h1] at hv
      by_cases h2 : (decodeL l).1 = 65533 ∧ (decodeL l).2 = 1
      · rw [if_pos h2] at hv; cases hv
      · rw [if_neg h2] at hv
        rw [if_neg (by rw [hm.1]; simp; simpa using h2)]
        have hw := decodeL_width l
        rw [List.singleton_append, enc_cons, encN_signs n _ (by rw [List.length_drop]; have : 0 < l.length := List.length_pos_iff.2 h1; omega) hv hm.2, encode_decode l h1 h2, List.take_append_drop]
theorem enc_runes {l : Str} (h : signs l = true) : enc (runes l) = l := by
  unfold signs at h
  rw [Bool.and_eq_true] at h
  exact encN_signs _ l (Nat.le_refl _) h.1 h.2
theorem not_bad (r : Nat) (h : r < 55296 ∨ (57344 ≤ r ∧ r ≤ 1114111)) : ¬ (r = 65533 ∧ (encodeRune r).length = 1) := by
  rintro ⟨h1, h2⟩
  rcases enc_cases r h with ⟨h3, _⟩ | ⟨_, h3, _⟩ <;> omega
theorem enc_ne (r : Nat) (t : Str) (h : r < 55296 ∨ (57344 ≤ r ∧ r ≤ 1114111)) : encodeRune r ++ t ≠ [] := by
  rcases enc_cases r h with ⟨_, a, e, _⟩ | ⟨_, h3, _⟩
  · rw [e]; simp
  · intro e
    have := congrArg List.length e
    rw [List.length_append, List.length_nil] at this
    omega
theorem enc_valid : ∀ rs : List Nat, (∀ r ∈ rs, may r = true) → validD (enc rs) = true
  | [], _ => rfl
  | r :: rs, h => by
    have hr := may_ok (h r (by simp))
    rw [enc_cons, validD_step _ (enc_ne r _ hr), dec_enc r _ hr, if_neg (not_bad r hr)]
    simp only [List.drop_left]
    exact enc_valid rs fun x hx => h x (by simp [hx])
theorem enc_may : ∀ (n : Nat) (rs : List Nat), (∀ r ∈ rs, may r = true) → allMay n (enc rs) = true
  | 0, _, _ => rfl
  | n + 1, [], _ => by simp [allMay, enc]
  | n + 1, r :: rs, h => by
    have hr := may_ok (h r (by simp))
    unfold allMay
    rw [enc_cons, if_neg (enc_ne r _ hr), dec_enc r _ hr]
    simp only [List.drop_left, h r (by simp), Bool.true_and]
    exact enc_may n rs fun x hx => h x (by simp [hx])
theorem signs_enc {rs : List Nat} (h : ∀ r ∈ rs, may r = true) : signs (enc rs) = true := by
  unfold signs
  rw [enc_valid rs h, enc_may _ rs h]; rfl
theorem runesN_enc : ∀ (n : Nat) (rs : List Nat), (∀ r ∈ rs, may r = true) → rs.length ≤ n → runesN n (enc rs) = rs
  | 0, rs, _, hn => by
    have : rs = [] := List.eq_nil_of_length_eq_zero (by omega)
    subst this; rfl
  | n + 1, [], _, _ => by simp [runesN, enc]
  | n + 1, r :: rs, h, hn => by
    have hr := may_ok (h r (by simp))
    unfold runesN
    rw [enc_cons, if_neg (enc_ne r _ hr), dec_enc r _ hr]
    simp only [List.drop_left]
    rw [if_neg (by rw [h r (by simp)]; simp only [Bool.true_eq_false, or_false]; exact not_bad r hr), runesN_enc n rs (fun x hx => h x (by simp [hx])) (by simp at hn; omega)]
    rfl
theorem enc_len : ∀ rs : List Nat, (∀ r ∈ rs, may r = true) → rs.length ≤ (enc rs).length
  | [], _ => by simp [enc]
  | r :: rs, h => by
    have hr := may_ok (h r (by simp))
    have := enc_len rs fun x hx => h x (by simp [hx])
    rw [enc_cons, List.length_append, List.length_cons]
    rcases enc_cases r hr with ⟨_, a, e, _⟩ | ⟨_, h3, _⟩
    · rw [e]; simp; omega
    · omega
theorem runes_enc {rs : List Nat} (h : ∀ r ∈ rs, may r = true) : runes (enc rs) = rs := runesN_enc _ rs h (enc_len rs h)

/-! reading references -/
theorem cutAt_ne {c x : UInt8} (t : Str) (h : x ≠ c) : cutAt c (x :: t) = (x :: (cutAt c t).1, (cutAt c t).2) := by simp [cutAt, h]
theorem cutAt_here (c : UInt8) (t : Str) : cutAt c (c :: t) = ([], some t) := by simp [cutAt]
theorem cutAt_app {c : UInt8} : ∀ {p : Str} (t : Str), c ∉ p → cutAt c (p ++ c :: t) = (p, some t)
  | [], t, _ => cutAt_here c t
  | x :: p, t, h => by
    rw [List.cons_append, cutAt_ne _ (by intro e; exact h (by simp [e])), cutAt_app t (by intro e; exact h (by simp [e]))]
theorem cutAt_is {c : UInt8} : ∀ {s a r : Str}, cutAt c s = (a, some r) → s = a ++ c :: r ∧ c ∉ a
  | [], a, r, h => by simp [cutAt] at h
  | x :: t, a, r, h => by
    by_cases e : x = c
    · subst e
      rw [cutAt_here] at h
      simp only [Prod.mk.injEq, Option.some.injEq] at h
      obtain ⟨rfl, rfl⟩ := h
      simp
    · rw [cutAt_ne t e] at h
      simp only [Prod.mk.injEq] at h
      obtain ⟨rfl, h2⟩ := h
      obtain ⟨h3, h4⟩ := cutAt_is (c := c) (s := t) (a := (cutAt c t).1) (r := r) (by rw [← h2])
      refine ⟨?_, ?_⟩
      · rw [List.cons_append, ← h3]
      · simp only [List.mem_cons, not_or]
        exact ⟨fun he => e he.symm, h4⟩
theorem cutAt_no {c : UInt8} : ∀ {s a : Str}, cutAt c s = (a, none) → s = a ∧ c ∉ a
  | [], a, h => by simp [cutAt] at h; simp [h]
  | x :: t, a, h => by
    by_cases e : x = c
    · subst e
      rw [cutAt_here] at h
      simp at h
    · rw [cutAt_ne t e] at h
      simp only [Prod.mk.injEq] at h
      obtain ⟨rfl, h2⟩ := h
      obtain ⟨h3, h4⟩ := cutAt_no (c := c) (s := t) (a := (cutAt c t).1) (by rw [← h2])
      refine ⟨by rw [← h3], ?_⟩
      simp only [List.mem_cons, not_or]
      exact ⟨fun he => e he.symm, h4⟩
theorem cutAt_lt {c : UInt8} {s a r : Str} (h : cutAt c s = (a, some r)) : r.length < s.length := by
  rw [(cutAt_is h).1]; simp; omega
theorem textN_fuel : ∀ n m s, s.length < n → s.length < m → textN n s = textN m s
  | 0, _, _, h, _ => by omega
  | _ + 1, 0, _, _, h => by omega
  | n + 1, m + 1, s, h1, h2 => by
    unfold textN
    rcases hc : cutAt 38 s with ⟨a, _ | b⟩
    · rfl
    · dsimp only
      have l1 := cutAt_lt hc
      rcases hd : cutAt 59 b with ⟨nm, _ | rest⟩
      · rfl
      · dsimp only
        have l2 := cutAt_lt hd
        rw [textN_fuel n m rest (by omega) (by omega)]
/-- A text behind its references. -/
def Tx (s : Str) : Res Str := textN (s.length + 1) s
theorem Tx_nil : Tx [] = .ok [] := rfl
theorem Tx_plain (c : UInt8) (s : Str) (h : c ≠ 38) : Tx (c :: s) = (Tx s).bind fun u => .ok (c :: u) := by
  have e1 : Tx s = textN (s.length + 1 + 1) s := textN_fuel _ _ s (by omega) (by omega)
  rw [e1]
  show textN (s.length + 1 + 1) (c :: s) = _
  generalize s.length + 1 = k
  unfold textN
  rw [cutAt_ne s h]
  rcases hc : cutAt 38 s with ⟨a, _ | b⟩
  · rfl
  · dsimp only
    rcases hd : cutAt 59 b with ⟨nm, _ | rest⟩
    · rfl
    · dsimp only
      cases reference nm with
      | bad e => rfl
      | ok t =>
        dsimp only [Res.bind]
        cases textN k rest <;> rfl
theorem Tx_plains : ∀ (p s : Str), (38 : UInt8) ∉ p → Tx (p ++ s) = (Tx s).bind fun u => .ok (p ++ u)
  | [], s, _ => by simp only [List.nil_append]; cases Tx s <;> rfl
  | c :: p, s, h => by
    rw [List.cons_append, Tx_plain c _ (by rintro rfl; exact h (by simp)), Tx_plains p s (by intro e; exact h (by simp [e]))]
    cases Tx s <;> rfl
theorem Tx_ref (nm t s : Str) (hn : (59 : UInt8) ∉ nm) (hr : reference nm = .ok t) : Tx (38 :: (nm ++ 59 :: s)) = (Tx s).bind fun u => .ok (t ++ u) := by
  have e1 : Tx s = textN ((38 :: (nm ++ 59 :: s)).length) s := textN_fuel _ _ s (by omega) (by simp; omega)
  rw [e1]
  unfold Tx
  generalize (38 :: (nm ++ 59 :: s)).length = k
  conv => lhs; unfold textN
  rw [cutAt_here]
  dsimp only
  rw [cutAt_app s hn]
  dsimp only
  rw [hr]
  rfl
theorem Tx_esc1 (b : Bool) (r : Nat) (s : Str) (h : may r = true) : Tx (esc1 b r ++ s) = (Tx s).bind fun u => .ok (encodeRune r ++ u) := by
  have hp : r ≠ 38 → Tx (encodeRune r ++ s) = (Tx s).bind fun u => .ok (encodeRune r ++ u) := by
    intro h38
    refine Tx_plains _ s ?_
    intro hm
    rcases enc_cases r (may_ok h) with ⟨_, a, e, ha⟩ | ⟨_, _, h3⟩
    · rw [e] at hm
      simp only [List.mem_singleton] at hm
      subst hm
      exact h38 ha.symm
    · have := h3 _ hm
      simp at this
  unfold esc1 escaped
  by_cases e1 : r = 60
  · subst e1; exact Tx_ref [108, 116] [60] s (by decide) rfl
  rw [if_neg e1]
  by_cases e2 : r = 62
  · subst e2; exact Tx_ref [103, 116] [62] s (by decide) rfl
  rw [if_neg e2]
  by_cases e3 : r = 38
  · subst e3; exact Tx_ref [97, 109, 112] [38] s (by decide) rfl
  rw [if_neg e3]
  by_cases e4 : r = 13
  · subst e4; exact Tx_ref [35, 49, 51] [13] s (by decide) rfl
  rw [if_neg e4]
  by_cases e5 : b = false
  · rw [if_pos e5]; exact hp e3
  rw [if_neg e5]
  by_cases e6 : r = 34
  · subst e6; exact Tx_ref [113, 117, 111, 116] [34] s (by decide) rfl
  rw [if_neg e6]
  by_cases e7 : r = 9
  · subst e7; exact Tx_ref [35, 57] [9] s (by decide) rfl
  rw [if_neg e7]
  by_cases e8 : r = 10
  · subst e8; exact Tx_ref [35, 49, 48] [10] s (by decide) rfl
  rw [if_neg e8]
  exact hp e3
theorem Tx_escs (b : Bool) : ∀ rs : List Nat, (∀ r ∈ rs, may r = true) → Tx (rs.flatMap (esc1 b)) = .ok (enc rs)
  | [], _ => rfl
  | r :: rs, h => by
    rw [List.flatMap_cons, Tx_esc1 b r _ (h r (by simp)), Tx_escs b rs fun x hx => h x (by simp [hx]), enc_cons]
    rfl

/-! which signs a text is made of -/
def Good (l : Str) : Prop := ∃ rs : List Nat, (∀ r ∈ rs, may r = true) ∧ l = enc rs
theorem Good.nil : Good [] := ⟨[], by simp, rfl⟩
theorem Good.app {a b : Str} (ha : Good a) (hb : Good b) : Good (a ++ b) := by
  obtain ⟨x, hx, rfl⟩ := ha
  obtain ⟨y, hy, rfl⟩ := hb
  exact ⟨x ++ y, fun r hr => (List.mem_append.1 hr).elim (hx r) (hy r), (enc_append x y).symm⟩
theorem Good.one {r : Nat} (h : may r = true) : Good (encodeRune r) := ⟨[r], by simpa using h, by simp [enc]⟩
theorem good_ascii : ∀ p : Str, (∀ c ∈ p, 32 ≤ c.toNat ∧ c.toNat ≤ 127) → Good p
  | [], _ => Good.nil
  | c :: p, h => by
    have hc := h c (by simp)
    have h1 : Good [c] := by
      obtain ⟨a, e, ha⟩ := enc1 c.toNat hc.2
      have : a = c := UInt8.toNat_inj.1 ha
      subst this
      rw [← e]
      exact Good.one ((may_iff _).2 (by omega))
    exact h1.app (good_ascii p fun x hx => h x (by simp [hx]))
theorem good_iff (l : Str) : signs l = true ↔ Good l := by
  constructor
  · intro h
    exact ⟨runes l, fun r hr => runes_may hr, (enc_runes h).symm⟩
  · rintro ⟨rs, h, rfl⟩
    exact signs_enc h
theorem escaped_cases (r : Nat) (b : Bool) : escaped r b = none ∨ ∃ t ∈ [lt, gt, amp, cr, quot, tab, nl], escaped r b = some t := by
  unfold escaped
  repeat' split
  all_goals simp
theorem good_esc1 (b : Bool) (r : Nat) (h : may r = true) : Good (esc1 b r) := by
  unfold esc1
  rcases escaped_cases r b with e | ⟨t, ht, e⟩
  · rw [e]; exact Good.one h
  · rw [e]
    have : ∀ t ∈ [lt, gt, amp, cr, quot, tab, nl], ∀ c ∈ t, 32 ≤ c.toNat ∧ c.toNat ≤ 127 := by decide
    exact good_ascii t (this t ht)
theorem good_escs (b : Bool) : ∀ rs : List Nat, (∀ r ∈ rs, may r = true) → Good (rs.flatMap (esc1 b))
  | [], _ => Good.nil
  | r :: rs, h => by
    rw [List.flatMap_cons]
    exact (good_esc1 b r (h r (by simp))).app (good_escs b rs fun x hx => h x (by simp [hx]))
theorem signs_escape (l : Str) (b : Bool) : signs (escape l b) = true := by
  rw [good_iff, escape_runes]
  exact good_escs b _ fun r hr => runes_may hr
/-- What was escaped is read as what may stand of it. -/
theorem text_escape (l : Str) (b : Bool) : text (escape l b) = .ok (enc (runes l)) := by
  unfold text
  rw [if_pos (signs_escape l b), escape_runes]
  exact Tx_escs b _ fun r hr => runes_may hr
theorem text_escape_signs {l : Str} (h : signs l = true) (b : Bool) : text (escape l b) = .ok l := by
  rw [text_escape, enc_runes h]
theorem esc1_no (b : Bool) (r : Nat) (c : UInt8) (h : may r = true) (hc : c = 60 ∨ (c = 34 ∧ b = true)) : c ∉ esc1 b r := by
  unfold esc1
  rcases escaped_cases r b with e | ⟨t, ht, e⟩
  · rw [e]
    dsimp only
    intro hm
    have hr : r ≠ c.toNat := by
      rintro rfl
      rcases hc with rfl | ⟨rfl, rfl⟩ <;> simp [escaped] at e
    have hlt : c.toNat ≤ 127 := by rcases hc with rfl | ⟨rfl, _⟩ <;> decide
    rcases enc_cases r (may_ok h) with ⟨_, a, e2, ha⟩ | ⟨_, _, h3⟩
    · rw [e2] at hm
      simp only [List.mem_singleton] at hm
      subst hm
      exact hr ha.symm
    · have := h3 _ hm
      omega
  · rw [e]
    have : ∀ t ∈ [lt, gt, amp, cr, quot, tab, nl], (60 : UInt8) ∉ t ∧ (34 : UInt8) ∉ t := by decide
    rcases hc with rfl | ⟨rfl, _⟩
    · exact (this t ht).1
    · exact (this t ht).2
theorem escape_no (l : Str) (b : Bool) (c : UInt8) (hc : c = 60 ∨ (c = 34 ∧ b = true)) : c ∉ escape l b := by
  rw [escape_runes]
  intro h
  obtain ⟨r, hr, h2⟩ := List.mem_flatMap.1 h
  exact esc1_no b r c (runes_may hr) hc h2
theorem esc1_len (b : Bool) (r : Nat) : (esc1 b r).length ≤ 6 := by
  unfold esc1
  rcases escaped_cases r b with e | ⟨t, ht, e⟩
  · rw [e]
    have := encodeRuneZ_length r
    unfold encodeRune
    simp only [List.length_map]
    omega
  · rw [e]
    have : ∀ t ∈ [lt, gt, amp, cr, quot, tab, nl], t.length ≤ 6 := by decide
    exact this t ht
theorem escs_len (b : Bool) : ∀ rs : List Nat, (rs.flatMap (esc1 b)).length ≤ 6 * rs.length
  | [] => by simp
  | r :: rs => by
    have h1 := esc1_len b r
    have h2 := escs_len b rs
    rw [List.flatMap_cons, List.length_append, List.length_cons]
    omega
theorem escape_len (l : Str) (b : Bool) : (escape l b).length ≤ 6 * l.length := by
  rw [escape_runes]
  have := escs_len b (runes l)
  have := runes_len l
  omega
theorem esc1_ne (b : Bool) (r : Nat) (h : may r = true) : esc1 b r ≠ [] := by
  unfold esc1
  rcases escaped_cases r b with e | ⟨t, ht, e⟩
  · rw [e]
    have := enc_ne r [] (may_ok h)
    simpa using this
  · rw [e]
    have : ∀ t ∈ [lt, gt, amp, cr, quot, tab, nl], t ≠ [] := by decide
    exact this t ht
theorem escape_ne {l : Str} (h : signs l = true) (hl : l ≠ []) (b : Bool) : escape l b ≠ [] := by
  rw [escape_runes]
  have := enc_runes h
  cases hr : runes l with
  | nil => rw [hr] at this; exact absurd this.symm hl
  | cons r rs =>
    rw [List.flatMap_cons]
    have h1 := esc1_ne b r (runes_may (l := l) (by rw [hr]; simp))
    intro e
    rw [List.append_eq_nil_iff] at e
    exact h1 e.1
end Go.Proofs.YtcmjaaigkbjpaaaGreatDoor.Lia
