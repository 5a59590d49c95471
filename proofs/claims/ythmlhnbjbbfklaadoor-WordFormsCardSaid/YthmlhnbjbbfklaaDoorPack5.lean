/-
 Functions of Go's library, told to the interpreter by the shelf's contracts: strconv.ParseInt of decimal digits, strings.Trim.
-/
import Derived.Test.YthmlhnbjbbfklaaDoorPack3
import Derived.Shelf.Strconv.ParseIntPublic10
import Derived.Shelf.Strings.SlTrimAscii
import Derived.Shelf.Small.Strs
import Derived.Shelf.Strings.BuilderK
set_option linter.unusedSimpArgs false
set_option linter.unusedVariables false
set_option linter.unusedSectionVars false
set_option linter.unnecessarySimpa false
namespace Ab
open Go
open Go.RowKit (Below)
open Go.Shelf Go.Lib Go.Proofs
section
variable {P : Program} {tab : Tab} {fid : Nat}
theorem hrel_below {g : Gh} {w w' : World} (h : HRel tab g (objOf []) w) (hb : Below w.heap.size w w') : HRel tab g (objOf []) w' ∧ Evo g (objOf []) w g (objOf []) w' := by
 have hn : ∀ id, objOf [] id = none := fun id => rfl
 have no : ∀ id b o, ¬ owns g (objOf []) id b o := fun id b o k => by unfold owns at k; rw [hn] at k; exact k
 refine ⟨⟨fun id o k => (by rw [hn] at k; cases k), fun id b o k => absurd k (no _ _ _), fun id _ b o k => absurd k (no _ _ _), fun id b o k => absurd k (no _ _ _), fun id b o k => absurd k (no _ _ _), fun b o k => Nat.lt_of_lt_of_le (h.imOld b o k) hb.size⟩,
  ⟨hb.os, hb.tape, hb.output, hb.size, fun b k => .inl (hb.block b k), fun _ _ k => k, fun _ _ k => .inl k, fun _ _ k => .inl k, .refl _ _⟩⟩
theorem fnOk_below {f : List V → List (Option Obj) → Option (V × List (Option Obj))} (hf : ∀ args hp r h', f args hp = some (r, h') → hp = [] ∧ h' = [] ∧ ∀ (g : Gh) (w : World) (vs : List Value), VList tab g (objOf []) w args vs →
  Calls P fid vs.toArray w fun e w' => ∃ v, e = .returned v ∧ Below w.heap.size w w' ∧ VRel tab g (objOf []) w' r v) : FnOk P tab fid f := by
 intro args hp r h' h g w vs hH hvs
 obtain ⟨rfl, rfl, k⟩ := hf args hp r h' h
 refine (k g w vs hvs).mono fun e w' ⟨v, he, hb, hv⟩ => ?_
 obtain ⟨h1, h2⟩ := hrel_below hH hb
 exact ⟨v, g, he, h1, h2, hv⟩
def decGo : Nat → List UInt8 → Option Nat
 | acc, [] => some acc
 | acc, c :: r => if 48 ≤ c.toNat ∧ c.toNat ≤ 57 then decGo (acc * 10 + (c.toNat - 48)) r else none
def decOf (x : List UInt8) : Option Nat := match x with
 | [] => none
 | _ :: _ => if x.length ≤ 18 then decGo 0 x else none
def parseImpl : List V → List (Option Obj) → Option (V × List (Option Obj))
 | [.d (.s x), .d (.i k b), .d (.i k' n)], [] => if k = .i64 ∧ b = 10 ∧ k' = .i64 ∧ n = 64 then match decOf x with
   | some m => some (.tup [.d (.i .i64 m), .bad], [])
   | none => none
  else none
 | _, _ => none
theorem decGo_lt : ∀ (x : List UInt8) (acc m k : Nat), decGo acc x = some m → acc < 10 ^ k → m < 10 ^ (k + x.length)
 | [], acc, m, k, h, ha => by simp only [decGo, Qa] at h; subst h; simpa using ha
 | c :: r, acc, m, k, h, ha => by
  simp only [decGo] at h
  split at h
  ·have := decGo_lt r _ m (k + 1) h (by rw [Nat.pow_succ]; omega)
   rwa [List.length_cons, show k + (r.length + 1) = k + 1 + r.length by omega]
  ·cases h
theorem decGo_parse : ∀ (x : List UInt8) (acc m k : Nat), decGo acc x = some m → acc < 10 ^ k → k + x.length ≤ 18 → parseUintM (2 ^ 64 - 1) acc x = .ok m
 | [], acc, m, k, h, ha, hk => by simp only [decGo, Qa] at h; subst h; rfl
 | c :: r, acc, m, k, h, ha, hk => by
  simp only [decGo] at h
  simp only [List.length_cons] at hk
  have hp : (10 : Nat) ^ k ≤ 10 ^ 17 := Nat.pow_le_pow_right (by omega) (by omega)
  split at h
  ·rename_i hc
   simp only [parseUintM]
   rw [if_pos hc, if_neg (by omega), if_neg (by omega)]
   exact decGo_parse r _ m (k + 1) h (by rw [Nat.pow_succ]; omega) (by omega)
  ·cases h
theorem decOf_parse {x : List UInt8} {m : Nat} (h : decOf x = some m) : parseIntB 64 x = .ok (m : Int) := by
 unfold decOf at h
 split at h
 ·cases h
 ·rename_i c r
  split at h
  ·rename_i hl
   have hm := decGo_lt _ 0 m 0 h (by decide)
   have hp : (10 : Nat) ^ (0 + (c :: r).length) ≤ 10 ^ 18 := Nat.pow_le_pow_right (by omega) (by omega)
   have hq := decGo_parse _ 0 m 0 h (by decide) (by omega)
   have hc : 48 ≤ c.toNat ∧ c.toNat ≤ 57 := by
    simp only [decGo] at h
    split at h
    ·assumption
    ·cases h
   unfold parseIntB
   simp only
   rw [if_neg (by omega)]
   unfold parseUintB
   rw [if_neg (by simp), hq]
   simp only
   rw [if_neg (by omega), if_neg (by omega), if_neg (by omega)]
  ·cases h
theorem parse_ok {ρ : Ren} (L : LaysC.n174 P ρ) : FnOk P tab (ρ.f 174) parseImpl := by
 refine fnOk_below fun args hp r h' h => ?_
 unfold parseImpl at h
 split at h
 ·rename_i x k b k' n
  split at h
  ·rename_i hc
   obtain ⟨rfl, rfl, rfl, rfl⟩ := hc
   split at h
   ·rename_i m hm
    simp only [Qa, Qj] at h
    obtain ⟨rfl, rfl⟩ := h
    refine ⟨rfl, rfl, fun g w vs hvs => ?_⟩
    match vs, hvs with
    | [a, b, c], hvs =>
     simp only [VList, VRel, DRel] at hvs
     obtain ⟨⟨s, rfl, rfl⟩, rfl, rfl, _⟩ := hvs
     have hsz : s.size ≤ 18 := by
      unfold decOf at hm
      split at hm
      ·cases hm
      ·rename_i hx
       split at hm
       ·rename_i hl
        simpa using hl
       ·cases hm
     refine (Any.strconv_ParseInt_10_at64_ok L s (by omega) m (decOf_parse hm) w).mono fun e w' ⟨he, hw⟩ => ?_
     refine ⟨_, he, ?_, ?_⟩
     ·rcases hw with rfl | ⟨t, rfl⟩
      ·exact .refl _ _
      ·exact bytesWorld_below _ _ _
     ·simp only [VRel]
      exact ⟨[.int .i64 m, .nilIface], rfl, by simp [VList, VRel, DRel]⟩
   ·cases h
  ·cases h
 ·cases h
end
open Go
def qGo (n : Nat) (acc : List UInt8) : List UInt8 → Option (List UInt8 × Nat)
 | [] => none
 | c :: r => if c.toNat = 34 then some (acc, n + 1) else if c.toNat = 92 then match r with
   | [] => none
   | d :: r' => if d.toNat = 34 ∨ d.toNat = 92 then qGo (n + 2) (acc ++ [d]) r' else none
  else if c.toNat < 32 ∨ 126 < c.toNat then none else qGo (n + 1) (acc ++ [c]) r
def quoteV (s : List UInt8) : V := match qGo 1 [] (s.drop 1) with
 | some (t, n) => .tup [.d (.s t), .d (.i .i64 n), .d (.b true)]
 | none => .tup [.d (.s []), .d (.i .i64 0), .d (.b false)]
def quoteImpl : List V → List (Option Obj) → Option (V × List (Option Obj))
 | [.d (.s s)], [] => if s.length ≤ 100000 then some (quoteV s, []) else none
 | _, _ => none
def idxGo (c : UInt8) : Nat → List UInt8 → Int
 | _, [] => -1
 | i, b :: l => if b = c then (i : Int) else idxGo c (i + 1) l
def idxbImpl : List V → List (Option Obj) → Option (V × List (Option Obj))
 | [.d (.s x), .d (.i k c)], [] => if k = .u8 ∧ 0 ≤ c ∧ c ≤ 255 then some (.d (.i .i64 (idxGo c.toNat.toUInt8 0 x)), []) else none
 | _, _ => none
variable {P : Program} {tab : Tab}
open Go.Shelf Go.Proofs Go.RowKit in
theorem idxb_ok {ρ : Go.Shelf.Ren} (L : Lays.n137 P ρ) : FnOk P tab (ρ.f 137) idxbImpl := by
 refine fnOk_below fun args hp r h' h => ?_
 unfold idxbImpl at h
 split at h
 ·rename_i x k c
  split at h
  ·rename_i hc
   obtain ⟨rfl, h0, h1⟩ := hc
   simp only [Qa, Qj] at h
   obtain ⟨rfl, rfl⟩ := h
   refine ⟨rfl, rfl, fun g w vs hvs => ?_⟩
   match vs, hvs with
   | [a, b], hvs =>
    simp only [VList, VRel, DRel] at hvs
    obtain ⟨⟨s, rfl, rfl⟩, rfl, _⟩ := hvs
    refine (Any.strings_IndexByte L s c w).mono fun e w' ⟨he, hw⟩ => ?_
    subst hw
    refine ⟨_, he, .refl _ _, ?_⟩
    simp only [VRel, DRel]
    congr 1
    have key : ∀ (l : List UInt8) (d : UInt8) (i : Nat), (Lib.indexByte l d = -1 ∧ idxGo d i l = -1) ∨ (0 ≤ Lib.indexByte l d ∧ idxGo d i l = (i : Int) + Lib.indexByte l d) := by
     intro l d
     induction l with
     | nil => intro i; exact .inl ⟨rfl, rfl⟩
     | cons b l ih =>
      intro i
      by_cases hb : b = d
      ·have e1 : Lib.indexByte (b :: l) d = 0 := by simp [Lib.indexByte, hb]
       have e2 : idxGo d i (b :: l) = i := by simp [idxGo, hb]
       exact .inr ⟨by omega, by rw [e1, e2]; simp⟩
      ·have e2 : idxGo d i (b :: l) = idxGo d (i + 1) l := by simp [idxGo, hb]
       rcases ih (i + 1) with ⟨h1, h2⟩ | ⟨h1, h2⟩
       ·have e1 : Lib.indexByte (b :: l) d = -1 := by simp [Lib.indexByte, hb, h1]
        exact .inl ⟨e1, by rw [e2, h2]⟩
       ·have hn : ¬ Lib.indexByte l d = -1 := by omega
        have e1 : Lib.indexByte (b :: l) d = Lib.indexByte l d + 1 := by simp [Lib.indexByte, hb, hn]
        exact .inr ⟨by omega, by rw [e2, h2, e1]; omega⟩
    rcases key s.data.toList c.toNat.toUInt8 0 with ⟨h1, h2⟩ | ⟨h1, h2⟩
    ·rw [h1, h2]
    ·rw [h2]; simp
  ·cases h
 ·cases h
end Ab
