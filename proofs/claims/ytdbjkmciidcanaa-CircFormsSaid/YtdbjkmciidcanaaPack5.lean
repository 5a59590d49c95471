/-
 The interpreter again, told by recursors: the kernel reckons it quickly. It is the same one.
-/
import Derived.Test.YtdbjkmciidcanaaPack4
set_option linter.unusedSimpArgs false
set_option linter.unusedVariables false
set_option linter.unusedSectionVars false
set_option linter.unnecessarySimpa false
namespace Ab
open Go
noncomputable section
def aMv (_ : A) (vs : List V) (os : List (Option Obj)) (fresh : Nat) : Option Res :=
 match vs with | [v] => some ⟨v, os, none⟩ | _ => none
def aPick (_ : A) (_ : A) (_ : A) (vs : List V) (os : List (Option Obj)) (fresh : Nat) : Option Res :=
 match vs with
  | [.d (.b c), a, b] => some ⟨if c then a else b, os, none⟩
  | _ => none
def aZero (z : V) (vs : List V) (os : List (Option Obj)) (fresh : Nat) : Option Res :=
 some ⟨.ptr fresh 0, os, some (.box z.cells)⟩
def aBox (_ : A) (vs : List V) (os : List (Option Obj)) (fresh : Nat) : Option Res :=
 match vs with
  | [v] => match v.cel with | some c => some ⟨.ptr fresh 0, os, some (.box c)⟩ | none => none
  | _ => none
def aBuild (z : List V) (ps : List (Nat × Nat × A)) (vs : List V) (os : List (Option Obj)) (fresh : Nat) : Option Res :=
 match fillV z (zipP ps vs) with | some cs => some ⟨.agg cs, os, none⟩ | none => none
def aBsl (sz : Nat) (len : Nat) (z : List D) (ps : List (Nat × A)) (vs : List V) (os : List (Option Obj)) (fresh : Nat) : Option Res :=
 match fillR sz (List.replicate len z) (zipI ps vs) with
  | some xs => some ⟨.own fresh 0 sz xs, os, some (.tok 0 sz)⟩
  | none => none
def aBsa (sz : Nat) (len : Nat) (z : List D) (ps : List (Nat × A)) (vs : List V) (os : List (Option Obj)) (fresh : Nat) : Option Res :=
 match fillA sz (List.replicate len (ofDs z)) (zipI ps vs) with
  | some xs => some ⟨.arr fresh 0 0 len, os, some (.arr 0 sz xs)⟩
  | none => none
def aLd (agg : Bool) (n : Nat) (_ : A) (vs : List V) (os : List (Option Obj)) (fresh : Nat) : Option Res :=
 optV (actLd agg n vs os) os
def aSt (n : Nat) (_ : A) (_ : A) (vs : List V) (os : List (Option Obj)) (fresh : Nat) : Option Res :=
 match actSt n vs os with | some os' => some ⟨.undef, os', none⟩ | none => none
def aNilc (_ : A) (vs : List V) (os : List (Option Obj)) (fresh : Nat) : Option Res :=
 match vs with
  | [.ptr id off] => some ⟨.ptr id off, os, none⟩
  | [.pm id ver idx off] => some ⟨.pm id ver idx off, os, none⟩
  | [.d (.q ds off)] => some ⟨.d (.q ds off), os, none⟩
  | [.d (.f k a c)] => some ⟨.d (.f k a c), os, none⟩
  | [.fn k a c] => some ⟨.fn k a c, os, none⟩
  | _ => none
def aBin (op : BinOp) (_ : A) (_ : A) (vs : List V) (os : List (Option Obj)) (fresh : Nat) : Option Res :=
 match vs with | [x, y] => optD (binOp op x y) os | _ => none
def aEqa (ks : List CK) (neg : Bool) (_ : A) (_ : A) (vs : List V) (os : List (Option Obj)) (fresh : Nat) : Option Res :=
 match vs with
  | [.agg x, .agg y] => match V.toDs x, V.toDs y with
   | some x, some y => match eqDs ks x y with | some r => some ⟨.d (.b (if neg then !r else r)), os, none⟩ | none => none
   | _, _ => none
  | _ => none
def aEqb (neg : Bool) (_ : A) (_ : A) (vs : List V) (os : List (Option Obj)) (fresh : Nat) : Option Res :=
 match vs with
  | [.d (.b x), .d (.b y)] => some ⟨.d (.b (if neg then x != y else x == y)), os, none⟩
  | _ => none
def aUn (op : UnOp) (_ : A) (vs : List V) (os : List (Option Obj)) (fresh : Nat) : Option Res :=
 match vs with | [x] => optD (unOp op x) os | _ => none
def aNils (neg : Bool) (_ : A) (vs : List V) (os : List (Option Obj)) (fresh : Nat) : Option Res :=
 match vs with
  | [x] => match nilSlice x with | some r => some ⟨.d (.b (if neg then !r else r)), os, none⟩ | none => none
  | _ => none
def aConv (k : IntKind) (_ : A) (vs : List V) (os : List (Option Obj)) (fresh : Nat) : Option Res :=
 match vs with | [.d (.i _ n)] => some ⟨.d (.i k (k.wrap n)), os, none⟩ | _ => none
def aSid (_ : A) (vs : List V) (os : List (Option Obj)) (fresh : Nat) : Option Res :=
 match vs with | [.d (.s x)] => some ⟨.d (.s x), os, none⟩ | _ => none
def aMkf (key : Nat) (f : List A) (_ : List A) (frz : Bool) (vs : List V) (os : List (Option Obj)) (fresh : Nat) : Option Res :=
  if frz then match nodupB (ptrIds vs), freezeCaps vs os with
   | true, some (c, os') => some ⟨.d (.f key (c.take f.length) (c.drop f.length)), os', none⟩
   | true, none => match os.all Option.isSome with
    | true => some ⟨.fn key (vs.take f.length) (vs.drop f.length), os, none⟩
    | false => none
   | _, _ => none
  else some ⟨.fn key (vs.take f.length) (vs.drop f.length), os, none⟩
def aMkm  (vs : List V) (os : List (Option Obj)) (fresh : Nat) : Option Res :=
 some ⟨.map fresh, os, some (.map [])⟩
def aMks (sz : Nat) (bytes : Nat) (z : List D) (ow : Bool) (_ : A) (_ : A) (vs : List V) (os : List (Option Obj)) (fresh : Nat) : Option Res :=
 match vs with
  | [.d (.i _ l), .d (.i _ c)] => if 0 ≤ l ∧ l ≤ c ∧ roomy c.toNat bytes then
    if l = 0 ∨ ow = true then some ⟨.own fresh 0 sz (List.replicate l.toNat z), os, some (.tok 0 sz)⟩
    else if l = c then some ⟨.arr fresh 0 0 l.toNat, os, some (.arr 0 sz (List.replicate l.toNat (ofDs z)))⟩ else none
   else none
  | _ => none
def aBts (_ : A) (vs : List V) (os : List (Option Obj)) (fresh : Nat) : Option Res :=
 match vs with
  | [v] => match bytesV v with | some b => some ⟨.d (.s b), os, none⟩ | none => none
  | _ => none
def aSlc (sz : Nat) (_ : A) (lo : Option A) (hi : Option A) (vs : List V) (os : List (Option Obj)) (fresh : Nat) : Option Res :=
 match vs, lo, hi with
  | [x], none, none => optV (actSlc sz x none none os) os
  | [x, l], some _, none => optV (actSlc sz x (some l) none os) os
  | [x, h], none, some _ => optV (actSlc sz x none (some h) os) os
  | [x, l, h], some _, some _ => optV (actSlc sz x (some l) (some h) os) os
  | _, _, _ => none
def aSls (_ : A) (lo : Option A) (hi : Option A) (vs : List V) (os : List (Option Obj)) (fresh : Nat) : Option Res :=
 match vs, lo, hi with
  | [.d (.s x)], none, none => some ⟨.d (.s x), os, none⟩
  | [.d (.s x), l], some _, none => match bounds (some l) none x.length with | some (l, h) => some ⟨.d (.s ((x.take h).drop l)), os, none⟩ | none => none
  | [.d (.s x), h], none, some _ => match bounds none (some h) x.length with | some (l, h) => some ⟨.d (.s ((x.take h).drop l)), os, none⟩ | none => none
  | [.d (.s x), l, h], some _, some _ => match bounds (some l) (some h) x.length with | some (l, h) => some ⟨.d (.s ((x.take h).drop l)), os, none⟩ | none => none
  | _, _, _ => none
def aFa (off : Nat) (_ : A) (vs : List V) (os : List (Option Obj)) (fresh : Nat) : Option Res :=
 match vs with
  | [.ptr id o] => some ⟨.ptr id (o + off), os, none⟩
  | [.pm id ver idx o] => some ⟨.pm id ver idx (o + off), os, none⟩
  | [.d (.q ds o)] => some ⟨.d (.q ds (o + off)), os, none⟩
  | _ => none
def aFl (agg : Bool) (off : Nat) (n : Nat) (_ : A) (vs : List V) (os : List (Option Obj)) (fresh : Nat) : Option Res :=
 match vs with
  | [.agg cs] => match takeV cs off n with | some c => optV (asVar agg n c) os | none => none
  | _ => none
def aIa (sz : Nat) (_ : A) (_ : A) (vs : List V) (os : List (Option Obj)) (fresh : Nat) : Option Res :=
 optV (actIa sz vs os) os
def aIaa (len : Nat) (sz : Nat) (_ : A) (_ : A) (vs : List V) (os : List (Option Obj)) (fresh : Nat) : Option Res :=
 match vs with
  | [.ptr id o, .d (.i _ i)] => if 0 ≤ i ∧ i < len then some ⟨.ptr id (o + i.toNat * sz), os, none⟩ else none
  | [.d (.q ds o), .d (.i _ i)] => if 0 ≤ i ∧ i < len then some ⟨.d (.q ds (o + i.toNat * sz)), os, none⟩ else none
  | _ => none
def aIxs (_ : A) (_ : A) (vs : List V) (os : List (Option Obj)) (fresh : Nat) : Option Res :=
 match vs with
  | [.d (.s x), .d (.i _ i)] => if 0 ≤ i then match x[i.toNat]? with | some c => some ⟨.d (.i .u8 c.toNat), os, none⟩ | none => none else none
  | _ => none
def aIxa (agg : Bool) (len : Nat) (sz : Nat) (_ : A) (_ : A) (vs : List V) (os : List (Option Obj)) (fresh : Nat) : Option Res :=
 match vs with
  | [.agg cs, .d (.i _ i)] => if 0 ≤ i ∧ i < len then match takeV cs (i.toNat * sz) sz with | some c => optV (asVar agg sz c) os | none => none else none
  | _ => none
def aLen (k : Nat) (_ : A) (vs : List V) (os : List (Option Obj)) (fresh : Nat) : Option Res :=
 match k, vs, os with
  | 1, [.d (.s x)], os => some ⟨.d (.i .i64 x.length), os, none⟩
  | 0, [.d (.l _ xs)], os => some ⟨.d (.i .i64 xs.length), os, none⟩
  | 0, [.own _ _ _ xs], os => some ⟨.d (.i .i64 xs.length), os, none⟩
  | 0, [.nil _], os => some ⟨.d (.i .i64 0), os, none⟩
  | 0, [.arr _ _ _ n], os => some ⟨.d (.i .i64 n), os, none⟩
  | 2, [.map _], [some (.map kvs)] => some ⟨.d (.i .i64 kvs.length), [some (.map kvs)], none⟩
  | 2, [.map _], [some (.cmap kvs)] => some ⟨.d (.i .i64 kvs.length), [some (.cmap kvs)], none⟩
  | _, _, _ => none
def aApp (sz : Nat) (bytes : Nat) (_ : A) (_ : A) (vs : List V) (os : List (Option Obj)) (fresh : Nat) : Option Res :=
 actApp sz bytes fresh vs os
def aApa (sz : Nat) (bytes : Nat) (_ : A) (_ : A) (vs : List V) (os : List (Option Obj)) (fresh : Nat) : Option Res :=
 actApa sz bytes fresh vs os
def aApz (sz : Nat) (bytes : Nat) (z : List D) (_ : A) (_ : A) (vs : List V) (os : List (Option Obj)) (fresh : Nat) : Option Res :=
 actApz sz bytes fresh z vs os
def aCapn (_ : A) (vs : List V) (os : List (Option Obj)) (fresh : Nat) : Option Res :=
 match vs with | [.nil _] => some ⟨.d (.i .i64 0), os, none⟩ | _ => none
def aNilm (neg : Bool) (_ : A) (vs : List V) (os : List (Option Obj)) (fresh : Nat) : Option Res :=
 match vs with
  | [x] => match nilMap x with | some r => some ⟨.d (.b (if neg then !r else r)), os, none⟩ | none => none
  | _ => none
def aMm (mx : Bool) (_ : List A) (vs : List V) (os : List (Option Obj)) (fresh : Nat) : Option Res :=
 optD (maxInt mx vs) os
def aLk (ag : Bool) (ks : List CK) (ok : Bool) (zero : V) (_ : A) (_ : A) (vs : List V) (os : List (Option Obj)) (fresh : Nat) : Option Res :=
 optV (actLk ag ks ok zero vs os) os
def aMu (ag : Bool) (ks : List CK) (_ : A) (_ : A) (_ : A) (vs : List V) (os : List (Option Obj)) (fresh : Nat) : Option Res :=
 match actMu ag ks vs os with | some os' => some ⟨.undef, os', none⟩ | none => none
def aDel (ag : Bool) (ks : List CK) (_ : A) (_ : A) (vs : List V) (os : List (Option Obj)) (fresh : Nat) : Option Res :=
 match actDel ag ks vs os with | some os' => some ⟨.undef, os', none⟩ | none => none
def aFrz (_ : A) (vs : List V) (os : List (Option Obj)) (fresh : Nat) : Option Res :=
 actFrz vs os
def aCall (_ : Nat) (_ : List A) (_ : Nat) (_ : Bool) (vs : List V) (os : List (Option Obj)) (fresh : Nat) : Option Res :=
 none
def aCallv (_ : A) (_ : List A) (_ : Nat) (_ : Bool) (vs : List V) (os : List (Option Obj)) (fresh : Nat) : Option Res :=
 none
def aLend (_ : Nat) (_ : List A) (vs : List V) (os : List (Option Obj)) (fresh : Nat) : Option Res :=
 none
def aCallr (_ : Nat) (_ : List A) (_ : Nat) (vs : List V) (os : List (Option Obj)) (fresh : Nat) : Option Res :=
 none
def aExt (_ : A) (i : Nat) (vs : List V) (os : List (Option Obj)) (fresh : Nat) : Option Res :=
 match vs with
  | [.tup ws] => match ws[i]? with | some w => some ⟨w, os, none⟩ | none => none
  | _ => none
def aDie  (vs : List V) (os : List (Option Obj)) (fresh : Nat) : Option Res :=
 none
def actK : Cop → List V → List (Option Obj) → Nat → Option Res :=
 @Cop.rec (fun _ => List V → List (Option Obj) → Nat → Option Res) aMv aPick aZero aBox aBuild aBsl aBsa aLd aSt aNilc aBin aEqa aEqb aUn aNils aConv aSid aMkf aMkm aMks aBts aSlc aSls aFa aFl aIa aIaa aIxs aIxa aLen aApp aApa aApz aCapn aNilm aMm aLk aMu aDel aFrz aCall aCallv aLend aCallr aExt aDie
theorem actK_eq (op : Cop) : actK op = act op := by cases op <;> rfl
def vD : V → Option D := @V.rec (fun _ => Option D) (fun _ => Unit) some (fun _ => none) (fun _ _ _ _ => none) (fun _ _ _ _ => none) (fun _ _ => none) (fun _ _ _ _ => none) (fun _ => none) (fun _ _ _ _ _ => none) (fun _ _ => none) (fun _ _ => none) none () (fun _ _ _ _ => ())
def vPtr : V → Option (Nat × Nat) := @V.rec (fun _ => Option (Nat × Nat)) (fun _ => Unit) (fun _ => none) (fun _ => none) (fun _ _ _ _ => none) (fun _ _ _ _ => none) (fun a b => some (a, b)) (fun _ _ _ _ => none) (fun _ => none) (fun _ _ _ _ _ => none) (fun _ _ => none) (fun _ _ => none) none () (fun _ _ _ _ => ())
def vAgg : V → Option (List V) := @V.rec (fun _ => Option (List V)) (fun _ => Unit) (fun _ => none) (fun _ => none) (fun _ _ _ _ => none) (fun _ _ _ _ => none) (fun _ _ => none) (fun _ _ _ _ => none) (fun _ => none) (fun _ _ _ _ _ => none) (fun cs _ => some cs) (fun _ _ => none) none () (fun _ _ _ _ => ())
def vTup : V → Option (List V) := @V.rec (fun _ => Option (List V)) (fun _ => Unit) (fun _ => none) (fun _ => none) (fun _ _ _ _ => none) (fun _ _ _ _ => none) (fun _ _ => none) (fun _ _ _ _ => none) (fun _ => none) (fun _ _ _ _ _ => none) (fun _ _ => none) (fun cs _ => some cs) none () (fun _ _ _ _ => ())
def vRow : V → Option (List (List D)) := @V.rec (fun _ => Option (List (List D))) (fun _ => Unit)
 (@D.rec (fun _ => Option (List (List D))) (fun _ => Unit) (fun _ => Unit) (fun _ => none) (fun _ _ => none) (fun _ => none) (fun _ xs _ => some xs) (fun _ _ _ => none) (fun _ _ _ _ _ => none) none none none () (fun _ _ _ _ => ()) () (fun _ _ _ _ => ()))
 (fun _ => some []) (fun _ _ _ xs => some xs) (fun _ _ _ _ => none) (fun _ _ => none) (fun _ _ _ _ => none) (fun _ => none) (fun _ _ _ _ _ => none) (fun _ _ => none) (fun _ _ => none) none () (fun _ _ _ _ => ())
def dI : D → Option (IntKind × Int) := @D.rec (fun _ => Option (IntKind × Int)) (fun _ => Unit) (fun _ => Unit) (fun _ => none) (fun k n => some (k, n)) (fun _ => none) (fun _ _ _ => none) (fun _ _ _ => none) (fun _ _ _ _ _ => none) none none none () (fun _ _ _ _ => ()) () (fun _ _ _ _ => ())
def dB : D → Option Bool := @D.rec (fun _ => Option Bool) (fun _ => Unit) (fun _ => Unit) some (fun _ _ => none) (fun _ => none) (fun _ _ _ => none) (fun _ _ _ => none) (fun _ _ _ _ _ => none) none none none () (fun _ _ _ _ => ()) () (fun _ _ _ _ => ())
def dS : D → Option (List UInt8) := @D.rec (fun _ => Option (List UInt8)) (fun _ => Unit) (fun _ => Unit) (fun _ => none) (fun _ _ => none) some (fun _ _ _ => none) (fun _ _ _ => none) (fun _ _ _ _ _ => none) none none none () (fun _ _ _ _ => ()) () (fun _ _ _ _ => ())
def dQ : D → Option (List D × Nat) := @D.rec (fun _ => Option (List D × Nat)) (fun _ => Unit) (fun _ => Unit) (fun _ => none) (fun _ _ => none) (fun _ => none) (fun _ _ _ => none) (fun xs off _ => some (xs, off)) (fun _ _ _ _ _ => none) none none none () (fun _ _ _ _ => ()) () (fun _ _ _ _ => ())
theorem vD_some {v : V} {x : D} (h : vD v = some x) : v = .d x := by
 cases v <;> first | (injection h with h; rw [h]) | cases h
theorem vPtr_some {v : V} {p : Nat × Nat} (h : vPtr v = some p) : v = .ptr p.1 p.2 := by
 cases v <;> first | (injection h with h; rw [← h]) | cases h
theorem vAgg_some {v : V} {x : List V} (h : vAgg v = some x) : v = .agg x := by
 cases v <;> first | (injection h with h; rw [h]) | cases h
theorem vTup_some {v : V} {x : List V} (h : vTup v = some x) : v = .tup x := by
 cases v <;> first | (injection h with h; rw [h]) | cases h
theorem dI_some {v : D} {x : IntKind × Int} (h : dI v = some x) : v = .i x.1 x.2 := by
 cases v <;> first | (injection h with h; rw [← h]) | cases h
theorem dB_some {v : D} {x : Bool} (h : dB v = some x) : v = .b x := by
 cases v <;> first | (injection h with h; rw [h]) | cases h
theorem dS_some {v : D} {x : List UInt8} (h : dS v = some x) : v = .s x := by
 cases v <;> first | (injection h with h; rw [h]) | cases h
theorem dQ_some {v : D} {x : List D × Nat} (h : dQ v = some x) : v = .q x.1 x.2 := by
 cases v <;> first | (injection h with h; rw [← h]) | cases h
def bindK {α β : Type} (x : Option α) (f : α → Option β) : Option β := @Option.rec α (fun _ => Option β) none f x
theorem bindK_some {α β : Type} {x : Option α} {f : α → Option β} {b : β} (h : bindK x f = some b) : ∃ a, x = some a ∧ f a = some b := by
 cases x with
 | none => cases h
 | some a => exact ⟨a, rfl, h⟩
def vI (v : V) : Option (IntKind × Int) := bindK (vD v) dI
def vS (v : V) : Option (List UInt8) := bindK (vD v) dS
def vB (v : V) : Option Bool := bindK (vD v) dB
def vQ (v : V) : Option (List D × Nat) := bindK (vD v) dQ
theorem vI_some {v : V} {x : IntKind × Int} (h : vI v = some x) : v = .d (.i x.1 x.2) := by
 obtain ⟨a, h1, h2⟩ := bindK_some h
 rw [vD_some h1, dI_some h2]
theorem vS_some {v : V} {x : List UInt8} (h : vS v = some x) : v = .d (.s x) := by
 obtain ⟨a, h1, h2⟩ := bindK_some h
 rw [vD_some h1, dS_some h2]
theorem vB_some {v : V} {x : Bool} (h : vB v = some x) : v = .d (.b x) := by
 obtain ⟨a, h1, h2⟩ := bindK_some h
 rw [vD_some h1, dB_some h2]
theorem vQ_some {v : V} {x : List D × Nat} (h : vQ v = some x) : v = .d (.q x.1 x.2) := by
 obtain ⟨a, h1, h2⟩ := bindK_some h
 rw [vD_some h1, dQ_some h2]
def ifK {α : Type} (b : Bool) (x y : α) : α := @Bool.rec (fun _ => α) y x b
def kNth {α : Type} : List α → Nat → Option α := @List.rec α (fun _ => Nat → Option α) (fun _ => none) (fun a _ ih i => @Nat.rec (fun _ => Option α) (some a) (fun j _ => ih j) i)
theorem kNth_eq {α : Type} : ∀ (l : List α) (i : Nat), kNth l i = l[i]?
 | [], _ => rfl
 | a :: l, 0 => rfl
 | a :: l, i + 1 => by
  show kNth l i = _
  rw [kNth_eq l i]; rfl
def kLen {α : Type} : List α → Nat := @List.rec α (fun _ => Nat) 0 (fun _ _ ih => Nat.succ ih)
theorem kLen_eq {α : Type} : ∀ (l : List α), kLen l = l.length
 | [] => rfl
 | a :: l => by show Nat.succ (kLen l) = _; rw [kLen_eq l]; rfl
def kget : List (Nat × V) → Nat → V :=
 @List.rec (Nat × V) (fun _ => Nat → V) (fun _ => .bad) (fun p _ ih j => @Bool.rec (fun _ => V) (ih j) p.2 (Nat.beq p.1 j))
theorem beq_ne {i j : Nat} (h : i ≠ j) : Nat.beq i j = false := by
 cases hb : Nat.beq i j with
 | false => rfl
 | true => exact absurd (Nat.eq_of_beq_eq_true hb) h
theorem beq_self' (i : Nat) : Nat.beq i i = true := by simp
theorem kget_eq (tm : List (Nat × V)) (j : Nat) : kget tm j = look tm j := by
 induction tm with
 | nil => rfl
 | cons p tm ih =>
  obtain ⟨i, v⟩ := p
  show @Bool.rec (fun _ => V) (kget tm j) v (Nat.beq i j) = _
  simp only [look, ih]
  by_cases h : i = j
  ·subst h; rw [beq_self', if_pos rfl]
  ·rw [if_neg h, beq_ne h]
def kev : A → List (Nat × V) → V := @A.rec (fun _ => List (Nat × V) → V) (fun t tm => kget tm t) (fun v _ => v)
theorem kev_eq' (s : St) (a : A) : kev a s.tmps = s.ev a := by
 cases a with
 | t t => exact kget_eq s.tmps t
 | k v => rfl
def kargs : List A → List (Nat × V) → List V := @List.rec A (fun _ => List (Nat × V) → List V) (fun _ => []) (fun a _ ih tm => kev a tm :: ih tm)
theorem kargs_eq (s : St) : ∀ (as : List A), kargs as s.tmps = as.map s.ev
 | [] => rfl
 | a :: r => by
  show kev a s.tmps :: kargs r s.tmps = _
  rw [kargs_eq s r, Qb, kev_eq']
def ltK : Int → Int → Bool := @Int.rec (fun _ => Int → Bool) (fun a => @Int.rec (fun _ => Bool) (fun b => Nat.ble (Nat.succ a) b) (fun _ => false)) (fun a => @Int.rec (fun _ => Bool) (fun _ => true) (fun b => Nat.ble (Nat.succ b) a))
def eqK : Int → Int → Bool := @Int.rec (fun _ => Int → Bool) (fun a => @Int.rec (fun _ => Bool) (fun b => Nat.beq a b) (fun _ => false)) (fun a => @Int.rec (fun _ => Bool) (fun _ => false) (fun b => Nat.beq a b))
def notK (b : Bool) : Bool := @Bool.rec (fun _ => Bool) true false b
theorem ltK_eq (a b : Int) : ltK a b = decide (a < b) := by
 cases a with
 | ofNat a => cases b with
  | ofNat b =>
   show Nat.ble (Nat.succ a) b = _
   rw [Bool.eq_iff_iff]
   simp only [Qh]
   constructor
   ·intro h; have := Nat.le_of_ble_eq_true h; simp only [Int.ofNat_eq_natCast]; omega
   ·intro h; simp only [Int.ofNat_eq_natCast] at h; exact Nat.ble_eq_true_of_le (by omega)
  | negSucc b => show false = _; simp; omega
 | negSucc a => cases b with
  | ofNat b => show true = _; simp; omega
  | negSucc b =>
   show Nat.ble (Nat.succ b) a = _
   rw [Bool.eq_iff_iff]
   simp only [Qh]
   constructor
   ·intro h; have := Nat.le_of_ble_eq_true h; omega
   ·intro h; exact Nat.ble_eq_true_of_le (by omega)
theorem eqK_eq (a b : Int) : eqK a b = (a == b) := by
 rw [Bool.eq_iff_iff]
 simp only [beq_iff_eq]
 cases a with
 | ofNat a => cases b with
  | ofNat b => show Nat.beq a b = true ↔ _; rw [Nat.beq_eq]; simp only [Int.ofNat_eq_natCast]; constructor <;> (intro h; omega)
  | negSucc b => show false = true ↔ _; constructor <;> (intro h; first | cases h | omega)
 | negSucc a => cases b with
  | ofNat b => show false = true ↔ _; constructor <;> (intro h; first | cases h | omega)
  | negSucc b => show Nat.beq a b = true ↔ _; rw [Nat.beq_eq]; constructor <;> (intro h; omega)
theorem notK_eq (b : Bool) : notK b = !b := by cases b <;> rfl
def forceK {α : Type} (n : Nat) (f : Nat → α) : α := @Nat.rec (fun _ => α) (f 0) (fun m _ => f (Nat.succ m)) n
theorem forceK_eq {α : Type} (n : Nat) (f : Nat → α) : forceK n f = f n := by cases n <;> rfl
def kindK : IntKind → Nat := @IntKind.rec (fun _ => Nat) 2 2 2 0 1 2 2 2
theorem kind0 {k : IntKind} (h : Nat.beq (kindK k) 0 = true) : k = .i64 := by cases k <;> first | rfl | cases h
theorem kind1 {k : IntKind} (h : Nat.beq (kindK k) 1 = true) : k = .u8 := by cases k <;> first | rfl | cases h
def smallK (k : IntKind) (c : Nat) : Bool := ifK (Nat.beq (kindK k) 0) (Nat.ble c 9223372036854775807) (ifK (Nat.beq (kindK k) 1) (Nat.ble c 255) false)
theorem smallK_wrap {k : IntKind} {c : Nat} (h : smallK k c = true) : k.wrap (c : Int) = c := by
 unfold smallK ifK at h
 cases h0 : Nat.beq (kindK k) 0 with
 | true =>
  rw [h0] at h
  have := kind0 h0
  subst this
  have := Nat.le_of_ble_eq_true h
  exact Go.IntWalk.i64_in c ⟨by omega, by omega⟩
 | false =>
  rw [h0] at h
  cases h1 : Nat.beq (kindK k) 1 with
  | false => rw [h1] at h; cases h
  | true =>
   rw [h1] at h
   have := kind1 h1
   subst this
   have := Nat.le_of_ble_eq_true h
   simp only [IntKind.wrap, IntKind.bits, IntKind.signed, Bool.false_and, Qm, if_false]
   omega
def mkK (k : IntKind) (c : Nat) : Option D := ifK (smallK k c) (forceK c fun c => some (.i k (.ofNat c))) none
theorem mkK_some {k : IntKind} {c : Nat} {d : D} (h : mkK k c = some d) : d = .i k (k.wrap (c : Int)) := by
 unfold mkK ifK at h
 cases hs : smallK k c with
 | false => rw [hs] at h; cases h
 | true =>
  rw [hs] at h
  simp only [forceK_eq, Qa] at h
  rw [smallK_wrap hs, ← h]
  rfl
def addK (k : IntKind) : Int → Int → Option D := @Int.rec (fun _ => Int → Option D) (fun a => @Int.rec (fun _ => Option D) (fun b => mkK k (Nat.add a b)) (fun b => ifK (Nat.ble (Nat.succ b) a) (mkK k (Nat.sub a (Nat.succ b))) none)) (fun _ _ => none)
def subK (k : IntKind) : Int → Int → Option D := @Int.rec (fun _ => Int → Option D) (fun a => @Int.rec (fun _ => Option D) (fun b => ifK (Nat.ble b a) (mkK k (Nat.sub a b)) none) (fun b => mkK k (Nat.add a (Nat.succ b)))) (fun _ _ => none)
theorem addK_some {k : IntKind} {a b : Int} {d : D} (h : addK k a b = some d) : d = .i k (k.wrap (a + b)) := by
 cases a with
 | negSucc a => cases h
 | ofNat a => cases b with
  | ofNat b => exact mkK_some (c := a + b) h
  | negSucc b =>
   have h : ifK (Nat.ble (Nat.succ b) a) (mkK k (Nat.sub a (Nat.succ b))) none = some d := h
   unfold ifK at h
   cases hb : Nat.ble (Nat.succ b) a with
   | false => rw [hb] at h; cases h
   | true =>
    rw [hb] at h
    have hle := Nat.le_of_ble_eq_true hb
    rw [mkK_some h]
    congr 2
    show ((a - (b + 1) : Nat) : Int) = _
    simp only [Int.ofNat_eq_natCast]
    omega
theorem subK_some {k : IntKind} {a b : Int} {d : D} (h : subK k a b = some d) : d = .i k (k.wrap (a - b)) := by
 cases a with
 | negSucc a => cases h
 | ofNat a => cases b with
  | ofNat b =>
   have h : ifK (Nat.ble b a) (mkK k (Nat.sub a b)) none = some d := h
   unfold ifK at h
   cases hb : Nat.ble b a with
   | false => rw [hb] at h; cases h
   | true =>
    rw [hb] at h
    have hle := Nat.le_of_ble_eq_true hb
    rw [mkK_some h]
    congr 2
    show ((a - b : Nat) : Int) = _
    simp only [Int.ofNat_eq_natCast]
    omega
  | negSucc b =>
   rw [mkK_some (c := a + (b + 1)) h]
   congr 2
def noneK {α β : Type} (_ _ : α) : Option β := none
def binIK : BinOp → IntKind → Int → Int → Option D := @BinOp.rec (fun _ => IntKind → Int → Int → Option D) addK subK (fun _ _ _ => none) (fun _ _ _ => none) (fun _ _ _ => none) (fun _ _ _ => none) (fun _ _ _ => none) (fun _ _ _ => none) (fun _ _ _ => none) (fun _ _ _ => none) (fun _ _ _ => none)
 (fun _ a b => some (.b (eqK a b))) (fun _ a b => some (.b (notK (eqK a b)))) (fun _ a b => some (.b (ltK a b))) (fun _ a b => some (.b (notK (ltK b a)))) (fun _ a b => some (.b (ltK b a))) (fun _ a b => some (.b (notK (ltK a b))))
def sameK (k k' : IntKind) : Bool := ifK (Nat.beq (kindK k) 2) false (Nat.beq (kindK k) (kindK k'))
theorem sameK_eq {k k' : IntKind} (h : sameK k k' = true) : k = k' := by cases k <;> cases k' <;> first | rfl | cases h
theorem leK_eq (a b : Int) : notK (ltK b a) = decide (a ≤ b) := by
 rw [notK_eq, ltK_eq]
 by_cases h : b < a
 ·simp [h]
 ·simp [h, Int.not_lt.1 h]
theorem binIK_some {op : BinOp} {k k' : IntKind} {a b : Int} {d : D} (hk : sameK k k' = true) (h : binIK op k a b = some d) : binOp op (.d (.i k a)) (.d (.i k' b)) = some d := by
 have hk := sameK_eq hk
 subst hk
 cases op <;> first
  | (have := addK_some h; subst this; simp [binOp, isShift, binInt]; done)
  | (have := subK_some h; subst this; simp [binOp, isShift, binInt]; done)
  | (cases h; simp [binOp, isShift, binInt, eqK_eq, ltK_eq, notK_eq]; done)
  | (cases h; simp [binOp, isShift, binInt, eqK_eq, ltK_eq, notK_eq, bne]; done)
  | (cases h; simp [binOp, isShift, binInt, leK_eq]; done)
  | cases h
def kbin (op : BinOp) (x y : V) : Option V := bindK (vI x) fun p => bindK (vI y) fun q => ifK (sameK p.1 q.1) (bindK (binIK op p.1 p.2 q.2) fun d => some (.d d)) none
theorem ifK_some {α : Type} {b : Bool} {x : Option α} {r : α} (h : ifK b x none = some r) : b = true ∧ x = some r := by
 cases b with
 | true => exact ⟨rfl, h⟩
 | false => cases h
theorem kbin_some {op : BinOp} {x y v : V} (h : kbin op x y = some v) : ∃ d, v = .d d ∧ binOp op x y = some d := by
 obtain ⟨p, h1, h⟩ := bindK_some h
 obtain ⟨q, h2, h⟩ := bindK_some h
 obtain ⟨hs, h⟩ := ifK_some h
 obtain ⟨d, h3, h⟩ := bindK_some h
 cases h
 rw [vI_some h1, vI_some h2]
 exact ⟨d, rfl, binIK_some hs h3⟩
def kun (op : UnOp) (x : V) : Option V := bindK (vB x) fun b => @UnOp.rec (fun _ => Option V) none none (some (.d (.b (notK b)))) none op
def kObj (hp : List (Option Obj)) (id : Nat) : Option (Option Obj) := kNth hp id
def oBox : Option Obj → Option (List V) := @Option.rec Obj (fun _ => Option (List V)) none (@Obj.rec (fun _ => Option (List V)) some (fun _ => none) (fun _ _ => none) (fun _ _ _ => none) (fun _ => none) (fun _ => none) (fun _ _ _ => none))
theorem oBox_some {o : Option Obj} {cs : List V} (h : oBox o = some cs) : o = some (.box cs) := by
 cases o with
 | none => cases h
 | some o => cases o <;> first | (injection h with h; rw [h]) | cases h
def kld (agg : Bool) (n : Nat) (x : V) (hp : List (Option Obj)) : Option V :=
 ifK agg none (ifK (Nat.beq n 1) (@Option.rec (Nat × Nat) (fun _ => Option V)
  (bindK (vQ x) fun q => bindK (kNth q.1 q.2) fun d => some (.d d))
  (fun p => bindK (kNth hp p.1) fun o => bindK (oBox o) fun cs => kNth cs p.2) (vPtr x)) none)
def kfa (off : Nat) (x : V) : Option V := @Option.rec (Nat × Nat) (fun _ => Option V)
  (bindK (vQ x) fun q => some (.d (.q q.1 (q.2 + off))))
  (fun p => some (.ptr p.1 (p.2 + off))) (vPtr x)
def kfl (agg : Bool) (off n : Nat) (x : V) : Option V := ifK agg none (ifK (Nat.beq n 1) (bindK (vAgg x) fun cs => kNth cs off) none)
def klen (k : Nat) (x : V) : Option V := @Nat.rec (fun _ => Option V) (bindK (vRow x) fun xs => forceK (kLen xs) fun n => some (.d (.i .i64 (.ofNat n)))) (fun k _ => ifK (Nat.beq k 0) (bindK (vS x) fun xs => forceK (kLen xs) fun n => some (.d (.i .i64 (.ofNat n)))) none) k
def natK : Int → Option Nat := @Int.rec (fun _ => Option Nat) some (fun _ => none)
theorem natK_some {i : Int} {n : Nat} (h : natK i = some n) : i = (n : Int) := by
 cases i with
 | ofNat a => injection h with h; rw [h]; rfl
 | negSucc a => cases h
def kixs (x i : V) : Option V := bindK (vS x) fun s => bindK (vI i) fun p => bindK (natK p.2) fun n => bindK (kNth s n) fun c => forceK c.toNat fun m => some (.d (.i .u8 (.ofNat m)))
def kext (x : V) (i : Nat) : Option V := bindK (vTup x) fun ws => kNth ws i
def dL : D → Option (Nat × List (List D)) := @D.rec (fun _ => Option (Nat × List (List D))) (fun _ => Unit) (fun _ => Unit) (fun _ => none) (fun _ _ => none) (fun _ => none) (fun sz xs _ => some (sz, xs)) (fun _ _ _ => none) (fun _ _ _ _ _ => none) none none none () (fun _ _ _ _ => ()) () (fun _ _ _ _ => ())
theorem dL_some {v : D} {x : Nat × List (List D)} (h : dL v = some x) : v = .l x.1 x.2 := by
 cases v <;> first | (injection h with h; rw [← h]) | cases h
def kia (sz : Nat) (x i : V) : Option V := bindK (vD x) fun d => bindK (dL d) fun l => ifK (Nat.beq l.1 sz) (bindK (vI i) fun p => bindK (natK p.2) fun n => bindK (kNth l.2 n) fun r => some (.d (.q r 0))) none
def knilc (x : V) : Option V := @Option.rec (Nat × Nat) (fun _ => Option V) (bindK (vQ x) fun q => some (.d (.q q.1 q.2))) (fun p => some (.ptr p.1 p.2)) (vPtr x)
def pvalK : Cop → List (Nat × V) → List (Option Obj) → Option V := @Cop.rec (fun _ => List (Nat × V) → List (Option Obj) → Option V)
 (fun x tm _ => some (kev x tm)) (fun _ _ _ _ _ => none) (fun _ _ _ => none) (fun _ _ _ => none) (fun _ _ _ _ => none) (fun _ _ _ _ _ _ => none) (fun _ _ _ _ _ _ => none) (fun agg n a tm hp => kld agg n (kev a tm) hp) (fun _ _ _ _ _ => none) (fun x tm _ => knilc (kev x tm)) (fun op x y tm _ => kbin op (kev x tm) (kev y tm))
 (fun _ _ _ _ _ _ => none) (fun _ _ _ _ _ => none) (fun op x tm _ => kun op (kev x tm)) (fun _ _ _ _ => none) (fun _ _ _ _ => none) (fun _ _ _ => none) (fun _ _ _ _ _ _ => none) (fun _ _ => none) (fun _ _ _ _ _ _ _ _ => none) (fun _ _ _ => none) (fun _ _ _ _ _ _ => none) (fun _ _ _ _ _ => none)
 (fun off x tm _ => kfa off (kev x tm)) (fun agg off n x tm _ => kfl agg off n (kev x tm)) (fun sz x i tm _ => kia sz (kev x tm) (kev i tm)) (fun _ _ _ _ _ _ => none) (fun x i tm _ => kixs (kev x tm) (kev i tm)) (fun _ _ _ _ _ _ _ => none) (fun k x tm _ => klen k (kev x tm)) (fun _ _ _ _ _ _ => none) (fun _ _ _ _ _ _ => none) (fun _ _ _ _ _ _ _ => none) (fun _ _ _ => none) (fun _ _ _ _ => none)
 (fun _ _ _ _ => none) (fun _ _ _ _ _ _ _ _ => none) (fun _ _ _ _ _ _ _ => none) (fun _ _ _ _ _ _ => none) (fun _ _ _ => none) (fun _ _ _ _ _ _ => none) (fun _ _ _ _ _ _ => none) (fun _ _ _ _ => none) (fun _ _ _ _ _ => none) (fun x i tm _ => kext (kev x tm) i) (fun _ _ => none)
theorem pure_eff (call : CallF) {op : Cop} {s : St} {v : V} {os : List (Option Obj)} {fresh : Nat} (h1 : op.isCall = false) (h2 : op.wr = false) (h : act op (op.args.map s.ev) ((op.ids (op.args.map s.ev)).map s.obj) fresh = some ⟨v, os, none⟩) (dst : Option Nat) (pre : Nat) :
  ∃ e, opEff call s ⟨dst, op, none, pre⟩ fresh = some e ∧ e.on s = s.put dst v := by
 refine ⟨⟨dst, v, op.ids (op.args.map s.ev), op.wr, os, fresh, []⟩, ?_, ?_⟩
 ·simp only [opEff, wanted, h1, Qm, if_false, h]
  rfl
 ·simp only [Eff.on, h2, Qm, if_false, List.length_nil, List.range'_zero, setObjs]
theorem obj_nth (s : St) (id : Nat) : s.obj id = (kNth s.heap id).join := by rw [kNth_eq]; rfl
theorem take_one {α : Type} {xs : List α} {off : Nat} {d : α} (h : xs[off]? = some d) : off + 1 ≤ xs.length ∧ (xs.drop off).take 1 = [d] := by
 have hlt : off < xs.length := by
  rcases Qn off xs.length with h' | h'
  ·exact h'
  ·rw [Qe h'] at h; cases h
 refine ⟨hlt, ?_⟩
 rw [Qd hlt] at h
 cases h
 rw [List.drop_eq_getElem_cons hlt]; rfl
theorem takeD_one {xs : List D} {off : Nat} {d : D} (h : xs[off]? = some d) : takeD xs off 1 = some [d] := by
 obtain ⟨h1, h2⟩ := take_one h
 unfold takeD
 rw [if_pos h1, h2]
theorem takeV_one {xs : List V} {off : Nat} {d : V} (h : xs[off]? = some d) : takeV xs off 1 = some [d] := by
 obtain ⟨h1, h2⟩ := take_one h
 unfold takeV
 rw [if_pos h1, h2]
theorem kld_some {agg : Bool} {n : Nat} {x v : V} {s : St} (h : kld agg n x s.heap = some v) (a : A) : ∃ os, act (.ld agg n a) [x] ((Cop.ids (.ld agg n a) [x]).map s.obj) 0 = some ⟨v, os, none⟩ := by
 unfold kld at h
 cases agg with
 | true => cases h
 | false =>
  obtain ⟨hn, h⟩ := ifK_some (show ifK (Nat.beq n 1) _ none = some v from h)
  have hn := Nat.eq_of_beq_eq_true hn
  subst hn
  cases hp : vPtr x with
  | none =>
   rw [hp] at h
   obtain ⟨q, h1, h⟩ := bindK_some h
   obtain ⟨d, h2, h⟩ := bindK_some h
   cases h
   rw [vQ_some h1]
   rw [kNth_eq] at h2
   exact ⟨[], by simp [act, Cop.ids, actLd, optV, takeD_one h2, ofDs, asVar]⟩
  | some p =>
   rw [hp] at h
   obtain ⟨o, h1, h⟩ := bindK_some h
   obtain ⟨cs, h2, h⟩ := bindK_some h
   rw [vPtr_some hp]
   rw [kNth_eq] at h
   have ho : s.obj p.1 = some (.box cs) := by rw [obj_nth, h1]; exact oBox_some h2
   exact ⟨[some (.box cs)], by simp [act, Cop.ids, actLd, optV, takeV_one h, ho, asVar]⟩
theorem kfa_some {off : Nat} {x v : V} (h : kfa off x = some v) (a : A) (f : Nat) : act (.fa off a) [x] [] f = some ⟨v, [], none⟩ := by
 unfold kfa at h
 cases hp : vPtr x with
 | none =>
  rw [hp] at h
  obtain ⟨q, h1, h⟩ := bindK_some h
  cases h
  rw [vQ_some h1]; rfl
 | some p =>
  rw [hp] at h
  cases h
  rw [vPtr_some hp]; rfl
theorem knilc_some {x v : V} (h : knilc x = some v) (a : A) (f : Nat) : act (.nilc a) [x] [] f = some ⟨v, [], none⟩ := by
 unfold knilc at h
 cases hp : vPtr x with
 | none =>
  rw [hp] at h
  obtain ⟨q, h1, h⟩ := bindK_some h
  cases h
  rw [vQ_some h1]; rfl
 | some p =>
  rw [hp] at h
  cases h
  rw [vPtr_some hp]; rfl
theorem kfl_some {agg : Bool} {off n : Nat} {x v : V} (h : kfl agg off n x = some v) (a : A) (f : Nat) : act (.fl agg off n a) [x] [] f = some ⟨v, [], none⟩ := by
 unfold kfl at h
 cases agg with
 | true => cases h
 | false =>
  obtain ⟨hn, h⟩ := ifK_some (show ifK (Nat.beq n 1) _ none = some v from h)
  have hn := Nat.eq_of_beq_eq_true hn
  subst hn
  obtain ⟨cs, h1, h⟩ := bindK_some h
  rw [vAgg_some h1]
  rw [kNth_eq] at h
  simp [act, optV, takeV_one h, asVar]
theorem vRow_some {x : V} {xs : List (List D)} (h : vRow x = some xs) : (∃ sz, x = .d (.l sz xs)) ∨ (∃ sz, x = .nil sz ∧ xs = []) ∨ ∃ id ver sz, x = .own id ver sz xs := by
 cases x with
 | d d => cases d <;> first | (injection h with h; rw [h]; exact .inl ⟨_, rfl⟩) | cases h
 | nil sz => injection h with h; exact .inr (.inl ⟨sz, rfl, h.symm⟩)
 | own id ver sz ys => injection h with h; rw [h]; exact .inr (.inr ⟨_, _, _, rfl⟩)
 | _ => cases h
theorem klen_some {k : Nat} {x v : V} (h : klen k x = some v) (a : A) (f : Nat) : Cop.ids (.len k a) [x] = [] ∧ act (.len k a) [x] [] f = some ⟨v, [], none⟩ := by
 cases k with
 | zero =>
  obtain ⟨xs, h1, h⟩ := bindK_some (show bindK (vRow x) _ = some v from h)
  simp only [forceK_eq, kLen_eq, Qa] at h
  subst h
  rcases vRow_some h1 with ⟨sz, rfl⟩ | ⟨sz, rfl, rfl⟩ | ⟨id, ver, sz, rfl⟩ <;> exact ⟨rfl, rfl⟩
 | succ k =>
  obtain ⟨hn, h⟩ := ifK_some (show ifK (Nat.beq k 0) _ none = some v from h)
  have hn := Nat.eq_of_beq_eq_true hn
  subst hn
  obtain ⟨xs, h1, h⟩ := bindK_some h
  simp only [forceK_eq, kLen_eq, Qa] at h
  subst h
  rw [vS_some h1]
  exact ⟨rfl, rfl⟩
theorem kixs_some {x i v : V} (h : kixs x i = some v) (a b : A) (f : Nat) : act (.ixs a b) [x, i] [] f = some ⟨v, [], none⟩ := by
 obtain ⟨s, h1, h⟩ := bindK_some h
 obtain ⟨p, h2, h⟩ := bindK_some h
 obtain ⟨n, h3, h⟩ := bindK_some h
 obtain ⟨c, h4, h⟩ := bindK_some h
 simp only [forceK_eq, Qa] at h
 subst h
 rw [vS_some h1, vI_some h2, natK_some h3]
 rw [kNth_eq] at h4
 simp [act, h4]
theorem kia_some {sz : Nat} {x i v : V} (h : kia sz x i = some v) (a b : A) (f : Nat) : Cop.ids (.ia sz a b) [x, i] = [] ∧ act (.ia sz a b) [x, i] [] f = some ⟨v, [], none⟩ := by
 obtain ⟨d, h1, h⟩ := bindK_some h
 obtain ⟨l, h2, h⟩ := bindK_some h
 obtain ⟨hz, h⟩ := ifK_some h
 obtain ⟨p, h3, h⟩ := bindK_some h
 obtain ⟨n, h4, h⟩ := bindK_some h
 obtain ⟨r, h5, h⟩ := bindK_some h
 cases h
 have hz := Nat.eq_of_beq_eq_true hz
 rw [vD_some h1, dL_some h2, vI_some h3, natK_some h4]
 rw [kNth_eq] at h5
 exact ⟨rfl, by simp [act, actIa, hz, h5, optV]⟩
theorem kext_some {x v : V} {i : Nat} (h : kext x i = some v) (a : A) (f : Nat) : act (.ext a i) [x] [] f = some ⟨v, [], none⟩ := by
 obtain ⟨ws, h1, h⟩ := bindK_some h
 rw [vTup_some h1]
 rw [kNth_eq] at h
 simp [act, h]
theorem kun_some {op : UnOp} {x v : V} (h : kun op x = some v) (a : A) (f : Nat) : act (.un op a) [x] [] f = some ⟨v, [], none⟩ := by
 obtain ⟨b, h1, h⟩ := bindK_some h
 rw [vB_some h1]
 cases op <;> first | (cases h; simp [act, optD, unOp, notK_eq]; done) | cases h
theorem pvalK_some (call : CallF) {op : Cop} {s : St} {v : V} (h : pvalK op s.tmps s.heap = some v) (dst : Option Nat) (pre fresh : Nat) : ∃ e, opEff call s ⟨dst, op, none, pre⟩ fresh = some e ∧ e.on s = s.put dst v := by
 cases op
 case mv x =>
  have h : some (kev x s.tmps) = some v := h
  rw [kev_eq'] at h
  cases h
  exact pure_eff call (os := []) rfl rfl rfl dst pre
 case ld agg n a =>
  have h : kld agg n (kev a s.tmps) s.heap = some v := h
  rw [kev_eq'] at h
  obtain ⟨os, h⟩ := kld_some h a
  exact pure_eff call (os := os) rfl rfl (by rw [← h]; rfl) dst pre
 case nilc x =>
  have h : knilc (kev x s.tmps) = some v := h
  rw [kev_eq'] at h
  exact pure_eff call (os := []) rfl rfl (knilc_some h x fresh) dst pre
 case bin op x y =>
  have h : kbin op (kev x s.tmps) (kev y s.tmps) = some v := h
  rw [kev_eq', kev_eq'] at h
  obtain ⟨d, rfl, hb⟩ := kbin_some h
  exact pure_eff call (os := []) rfl rfl (by
   have h' : act (.bin op x y) [s.ev x, s.ev y] [] fresh = some ⟨.d d, [], none⟩ := by simp only [act]; rw [hb]; rfl
   exact h') dst pre
 case un op x =>
  have h : kun op (kev x s.tmps) = some v := h
  rw [kev_eq'] at h
  exact pure_eff call (os := []) rfl rfl (kun_some h x fresh) dst pre
 case fa off x =>
  have h : kfa off (kev x s.tmps) = some v := h
  rw [kev_eq'] at h
  exact pure_eff call (os := []) rfl rfl (kfa_some h x fresh) dst pre
 case fl agg off n x =>
  have h : kfl agg off n (kev x s.tmps) = some v := h
  rw [kev_eq'] at h
  exact pure_eff call (os := []) rfl rfl (kfl_some h x fresh) dst pre
 case ia sz x i =>
  have h : kia sz (kev x s.tmps) (kev i s.tmps) = some v := h
  rw [kev_eq', kev_eq'] at h
  obtain ⟨h1, h2⟩ := kia_some h x i fresh
  exact pure_eff call (os := []) rfl rfl (by simp only [Cop.args, Qb, Qc, h1, h2]) dst pre
 case ixs x i =>
  have h : kixs (kev x s.tmps) (kev i s.tmps) = some v := h
  rw [kev_eq', kev_eq'] at h
  exact pure_eff call (os := []) rfl rfl (kixs_some h x i fresh) dst pre
 case len k x =>
  have h : klen k (kev x s.tmps) = some v := h
  rw [kev_eq'] at h
  obtain ⟨h1, h2⟩ := klen_some h x fresh
  exact pure_eff call (os := []) rfl rfl (by simp only [Cop.args, Qb, Qc, h1, h2]) dst pre
 case ext x i =>
  have h : kext (kev x s.tmps) i = some v := h
  rw [kev_eq'] at h
  exact pure_eff call (os := []) rfl rfl (kext_some h x fresh) dst pre
 all_goals cases h
def allK {α : Type} (p : α → Bool) : List α → Bool := @List.rec α (fun _ => Bool) true (fun a _ ih => ifK (p a) ih false)
theorem allK_mem {α : Type} {p : α → Bool} : ∀ {l : List α}, allK p l = true → ∀ a ∈ l, p a = true
 | x :: l, h, a, ha => by
  have h : ifK (p x) (allK p l) false = true := h
  cases hp : p x with
  | false => rw [hp] at h; cases h
  | true =>
   rw [hp] at h
   rcases List.mem_cons.1 ha with rfl | ha
   ·exact hp
   ·exact allK_mem h a ha
def isD : V → Bool := @V.rec (fun _ => Bool) (fun _ => Unit) (fun _ => true) (fun _ => false) (fun _ _ _ _ => false) (fun _ _ _ _ => false) (fun _ _ => false) (fun _ _ _ _ => false) (fun _ => false) (fun _ _ _ _ _ => false) (fun _ _ => false) (fun _ _ => false) false () (fun _ _ _ _ => ())
def isP : V → Bool := @V.rec (fun _ => Bool) (fun _ => Unit) (fun _ => true) (fun _ => false) (fun _ _ _ _ => false) (fun _ _ _ _ => false) (fun _ _ => false) (fun _ _ _ _ => false) (fun _ => false) (fun _ _ _ _ _ => false) (fun cs _ => allK isD cs) (fun _ _ => false) false () (fun _ _ _ _ => ())
def isPT : V → Bool := @V.rec (fun _ => Bool) (fun _ => Unit) (fun _ => true) (fun _ => false) (fun _ _ _ _ => false) (fun _ _ _ _ => false) (fun _ _ => false) (fun _ _ _ _ => false) (fun _ => false) (fun _ _ _ _ _ => false) (fun cs _ => allK isD cs) (fun vs _ => allK isP vs) false () (fun _ _ _ _ => ())
theorem isD_d {v : V} (h : isD v = true) : ∃ d, v = .d d := by cases v <;> first | exact ⟨_, rfl⟩ | cases h
theorem isP_cases {v : V} (h : isP v = true) : (∃ d, v = .d d) ∨ ∃ cs, v = .agg cs ∧ ∀ c ∈ cs, isD c = true := by
 cases v <;> first | exact .inl ⟨_, rfl⟩ | exact .inr ⟨_, rfl, allK_mem h⟩ | cases h
theorem isPT_cases {v : V} (h : isPT v = true) : isP v = true ∨ ∃ vs, v = .tup vs ∧ ∀ c ∈ vs, isP c = true := by
 cases v <;> first | exact .inr ⟨_, rfl, allK_mem h⟩ | exact .inl h | cases h
section
variable (f sh : Nat → Nat)
theorem ren_cells : ∀ {cs : List V}, (∀ c ∈ cs, isD c = true) → V.renAll f sh cs = cs ∧ V.refsAll cs = [] ∧ V.handAll cs = some cs
 | [], _ => ⟨rfl, rfl, rfl⟩
 | c :: cs, h => by
  obtain ⟨d, rfl⟩ := isD_d (h c (by simp))
  obtain ⟨h1, h2, h3⟩ := ren_cells (fun c hc => h c (List.mem_cons_of_mem _ hc))
  simp [V.renAll, V.ren, h1, V.refsAll, V.refs, h2, V.handAll, V.hand, h3]
theorem ren_pure {v : V} (h : isP v = true) : V.ren f sh v = v ∧ V.refs v = [] ∧ V.hand v = some v := by
 rcases isP_cases h with ⟨d, rfl⟩ | ⟨cs, rfl, hc⟩
 ·simp [V.ren, V.refs, V.hand]
 ·obtain ⟨h1, h2, h3⟩ := ren_cells f sh hc
  simp [V.ren, h1, V.refs, h2, V.hand, h3]
theorem ren_pures : ∀ {vs : List V}, (∀ c ∈ vs, isP c = true) → V.renAll f sh vs = vs ∧ V.refsAll vs = [] ∧ V.handAll vs = some vs
 | [], _ => ⟨rfl, rfl, rfl⟩
 | c :: cs, h => by
  obtain ⟨h1, h2, h3⟩ := ren_pure f sh (h c (by simp))
  obtain ⟨k1, k2, k3⟩ := ren_pures (fun c hc => h c (List.mem_cons_of_mem _ hc))
  simp [V.renAll, h1, k1, V.refsAll, h2, k2, V.handAll, h3, k3]
theorem ren_pureT {v : V} (h : isPT v = true) : V.ren f sh v = v ∧ V.refs v = [] := by
 rcases isPT_cases h with h | ⟨vs, rfl, hc⟩
 ·exact ⟨(ren_pure f sh h).1, (ren_pure f sh h).2.1⟩
 ·obtain ⟨h1, h2, _⟩ := ren_pures f sh hc
  simp [V.ren, h1, V.refs, h2]
end
theorem arrIds_cells (m : Nat) : ∀ {cs : List V}, (∀ c ∈ cs, isD c = true) → arrIdsAll m cs = []
 | [], _ => rfl
 | c :: cs, h => by
  obtain ⟨d, rfl⟩ := isD_d (h c (by simp))
  simp [arrIdsAll, V.arrIds, arrIds_cells m (fun c hc => h c (List.mem_cons_of_mem _ hc))]
theorem valIds_pure (m : Nat) {v : V} (h : isP v = true) : valIds m v = [] := by
 rcases isP_cases h with ⟨d, rfl⟩ | ⟨cs, rfl, hc⟩
 ·rfl
 ·exact arrIds_cells m hc
theorem valIds_pures (m : Nat) : ∀ {vs : List V}, (∀ c ∈ vs, isP c = true) → valIdsAll m vs = []
 | [], _ => rfl
 | c :: cs, h => by simp [valIdsAll, valIds_pure m (h c (by simp)), valIds_pures m (fun c hc => h c (List.mem_cons_of_mem _ hc))]
theorem ansIds_pure (m : Nat) {v : V} (h : isPT v = true) : ansIds m v = [] := by
 rcases isPT_cases h with h | ⟨vs, rfl, hc⟩
 ·rcases isP_cases h with ⟨d, rfl⟩ | ⟨cs, rfl, hc⟩
  ·rfl
  ·exact arrIds_cells m hc
 ·exact valIds_pures m hc
theorem rawAll_pure : ∀ {vs : List V}, (∀ c ∈ vs, isP c = true) → V.rawAll vs = some vs
 | [], _ => rfl
 | c :: cs, h => by
  have hc := h c (by simp)
  have := (ren_pure id id hc).2.2
  have h2 : V.rawH c = some c := by cases c <;> first | exact this | rfl
  simp [V.rawAll, h2, rawAll_pure (fun c hc => h c (List.mem_cons_of_mem _ hc))]
theorem hands_pure {md : Md} {vs : List V} (h : ∀ c ∈ vs, isP c = true) : md.hands vs = some vs := by
 cases md <;> first | exact (ren_pures id id h).2.2 | exact rawAll_pure h
theorem lendAll_cells (obj : Nat → Option Obj) : ∀ {cs : List V} (f : Nat), (∀ c ∈ cs, isD c = true) → cs.length < f → ∃ ds, lendAll obj f cs = some ds ∧ ofDs ds = cs
 | [], f + 1, _, _ => ⟨[], rfl, rfl⟩
 | c :: cs, f + 1, h, hl => by
  obtain ⟨d, rfl⟩ := isD_d (h c (by simp))
  have hf : cs.length < f := by simpa using hl
  obtain ⟨ds, k1, k2⟩ := lendAll_cells obj f (fun c hc => h c (List.mem_cons_of_mem _ hc)) hf
  obtain ⟨f, rfl⟩ : ∃ g, f = g + 1 := ⟨f - 1, by omega⟩
  exact ⟨d :: ds, by simp [lendAll, V.lend, V.toD, k1], by simp [ofDs] at k2 ⊢; exact k2⟩
 | _, 0, _, hl => by omega
def fewK : V → Bool := @V.rec (fun _ => Bool) (fun _ => Unit) (fun _ => true) (fun _ => false) (fun _ _ _ _ => false) (fun _ _ _ _ => false) (fun _ _ => false) (fun _ _ _ _ => false) (fun _ => false) (fun _ _ _ _ _ => false) (fun cs _ => Nat.ble (kLen cs) 1000) (fun _ _ => false) false () (fun _ _ _ _ => ())
theorem lendArgs_pure (obj : Nat → Option Obj) : ∀ {vs : List V}, (∀ c ∈ vs, isP c = true) → (∀ c ∈ vs, fewK c = true) → lendArgs obj vs = some vs
 | [], _, _ => rfl
 | c :: cs, h, hf => by
  have k := lendArgs_pure obj (fun c hc => h c (List.mem_cons_of_mem _ hc)) (fun c hc => hf c (List.mem_cons_of_mem _ hc))
  rcases isP_cases (h c (by simp)) with ⟨d, rfl⟩ | ⟨ds, rfl, hc⟩
  ·simp [lendArgs, V.lend, far, V.toD, k]
  ·have hl : Nat.ble (kLen ds) 1000 = true := hf (.agg ds) (by simp)
   rw [kLen_eq] at hl
   have hl := Nat.le_of_ble_eq_true hl
   obtain ⟨es, k1, k2⟩ := lendAll_cells obj far hc (by unfold far; omega)
   simp [lendArgs, k1, k2, k]
structure Ent where
 key : Nat
 args : List V
 lent : Bool
def handC : V → Option V := @V.rec (fun _ => Option V) (fun _ => Unit) (fun d => some (.d d)) (fun sz => some (.d (.l sz []))) (fun _ _ sz xs => some (.d (.l sz xs))) (fun _ _ _ _ => none) (fun _ _ => none) (fun _ _ _ _ => none) (fun _ => none) (fun _ _ _ _ _ => none) (fun _ _ => none) (fun _ _ => none) none () (fun _ _ _ _ => ())
def handCs : List V → Option (List V) := @List.rec V (fun _ => Option (List V)) (some []) (fun v _ ih => bindK (handC v) fun x => bindK ih fun xs => some (x :: xs))
def handP : V → Option V := @V.rec (fun _ => Option V) (fun _ => Unit) (fun d => some (.d d)) (fun sz => some (.d (.l sz []))) (fun _ _ sz xs => some (.d (.l sz xs))) (fun _ _ _ _ => none) (fun _ _ => none) (fun _ _ _ _ => none) (fun _ => none) (fun _ _ _ _ _ => none) (fun cs _ => bindK (handCs cs) fun cs => some (.agg cs)) (fun _ _ => none) none () (fun _ _ _ _ => ())
def handPs : List V → Option (List V) := @List.rec V (fun _ => Option (List V)) (some []) (fun v _ ih => bindK (handP v) fun x => bindK ih fun xs => some (x :: xs))
theorem handC_some {v x : V} (h : handC v = some x) : V.hand v = some x ∧ isD x = true := by
 cases v <;> first | (cases h; exact ⟨by simp [V.hand], rfl⟩) | cases h
theorem handCs_some : ∀ {vs xs : List V}, handCs vs = some xs → V.handAll vs = some xs ∧ ∀ c ∈ xs, isD c = true
 | [], xs, h => by cases h; exact ⟨rfl, by simp⟩
 | v :: vs, xs, h => by
  obtain ⟨x, h1, h⟩ := bindK_some h
  obtain ⟨ys, h2, h⟩ := bindK_some h
  cases h
  obtain ⟨k1, k2⟩ := handC_some h1
  obtain ⟨m1, m2⟩ := handCs_some h2
  exact ⟨by simp [V.handAll, k1, m1], by simp [k2]; exact m2⟩
theorem allK_of {α : Type} {p : α → Bool} : ∀ {l : List α}, (∀ a ∈ l, p a = true) → allK p l = true
 | [], _ => rfl
 | x :: l, h => by
  show ifK (p x) (allK p l) false = true
  rw [h x (by simp), allK_of (fun a ha => h a (List.mem_cons_of_mem _ ha))]; rfl
theorem handP_some {v x : V} (h : handP v = some x) : V.hand v = some x ∧ isP x = true := by
 cases v with
 | agg cs =>
  obtain ⟨ys, h1, h⟩ := bindK_some (show bindK (handCs cs) _ = some x from h)
  cases h
  obtain ⟨m1, m2⟩ := handCs_some h1
  exact ⟨by simp [V.hand, m1], allK_of m2⟩
 | _ => first | (cases h; exact ⟨by simp [V.hand], rfl⟩) | cases h
theorem handPs_some : ∀ {vs xs : List V}, handPs vs = some xs → V.handAll vs = some xs ∧ ∀ c ∈ xs, isP c = true
 | [], xs, h => by cases h; exact ⟨rfl, by simp⟩
 | v :: vs, xs, h => by
  obtain ⟨x, h1, h⟩ := bindK_some h
  obtain ⟨ys, h2, h⟩ := bindK_some h
  cases h
  obtain ⟨k1, k2⟩ := handP_some h1
  obtain ⟨m1, m2⟩ := handPs_some h2
  exact ⟨by simp [V.handAll, k1, m1], by simp [k2]; exact m2⟩
theorem enter_pure (call : CallF) (md : Md) (obj : Nat → Option Obj) {key res fresh : Nat} {vs hs : List V} {r : V} (hv : md.hands vs = some hs) (hp : ∀ c ∈ hs, isP c = true) (hc : frzCall md call key hs [] = some (r, [])) (hr : isPT r = true) :
  enterCall (frzCall md call) md obj key vs res fresh = some (r, [], [], []) := by
 obtain ⟨h1, h2, h3⟩ := ren_pures (placeOf []) noShift hp
 have hreach : reach obj far (V.refsAll hs) [] = some [] := by rw [h2]; rfl
 unfold enterCall
 simp only [hv, hreach, Qc, renObjs, h1, hc, List.length_nil, Nat.not_lt_zero, if_false, Nat.le_refl, Nat.zero_le, true_and, if_true, List.take_nil, List.drop_nil]
 rw [(ren_pureT _ _ hr).1]
def idsPt : List V → List Nat
 | .ptr id _ :: _ => [id]
 | .pm id _ _ _ :: _ => [id]
 | _ => []
def idsAr : List V → List Nat
 | .arr id _ _ _ :: _ => [id]
 | _ => []
def idsOw : List V → List Nat
 | .own id _ _ _ :: _ => [id]
 | _ => []
def idsMp : List V → List Nat
 | .map id :: _ => [id]
 | _ => []
def idsK : Cop → List V → List Nat := @Cop.rec (fun _ => List V → List Nat) (fun _ => fun _ => []) (fun _ _ _ => fun _ => []) (fun _ => fun _ => []) (fun _ => fun _ => []) (fun _ _ => fun _ => []) (fun _ _ _ _ => fun _ => []) (fun _ _ _ _ => fun _ => []) (fun _ _ _ => idsPt) (fun _ _ _ => idsPt) (fun _ => fun _ => []) (fun _ _ _ => fun _ => []) (fun _ _ _ _ => fun _ => []) (fun _ _ _ => fun _ => []) (fun _ _ => fun _ => []) (fun _ _ => fun _ => []) (fun _ _ => fun _ => []) (fun _ => fun _ => []) (fun _ _ _ z vs => ifK z (ptrIds vs) []) (fun _ => []) (fun _ _ _ _ _ _ => fun _ => []) (fun _ => fun _ => []) (fun _ _ _ _ => idsAr) (fun _ _ _ => fun _ => []) (fun _ _ => fun _ => []) (fun _ _ _ _ => fun _ => []) (fun _ _ _ => idsAr) (fun _ _ _ _ => fun _ => []) (fun _ _ => fun _ => []) (fun _ _ _ _ _ => fun _ => []) (fun _ _ => idsMp) (fun _ _ _ _ => idsOw) (fun sz b x y vs => Cop.ids (.apa sz b x y) vs) (fun _ _ _ _ _ => idsAr) (fun _ => fun _ => []) (fun _ _ => fun _ => []) (fun _ _ => fun _ => []) (fun _ _ _ _ _ _ => idsMp) (fun _ _ _ _ _ => idsMp) (fun _ _ _ _ => idsMp) (fun _ => idsAr) (fun _ _ _ _ => fun _ => []) (fun _ _ _ _ => fun _ => []) (fun _ _ => fun _ => []) (fun _ _ _ => fun _ => []) (fun _ _ => fun _ => []) (fun _ => [])
theorem idsK_eq (op : Cop) (vs : List V) : idsK op vs = op.ids vs := by
 cases op <;> first
  | rfl
  | (cases vs with | nil => rfl | cons v vs => cases v <;> rfl)
  | (rename_i z; cases z <;> rfl)
def wrK : Cop → Bool := @Cop.rec (fun _ => Bool) (fun _ => false) (fun _ _ _ => false) (fun _ => false) (fun _ => false) (fun _ _ => false) (fun _ _ _ _ => false) (fun _ _ _ _ => false) (fun _ _ _ => false) (fun _ _ _ => true) (fun _ => false) (fun _ _ _ => false) (fun _ _ _ _ => false) (fun _ _ _ => false) (fun _ _ => false) (fun _ _ => false) (fun _ _ => false) (fun _ => false) (fun _ _ _ z => z) (false) (fun _ _ _ _ _ _ => false) (fun _ => false) (fun _ _ _ _ => false) (fun _ _ _ => false) (fun _ _ => false) (fun _ _ _ _ => false) (fun _ _ _ => false) (fun _ _ _ _ => false) (fun _ _ => false) (fun _ _ _ _ _ => false) (fun _ _ => false) (fun _ _ _ _ => true) (fun _ _ _ _ => true) (fun _ _ _ _ _ => true) (fun _ => false) (fun _ _ => false) (fun _ _ => false) (fun _ _ _ _ _ _ => false) (fun _ _ _ _ _ => true) (fun _ _ _ _ => true) (fun _ => true) (fun _ _ _ _ => false) (fun _ _ _ _ => false) (fun _ _ => false) (fun _ _ _ => false) (fun _ _ => false) (false)
theorem wrK_eq (op : Cop) : wrK op = op.wr := by cases op <;> first | rfl | (rename_i z; cases z <;> rfl)
def nmkK : Cop → Nat := @Cop.rec (fun _ => Nat) (fun _ => 0) (fun _ _ _ => 0) (fun _ => 1) (fun _ => 1) (fun _ _ => 0) (fun _ _ _ _ => 1) (fun _ _ _ _ => 1) (fun _ _ _ => 0) (fun _ _ _ => 0) (fun _ => 0) (fun _ _ _ => 0) (fun _ _ _ _ => 0) (fun _ _ _ => 0) (fun _ _ => 0) (fun _ _ => 0) (fun _ _ => 0) (fun _ => 0) (fun _ _ _ _ => 0) (1) (fun _ _ _ _ _ _ => 1) (fun _ => 0) (fun _ _ _ _ => 0) (fun _ _ _ => 0) (fun _ _ => 0) (fun _ _ _ _ => 0) (fun _ _ _ => 0) (fun _ _ _ _ => 0) (fun _ _ => 0) (fun _ _ _ _ _ => 0) (fun _ _ => 0) (fun _ _ _ _ => 1) (fun _ _ _ _ => 1) (fun _ _ _ _ _ => 1) (fun _ => 0) (fun _ _ => 0) (fun _ _ => 0) (fun _ _ _ _ _ _ => 0) (fun _ _ _ _ _ => 0) (fun _ _ _ _ => 0) (fun _ => 0) (fun _ _ r _ => r) (fun _ _ r _ => r) (fun _ _ => 0) (fun _ _ r => r) (fun _ _ => 0) (0)
theorem nmkK_eq (op : Cop) : nmkK op = op.nmk := by cases op <;> rfl
def callK : Cop → Bool := @Cop.rec (fun _ => Bool) (fun _ => false) (fun _ _ _ => false) (fun _ => false) (fun _ => false) (fun _ _ => false) (fun _ _ _ _ => false) (fun _ _ _ _ => false) (fun _ _ _ => false) (fun _ _ _ => false) (fun _ => false) (fun _ _ _ => false) (fun _ _ _ _ => false) (fun _ _ _ => false) (fun _ _ => false) (fun _ _ => false) (fun _ _ => false) (fun _ => false) (fun _ _ _ _ => false) (false) (fun _ _ _ _ _ _ => false) (fun _ => false) (fun _ _ _ _ => false) (fun _ _ _ => false) (fun _ _ => false) (fun _ _ _ _ => false) (fun _ _ _ => false) (fun _ _ _ _ => false) (fun _ _ => false) (fun _ _ _ _ _ => false) (fun _ _ => false) (fun _ _ _ _ => false) (fun _ _ _ _ => false) (fun _ _ _ _ _ => false) (fun _ => false) (fun _ _ => false) (fun _ _ => false) (fun _ _ _ _ _ _ => false) (fun _ _ _ _ _ => false) (fun _ _ _ _ => false) (fun _ => false) (fun _ _ _ _ => true) (fun _ _ _ _ => true) (fun _ _ => true) (fun _ _ _ => true) (fun _ _ => false) (false)
theorem callK_eq (op : Cop) : callK op = op.isCall := by cases op <;> rfl
def quietK : Cop → Bool := @Cop.rec (fun _ => Bool) (fun _ => true) (fun _ _ _ => true) (fun _ => false) (fun _ => false) (fun _ _ => true) (fun _ _ _ _ => false) (fun _ _ _ _ => false) (fun _ _ _ => false) (fun _ _ _ => false) (fun _ => true) (fun _ _ _ => true) (fun _ _ _ _ => true) (fun _ _ _ => true) (fun _ _ => true) (fun _ _ => true) (fun _ _ => true) (fun _ => true) (fun _ _ _ _ => false) (false) (fun _ _ _ _ _ _ => false) (fun _ => true) (fun _ _ _ _ => false) (fun _ _ _ => true) (fun _ _ => true) (fun _ _ _ _ => true) (fun _ _ _ => false) (fun _ _ _ _ => true) (fun _ _ => true) (fun _ _ _ _ _ => true) (fun _ _ => false) (fun _ _ _ _ => false) (fun _ _ _ _ => false) (fun _ _ _ _ _ => false) (fun _ => true) (fun _ _ => true) (fun _ _ => true) (fun _ _ _ _ _ _ => false) (fun _ _ _ _ _ => false) (fun _ _ _ _ => false) (fun _ => false) (fun _ _ _ _ => false) (fun _ _ _ _ => false) (fun _ _ => false) (fun _ _ _ => false) (fun _ _ => true) (false)
def argsK : Cop → List A := @Cop.rec (fun _ => List A) (fun x => [x]) (fun c a b => [c, a, b]) (fun _ => []) (fun x => [x]) (fun _ ps => ps.map (·.2.2)) (fun _ _ _ ps => ps.map (·.2)) (fun _ _ _ ps => ps.map (·.2)) (fun _ _ a => [a]) (fun _ a v => [a, v]) (fun x => [x]) (fun _ x y => [x, y]) (fun _ _ x y => [x, y]) (fun _ x y => [x, y]) (fun _ x => [x]) (fun _ x => [x]) (fun _ x => [x]) (fun x => [x]) (fun _ f c _ => f ++ c) ([]) (fun _ _ _ _ x y => [x, y]) (fun x => [x]) (fun _ x lo hi => [x] ++ lo.toList ++ hi.toList) (fun x lo hi => [x] ++ lo.toList ++ hi.toList) (fun _ x => [x]) (fun _ _ _ x => [x]) (fun _ x i => [x, i]) (fun _ _ x i => [x, i]) (fun x i => [x, i]) (fun _ _ _ x i => [x, i]) (fun _ x => [x]) (fun _ _ x y => [x, y]) (fun _ _ x y => [x, y]) (fun _ _ _ x n => [x, n]) (fun x => [x]) (fun _ x => [x]) (fun _ xs => xs) (fun _ _ _ _ m k => [m, k]) (fun _ _ m k v => [m, k, v]) (fun _ _ m k => [m, k]) (fun x => [x]) (fun _ as _ _ => as) (fun f as _ _ => f :: as) (fun _ as => as) (fun _ as _ => as) (fun x _ => [x]) ([])
theorem argsK_eq (op : Cop) : argsK op = op.args := by cases op <;> rfl
def dF : D → Option (Nat × List D × List D) := @D.rec (fun _ => Option (Nat × List D × List D)) (fun _ => Unit) (fun _ => Unit) (fun _ => none) (fun _ _ => none) (fun _ => none) (fun _ _ _ => none) (fun _ _ _ => none) (fun k a c _ _ => some (k, a, c)) none none none () (fun _ _ _ _ => ()) () (fun _ _ _ _ => ())
theorem dF_some {v : D} {x : Nat × List D × List D} (h : dF v = some x) : v = .f x.1 x.2.1 x.2.2 := by
 cases v <;> first | (injection h with h; rw [← h]) | cases h
def entK : Cop → List (Nat × V) → Option Ent := @Cop.rec (fun _ => List (Nat × V) → Option Ent) (fun _ => fun _ => none) (fun _ _ _ => fun _ => none) (fun _ => fun _ => none) (fun _ => fun _ => none) (fun _ _ => fun _ => none) (fun _ _ _ _ => fun _ => none) (fun _ _ _ _ => fun _ => none) (fun _ _ _ => fun _ => none) (fun _ _ _ => fun _ => none) (fun _ => fun _ => none) (fun _ _ _ => fun _ => none) (fun _ _ _ _ => fun _ => none) (fun _ _ _ => fun _ => none) (fun _ _ => fun _ => none) (fun _ _ => fun _ => none) (fun _ _ => fun _ => none) (fun _ => fun _ => none) (fun _ _ _ _ => fun _ => none) (fun _ => none) (fun _ _ _ _ _ _ => fun _ => none) (fun _ => fun _ => none) (fun _ _ _ _ => fun _ => none) (fun _ _ _ => fun _ => none) (fun _ _ => fun _ => none) (fun _ _ _ _ => fun _ => none) (fun _ _ _ => fun _ => none) (fun _ _ _ _ => fun _ => none) (fun _ _ => fun _ => none) (fun _ _ _ _ _ => fun _ => none) (fun _ _ => fun _ => none) (fun _ _ _ _ => fun _ => none) (fun _ _ _ _ => fun _ => none) (fun _ _ _ _ _ => fun _ => none) (fun _ => fun _ => none) (fun _ _ => fun _ => none) (fun _ _ => fun _ => none) (fun _ _ _ _ _ _ => fun _ => none) (fun _ _ _ _ _ => fun _ => none) (fun _ _ _ _ => fun _ => none) (fun _ => fun _ => none) (fun key as _ _ tm => bindK (handPs (kargs as tm)) fun hs => some ⟨key, hs, false⟩) (fun f as _ _ tm => bindK (vD (kev f tm)) fun d => bindK (dF d) fun p => bindK (handPs (ofDs p.2.1 ++ kargs as tm ++ ofDs p.2.2)) fun hs => some ⟨p.1, hs, false⟩) (fun key as tm => bindK (handPs (kargs as tm)) fun hs => ifK (allK fewK hs) (some ⟨key, hs, true⟩) none) (fun key as _ tm => ifK (allK isP (kargs as tm)) (some ⟨key, kargs as tm, false⟩) none) (fun _ _ => fun _ => none) (fun _ => none)
theorem entK_some {op : Cop} {s : St} {e : Ent} (h : entK op s.tmps = some e) : op.isCall = true ∧ ∃ vs res md, callee op (op.args.map s.ev) = some (e.key, vs, res, md) ∧ md.hands vs = some e.args ∧ (∀ c ∈ e.args, isP c = true) ∧ (e.lent = false → md = .keep ∨ md = .frz ∨ md = .raw) ∧ (e.lent = true → md = .lend ∧ ∀ c ∈ e.args, fewK c = true) := by
 cases op
 case call key as res fz =>
  obtain ⟨hs, h1, h⟩ := bindK_some (show bindK (handPs (kargs as s.tmps)) _ = some e from h)
  cases h
  rw [kargs_eq] at h1
  obtain ⟨k1, k2⟩ := handPs_some h1
  refine ⟨rfl, as.map s.ev, res, mdOf fz, rfl, ?_, k2, fun _ => ?_, fun h => by cases h⟩
  ·cases fz <;> exact k1
  ·cases fz
   ·exact .inl rfl
   ·exact .inr (.inl rfl)
 case lend key as =>
  obtain ⟨hs, h1, h⟩ := bindK_some (show bindK (handPs (kargs as s.tmps)) _ = some e from h)
  obtain ⟨hf, h⟩ := ifK_some h
  cases h
  rw [kargs_eq] at h1
  obtain ⟨k1, k2⟩ := handPs_some h1
  exact ⟨rfl, as.map s.ev, 0, .lend, rfl, k1, k2, (fun h => by cases h), fun _ => ⟨rfl, allK_mem hf⟩⟩
 case callr key as res =>
  obtain ⟨hp, h⟩ := ifK_some (show ifK (allK isP (kargs as s.tmps)) _ none = some e from h)
  cases h
  rw [kargs_eq] at hp
  refine ⟨rfl, as.map s.ev, res, .raw, rfl, ?_, ?_, fun _ => .inr (.inr rfl), fun h => by cases h⟩
  ·simp only [kargs_eq]; exact rawAll_pure (allK_mem hp)
  ·simp only [kargs_eq]; exact allK_mem hp
 case callv f as res fz =>
  obtain ⟨d, h1, h⟩ := bindK_some (show bindK (vD (kev f s.tmps)) _ = some e from h)
  obtain ⟨p, h2, h⟩ := bindK_some h
  obtain ⟨hs, h3, h⟩ := bindK_some h
  cases h
  rw [kev_eq'] at h1
  rw [kargs_eq] at h3
  obtain ⟨k1, k2⟩ := handPs_some h3
  refine ⟨rfl, ofDs p.2.1 ++ as.map s.ev ++ ofDs p.2.2, res, mdOf fz, ?_, ?_, k2, fun _ => ?_, fun h => by cases h⟩
  ·simp only [Cop.args, Qb, vD_some h1, dF_some h2, callee]
  ·cases fz <;> exact k1
  ·cases fz
   ·exact .inl rfl
   ·exact .inr (.inl rfl)
 all_goals cases h
def nilK {α : Type} : List α → Bool := @List.rec α (fun _ => Bool) true (fun _ _ _ => false)
theorem nilK_eq {α : Type} {l : List α} (h : nilK l = true) : l = [] := by cases l <;> first | rfl | cases h
def scalD : D → Bool := @D.rec (fun _ => Bool) (fun _ => Unit) (fun _ => Unit) (fun _ => true) (fun _ _ => true) (fun _ => true) (fun _ _ _ => false) (fun _ _ _ => false) (fun _ _ _ _ _ => false) false false false () (fun _ _ _ _ => ()) () (fun _ _ _ _ => ())
def scalV : V → Bool := @V.rec (fun _ => Bool) (fun _ => Unit) scalD (fun _ => false) (fun _ _ _ _ => false) (fun _ _ _ _ => false) (fun _ _ => false) (fun _ _ _ _ => false) (fun _ => false) (fun _ _ _ _ _ => false) (fun _ _ => false) (fun _ _ => false) false () (fun _ _ _ _ => ())
theorem scalV_eq {v : V} (h : scalV v = true) : v.scal = true := by
 cases v with
 | d d => cases d <;> first | rfl | cases h
 | _ => cases h
def purC : V → Option V := @V.rec (fun _ => Option V) (fun _ => Unit) (fun d => some (.d d)) (fun _ => none) (fun _ _ _ _ => none) (fun _ _ _ _ => none) (fun _ _ => none) (fun _ _ _ _ => none) (fun _ => none) (fun _ _ _ _ _ => none) (fun _ _ => none) (fun _ _ => none) none () (fun _ _ _ _ => ())
def purCs : List V → Option (List V) := @List.rec V (fun _ => Option (List V)) (some []) (fun v _ ih => bindK (purC v) fun x => bindK ih fun xs => some (x :: xs))
def purP : V → Option V := @V.rec (fun _ => Option V) (fun _ => Unit) (fun d => some (.d d)) (fun _ => none) (fun _ _ _ _ => none) (fun _ _ _ _ => none) (fun _ _ => none) (fun _ _ _ _ => none) (fun _ => none) (fun _ _ _ _ _ => none) (fun cs _ => bindK (purCs cs) fun cs => some (.agg cs)) (fun _ _ => none) none () (fun _ _ _ _ => ())
def purPs : List V → Option (List V) := @List.rec V (fun _ => Option (List V)) (some []) (fun v _ ih => bindK (purP v) fun x => bindK ih fun xs => some (x :: xs))
def purT : V → Option V := @V.rec (fun _ => Option V) (fun _ => Unit) (fun d => some (.d d)) (fun _ => none) (fun _ _ _ _ => none) (fun _ _ _ _ => none) (fun _ _ => none) (fun _ _ _ _ => none) (fun _ => none) (fun _ _ _ _ _ => none) (fun cs _ => bindK (purCs cs) fun cs => some (.agg cs)) (fun vs _ => bindK (purPs vs) fun vs => some (.tup vs)) none () (fun _ _ _ _ => ())
theorem purC_some {v x : V} (h : purC v = some x) : x = v ∧ isD v = true := by cases v <;> first | (cases h; exact ⟨rfl, rfl⟩) | cases h
theorem purCs_some : ∀ {vs xs : List V}, purCs vs = some xs → xs = vs ∧ ∀ c ∈ vs, isD c = true
 | [], xs, h => by cases h; exact ⟨rfl, by simp⟩
 | v :: vs, xs, h => by
  obtain ⟨x, h1, h⟩ := bindK_some h
  obtain ⟨ys, h2, h⟩ := bindK_some h
  cases h
  obtain ⟨rfl, k2⟩ := purC_some h1
  obtain ⟨rfl, m2⟩ := purCs_some h2
  exact ⟨rfl, by simp [k2]; exact m2⟩
theorem purP_some {v x : V} (h : purP v = some x) : x = v ∧ isP v = true := by
 cases v with
 | agg cs =>
  obtain ⟨ys, h1, h⟩ := bindK_some (show bindK (purCs cs) _ = some x from h)
  cases h
  obtain ⟨rfl, m2⟩ := purCs_some h1
  exact ⟨rfl, allK_of m2⟩
 | _ => first | (cases h; exact ⟨rfl, rfl⟩) | cases h
theorem purPs_some : ∀ {vs xs : List V}, purPs vs = some xs → xs = vs ∧ ∀ c ∈ vs, isP c = true
 | [], xs, h => by cases h; exact ⟨rfl, by simp⟩
 | v :: vs, xs, h => by
  obtain ⟨x, h1, h⟩ := bindK_some h
  obtain ⟨ys, h2, h⟩ := bindK_some h
  cases h
  obtain ⟨rfl, k2⟩ := purP_some h1
  obtain ⟨rfl, m2⟩ := purPs_some h2
  exact ⟨rfl, by simp [k2]; exact m2⟩
theorem purT_some {v x : V} (h : purT v = some x) : x = v ∧ isPT v = true := by
 cases v with
 | agg cs =>
  obtain ⟨ys, h1, h⟩ := bindK_some (show bindK (purCs cs) _ = some x from h)
  cases h
  obtain ⟨rfl, m2⟩ := purCs_some h1
  exact ⟨rfl, allK_of m2⟩
 | tup cs =>
  obtain ⟨ys, h1, h⟩ := bindK_some (show bindK (purPs cs) _ = some x from h)
  cases h
  obtain ⟨rfl, m2⟩ := purPs_some h1
  exact ⟨rfl, allK_of m2⟩
 | _ => first | (cases h; exact ⟨rfl, rfl⟩) | cases h
def putK : Option Nat → V → List (Nat × V) → List (Option Obj) → St := @Option.rec Nat (fun _ => V → List (Nat × V) → List (Option Obj) → St) (fun _ tm hp => ⟨tm, hp⟩) (fun t v tm hp => ⟨(t, v) :: tm, hp⟩)
theorem putK_eq (dst : Option Nat) (v : V) (s : St) : putK dst v s.tmps s.heap = s.put dst v := by cases dst <;> rfl
def guardK : Option (Nat × Bool) → List (Nat × V) → Option Bool := @Option.rec (Nat × Bool) (fun _ => List (Nat × V) → Option Bool) (fun _ => some true) (fun p tm => bindK (vB (kget tm p.1)) fun x => some (ifK p.2 x (notK x)))
theorem guardK_some {g : Option (Nat × Bool)} {s : St} {b : Bool} (h : guardK g s.tmps = some b) : wanted s g = some b := by
 cases g with
 | none => cases h; rfl
 | some p =>
  obtain ⟨t, want⟩ := p
  obtain ⟨x, h1, h⟩ := bindK_some (show bindK (vB (kget s.tmps t)) _ = some b from h)
  rw [kget_eq] at h1
  have hv : s.get t = .d (.b x) := vB_some h1
  simp only [wanted, hv]
  cases h
  cases want <;> cases x <;> rfl
theorem guard_eff (call : CallF) {s : St} {g : Option (Nat × Bool)} (hg : wanted s g = some true) (dst : Option Nat) (op : Cop) (pre fresh : Nat) : opEff call s ⟨dst, op, g, pre⟩ fresh = opEff call s ⟨dst, op, none, pre⟩ fresh := by
 unfold opEff
 rw [show wanted s (CO.guard ⟨dst, op, g, pre⟩) = some true from hg]
 rfl
def plainK : V → Bool := @V.rec (fun _ => Bool) (fun _ => Unit) (fun _ => true) (fun _ => true) (fun _ _ _ _ => true) (fun _ _ _ _ => true) (fun _ _ => true) (fun _ _ _ _ => true) (fun _ => true) (fun _ _ _ _ _ => true) (fun _ _ => false) (fun _ _ => false) false () (fun _ _ _ _ => ())
theorem plainK_cel {v : V} (h : plainK v = true) : v.cel = some [v] := by cases v <;> first | rfl | cases h
def setK {α : Type} : List α → Nat → α → Option (List α) := @List.rec α (fun _ => Nat → α → Option (List α)) (fun _ _ => none) (fun a l ih i x => @Nat.rec (fun _ => Option (List α)) (some (x :: l)) (fun j _ => bindK (ih j x) fun l' => some (a :: l')) i)
theorem setK_some {α : Type} : ∀ {l : List α} {i : Nat} {x : α} {l' : List α}, setK l i x = some l' → i < l.length ∧ l' = l.set i x
 | [], i, x, l', h => by cases h
 | a :: l, 0, x, l', h => by cases h; exact ⟨by simp, rfl⟩
 | a :: l, i + 1, x, l', h => by
  obtain ⟨m, h1, h⟩ := bindK_some (show bindK (setK l i x) _ = some l' from h)
  cases h
  obtain ⟨k1, rfl⟩ := setK_some h1
  exact ⟨by simpa using k1, rfl⟩
theorem over_one {cs : List V} {off : Nat} {v : V} (h : off < cs.length) : over cs off [v] = some (cs.set off v) := by
 unfold over
 rw [if_pos (show off + [v].length ≤ cs.length from h)]
 congr 1
 rw [List.set_eq_take_append_cons_drop, if_pos h]
 simp
def storeK (n : Nat) (a v : V) (dst : Option Nat) (tm : List (Nat × V)) (hp : List (Option Obj)) : Option St :=
 ifK (Nat.beq n 1) (ifK (plainK v) (bindK (vPtr a) fun p => bindK (kNth hp p.1) fun o => bindK (oBox o) fun cs => bindK (setK cs p.2 v) fun cs' => bindK (setK hp p.1 (some (.box cs'))) fun hp' => some (putK dst .undef tm hp')) none) none
def storesK : Cop → Option Nat → List (Nat × V) → List (Option Obj) → Option St := fun op dst tm hp => match op with
 | .st n a v => storeK n (kev a tm) (kev v tm) dst tm hp
 | _ => none
theorem storesK_some (call : CallF) {op : Cop} {s s' : St} {dst : Option Nat} (h : storesK op dst s.tmps s.heap = some s') (pre fresh : Nat) : ∃ e, opEff call s ⟨dst, op, none, pre⟩ fresh = some e ∧ e.on s = s' := by
 cases op
 case st n a v =>
  have h : storeK n (kev a s.tmps) (kev v s.tmps) dst s.tmps s.heap = some s' := h
  rw [kev_eq', kev_eq'] at h
  unfold storeK at h
  obtain ⟨hn, h⟩ := ifK_some h
  obtain ⟨hv, h⟩ := ifK_some h
  obtain ⟨p, h1, h⟩ := bindK_some h
  obtain ⟨o, h2, h⟩ := bindK_some h
  obtain ⟨cs, h3, h⟩ := bindK_some h
  obtain ⟨cs', h4, h⟩ := bindK_some h
  obtain ⟨hp', h5, h⟩ := bindK_some h
  cases h
  have hn := Nat.eq_of_beq_eq_true hn
  subst hn
  have ho : s.obj p.1 = some (.box cs) := by rw [obj_nth, h2]; exact oBox_some h3
  obtain ⟨k1, rfl⟩ := setK_some h4
  obtain ⟨k2, rfl⟩ := setK_some h5
  have hact : act (.st 1 a v) [s.ev a, s.ev v] [some (.box cs)] fresh = some ⟨.undef, [some (.box (cs.set p.2 (s.ev v)))], none⟩ := by
   rw [vPtr_some h1]
   simp [act, actSt, plainK_cel hv, over_one k1]
  refine ⟨⟨dst, .undef, [p.1], true, [some (.box (cs.set p.2 (s.ev v)))], fresh, []⟩, ?_, ?_⟩
  ·simp only [opEff, wanted, Cop.isCall, Qm, if_false, Cop.args, Qb, Qc]
   rw [show Cop.ids (.st 1 a v) [s.ev a, s.ev v] = [p.1] by rw [vPtr_some h1]; rfl]
   simp only [Qb, Qc, ho, hact]
   rfl
  ·simp only [Eff.on, if_true, setObjs, List.length_nil, List.range'_zero]
   exact (putK_eq dst .undef ⟨s.tmps, s.heap.set p.1 (some (.box (cs.set p.2 (s.ev v))))⟩).symm
 all_goals cases h
section
variable (call : CallF)
def callStepK (e : Ent) (dst : Option Nat) (tm : List (Nat × V)) (hp : List (Option Obj)) : Option St :=
 bindK (call e.key e.args []) fun rr => ifK (nilK rr.2) (ifK (ifK e.lent (scalV rr.1) true) (bindK (purT rr.1) fun r => some (putK dst r tm hp)) none) none
theorem callStepK_some {op : Cop} {s s' : St} {e : Ent} {dst : Option Nat} (h1 : entK op s.tmps = some e) (h2 : callStepK call e dst s.tmps s.heap = some s') (pre fresh : Nat) : ∃ f, opEff call s ⟨dst, op, none, pre⟩ fresh = some f ∧ f.on s = s' := by
 obtain ⟨hc, vs, res, md, k1, k2, k3, k4, k5⟩ := entK_some h1
 obtain ⟨rr, m1, h⟩ := bindK_some h2
 obtain ⟨m2, h⟩ := ifK_some h
 obtain ⟨m3, h⟩ := ifK_some h
 obtain ⟨r, m4, h⟩ := bindK_some h
 cases h
 obtain ⟨rfl, m5⟩ := purT_some m4
 obtain ⟨r, h'⟩ := rr
 have := nilK_eq m2
 subst this
 have hfr : frzCall md call e.key e.args [] = some (r, []) := by
  cases hl : e.lent with
  | false =>
   rcases k4 hl with rfl | rfl | rfl
   ·exact m1
   ·simp only [frzCall, m1]
    unfold settle
    rw [ansIds_pure _ m5]
   ·exact m1
  | true =>
   obtain ⟨rfl, hf⟩ := k5 hl
   rw [hl] at m3
   have hsc := scalV_eq (show scalV r = true from m3)
   simp only [frzCall, lendArgs_pure _ k3 hf, m1, hsc, if_true]
 have hent := enter_pure call md s.obj (res := res) (fresh := fresh) k2 k3 hfr m5
 refine ⟨⟨dst, r, [], true, [], fresh, []⟩, ?_, ?_⟩
 ·simp only [opEff, wanted, hc, if_true, k1, hent]
 ·simp only [Eff.on, if_true, setObjs, List.length_nil, List.range'_zero]
  exact (putK_eq dst r s).symm
def callEffK (s : St) (o : CO) (fresh : Nat) : Option Eff :=
 match callee o.op (kargs (argsK o.op) s.tmps) with
 | none => none
 | some (key, vs, res, fz) => match enterCall (frzCall fz call) fz s.obj key vs res fresh with
  | none => none
  | some (r, is, os, ns) => some ⟨o.dst, r, is, true, os, fresh, ns⟩
def actEffK (s : St) (o : CO) (fresh : Nat) : Option Eff :=
 match actK o.op (kargs (argsK o.op) s.tmps) ((idsK o.op (kargs (argsK o.op) s.tmps)).map s.obj) fresh with
 | none => none
 | some r => some ⟨o.dst, r.v, idsK o.op (kargs (argsK o.op) s.tmps), wrK o.op, r.os, fresh, r.nws⟩
def goEffK (s : St) (o : CO) (fresh : Nat) : Option Eff := @Bool.rec (fun _ => Option Eff) (actEffK s o fresh) (callEffK call s o fresh) (callK o.op)
theorem goEffK_eq (s : St) (o : CO) (fresh : Nat) (hg : wanted s o.guard = some true) : goEffK call s o fresh = opEff call s o fresh := by
 obtain ⟨dst, op, guard, pre⟩ := o
 simp only [opEff, hg, goEffK, callK_eq]
 cases h : op.isCall with
 | true =>
  simp only [callEffK, if_true, kargs_eq, argsK_eq]
  rfl
 | false =>
  simp only [actEffK, kargs_eq, argsK_eq, actK_eq, idsK_eq, wrK_eq, Qm, if_false]
  rfl
def onK (s : St) (x : Option Eff) : Option St := @Option.rec Eff (fun _ => Option St) none (fun e => some (e.on s)) x
def orK {α : Type} (x : Option α) (y : Option α) : Option α := @Option.rec α (fun _ => Option α) y some x
def stepK (s : St) (o : CO) (fresh : Nat) : Option St :=
 @Option.rec Bool (fun _ => Option St) (onK s (opEff call s o fresh))
  (fun b => ifK b (orK (bindK (pvalK o.op s.tmps s.heap) fun v => some (putK o.dst v s.tmps s.heap)) (orK (storesK o.op o.dst s.tmps s.heap) (orK (bindK (entK o.op s.tmps) fun e => callStepK call e o.dst s.tmps s.heap) (onK s (goEffK call s o fresh))))) (some (putK o.dst .undef s.tmps s.heap))) (guardK o.guard s.tmps)
theorem orK_some {α : Type} {x y : Option α} {a : α} (h : orK x y = some a) : x = some a ∨ (x = none ∧ y = some a) := by
 cases x with
 | none => exact .inr ⟨rfl, h⟩
 | some b => exact .inl h
theorem onK_some {s s' : St} {x : Option Eff} (h : onK s x = some s') : ∃ e, x = some e ∧ e.on s = s' := by
 cases x with
 | none => cases h
 | some e => cases h; exact ⟨e, rfl, rfl⟩
theorem stepK_some {s s' : St} {o : CO} {fresh : Nat} (h : stepK call s o fresh = some s') : ∃ e, opEff call s o fresh = some e ∧ e.on s = s' := by
 unfold stepK at h
 cases hg : guardK o.guard s.tmps with
 | none => rw [hg] at h; exact onK_some h
 | some b =>
  rw [hg] at h
  have hw := guardK_some hg
  cases b with
  | false =>
   have h : some (putK o.dst .undef s.tmps s.heap) = some s' := h
   cases h
   refine ⟨⟨o.dst, .undef, [], false, [], fresh, []⟩, by simp only [opEff, hw], ?_⟩
   simp only [Eff.on, Qm, if_false, List.length_nil, List.range'_zero, setObjs]
   exact (putK_eq o.dst .undef s).symm
  | true =>
   obtain ⟨dst, op, g, pre⟩ := o
   rcases orK_some h with h | ⟨_, h⟩
   ·obtain ⟨v, h1, h⟩ := bindK_some h
    cases h
    rw [guard_eff call hw]
    obtain ⟨e, k1, k2⟩ := pvalK_some call h1 dst pre fresh
    exact ⟨e, k1, by rw [k2]; exact (putK_eq dst v s).symm⟩
   ·rcases orK_some h with h | ⟨_, h⟩
    ·rw [guard_eff call hw]
     exact storesK_some call h pre fresh
    ·rcases orK_some h with h | ⟨_, h⟩
     ·obtain ⟨e, h1, h2⟩ := bindK_some h
      rw [guard_eff call hw]
      exact callStepK_some call h1 h2 pre fresh
     ·obtain ⟨e, k1, k2⟩ := onK_some h
      exact ⟨e, by rw [← goEffK_eq call s ⟨dst, op, g, pre⟩ fresh hw]; exact k1, k2⟩
end
def sumK (p : CO → Nat) : List CO → Nat := @List.rec CO (fun _ => Nat) 0 (fun o _ ih => Nat.add (p o) ih)
def mkCount : List CO → Nat := sumK fun o => nmkK o.op
def noisy : List CO → Nat := sumK fun o => ifK (quietK o.op) 0 1
theorem mkCount_eq : ∀ (ops : List CO), mkCount ops = countMk ops
 | [] => rfl
 | o :: r => by
  show Nat.add (nmkK o.op) (mkCount r) = _
  rw [nmkK_eq, mkCount_eq r]; rfl
def appK {α : Type} (r : List α) : List α → Option (List α) := @List.rec α (fun _ => Option (List α)) (some r) (fun a _ ih => bindK ih fun l => some (a :: l))
theorem appK_some {α : Type} {r : List α} : ∀ {l m : List α}, appK r l = some m → m = l ++ r
 | [], m, h => by cases h; rfl
 | a :: l, m, h => by
  obtain ⟨x, h1, h⟩ := bindK_some (show bindK (appK r l) _ = some m from h)
  cases h
  rw [appK_some h1]; rfl
def repK {α : Type} (x : α) : Nat → List α := @Nat.rec (fun _ => List α) [] (fun _ ih => x :: ih)
theorem repK_eq {α : Type} (x : α) : ∀ n, repK x n = List.replicate n x
 | 0 => rfl
 | n + 1 => by show x :: repK x n = _; rw [repK_eq x n]; rfl
section
variable (call : CallF)
def runOpsK (base : Nat) : List CO → Nat → St → Option St :=
 @List.rec CO (fun _ => Nat → St → Option St) (fun _ s => some s) (fun o _ ih j s => bindK (stepK call s o (base + j)) (ih (j + nmkK o.op)))
def QuietE (e : Eff) : Prop := e.ids = [] ∧ e.nws = []
def Quiets : List CO → List Eff → Prop
 | [], [] => True
 | o :: os, e :: es => (quietK o.op = true → QuietE e) ∧ Quiets os es
 | _, _ => False
theorem quiet_eff {s : St} {o : CO} {fresh : Nat} {e : Eff} (h : opEff call s o fresh = some e) (hq : quietK o.op = true) : QuietE e := by
 obtain ⟨dst, op, g, pre⟩ := o
 have hcall : op.isCall = false := by cases op <;> first | rfl | cases hq
 have hids : ∀ vs, op.ids vs = [] := fun vs => by rw [← idsK_eq]; cases op <;> first | rfl | cases hq
 have hn : op.nmk = 0 := by cases op <;> first | rfl | cases hq
 rw [opEff_eq] at h
 obtain ⟨_, k2, _, _⟩ := eff_in h
 have k2 : e.nws.length ≤ op.nmk := k2
 refine ⟨?_, List.length_eq_zero_iff.1 (by omega)⟩
 rw [← opEff_eq] at h
 unfold opEff at h
 split at h
 ·cases h
 ·cases h; rfl
 ·simp only [hcall, Qm, if_false] at h
  split at h
  ·cases h
  ·cases h; exact hids _
theorem runOps_quiets {base : Nat} : ∀ {ops : List CO} {j : Nat} {s s' : St} {es : List Eff}, runOps call base ops j s = some (s', es) → Quiets ops es
 | [], j, s, s', es, h => by cases h; trivial
 | o :: r, j, s, s', es, h => by
  simp only [runOps] at h
  split at h
  ·cases h
  ·rename_i e he
   split at h
   ·rename_i s2 es2 hes
    cases h
    exact ⟨quiet_eff call he, runOps_quiets hes⟩
   ·cases h
theorem clash_quiet {a b : Eff} (h : QuietE a ∨ QuietE b) : clash a b = false := by
 have hnew : ∀ {e : Eff}, e.nws = [] → ∀ i, e.new i = false := fun {e} he i => by unfold Eff.new; rw [he]; simp
 have hany : ∀ {e f : Eff}, e.nws = [] → f.ids.any e.new = false := fun {e f} he => by
  rw [Bool.eq_false_iff]
  intro hh
  obtain ⟨i, _, hi⟩ := List.any_eq_true.1 hh
  rw [hnew he] at hi; cases hi
 unfold clash
 rcases h with ⟨h1, h2⟩ | ⟨h1, h2⟩
 ·rw [h1, hany h2]; simp
 ·rw [h1, hany h2]; simp
theorem race_one {e : Eff} (he : QuietE e) {k : Nat} : ∀ {os : List CO} {es : List Eff}, raceFrom e k os es = true
 | [], _ => rfl
 | _ :: _, [] => rfl
 | o :: os, e' :: es => by simp [raceFrom, clash_quiet (.inl he), race_one he]
theorem race_all {e : Eff} {k : Nat} : ∀ {os : List CO} {es : List Eff}, noisy os = 0 → Quiets os es → raceFrom e k os es = true
 | [], _, _, _ => rfl
 | _ :: _, [], _, _ => rfl
 | o :: os, e' :: es, hn, hq => by
  have hn : Nat.add (ifK (quietK o.op) 0 1) (noisy os) = 0 := hn
  have h1 : quietK o.op = true := by
   cases hb : quietK o.op with
   | true => rfl
   | false => rw [hb] at hn; have : 1 + noisy os = 0 := hn; omega
  have h2 : noisy os = 0 := by rw [h1] at hn; have : 0 + noisy os = 0 := hn; omega
  simp [raceFrom, clash_quiet (.inr (hq.1 h1)), race_all h2 hq.2]
theorem norace_few : ∀ {os : List CO} {es : List Eff} {k : Nat}, noisy os ≤ 1 → Quiets os es → noRace os es k = true
 | [], [], _, _, _ => rfl
 | [], _ :: _, _, _, h => h.elim
 | _ :: _, [], _, _, h => h.elim
 | o :: os, e :: es, k, hn, hq => by
  have hn : Nat.add (ifK (quietK o.op) 0 1) (noisy os) ≤ 1 := hn
  cases hb : quietK o.op with
  | true =>
   rw [hb] at hn
   have h2 : noisy os ≤ 1 := by have : 0 + noisy os ≤ 1 := hn; omega
   simp [noRace, race_one (hq.1 hb), norace_few h2 hq.2]
  | false =>
   rw [hb] at hn
   have h2 : noisy os = 0 := by have : 1 + noisy os ≤ 1 := hn; omega
   simp [noRace, race_all h2 hq.2, norace_few (by omega : noisy os ≤ 1) hq.2]
theorem runOpsK_some {base : Nat} : ∀ {ops : List CO} {j : Nat} {s s' : St}, runOpsK call base ops j s = some s' → ∃ es, runOps call base ops j s = some (s', es)
 | [], j, s, s', h => by cases h; exact ⟨[], rfl⟩
 | o :: r, j, s, s', h => by
  obtain ⟨s1, h1, h⟩ := bindK_some (show bindK (stepK call s o (base + j)) (runOpsK call base r (j + nmkK o.op)) = some s' from h)
  obtain ⟨e, k1, rfl⟩ := stepK_some call h1
  rw [nmkK_eq] at h
  obtain ⟨es, k2⟩ := runOpsK_some h
  exact ⟨e :: es, by simp only [runOps, k1, k2]⟩
end
def pairOk (e : Eff) (k : Nat) (p : CO × Eff) : Bool := ifK (p.1.pre.testBit k) true (notK (clash e p.2))
def zipO : List CO → List Eff → List (CO × Eff) := @List.rec CO (fun _ => List Eff → List (CO × Eff)) (fun _ => []) (fun o _ ih es => @List.rec Eff (fun _ => List (CO × Eff)) [] (fun e es' _ => (o, e) :: ih es') es)
structure Raced where
 ok : Bool
 touch : List (CO × Eff)
def raceK : List (CO × Eff) → Nat → Raced := @List.rec (CO × Eff) (fun _ => Nat → Raced) (fun _ => ⟨true, []⟩) (fun p rest ih k =>
 @Raced.rec (fun _ => Raced) (fun ok tl => ifK ok (ifK (nilK p.2.ids) ⟨allK (pairOk p.2 k) tl, tl⟩ ⟨allK (pairOk p.2 k) rest, p :: tl⟩) ⟨false, []⟩) (ih (Nat.succ k)))
theorem pairOk_eq (e : Eff) (k : Nat) (p : CO × Eff) : pairOk e k p = (p.1.pre.testBit k || !clash e p.2) := by
 unfold pairOk ifK
 rw [notK_eq]
 cases p.1.pre.testBit k <;> rfl
theorem raceFrom_all (e : Eff) (k : Nat) : ∀ (os : List CO) (es : List Eff), (∀ p ∈ zipO os es, pairOk e k p = true) → raceFrom e k os es = true
 | [], es, _ => by cases es <;> rfl
 | o :: os, [], _ => rfl
 | o :: os, e' :: es, h => by
  have h1 := h (o, e') (List.mem_cons_self ..)
  rw [pairOk_eq] at h1
  simp only [raceFrom, h1, Bool.true_and]
  exact raceFrom_all e k os es (fun p hp => h p (List.mem_cons_of_mem _ hp))
theorem clash_idless {a b : Eff} (h1 : a.ids = []) (h2 : b.ids = []) : clash a b = false := by
 unfold clash; rw [h1, h2]; simp
theorem raceK_ok : ∀ (os : List CO) (es : List Eff) (k : Nat), (raceK (zipO os es) k).ok = true → noRace os es k = true ∧ ∀ p ∈ zipO os es, p ∈ (raceK (zipO os es) k).touch ∨ p.2.ids = []
 | [], es, k, _ => ⟨by cases es <;> rfl, fun p hp => by cases hp⟩
 | o :: os, [], k, _ => ⟨rfl, fun p hp => by cases hp⟩
 | o :: os, e :: es, k, h => by
  have heq : raceK (zipO (o :: os) (e :: es)) k = @Raced.rec (fun _ => Raced) (fun ok tl => ifK ok (ifK (nilK e.ids) ⟨allK (pairOk e k) tl, tl⟩ ⟨allK (pairOk e k) (zipO os es), (o, e) :: tl⟩) ⟨false, []⟩) (raceK (zipO os es) (Nat.succ k)) := rfl
  rw [heq] at h ⊢
  cases hr : raceK (zipO os es) (Nat.succ k) with
  | mk ok tl =>
   rw [hr] at h
   cases ok with
   | false => cases h
   | true =>
    obtain ⟨m1, m2⟩ := raceK_ok os es (k + 1) (by rw [hr])
    rw [hr] at m2
    cases hn : nilK e.ids with
    | true =>
     have h : (ifK (nilK e.ids) (⟨allK (pairOk e k) tl, tl⟩ : Raced) ⟨allK (pairOk e k) (zipO os es), (o, e) :: tl⟩).ok = true := h
     rw [hn] at h
     have hall := allK_mem (show allK (pairOk e k) tl = true from h)
     have hids := nilK_eq hn
     refine ⟨?_, ?_⟩
     ·simp only [noRace, m1, Bool.and_true]
      refine raceFrom_all e k os es (fun p hp => ?_)
      rcases m2 p hp with hm | hm
      ·exact hall p hm
      ·rw [pairOk_eq, clash_idless hids hm]; simp
     ·show ∀ p ∈ (o, e) :: zipO os es, p ∈ tl ∨ p.2.ids = []
      intro p hp
      rcases List.mem_cons.1 hp with rfl | hp
      ·exact .inr hids
      ·exact m2 p hp
    | false =>
     have h : (ifK (nilK e.ids) (⟨allK (pairOk e k) tl, tl⟩ : Raced) ⟨allK (pairOk e k) (zipO os es), (o, e) :: tl⟩).ok = true := h
     rw [hn] at h
     have hall := allK_mem (show allK (pairOk e k) (zipO os es) = true from h)
     refine ⟨?_, ?_⟩
     ·simp only [noRace, m1, Bool.and_true]
      exact raceFrom_all e k os es hall
     ·show ∀ p ∈ (o, e) :: zipO os es, p ∈ (o, e) :: tl ∨ p.2.ids = []
      intro p hp
      rcases List.mem_cons.1 hp with rfl | hp
      ·exact .inl (List.mem_cons_self ..)
      ·rcases m2 p hp with hm | hm
       ·exact .inl (List.mem_cons_of_mem _ hm)
       ·exact .inr hm
section
variable (call : CallF)
def effAtK (s : St) (o : CO) (fresh : Nat) : Option Eff := @Option.rec Bool (fun _ => Option Eff) (opEff call s o fresh)
  (fun b => ifK b (goEffK call s o fresh) (opEff call s o fresh)) (guardK o.guard s.tmps)
theorem effAtK_eq (s : St) (o : CO) (fresh : Nat) : effAtK call s o fresh = opEff call s o fresh := by
 unfold effAtK
 cases hg : guardK o.guard s.tmps with
 | none => rfl
 | some b =>
  cases b with
  | true => exact goEffK_eq call s o fresh (guardK_some hg)
  | false => rfl
def Eff.onK (e : Eff) (s : St) : St := @Eff.rec (fun _ => St) (fun dst v ids wr os fresh nws => ifK (ifK wr (nilK ids) true) (ifK (nilK nws) (putK dst v s.tmps s.heap) (Eff.on ⟨dst, v, ids, wr, os, fresh, nws⟩ s)) (Eff.on ⟨dst, v, ids, wr, os, fresh, nws⟩ s)) e
theorem Eff.onK_eq (e : Eff) (s : St) : e.onK s = e.on s := by
 obtain ⟨dst, v, ids, wr, os, fresh, nws⟩ := e
 show ifK (ifK wr (nilK ids) true) (ifK (nilK nws) (putK dst v s.tmps s.heap) (Eff.on ⟨dst, v, ids, wr, os, fresh, nws⟩ s)) (Eff.on ⟨dst, v, ids, wr, os, fresh, nws⟩ s) = _
 have main : nws = [] → (wr = true → ids = []) → putK dst v s.tmps s.heap = Eff.on ⟨dst, v, ids, wr, os, fresh, nws⟩ s := fun h1 h2 => by
  subst h1
  rw [putK_eq]
  unfold Eff.on
  cases wr with
  | false => simp [setObjs]
  | true => rw [h2 rfl]; cases os <;> simp [setObjs]
 cases hn : nilK nws with
 | false => cases ifK wr (nilK ids) true <;> rfl
 | true =>
  cases hc : ifK wr (nilK ids) true with
  | false => rfl
  | true =>
   refine main (nilK_eq hn) (fun hw => ?_)
   subst hw
   exact nilK_eq hc
structure Ran where
 s : St
 es : List Eff
def runEffK (base : Nat) : List CO → Nat → St → Option Ran :=
 @List.rec CO (fun _ => Nat → St → Option Ran) (fun _ s => some ⟨s, []⟩) (fun o _ ih j s => bindK (effAtK call s o (base + j)) fun e => bindK (ih (j + nmkK o.op) (e.onK s)) fun r => some ⟨r.s, e :: r.es⟩)
theorem runEffK_some {base : Nat} : ∀ {ops : List CO} {j : Nat} {s : St} {r : Ran}, runEffK call base ops j s = some r → runOps call base ops j s = some (r.s, r.es)
 | [], j, s, r, h => by cases h; rfl
 | o :: ops, j, s, r, h => by
  obtain ⟨e, h1, h⟩ := bindK_some (show bindK (effAtK call s o (base + j)) _ = some r from h)
  obtain ⟨r2, h2, h⟩ := bindK_some h
  cases h
  rw [effAtK_eq] at h1
  rw [Eff.onK_eq, nmkK_eq] at h2
  simp only [runOps, h1, runEffK_some h2]
def drawK (ops : List CO) (s : St) : Option St :=
 bindK (appK (repK none (mkCount ops)) s.heap) fun hp => forceK (kLen s.heap) fun b => bindK (runEffK call b ops 0 ⟨s.tmps, hp⟩) fun r => ifK (raceK (zipO ops r.es) 0).ok (some r.s) none
theorem drawK_some {ops : List CO} {s s' : St} (h : drawK call ops s = some s') : runRegion call true ops s = some s' := by
 obtain ⟨hp, h1, h⟩ := bindK_some (show bindK (appK (repK none (mkCount ops)) s.heap) _ = some s' from h)
 rw [forceK_eq, kLen_eq] at h
 obtain ⟨r, h2, h⟩ := bindK_some h
 obtain ⟨h3, h⟩ := ifK_some h
 cases h
 have := appK_some h1
 rw [repK_eq, mkCount_eq] at this
 subst this
 have he := runEffK_some call h2
 unfold runRegion
 simp only [he, (raceK_ok _ _ _ h3).1, if_true]
end
section
variable (call : CallF)
def regionK (draw : Bool) (ops : List CO) (s : St) : Option St :=
 ifK (ifK draw (Nat.ble (noisy ops) 1) true)
  (ifK (Nat.beq (mkCount ops) 0) (runOpsK call (kLen s.heap) ops 0 s) (bindK (appK (repK none (mkCount ops)) s.heap) fun hp => forceK (kLen s.heap) fun b => runOpsK call b ops 0 ⟨s.tmps, hp⟩))
  (orK (ifK draw (drawK call ops s) none) (runRegion call draw ops s))
theorem regionK_some {draw : Bool} {ops : List CO} {s s' : St} (h : regionK call draw ops s = some s') : runRegion call draw ops s = some s' := by
 unfold regionK at h
 have fin : ∀ es, (draw = true → noisy ops ≤ 1) → runOps call s.heap.length ops 0 { s with heap := s.heap ++ List.replicate (countMk ops) none } = some (s', es) → runRegion call draw ops s = some s' := fun es hd he => by
  unfold runRegion
  simp only [he]
  cases draw with
  | false => rfl
  | true => simp [norace_few (hd rfl) (runOps_quiets call he)]
 have go : (draw = true → noisy ops ≤ 1) → (ifK (Nat.beq (mkCount ops) 0) (runOpsK call (kLen s.heap) ops 0 s) (bindK (appK (repK none (mkCount ops)) s.heap) fun hp => forceK (kLen s.heap) fun b => runOpsK call b ops 0 ⟨s.tmps, hp⟩)) = some s' → runRegion call draw ops s = some s' := fun hd h => by
  rw [mkCount_eq, kLen_eq] at h
  cases hz : Nat.beq (countMk ops) 0 with
  | true =>
   rw [hz] at h
   obtain ⟨es, k⟩ := runOpsK_some call (show runOpsK call s.heap.length ops 0 s = some s' from h)
   refine fin es hd ?_
   rw [Nat.eq_of_beq_eq_true hz]
   simpa using k
  | false =>
   rw [hz] at h
   obtain ⟨hp, h1, h⟩ := bindK_some (show bindK (appK (repK none (countMk ops)) s.heap) _ = some s' from h)
   rw [forceK_eq] at h
   have := appK_some h1
   rw [repK_eq] at this
   subst this
   obtain ⟨es, k⟩ := runOpsK_some call h
   exact fin es hd k
 cases draw with
 | false => exact go (fun h => by cases h) h
 | true =>
  cases hb : Nat.ble (noisy ops) 1 with
  | true => rw [hb] at h; exact go (fun _ => Nat.le_of_ble_eq_true hb) h
  | false =>
   rw [hb] at h
   rcases orK_some (show orK (drawK call ops s) (runRegion call true ops s) = some s' from h) with h | ⟨_, h⟩
   ·exact drawK_some call h
   ·exact h
def subK' : List V → Nat → Nat → Option (List V) := @List.rec V (fun _ => Nat → Nat → Option (List V)) (fun off n => ifK (Nat.beq n 0) (ifK (Nat.beq off 0) (some []) none) none)
 (fun a _ ih off n => @Nat.rec (fun _ => Option (List V)) (@Nat.rec (fun _ => Option (List V)) (some []) (fun m _ => bindK (ih 0 m) fun l => some (a :: l)) n) (fun o _ => ih o n) off)
theorem subK'_some : ∀ {cs : List V} {off n : Nat} {l : List V}, subK' cs off n = some l → off + n ≤ cs.length ∧ l = (cs.drop off).take n
 | [], off, n, l, h => by
  obtain ⟨h1, h⟩ := ifK_some (show ifK (Nat.beq n 0) _ none = some l from h)
  obtain ⟨h2, h⟩ := ifK_some h
  cases h
  rw [Nat.eq_of_beq_eq_true h1, Nat.eq_of_beq_eq_true h2]
  simp
 | a :: cs, 0, 0, l, h => by cases h; simp
 | a :: cs, 0, n + 1, l, h => by
  obtain ⟨m, h1, h⟩ := bindK_some (show bindK (subK' cs 0 n) _ = some l from h)
  cases h
  obtain ⟨k1, k2⟩ := subK'_some h1
  refine ⟨by simp; omega, ?_⟩
  rw [k2]; simp
 | a :: cs, off + 1, n, l, h => by
  obtain ⟨k1, k2⟩ := subK'_some (show subK' cs off n = some l from h)
  exact ⟨by simp; omega, by rw [k2]; simp⟩
def retK (s : St) : Ret → Option V := @Ret.rec (fun _ => Option V) (fun _ => none) (fun t => handP (kget s.tmps t)) (fun t agg n => bindK (vPtr (kget s.tmps t)) fun p => bindK (kNth s.heap p.1) fun o => bindK (oBox o) fun cs =>
 ifK agg (bindK (subK' cs p.2 n) fun l => bindK (handCs l) fun l => some (.agg l)) (ifK (Nat.beq n 1) (bindK (kNth cs p.2) handC) none))
theorem isP_of_isD {v : V} (h : isD v = true) : isP v = true := by obtain ⟨d, rfl⟩ := isD_d h; rfl
theorem retK_some {s : St} {r : Ret} {v : V} (h : retK s r = some v) : retV s r = some v ∧ isP v = true := by
 cases r with
 | raw t => cases h
 | slot t =>
  have h : handP (kget s.tmps t) = some v := h
  rw [kget_eq] at h
  exact handP_some h
 | cell t agg n =>
  obtain ⟨p, h1, h⟩ := bindK_some (show bindK (vPtr (kget s.tmps t)) _ = some v from h)
  obtain ⟨o, h2, h⟩ := bindK_some h
  obtain ⟨cs, h3, h⟩ := bindK_some h
  rw [kget_eq] at h1
  have hg : s.get t = .ptr p.1 p.2 := vPtr_some h1
  have ho : s.obj p.1 = some (.box cs) := by rw [obj_nth, h2]; exact oBox_some h3
  cases agg with
  | true =>
   obtain ⟨l, h4, h⟩ := bindK_some (show bindK (subK' cs p.2 n) _ = some v from h)
   obtain ⟨l', h5, h⟩ := bindK_some h
   cases h
   obtain ⟨k1, rfl⟩ := subK'_some h4
   obtain ⟨m1, m2⟩ := handCs_some h5
   have hlen : ((cs.drop p.2).take n).length = n := by simp; omega
   refine ⟨?_, allK_of m2⟩
   simp only [retV, hg, ho, takeV, k1, if_true, asVar, hlen, V.hand, m1]
  | false =>
   obtain ⟨h4, h⟩ := ifK_some (show ifK (Nat.beq n 1) _ none = some v from h)
   obtain ⟨c, h5, h6⟩ := bindK_some h
   have hn := Nat.eq_of_beq_eq_true h4
   subst hn
   rw [kNth_eq] at h5
   obtain ⟨m1, m2⟩ := handC_some h6
   refine ⟨?_, isP_of_isD m2⟩
   simp only [retV, hg, ho, takeV_one h5, asVar, Qm, if_false, m1]
def retsK (s : St) : List Ret → Option (List V) := @List.rec Ret (fun _ => Option (List V)) (some []) (fun r _ ih => bindK (retK s r) fun v => bindK ih fun vs => some (v :: vs))
theorem retsK_some {s : St} : ∀ {rs : List Ret} {vs : List V}, retsK s rs = some vs → retAll s rs = some vs ∧ ∀ v ∈ vs, isP v = true
 | [], vs, h => by cases h; exact ⟨rfl, by simp⟩
 | r :: rs, vs, h => by
  obtain ⟨v, h1, h⟩ := bindK_some (show bindK (retK s r) _ = some vs from h)
  obtain ⟨ws, h2, h⟩ := bindK_some h
  cases h
  obtain ⟨k1, k2⟩ := retK_some h1
  obtain ⟨m1, m2⟩ := retsK_some h2
  exact ⟨by simp only [retAll, k1, m1], by simp [k2]; exact m2⟩
def resultK (h : List (Option Obj)) (s : St) (rets : List Ret) : Option (V × List (Option Obj)) :=
 ifK (nilK h) (orK (bindK (retsK s rets) fun vs => some (answer vs, [])) (result 0 s rets)) (result h.length s rets)
theorem resultK_some {h : List (Option Obj)} {s : St} {rets : List Ret} {r : V × List (Option Obj)} (hr : resultK h s rets = some r) : result h.length s rets = some r := by
 unfold resultK at hr
 cases hn : nilK h with
 | false => rw [hn] at hr; exact hr
 | true =>
  rw [hn] at hr
  have := nilK_eq hn
  subst this
  rcases orK_some hr with hr | ⟨_, hr⟩
  ·obtain ⟨vs, h1, hr⟩ := bindK_some hr
   cases hr
   obtain ⟨k1, k2⟩ := retsK_some h1
   obtain ⟨m1, m2, _⟩ := ren_pures (placeOf []) noShift k2
   have hT : isPT (answer vs) = true := by
    match vs, k2 with
    | [v], k2 =>
     have := k2 v (by simp)
     rcases isP_cases this with ⟨d, rfl⟩ | ⟨cs, rfl, hc⟩
     ·rfl
     ·exact allK_of hc
    | [], _ => rfl
    | a :: b :: r, k2 => exact allK_of k2
   have hreach : reach s.obj far (List.range 0 ++ V.refsAll vs) [] = some [] := by rw [m2]; rfl
   unfold result
   simp only [k1, resultV, List.length_nil, hreach, Qc, renObjs, (ren_pureT _ _ hT).1]
  ·exact hr
end
def headF : V → Option V := @V.rec (fun _ => Option V) (fun _ => Unit) (fun d => some (.d d)) (fun sz => some (.nil sz)) (fun a b c d => some (.own a b c d)) (fun a b c d => some (.arr a b c d)) (fun a b => some (.ptr a b)) (fun a b c d => some (.pm a b c d)) (fun a => some (.map a)) (fun a b c _ _ => some (.fn a b c)) (fun a _ => some (.agg a)) (fun a _ => some (.tup a)) (some .bad) () (fun _ _ _ _ => ())
theorem headF_eq (v : V) : headF v = some v := by cases v <;> rfl
def keepE : List Nat → List (Nat × V) → Option (List (Nat × V)) := @List.rec Nat (fun _ => List (Nat × V) → Option (List (Nat × V))) (fun _ => some []) (fun t _ ih tm => bindK (headF (kget tm t)) fun v => bindK (ih tm) fun l => some ((t, v) :: l))
theorem keepE_some : ∀ {ks : List Nat} {s : St} {l : List (Nat × V)}, keepE ks s.tmps = some l → l = keepTmps s ks
 | [], s, l, h => by cases h; rfl
 | t :: ks, s, l, h => by
  obtain ⟨v, h1, h⟩ := bindK_some (show bindK (headF (kget s.tmps t)) _ = some l from h)
  obtain ⟨m, h2, h⟩ := bindK_some h
  cases h
  rw [headF_eq, kget_eq] at h1
  cases h1
  rw [keepE_some h2]; rfl
def enterK (ann : Ann) (s : St) : Option St := ifK (ifK (nilK ann.own) (ifK (nilK ann.ownB) (ifK (nilK ann.dat) (nilK ann.datB) false) false) false) (bindK (keepE ann.keep s.tmps) fun tm => some ⟨tm, s.heap⟩) none
theorem ifK_true {a b : Bool} (h : ifK a b false = true) : a = true ∧ b = true := by
 cases a with
 | true => exact ⟨rfl, h⟩
 | false => cases h
theorem enterK_some {ann : Ann} {s s' : St} (h : enterK ann s = some s') : enter ann s = s' := by
 obtain ⟨hc, h⟩ := ifK_some h
 obtain ⟨c1, hc⟩ := ifK_true hc
 obtain ⟨c2, hc⟩ := ifK_true hc
 obtain ⟨c3, c4⟩ := ifK_true hc
 obtain ⟨tm, h1, h⟩ := bindK_some h
 cases h
 unfold enter dats
 simp only [nilK_eq c1, nilK_eq c2, nilK_eq c3, nilK_eq c4, List.foldl_nil]
 rw [keepE_some h1]
def datF : V → Option V := @V.rec (fun _ => Option V) (fun _ => Unit) (fun d => some (.d d)) (fun sz => some (.d (.l sz []))) (fun _ _ sz xs => some (.d (.l sz xs))) (fun a b c d => some (.arr a b c d)) (fun a b => some (.ptr a b)) (fun a b c d => some (.pm a b c d)) (fun a => some (.map a)) (fun a b c _ _ => some (.fn a b c)) (fun _ _ => none) (fun a _ => some (.tup a)) (some .bad) () (fun _ _ _ _ => ())
theorem datF_some {v x : V} (h : datF v = some x) : datV v = x := by cases v <;> first | (cases h; rfl) | cases h
def datK : List Nat → List (Nat × V) → Option (List (Nat × V)) := @List.rec Nat (fun _ => List (Nat × V) → Option (List (Nat × V))) some (fun t _ ih tm => bindK (datF (kget tm t)) fun v => ih ((t, v) :: tm))
theorem datK_some : ∀ {ks : List Nat} {s : St} {l : List (Nat × V)}, datK ks s.tmps = some l → ks.foldl datSlot s = ⟨l, s.heap⟩
 | [], s, l, h => by cases h; rfl
 | t :: ks, s, l, h => by
  obtain ⟨v, h1, h⟩ := bindK_some (show bindK (datF (kget s.tmps t)) _ = some l from h)
  rw [kget_eq] at h1
  have := datF_some h1
  rw [List.foldl_cons]
  have hs : datSlot s t = ⟨(t, v) :: s.tmps, s.heap⟩ := by
   unfold datSlot St.set St.get
   rw [this]
  rw [hs]
  exact datK_some (s := ⟨(t, v) :: s.tmps, s.heap⟩) h
section
variable (hp : List (Option Obj)) (n : Nat)
def oTok : Option Obj → Option Nat := @Option.rec Obj (fun _ => Option Nat) none (@Obj.rec (fun _ => Option Nat) (fun _ => none) (fun _ => none) (fun v _ => some v) (fun _ _ _ => none) (fun _ => none) (fun _ => none) (fun _ _ _ => none))
def oArr : Option Obj → Option Nat := @Option.rec Obj (fun _ => Option Nat) none (@Obj.rec (fun _ => Option Nat) (fun _ => none) (fun _ => none) (fun _ _ => none) (fun v _ _ => some v) (fun _ => none) (fun _ => none) (fun _ _ _ => none))
theorem oTok_some {o : Option Obj} {v : Nat} (h : oTok o = some v) : ∃ sz, o = some (.tok v sz) := by
 cases o with
 | none => cases h
 | some o => cases o <;> first | (injection h with h; rw [h]; exact ⟨_, rfl⟩) | cases h
theorem oArr_some {o : Option Obj} {v : Nat} (h : oArr o = some v) : ∃ sz xs, o = some (.arr v sz xs) := by
 cases o with
 | none => cases h
 | some o => cases o <;> first | (injection h with h; rw [h]; exact ⟨_, _, rfl⟩) | cases h
def nC : V → Option V := @V.rec (fun _ => Option V) (fun _ => Unit) (fun d => some (.d d)) (fun sz => some (.nil sz))
 (fun id ver sz xs => ifK (Nat.ble (Nat.succ id) n) (bindK (kNth hp id) fun o => bindK (oTok o) fun v => ifK (Nat.beq ver v) (some (.own id 0 sz xs)) (some (.d (.l sz xs)))) none)
 (fun id ver off len => ifK (Nat.ble (Nat.succ id) n) (bindK (kNth hp id) fun o => bindK (oArr o) fun v => ifK (Nat.beq ver v) (some (.arr id ver off len)) (some .bad)) none)
 (fun id off => ifK (Nat.ble (Nat.succ id) n) (some (.ptr id off)) none) (fun _ _ _ _ => none) (fun id => ifK (Nat.ble (Nat.succ id) n) (some (.map id)) none)
 (fun k a c _ _ => ifK (V.under n (.fn k a c)) (ifK (V.fine (.fn k a c)) (some (.fn k a c)) none) none) (fun _ _ => none) (fun _ _ => none) (some .bad) () (fun _ _ _ _ => ())
theorem take_get {i : Nat} (h : i < n) : (hp.take n)[i]? = hp[i]? := by rw [List.getElem?_take, if_pos h]
theorem nC_some {v x : V} (h : nC hp n v = some x) : V.under n v = true ∧ normC (hp.take n) v = x ∧ (∀ cs, v ≠ .agg cs) ∧ (∀ cs, v ≠ .tup cs) := by
 cases v with
 | d d => cases h; exact ⟨rfl, rfl, by simp, by simp⟩
 | nil sz => cases h; exact ⟨rfl, rfl, by simp, by simp⟩
 | own id ver sz xs =>
  obtain ⟨h1, h⟩ := ifK_some (show ifK (Nat.ble (Nat.succ id) n) _ none = some x from h)
  obtain ⟨o, h2, h⟩ := bindK_some h
  obtain ⟨v, h3, hf⟩ := bindK_some h
  have hlt : id < n := Nat.le_of_ble_eq_true h1
  obtain ⟨sz', rfl⟩ := oTok_some h3
  rw [kNth_eq] at h2
  refine ⟨by simp [V.under, hlt], ?_, by simp, by simp⟩
  simp only [normC, take_get hp n hlt, h2, Option.join_some]
  by_cases e : ver = v
  ·subst e; rw [beq_self'] at hf; cases hf; simp
  ·rw [beq_ne e] at hf; cases hf; simp [e]
 | arr id ver off len =>
  obtain ⟨h1, h⟩ := ifK_some (show ifK (Nat.ble (Nat.succ id) n) _ none = some x from h)
  obtain ⟨o, h2, h⟩ := bindK_some h
  obtain ⟨v, h3, hf⟩ := bindK_some h
  have hlt : id < n := Nat.le_of_ble_eq_true h1
  obtain ⟨sz', xs, rfl⟩ := oArr_some h3
  rw [kNth_eq] at h2
  refine ⟨by simp [V.under, hlt], ?_, by simp, by simp⟩
  simp only [normC, take_get hp n hlt, h2, Option.join_some]
  by_cases e : ver = v
  ·subst e; rw [beq_self'] at hf; cases hf; simp
  ·rw [beq_ne e] at hf; cases hf; simp [e]
 | ptr id off =>
  obtain ⟨h1, h⟩ := ifK_some (show ifK (Nat.ble (Nat.succ id) n) _ none = some x from h)
  cases h
  have hlt : id < n := Nat.le_of_ble_eq_true h1
  exact ⟨by simp [V.under, hlt], rfl, by simp, by simp⟩
 | map id =>
  obtain ⟨h1, h⟩ := ifK_some (show ifK (Nat.ble (Nat.succ id) n) _ none = some x from h)
  cases h
  have hlt : id < n := Nat.le_of_ble_eq_true h1
  exact ⟨by simp [V.under, hlt], rfl, by simp, by simp⟩
 | fn k a c =>
  obtain ⟨h1, h⟩ := ifK_some (show ifK (V.under n (.fn k a c)) _ none = some x from h)
  obtain ⟨h2, h⟩ := ifK_some h
  cases h
  exact ⟨h1, by simp only [normC, h2, if_true], by simp, by simp⟩
 | bad => cases h; exact ⟨rfl, rfl, by simp, by simp⟩
 | _ => cases h
def nCs : List V → Option (List V) := @List.rec V (fun _ => Option (List V)) (some []) (fun v _ ih => bindK (nC hp n v) fun x => bindK ih fun xs => some (x :: xs))
theorem nCs_some : ∀ {vs xs : List V}, nCs hp n vs = some xs → V.underAll n vs = true ∧ vs.map (normC (hp.take n)) = xs
 | [], xs, h => by cases h; exact ⟨rfl, rfl⟩
 | v :: vs, xs, h => by
  obtain ⟨x, h1, h⟩ := bindK_some (show bindK (nC hp n v) _ = some xs from h)
  obtain ⟨ys, h2, h⟩ := bindK_some h
  cases h
  obtain ⟨k1, k2, _⟩ := nC_some hp n h1
  obtain ⟨m1, m2⟩ := nCs_some h2
  exact ⟨by simp [V.underAll, k1, m1], by simp [k2, m2]⟩
def nV (v : V) : Option V := orK (nC hp n v) (orK (bindK (vAgg v) fun cs => bindK (nCs hp n cs) fun cs => some (.agg cs)) (bindK (vTup v) fun vs => ifK (nilK vs) (some (.tup [])) none))
theorem nV_some {v x : V} (h : nV hp n v = some x) : V.under n v = true ∧ normV (hp.take n) v = x := by
 rcases orK_some h with h | ⟨_, h⟩
 ·obtain ⟨k1, k2, k3, k4⟩ := nC_some hp n h
  refine ⟨k1, ?_⟩
  cases v with
  | agg cs => exact absurd rfl (k3 cs)
  | tup cs => exact absurd rfl (k4 cs)
  | _ => exact k2
 ·rcases orK_some h with h | ⟨_, h⟩
  ·obtain ⟨cs, h1, h⟩ := bindK_some h
   obtain ⟨ds, h2, h⟩ := bindK_some h
   cases h
   obtain ⟨k1, k2⟩ := nCs_some hp n h2
   rw [vAgg_some h1]
   exact ⟨by simp [V.under, k1], by simp [normV, k2]⟩
  ·obtain ⟨vs, h1, h⟩ := bindK_some h
   obtain ⟨h2, h⟩ := ifK_some h
   cases h
   rw [vTup_some h1, nilK_eq h2]
   exact ⟨rfl, rfl⟩
def keepN (tm : List (Nat × V)) : List Nat → Option (List (Nat × V)) := @List.rec Nat (fun _ => Option (List (Nat × V))) (some []) (fun t _ ih => bindK (nV hp n (kget tm t)) fun v => bindK ih fun l => some ((t, v) :: l))
theorem keepN_some {s : St} : ∀ {ks : List Nat} {l : List (Nat × V)}, keepN hp n s.tmps ks = some l → underTmps n (keepTmps s ks) = true ∧ normTmps (hp.take n) (keepTmps s ks) = l
 | [], l, h => by cases h; exact ⟨rfl, rfl⟩
 | t :: ks, l, h => by
  obtain ⟨v, h1, h⟩ := bindK_some (show bindK (nV hp n (kget s.tmps t)) _ = some l from h)
  obtain ⟨m, h2, h⟩ := bindK_some h
  cases h
  rw [kget_eq] at h1
  obtain ⟨k1, k2⟩ := nV_some hp n h1
  obtain ⟨m1, m2⟩ := keepN_some h2
  have k1 : V.under n (s.get t) = true := k1
  have k2 : normV (hp.take n) (s.get t) = v := k2
  exact ⟨by simp [keepTmps, underTmps, k1, m1], by simp [keepTmps, normTmps, k2, m2]⟩
def nRows : List (List V) → Option (List (List V)) := @List.rec (List V) (fun _ => Option (List (List V))) (some []) (fun r _ ih => bindK (nCs hp n r) fun x => bindK ih fun xs => some (x :: xs))
theorem nRows_some : ∀ {vs xs : List (List V)}, nRows hp n vs = some xs → underRows n vs = true ∧ (vs.map fun r => r.map (normC (hp.take n))) = xs
 | [], xs, h => by cases h; exact ⟨rfl, rfl⟩
 | v :: vs, xs, h => by
  obtain ⟨x, h1, h⟩ := bindK_some (show bindK (nCs hp n v) _ = some xs from h)
  obtain ⟨ys, h2, h⟩ := bindK_some h
  cases h
  obtain ⟨k1, k2⟩ := nCs_some hp n h1
  obtain ⟨m1, m2⟩ := nRows_some h2
  exact ⟨by simp [underRows, k1, m1], by simp [k2, m2]⟩
def nKvs : List (List D × V) → Option (List (List D × V)) := @List.rec (List D × V) (fun _ => Option (List (List D × V))) (some []) (fun p _ ih => bindK (nV hp n p.2) fun x => bindK ih fun xs => some ((p.1, x) :: xs))
theorem nKvs_some : ∀ {vs xs : List (List D × V)}, nKvs hp n vs = some xs → underKvs n vs = true ∧ (vs.map fun p => (p.1, normV (hp.take n) p.2)) = xs
 | [], xs, h => by cases h; exact ⟨rfl, rfl⟩
 | v :: vs, xs, h => by
  obtain ⟨x, h1, h⟩ := bindK_some (show bindK (nV hp n v.2) _ = some xs from h)
  obtain ⟨ys, h2, h⟩ := bindK_some h
  cases h
  obtain ⟨k1, k2⟩ := nV_some hp n h1
  obtain ⟨m1, m2⟩ := nKvs_some h2
  exact ⟨by obtain ⟨a, b⟩ := v; simp [underKvs, m1]; exact k1, by simp [k2, m2]⟩
def nVs : List V → Option (List V) := @List.rec V (fun _ => Option (List V)) (some []) (fun v _ ih => bindK (nV hp n v) fun x => bindK ih fun xs => some (x :: xs))
theorem nVs_some : ∀ {vs xs : List V}, nVs hp n vs = some xs → V.underAll n vs = true ∧ vs.map (normV (hp.take n)) = xs
 | [], xs, h => by cases h; exact ⟨rfl, rfl⟩
 | v :: vs, xs, h => by
  obtain ⟨x, h1, h⟩ := bindK_some (show bindK (nV hp n v) _ = some xs from h)
  obtain ⟨ys, h2, h⟩ := bindK_some h
  cases h
  obtain ⟨k1, k2⟩ := nV_some hp n h1
  obtain ⟨m1, m2⟩ := nVs_some h2
  exact ⟨by simp [V.underAll, k1, m1], by simp [k2, m2]⟩
def nO : Option Obj → Option (Option Obj) := @Option.rec Obj (fun _ => Option (Option Obj)) (some none) (@Obj.rec (fun _ => Option (Option Obj)) (fun cs => bindK (nCs hp n cs) fun cs => some (some (.box cs))) (fun ds => some (some (.cst ds))) (fun _ sz => some (some (.tok 0 sz))) (fun v sz xs => bindK (nRows hp n xs) fun xs => some (some (.arr v sz xs))) (fun kvs => bindK (nKvs hp n kvs) fun kvs => some (some (.map kvs))) (fun kvs => bindK (nKvs hp n kvs) fun kvs => some (some (.cmap kvs))) (fun j key caps => bindK (nVs hp n caps) fun caps => some (some (.lp j key caps))))
theorem nO_some {o x : Option Obj} (h : nO hp n o = some x) : Obj.under n o = true ∧ normObj (hp.take n) o = x := by
 cases o with
 | none => cases h; exact ⟨rfl, rfl⟩
 | some o =>
  cases o with
  | box cs =>
   obtain ⟨ds, h2, h⟩ := bindK_some (show bindK (nCs hp n cs) _ = some x from h)
   cases h
   obtain ⟨k1, k2⟩ := nCs_some hp n h2
   exact ⟨k1, by simp [normObj, k2]⟩
  | cst ds => cases h; exact ⟨rfl, rfl⟩
  | tok v sz => cases h; exact ⟨rfl, rfl⟩
  | arr v sz xs =>
   obtain ⟨ds, h2, h⟩ := bindK_some (show bindK (nRows hp n xs) _ = some x from h)
   cases h
   obtain ⟨k1, k2⟩ := nRows_some hp n h2
   exact ⟨k1, by simp [normObj, k2]⟩
  | map kvs =>
   obtain ⟨ds, h2, h⟩ := bindK_some (show bindK (nKvs hp n kvs) _ = some x from h)
   cases h
   obtain ⟨k1, k2⟩ := nKvs_some hp n h2
   exact ⟨k1, by simp [normObj, k2]⟩
  | cmap kvs =>
   obtain ⟨ds, h2, h⟩ := bindK_some (show bindK (nKvs hp n kvs) _ = some x from h)
   cases h
   obtain ⟨k1, k2⟩ := nKvs_some hp n h2
   exact ⟨k1, by simp [normObj, k2]⟩
  | lp j key caps =>
   obtain ⟨ds, h2, h⟩ := bindK_some (show bindK (nVs hp n caps) _ = some x from h)
   cases h
   obtain ⟨k1, k2⟩ := nVs_some hp n h2
   exact ⟨k1, by simp [normObj, k2]⟩
def nHeap : List (Option Obj) → Nat → Option (List (Option Obj)) := @List.rec (Option Obj) (fun _ => Nat → Option (List (Option Obj))) (fun _ => some []) (fun o _ ih k => @Nat.rec (fun _ => Option (List (Option Obj))) (some []) (fun k' _ => bindK (nO hp n o) fun o' => bindK (ih k') fun l => some (o' :: l)) k)
theorem nHeap_some : ∀ {h : List (Option Obj)} {k : Nat} {l : List (Option Obj)}, nHeap hp n h k = some l → (h.take k).all (Obj.under n) = true ∧ (h.take k).map (normObj (hp.take n)) = l
 | [], k, l, h => by cases h; simp
 | o :: h, 0, l, hh => by cases hh; simp
 | o :: h, k + 1, l, hh => by
  obtain ⟨x, h1, hh⟩ := bindK_some (show bindK (nO hp n o) _ = some l from hh)
  obtain ⟨ys, h2, hh⟩ := bindK_some hh
  cases hh
  obtain ⟨k1, k2⟩ := nO_some hp n h1
  obtain ⟨m1, m2⟩ := nHeap_some h2
  exact ⟨by simp only [List.take_succ_cons, List.all_cons, k1, m1]; rfl, by simp [k2, m2]⟩
end
def backK (ann : Ann) (n : Nat) (s : St) : Option St := ifK ann.tr (ifK (nilK ann.datB) (bindK (datK ann.dat s.tmps) fun tm => bindK (keepN s.heap n tm ann.keep) fun tm' => bindK (nHeap s.heap n s.heap n) fun hp' => some ⟨tm', hp'⟩) none) none
theorem backK_some {ann : Ann} {n : Nat} {s s' : St} (h : backK ann n s = some s') : back ann n s = some s' := by
 obtain ⟨h1, h⟩ := ifK_some h
 obtain ⟨h2, h⟩ := ifK_some h
 obtain ⟨tm, h3, h⟩ := bindK_some h
 obtain ⟨tm', h4, h⟩ := bindK_some h
 obtain ⟨hp', h5, h⟩ := bindK_some h
 cases h
 have hd : dats ann s = ⟨tm, s.heap⟩ := by
  unfold dats
  rw [nilK_eq h2, List.foldl_nil]
  exact datK_some h3
 obtain ⟨k1, k2⟩ := keepN_some s.heap n (s := ⟨tm, s.heap⟩) h4
 obtain ⟨m1, m2⟩ := nHeap_some s.heap n h5
 unfold back
 simp only [hd, h1, if_true, k1, m1, Bool.and_self, k2, m2]
section
variable (call : CallF) (n : Nat)
def kReg (draw : Bool) (ops : List CO) (s : St) : Option (Ex × St) := bindK (regionK call draw ops s) fun s' => some (.normal, s')
def kSeq (f g : St → Option (Ex × St)) (s : St) : Option (Ex × St) := bindK (f s) fun p => @Ex.rec (fun _ => Option (Ex × St)) (g p.2) (fun id => some (.exit id, p.2)) (some (.ret, p.2)) p.1
def kCond (c : A) (f g : St → Option (Ex × St)) (s : St) : Option (Ex × St) := bindK (vB (kev c s.tmps)) fun b => @Bool.rec (fun _ => Option (Ex × St)) (g s) (f s) b
def kBlock (id : Nat) (f : St → Option (Ex × St)) (s : St) : Option (Ex × St) := bindK (f s) fun p => @Ex.rec (fun _ => Option (Ex × St)) (some (.normal, p.2)) (fun id' => ifK (Nat.beq id' id) (some (.normal, p.2)) (some (.exit id', p.2))) (some (.ret, p.2)) p.1
def kLoopN (f : St → Option (Ex × St)) (bk : St → Option St) : Nat → St → Option (Ex × St) :=
 @Nat.rec (fun _ => St → Option (Ex × St)) (fun _ => none) (fun _ ih s => bindK (f s) fun p => @Ex.rec (fun _ => Option (Ex × St)) (bindK (bk p.2) ih) (fun id => some (.exit id, p.2)) (some (.ret, p.2)) p.1)
def kLoop (ann : Ann) (f : St → Option (Ex × St)) (s : St) : Option (Ex × St) :=
 bindK (orK (enterK ann s) (some (enter ann s))) fun s0 => forceK (kLen s0.heap) fun m => kLoopN f (fun s' => orK (backK ann m s') (back ann m s')) n s0
def execK : CCode → St → Option (Ex × St) :=
 @CCode.rec (fun _ => St → Option (Ex × St)) (fun s => some (.normal, s)) (kReg call) (fun _ _ f g => kSeq f g) (fun c _ _ f g => kCond c f g) (fun id _ f => kBlock id f) (fun ann _ f => kLoop n ann f) (fun id s => some (.exit id, s)) (fun s => some (.ret, s)) (fun own f key ks res s => rangeC call f key ks res (own.foldl ownBox s)) (fun ops ann m it pr out _ f s => bindK (regionK call false ops s) fun s1 => rangeMC f ann m it pr out s1)
theorem kLoopN_some {f g : St → Option (Ex × St)} {bk bk' : St → Option St} (hf : ∀ s r, f s = some r → g s = some r) (hb : ∀ s r, bk s = some r → bk' s = some r) : ∀ {m : Nat} {s : St} {r : Ex × St}, kLoopN f bk m s = some r → loopN g bk' m s = some r
 | 0, s, r, h => by cases h
 | m + 1, s, r, h => by
  obtain ⟨p, h1, h⟩ := bindK_some (show bindK (f s) _ = some r from h)
  obtain ⟨ex, s'⟩ := p
  simp only [loopN, hf _ _ h1]
  cases ex with
  | normal =>
   obtain ⟨s2, h2, h⟩ := bindK_some (show bindK (bk s') (kLoopN f bk m) = some r from h)
   simp only [hb _ _ h2]
   exact kLoopN_some hf hb h
  | exit id => exact h
  | ret => exact h
theorem execK_some : ∀ (c : CCode) {s : St} {r : Ex × St}, execK call n c s = some r → execC call n c s = some r
 | .skip, s, r, h => h
 | .region draw ops, s, r, h => by
  obtain ⟨s', h1, h⟩ := bindK_some (show bindK (regionK call draw ops s) _ = some r from h)
  simp only [execC, regionK_some call h1]
  exact h
 | .seq a b, s, r, h => by
  obtain ⟨p, h1, h⟩ := bindK_some (show bindK (execK call n a s) _ = some r from h)
  obtain ⟨ex, s'⟩ := p
  simp only [execC, execK_some a h1]
  cases ex with
  | normal => exact execK_some b h
  | exit id => exact h
  | ret => exact h
 | .cond c a b, s, r, h => by
  obtain ⟨x, h1, h⟩ := bindK_some (show bindK (vB (kev c s.tmps)) _ = some r from h)
  have h1 := vB_some h1
  rw [kev_eq'] at h1
  simp only [execC, h1]
  cases x with
  | true => exact execK_some a h
  | false => exact execK_some b h
 | .block id a, s, r, h => by
  obtain ⟨p, h1, h⟩ := bindK_some (show bindK (execK call n a s) _ = some r from h)
  obtain ⟨ex, s'⟩ := p
  simp only [execC, execK_some a h1]
  cases ex with
  | normal => exact h
  | exit id' =>
   simp only
   have h : ifK (Nat.beq id' id) (some (Ex.normal, s')) (some (.exit id', s')) = some r := h
   by_cases e : id' = id
   ·subst e; rw [beq_self'] at h; rw [if_pos rfl]; exact h
   ·rw [beq_ne e] at h; rw [if_neg e]; exact h
  | ret => exact h
 | .loop ann a, s, r, h => by
  obtain ⟨s0, h1, h⟩ := bindK_some (show bindK (orK (enterK ann s) (some (enter ann s))) _ = some r from h)
  have h0 : enter ann s = s0 := by
   rcases orK_some h1 with h1 | ⟨_, h1⟩
   ·exact enterK_some h1
   ·cases h1; rfl
  rw [forceK_eq, kLen_eq] at h
  simp only [execC, h0]
  refine kLoopN_some (f := execK call n a) (bk := fun s' => orK (backK ann s0.heap.length s') (back ann s0.heap.length s')) (fun s r h => execK_some a h) (fun s r h => ?_) h
  rcases orK_some h with h | ⟨_, h⟩
  ·exact backK_some h
  ·exact h
 | .exit id, s, r, h => h
 | .ret, s, r, h => h
 | .range own f key ks res, s, r, h => h
 | .rangeM ops ann m it pr out a, s, r, h => by
  obtain ⟨s1, h1, h⟩ := bindK_some (show bindK (regionK call false ops s) _ = some r from h)
  simp only [execC, regionK_some call h1]
  exact rangeMC_le (f := execK call n a) (fun s r h => execK_some a h) h
end
def entryK : List V → Nat → Option (List (Nat × V)) := @List.rec V (fun _ => Nat → Option (List (Nat × V))) (fun _ => some []) (fun a _ ih i => bindK (ih (Nat.succ i)) fun l => some ((i, a) :: l))
theorem entryK_some : ∀ {args : List V} {i : Nat} {l : List (Nat × V)}, entryK args i = some l → l = (args.zipIdx i).map fun p => (p.2, p.1)
 | [], i, l, h => by cases h; rfl
 | a :: as, i, l, h => by
  obtain ⟨m, h1, h⟩ := bindK_some (show bindK (entryK as (Nat.succ i)) _ = some l from h)
  cases h
  rw [entryK_some h1]; rfl
def runFnK (call : CallF) (n key : Nat) (args : List V) (h : List (Option Obj)) : Fn → Option (V × List (Option Obj)) :=
 @Fn.rec (fun _ => Option (V × List (Option Obj))) (fun f => bindK (entryK args 0) fun tm => bindK (execK call n f.body ⟨tm, h⟩) fun p => @Ex.rec (fun _ => Option (V × List (Option Obj))) (resultK h p.2 f.rets) (fun _ => none) (resultK h p.2 f.rets) p.1) (fun ps ks a c => roundW (execK call n a) (execK call n c) key ps ks args h) (fun impl => impl args h)
def ecallK (E : Nat → Option Fn) : Nat → CallF :=
 @Nat.rec (fun _ => CallF) (fun _ _ _ => none) (fun k ih key args h => bindK (E key) (runFnK ih k key args h))
theorem ecallK_le (E : Nat → Option Fn) : ∀ (k : Nat), Le (ecallK E k) (ecall E k)
 | 0 => fun _ _ _ _ h => by cases h
 | k + 1 => fun key args h r hr => by
  obtain ⟨fn, h1, hr⟩ := bindK_some (show bindK (E key) (runFnK (ecallK E k) k key args h) = some r from hr)
  simp only [ecall, h1]
  cases fn with
  | prim f => exact hr
  | round ps ks a c =>
   simp only [runFn, runRound_eq]
   exact roundW_le (fun s r hs => execC_le (ecallK_le E k) a (Nat.le_refl k) (execK_some (ecallK E k) k a hs)) (fun s r hs => execC_le (ecallK_le E k) c (Nat.le_refl k) (execK_some (ecallK E k) k c hs)) hr
  | code f =>
   obtain ⟨tm, h2, hr⟩ := bindK_some (show bindK (entryK args 0) _ = some r from hr)
   obtain ⟨p, h3, hr⟩ := bindK_some hr
   obtain ⟨ex, s⟩ := p
   have hs := execC_le (ecallK_le E k) f.body (Nat.le_refl k) (execK_some (ecallK E k) k f.body h3)
   rw [entryK_some h2] at hs
   have hs : execC (ecall E k) k f.body (entry args h) = some (ex, s) := hs
   simp only [runFn, hs]
   cases ex with
   | normal => exact resultK_some hr
   | exit id => cases hr
   | ret => exact resultK_some hr
theorem lcall_K {E : Nat → Option Fn} {k key : Nat} {args : List V} {h : List (Option Obj)} {r : V × List (Option Obj)} (hk : ecallK E k key args h = some r) : lcall E key args h = some r :=
 lcall_iff.2 ⟨k, ecallK_le E k _ _ _ _ hk⟩
inductive FTree where
 | leaf (key : Nat) (f : Fn)
 | node (m : Nat) (l r : FTree)
def FTree.get : FTree → Nat → Option Fn := @FTree.rec (fun _ => Nat → Option Fn) (fun key f k => ifK (Nat.beq key k) (some f) none) (fun m _ _ l r k => @Bool.rec (fun _ => Option Fn) (r k) (l k) (Nat.ble k m))
end
open Go
theorem lx_of {E : Nat → Option Fn} : ∀ (c : CCode) {n : Nat} {s : St} {r : Ex × St}, execC (lcall E) n c s = some r → lx E c s = some r
 | .skip, n, s, r, h => by rw [lx_skip]; exact h
 | .exit id, n, s, r, h => by rw [lx_exit]; exact h
 | .ret, n, s, r, h => by rw [lx_ret]; exact h
 | .region d ops, n, s, r, h => by
  rw [lx_region]
  exact h
 | .seq a b, n, s, r, h => by
  rw [lx_seq]
  simp only [execC] at h
  cases ha : execC (lcall E) n a s with
  | none => rw [ha] at h; cases h
  | some p =>
   obtain ⟨ex, s'⟩ := p
   rw [ha] at h
   rw [lx_of a ha]
   cases ex with
   | normal => exact lx_of b h
   | exit id => exact h
   | ret => exact h
 | .cond c a b, n, s, r, h => by
  rw [lx_cond]
  simp only [execC] at h
  split at h
  ·rename_i e; simp only [e]; exact lx_of a h
  ·rename_i e; simp only [e]; exact lx_of b h
  ·cases h
 | .block id a, n, s, r, h => by
  rw [lx_block]
  simp only [execC] at h
  cases ha : execC (lcall E) n a s with
  | none => rw [ha] at h; cases h
  | some p =>
   rw [ha] at h
   rw [lx_of a ha]
   exact h
 | .loop ann c, n, s, r, h => by
  rw [lx_loop]
  simp only [execC] at h
  have key : ∀ (m k : Nat) (s : St), loopN (execC (lcall E) n c) (back ann m) k s = some r → lloop E c ann m s = some r := by
   intro m k
   induction k with
   | zero => intro s h; cases h
   | succ k ih =>
    intro s h
    rw [lloop_eq]
    simp only [loopN] at h
    cases hc : execC (lcall E) n c s with
    | none => rw [hc] at h; cases h
    | some p =>
     obtain ⟨ex, s'⟩ := p
     rw [hc] at h
     rw [lx_of c hc]
     cases ex with
     | normal =>
      simp only at h ⊢
      cases hb : back ann m s' with
      | none => rw [hb] at h; cases h
      | some s'' => rw [hb] at h; exact ih s'' h
     | exit id => exact h
     | ret => exact h
  exact key _ n _ h
 | .range own f key ks res, n, s, r, h => by rw [lx_range]; exact h
 | .rangeM ops ann m it pr out a, n, s, r, h => by
  rw [lx_rangeM]
  simp only [execC] at h
  split at h
  ·rename_i s1 hs
   simp only [hs]
   exact rangeMC_le (fun s r h => lx_of a h) h
  ·cases h
noncomputable section
def optB {α : Type} (o : Option α) (f : α → Bool) : Bool := @Option.rec α (fun _ => Bool) false f o
theorem optB_true {α : Type} {o : Option α} {f : α → Bool} (h : optB o f = true) : ∃ a, o = some a ∧ f a = true := by
 cases o with
 | none => cases h
 | some a => exact ⟨a, rfl, h⟩
theorem ifB_true {a b : Bool} (h : ifK a b false = true) : a = true ∧ b = true := by
 cases a with
 | true => exact ⟨rfl, h⟩
 | false => cases h
def sameB (x y : Bool) : Bool := @Bool.rec (fun _ => Bool) (@Bool.rec (fun _ => Bool) true false y) y x
theorem sameB_eq {x y : Bool} (h : sameB x y = true) : x = y := by cases x <;> cases y <;> first | rfl | cases h
def bytesK : List UInt8 → List UInt8 → Bool := @List.rec UInt8 (fun _ => List UInt8 → Bool) nilK (fun a _ ih ys => @List.rec UInt8 (fun _ => Bool) false (fun b bs _ => ifK (Nat.beq a.toNat b.toNat) (ih bs) false) ys)
theorem bytesK_eq : ∀ {x y : List UInt8}, bytesK x y = true → x = y
 | [], y, h => (nilK_eq h).symm
 | a :: x, [], h => by cases h
 | a :: x, b :: y, h => by
  obtain ⟨h1, h2⟩ := ifB_true (show ifK (Nat.beq a.toNat b.toNat) (bytesK x y) false = true from h)
  rw [bytesK_eq h2, UInt8.toNat_inj.1 (Nat.eq_of_beq_eq_true h1)]
def dT : D → Nat := @D.rec (fun _ => Nat) (fun _ => Unit) (fun _ => Unit) (fun _ => 0) (fun _ _ => 0) (fun _ => 0) (fun _ _ _ => 0) (fun _ _ _ => 0) (fun _ _ _ _ _ => 0) 1 2 3 () (fun _ _ _ _ => ()) () (fun _ _ _ _ => ())
def dEqK : D → D → Bool := @D.rec (fun _ => D → Bool) (fun _ => List (List D) → Bool) (fun _ => List D → Bool)
 (fun x y => optB (dB y) fun b => sameB x b)
 (fun k n y => optB (dI y) fun p => ifK (sameK k p.1) (eqK n p.2) false)
 (fun x y => optB (dS y) fun s => bytesK x s)
 (fun sz xs ih y => optB (dL y) fun p => ifK (Nat.beq sz p.1) (ih p.2) false)
 (fun xs off ih y => optB (dQ y) fun p => ifK (Nat.beq off p.2) (ih p.1) false)
 (fun _ _ _ _ _ _ => false)
 (fun y => Nat.beq (dT y) 1) (fun y => Nat.beq (dT y) 2) (fun y => Nat.beq (dT y) 3)
 nilK (fun _ _ ih1 ih2 ys => @List.rec (List D) (fun _ => Bool) false (fun y ys _ => ifK (ih1 y) (ih2 ys) false) ys)
 nilK (fun _ _ ih1 ih2 ys => @List.rec D (fun _ => Bool) false (fun y ys _ => ifK (ih1 y) (ih2 ys) false) ys)
theorem dEqK_eq (x : D) : ∀ y, dEqK x y = true → x = y := by
 refine @D.rec (fun x => ∀ y, dEqK x y = true → x = y)
  (fun xs => ∀ ys, @D.rec_1 (fun _ => D → Bool) (fun _ => List (List D) → Bool) (fun _ => List D → Bool)
 (fun x y => optB (dB y) fun b => sameB x b)
 (fun k n y => optB (dI y) fun p => ifK (sameK k p.1) (eqK n p.2) false)
 (fun x y => optB (dS y) fun s => bytesK x s)
 (fun sz xs ih y => optB (dL y) fun p => ifK (Nat.beq sz p.1) (ih p.2) false)
 (fun xs off ih y => optB (dQ y) fun p => ifK (Nat.beq off p.2) (ih p.1) false)
 (fun _ _ _ _ _ _ => false)
 (fun y => Nat.beq (dT y) 1) (fun y => Nat.beq (dT y) 2) (fun y => Nat.beq (dT y) 3)
 nilK (fun _ _ ih1 ih2 ys => @List.rec (List D) (fun _ => Bool) false (fun y ys _ => ifK (ih1 y) (ih2 ys) false) ys)
 nilK (fun _ _ ih1 ih2 ys => @List.rec D (fun _ => Bool) false (fun y ys _ => ifK (ih1 y) (ih2 ys) false) ys) xs ys = true → xs = ys)
  (fun xs => ∀ ys, @D.rec_2 (fun _ => D → Bool) (fun _ => List (List D) → Bool) (fun _ => List D → Bool)
 (fun x y => optB (dB y) fun b => sameB x b)
 (fun k n y => optB (dI y) fun p => ifK (sameK k p.1) (eqK n p.2) false)
 (fun x y => optB (dS y) fun s => bytesK x s)
 (fun sz xs ih y => optB (dL y) fun p => ifK (Nat.beq sz p.1) (ih p.2) false)
 (fun xs off ih y => optB (dQ y) fun p => ifK (Nat.beq off p.2) (ih p.1) false)
 (fun _ _ _ _ _ _ => false)
 (fun y => Nat.beq (dT y) 1) (fun y => Nat.beq (dT y) 2) (fun y => Nat.beq (dT y) 3)
 nilK (fun _ _ ih1 ih2 ys => @List.rec (List D) (fun _ => Bool) false (fun y ys _ => ifK (ih1 y) (ih2 ys) false) ys)
 nilK (fun _ _ ih1 ih2 ys => @List.rec D (fun _ => Bool) false (fun y ys _ => ifK (ih1 y) (ih2 ys) false) ys) xs ys = true → xs = ys)
  ?_ ?_ ?_ ?_ ?_ ?_ ?_ ?_ ?_ ?_ ?_ ?_ ?_ x
 ·intro x y h
  obtain ⟨b, h1, h2⟩ := optB_true (show optB (dB y) (fun b => sameB x b) = true from h)
  rw [dB_some h1, sameB_eq h2]
 ·intro k n y h
  obtain ⟨p, h1, h2⟩ := optB_true (show optB (dI y) (fun p => ifK (sameK k p.1) (eqK n p.2) false) = true from h)
  obtain ⟨h2, h3⟩ := ifB_true h2
  rw [eqK_eq] at h3
  rw [dI_some h1, sameK_eq h2, eq_of_beq h3]
 ·intro x y h
  obtain ⟨b, h1, h2⟩ := optB_true (show optB (dS y) (fun s => bytesK x s) = true from h)
  rw [dS_some h1, bytesK_eq h2]
 ·intro sz xs ih y h
  obtain ⟨p, h1, h2⟩ := optB_true (o := dL y) h
  obtain ⟨h2, h3⟩ := ifB_true h2
  rw [dL_some h1, Nat.eq_of_beq_eq_true h2, ih _ h3]
 ·intro xs off ih y h
  obtain ⟨p, h1, h2⟩ := optB_true (o := dQ y) h
  obtain ⟨h2, h3⟩ := ifB_true h2
  rw [dQ_some h1, Nat.eq_of_beq_eq_true h2, ih _ h3]
 ·intro _ _ _ _ _ y h; cases h
 ·intro y h; cases y <;> first | rfl | cases h
 ·intro y h; cases y <;> first | rfl | cases h
 ·intro y h; cases y <;> first | rfl | cases h
 ·intro ys h; exact (nilK_eq h).symm
 ·intro a as ih1 ih2 ys h
  cases ys with
  | nil => cases h
  | cons y ys =>
   obtain ⟨h1, h2⟩ := ifB_true h
   rw [ih1 _ h1, ih2 _ h2]
 ·intro ys h; exact (nilK_eq h).symm
 ·intro a as ih1 ih2 ys h
  cases ys with
  | nil => cases h
  | cons y ys =>
   obtain ⟨h1, h2⟩ := ifB_true h
   rw [ih1 _ h1, ih2 _ h2]
def vNl : V → Option Nat := @V.rec (fun _ => Option Nat) (fun _ => Unit) (fun _ => none) some (fun _ _ _ _ => none) (fun _ _ _ _ => none) (fun _ _ => none) (fun _ _ _ _ => none) (fun _ => none) (fun _ _ _ _ _ => none) (fun _ _ => none) (fun _ _ => none) none () (fun _ _ _ _ => ())
theorem vNl_some {v : V} {x : Nat} (h : vNl v = some x) : v = .nil x := by cases v <;> first | cases h; rfl | cases h
def vTp : V → Option (List V) := @V.rec (fun _ => Option (List V)) (fun _ => Unit) (fun _ => none) (fun _ => none) (fun _ _ _ _ => none) (fun _ _ _ _ => none) (fun _ _ => none) (fun _ _ _ _ => none) (fun _ => none) (fun _ _ _ _ _ => none) (fun _ _ => none) (fun vs _ => some vs) none () (fun _ _ _ _ => ())
theorem vTp_some {v : V} {x : List V} (h : vTp v = some x) : v = .tup x := by cases v <;> first | cases h; rfl | cases h
def altB {α : Type} (o : Option α) (f : α → Bool) (b : Bool) : Bool := @Option.rec α (fun _ => Bool) b f o
def rowB (f : V → V → Bool) : List V → List V → Bool := @List.rec V (fun _ => List V → Bool) nilK (fun x _ ih vs => @List.rec V (fun _ => Bool) false (fun v vs _ => ifK (f x v) (ih vs) false) vs)
theorem rowB_eq {f : V → V → Bool} (hf : ∀ x y, f x y = true → x = y) : ∀ {xs vs : List V}, rowB f xs vs = true → xs = vs
 | [], vs, h => (nilK_eq h).symm
 | x :: xs, [], h => by cases h
 | x :: xs, v :: vs, h => by
  obtain ⟨h1, h2⟩ := ifB_true (show ifK (f x v) (rowB f xs vs) false = true from h)
  rw [hf _ _ h1, rowB_eq hf h2]
def vAr : V → Option (Nat × Nat × Nat × Nat) := @V.rec (fun _ => Option (Nat × Nat × Nat × Nat)) (fun _ => Unit) (fun _ => none) (fun _ => none) (fun _ _ _ _ => none) (fun a b c d => some (a, b, c, d)) (fun _ _ => none) (fun _ _ _ _ => none) (fun _ => none) (fun _ _ _ _ _ => none) (fun _ _ => none) (fun _ _ => none) none () (fun _ _ _ _ => ())
theorem vAr_some {v : V} {x : Nat × Nat × Nat × Nat} (h : vAr v = some x) : v = .arr x.1 x.2.1 x.2.2.1 x.2.2.2 := by cases v <;> first | cases h; rfl | cases h
def cEqK (x y : V) : Bool := altB (vD x) (fun a => optB (vD y) fun b => dEqK a b) (altB (vNl x) (fun a => optB (vNl y) fun b => Nat.beq a b)
 (optB (vAr x) fun a => optB (vAr y) fun b => ifK (Nat.beq a.1 b.1) (ifK (Nat.beq a.2.1 b.2.1) (ifK (Nat.beq a.2.2.1 b.2.2.1) (Nat.beq a.2.2.2 b.2.2.2) false) false) false))
theorem cEqK_eq (x y : V) (h : cEqK x y = true) : x = y := by
 unfold cEqK at h
 cases hx : vD x with
 | some a =>
  rw [hx] at h
  obtain ⟨b, h1, h2⟩ := optB_true (show optB (vD y) (fun b => dEqK a b) = true from h)
  rw [vD_some hx, vD_some h1, dEqK_eq _ _ h2]
 | none =>
  rw [hx] at h
  cases hn : vNl x with
  | some a =>
   rw [hn] at h
   obtain ⟨b, h2, h3⟩ := optB_true (show optB (vNl y) (fun b => Nat.beq a b) = true from h)
   rw [vNl_some hn, vNl_some h2, Nat.eq_of_beq_eq_true h3]
  | none =>
   rw [hn] at h
   obtain ⟨a, h1, h⟩ := optB_true (o := vAr x) h
   obtain ⟨b, h2, h⟩ := optB_true h
   obtain ⟨e1, h⟩ := ifB_true h
   obtain ⟨e2, h⟩ := ifB_true h
   obtain ⟨e3, e4⟩ := ifB_true h
   rw [vAr_some h1, vAr_some h2, Nat.eq_of_beq_eq_true e1, Nat.eq_of_beq_eq_true e2, Nat.eq_of_beq_eq_true e3, Nat.eq_of_beq_eq_true e4]
def aEqK (x y : V) : Bool := altB (vAgg x) (fun a => optB (vAgg y) fun b => rowB cEqK a b) (cEqK x y)
theorem aEqK_eq (x y : V) (h : aEqK x y = true) : x = y := by
 unfold aEqK at h
 cases hx : vAgg x with
 | some a =>
  rw [hx] at h
  obtain ⟨b, h1, h2⟩ := optB_true (show optB (vAgg y) (fun b => rowB cEqK a b) = true from h)
  rw [vAgg_some hx, vAgg_some h1, rowB_eq cEqK_eq h2]
 | none => rw [hx] at h; exact cEqK_eq _ _ h
def vEqK (x y : V) : Bool := altB (vTp x) (fun a => optB (vTp y) fun b => rowB aEqK a b) (aEqK x y)
theorem vEqK_eq (x y : V) (h : vEqK x y = true) : x = y := by
 unfold vEqK at h
 cases hx : vTp x with
 | some a =>
  rw [hx] at h
  obtain ⟨b, h1, h2⟩ := optB_true (show optB (vTp y) (fun b => rowB aEqK a b) = true from h)
  rw [vTp_some hx, vTp_some h1, rowB_eq aEqK_eq h2]
 | none => rw [hx] at h; exact aEqK_eq _ _ h
def oAr3 : Option Obj → Option (Nat × Nat × List (List V)) := @Option.rec Obj (fun _ => Option (Nat × Nat × List (List V))) none (@Obj.rec (fun _ => Option (Nat × Nat × List (List V))) (fun _ => none) (fun _ => none) (fun _ _ => none) (fun v s x => some (v, s, x)) (fun _ => none) (fun _ => none) (fun _ _ _ => none))
theorem oAr3_some {o : Option Obj} {x : Nat × Nat × List (List V)} (h : oAr3 o = some x) : o = some (.arr x.1 x.2.1 x.2.2) := by
 cases o with
 | none => cases h
 | some o => cases o <;> first | cases h; rfl | cases h
def rowsK {α : Type} (f : α → α → Bool) : List α → List α → Bool := @List.rec α (fun _ => List α → Bool) nilK (fun x _ ih vs => @List.rec α (fun _ => Bool) false (fun v vs _ => ifK (f x v) (ih vs) false) vs)
theorem rowsK_eq {α : Type} {f : α → α → Bool} (hf : ∀ x y, f x y = true → x = y) : ∀ {xs vs : List α}, rowsK f xs vs = true → xs = vs
 | [], vs, h => (nilK_eq h).symm
 | x :: xs, [], h => by cases h
 | x :: xs, v :: vs, h => by
  obtain ⟨h1, h2⟩ := ifB_true (show ifK (f x v) (rowsK f xs vs) false = true from h)
  rw [hf _ _ h1, rowsK_eq hf h2]
def oEqK (x y : Option Obj) : Bool := optB (oAr3 x) fun a => optB (oAr3 y) fun b => ifK (Nat.beq a.1 b.1) (ifK (Nat.beq a.2.1 b.2.1) (rowsK (rowB cEqK) a.2.2 b.2.2) false) false
theorem oEqK_eq (x y : Option Obj) (h : oEqK x y = true) : x = y := by
 obtain ⟨a, h1, h⟩ := optB_true h
 obtain ⟨b, h2, h⟩ := optB_true h
 obtain ⟨e1, h⟩ := ifB_true h
 obtain ⟨e2, h⟩ := ifB_true h
 rw [oAr3_some h1, oAr3_some h2, Nat.eq_of_beq_eq_true e1, Nat.eq_of_beq_eq_true e2, rowsK_eq (fun x y => rowB_eq cEqK_eq) h]
abbrev Fact := Nat × List V × V × List (Option Obj)
def eqArgsK : List V → List V → Bool := rowB vEqK
theorem eqArgsK_eq {xs vs : List V} (h : eqArgsK xs vs = true) : vs = xs := (rowB_eq vEqK_eq h).symm
def memoK : List Fact → CallF := @List.rec Fact (fun _ => CallF) (fun _ _ _ => none) (fun f _ ih key args h => orK (ifK (Nat.beq key f.1) (ifK (nilK h) (ifK (eqArgsK f.2.1 args) (some (f.2.2.1, f.2.2.2)) none) none) none) (ih key args h))
def factOk (E : Nat → Option Fn) (f : Fact) : Prop := lcall E f.1 f.2.1 [] = some (f.2.2.1, f.2.2.2)
theorem memoK_le {E : Nat → Option Fn} : ∀ {F : List Fact}, (∀ f ∈ F, factOk E f) → Le (memoK F) (lcall E)
 | [], _ => fun _ _ _ _ h => by cases h
 | f :: F, hF => fun key args h r hr => by
  rcases orK_some (show orK (ifK (Nat.beq key f.1) _ none) (memoK F key args h) = some r from hr) with hr | ⟨_, hr⟩
  ·obtain ⟨h1, hr⟩ := ifK_some hr
   obtain ⟨h2, hr⟩ := ifK_some hr
   obtain ⟨h3, hr⟩ := ifK_some hr
   cases hr
   rw [Nat.eq_of_beq_eq_true h1, nilK_eq h2, eqArgsK_eq h3]
   exact hF f List.mem_cons_self
  ·exact memoK_le (fun f hf => hF f (List.mem_cons_of_mem _ hf)) key args h r hr
def ecallM (F : List Fact) (E : Nat → Option Fn) : Nat → CallF :=
 @Nat.rec (fun _ => CallF) (fun _ _ _ => none) (fun k ih key args h => orK (memoK F key args h) (bindK (E key) (runFnK ih k key args h)))
theorem ecallM_le {E : Nat → Option Fn} {F : List Fact} (hF : ∀ f ∈ F, factOk E f) : ∀ (k : Nat), Le (ecallM F E k) (lcall E)
 | 0 => fun _ _ _ _ h => by cases h
 | k + 1 => fun key args h r hr => by
  rcases orK_some (show orK (memoK F key args h) (bindK (E key) (runFnK (ecallM F E k) k key args h)) = some r from hr) with hr | ⟨_, hr⟩
  ·exact memoK_le hF _ _ _ _ hr
  obtain ⟨fn, h1, hr⟩ := bindK_some hr
  cases fn with
  | prim f => rw [lcall_prim h1]; exact hr
  | round ps ks a c =>
   rw [lcall_round h1]
   exact roundW_le (fun s r hs => lx_of a (execC_le (ecallM_le hF k) a (Nat.le_refl k) (execK_some (ecallM F E k) k a hs))) (fun s r hs => lx_of c (execC_le (ecallM_le hF k) c (Nat.le_refl k) (execK_some (ecallM F E k) k c hs))) hr
  | code f =>
   obtain ⟨tm, h2, hr⟩ := bindK_some (show bindK (entryK args 0) _ = some r from hr)
   obtain ⟨p, h3, hr⟩ := bindK_some hr
   obtain ⟨ex, s⟩ := p
   have hs := execC_le (ecallM_le hF k) f.body (Nat.le_refl k) (execK_some (ecallM F E k) k f.body h3)
   rw [entryK_some h2] at hs
   have hs : lx E f.body (entry args h) = some (ex, s) := lx_of _ hs
   rw [lcall_code h1, hs]
   cases ex with
   | normal => exact resultK_some hr
   | exit id => cases hr
   | ret => exact resultK_some hr
def saysK (F : List Fact) (E : Nat → Option Fn) (key : Nat) (args : List V) (d : V) (os : List (Option Obj)) : Bool := optB (ecallM F E 300 key args []) fun r => ifK (rowsK oEqK r.2 os) (vEqK r.1 d) false
theorem saysK_ok {F : List Fact} {E : Nat → Option Fn} {key : Nat} {args : List V} {d : V} {os : List (Option Obj)} (hF : ∀ f ∈ F, factOk E f) (h : saysK F E key args d os = true) : factOk E (key, args, d, os) := by
 obtain ⟨r, h1, h2⟩ := optB_true h
 obtain ⟨h2, h3⟩ := ifB_true h2
 have := ecallM_le hF 300 _ _ _ _ h1
 obtain ⟨v, h'⟩ := r
 have e1 : h' = os := rowsK_eq oEqK_eq h2
 have e2 : v = d := vEqK_eq _ _ h3
 subst e1 e2
 exact this
theorem facts_nil {E : Nat → Option Fn} : ∀ f ∈ ([] : List Fact), factOk E f := fun f h => by cases h
theorem facts_cons {E : Nat → Option Fn} {f : Fact} {F : List Fact} (h : factOk E f) (hF : ∀ f ∈ F, factOk E f) : ∀ g ∈ f :: F, factOk E g := fun g hg => by
 rcases List.mem_cons.1 hg with rfl | hg
 ·exact h
 ·exact hF g hg
end
open Go
open Go.RowKit (Below)
def SndC (P : Program) (tab : Tab) (call : CallF) (n nt : Nat) (cc : CCode) (s : St) (post : Ex → St → Prop) : Prop :=
 ∀ (n0 : Nat) (c : Code) (m m' : Notes), comp P tab nt c m = some (cc, m') → (∀ o ∈ m'.outs, OutOk tab nt o) → ∀ (g0 : Gh) (ob0 : Nat → Option Obj) (w0 : World) (g : Gh) (a : Act) (w : World), Go2 tab nt n0 g0 ob0 w0 g s.get s.obj a w →
  ∀ (Q : Exit → Act → World → Prop), (∀ ex s' g' a' w', post ex s' → Go2 tab nt n0 g0 ob0 w0 g' s'.get s'.obj a' w' → Q (exOf ex) a' w') → c.wpIn (fen none) 0 P Q a w
def Tells (tab : Tab) (s t : St) : Prop := ∀ (nt n0 : Nat) (g0 : Gh) (ob0 : Nat → Option Obj) (w0 : World) (g : Gh) (a : Act) (w : World), Go2 tab nt n0 g0 ob0 w0 g s.get s.obj a w → ∃ g', Go2 tab nt n0 g0 ob0 w0 g' t.get t.obj a w
theorem Tells.refl {tab : Tab} (s : St) : Tells tab s s := fun _ _ _ _ _ _ _ _ h => ⟨_, h⟩
theorem Tells.trans {tab : Tab} {s t u : St} (h : Tells tab s t) (k : Tells tab t u) : Tells tab s u := fun _ _ _ _ _ _ _ _ x => let ⟨_, y⟩ := h _ _ _ _ _ _ _ _ x; k _ _ _ _ _ _ _ _ y
section
variable {P : Program} {tab : Tab} {call : CallF} {n nt : Nat}
theorem SndC.mono {cc : CCode} {s : St} {post post' : Ex → St → Prop} (h : SndC P tab call n nt cc s post) (k : ∀ ex s', post ex s' → post' ex s') : SndC P tab call n nt cc s post' :=
 fun n0 c m m' hc hO g0 ob0 w0 g a w hR Q hQ => h n0 c m m' hc hO g0 ob0 w0 g a w hR Q (fun ex s' g' a' w' hp hG => hQ ex s' g' a' w' (k ex s' hp) hG)
theorem SndC.pre {cc : CCode} {s t : St} {post : Ex → St → Prop} (ht : Tells tab s t) (h : SndC P tab call n nt cc t post) : SndC P tab call n nt cc s post :=
 fun n0 c m m' hc hO g0 ob0 w0 g a w hR Q hQ => let ⟨g', hG⟩ := ht _ _ _ _ _ _ _ _ hR; h n0 c m m' hc hO g0 ob0 w0 g' a w hG Q hQ
theorem SndC.post {cc : CCode} {s : St} {post post' : Ex → St → Prop} (h : SndC P tab call n nt cc s post) (k : ∀ ex s', post ex s' → ∃ t', Tells tab s' t' ∧ post' ex t') : SndC P tab call n nt cc s post' :=
 fun n0 c m m' hc hO g0 ob0 w0 g a w hR Q hQ => h n0 c m m' hc hO g0 ob0 w0 g a w hR Q (fun ex s' g' a' w' hp hG => let ⟨t', h1, h2⟩ := k ex s' hp; let ⟨g2, hG2⟩ := h1 _ _ _ _ _ _ _ _ hG; hQ ex t' g2 a' w' h2 hG2)
theorem snd_exec (hB : BodyOk P tab) (hCall : CallOk P tab call) (hm : P.follows .mixedOrders = true) {cc : CCode} {s s' : St} {ex : Ex} (hx : execC call n cc s = some (ex, s')) : SndC P tab call n nt cc s (fun e t => e = ex ∧ t = s') :=
 fun n0 c m m' hc hO g0 ob0 w0 g a w hR Q hQ => comp_sound hB hCall hm n c cc m m' hc hO g0 ob0 w0 (fun l0 e => by cases e) s s' ex hx g a w hR Q (fun g' a' w' hG => hQ ex s' g' a' w' ⟨rfl, rfl⟩ hG)
theorem snd_seq {x y : CCode} {s : St} {pa post : Ex → St → Prop} (ha : SndC P tab call n nt x s pa) (hb : ∀ s', pa .normal s' → SndC P tab call n nt y s' post) (hl : ∀ ex s', ex ≠ .normal → pa ex s' → post ex s') : SndC P tab call n nt (.seq x y) s post := by
 intro n0 c
 induction c with
 | seq c d ihc ihd =>
  intro m m' hc hO g0 ob0 w0 g a w hR Q hQ
  simp only [comp] at hc
  split at hc
  case h_2 => cases hc
  rename_i c' m1 hc'
  split at hc
  case h_2 => cases hc
  rename_i d' m2 hd'
  simp only [Qa, Qj] at hc
  obtain ⟨hf, rfl⟩ := hc
  rcases fuse_cases (P := P) (tab := tab) c d c' d' with e | ⟨_, _, _, _, _, _, _, _, _, _, _, _, _, _, _, _, _, _, _, e⟩
  ·rw [e] at hf
   cases hf
   refine wpIn_seq (ha n0 c m m1 hc' (fun o ho => hO o (comp_outs d hd' o ho)) g0 ob0 w0 g a w hR _ (fun ex s' g' a' w' hp hG => ?_))
   cases ex with
   | normal => exact hb s' hp n0 d m1 m2 hd' hO g0 ob0 w0 g' a' w' hG Q hQ
   | ret => exact hQ .ret s' g' a' w' (hl _ _ (by simp) hp) hG
   | exit i => exact hQ (.exit i) s' g' a' w' (hl _ _ (by simp) hp) hG
  ·rw [e] at hf; cases hf
 | scope c ih =>
  intro m m' hc hO g0 ob0 w0 g a w hR Q hQ
  simp only [comp] at hc
  refine wpIn_scope_straight (ih m m' hc hO g0 ob0 w0 g a w hR _ (fun ex s' g' a' w' hp h => ?_))
  have := hQ ex s' g' a' w' hp h
  cases ex <;> exact this
 | skip => intro m m' hc; simp [comp] at hc
 | label l => intro m m' hc; simp [comp] at hc
 | exit i => intro m m' hc; simp [comp] at hc
 | ret => intro m m' hc; simp [comp] at hc
 | region i o d =>
  intro m m' hc
  simp only [comp] at hc
  repeat' split at hc
  all_goals cases hc
 | cond c x y =>
  intro m m' hc
  simp only [comp] at hc
  repeat' split at hc
  all_goals cases hc
 | block i c =>
  intro m m' hc
  simp only [comp] at hc
  repeat' split at hc
  all_goals cases hc
 | loop c =>
  intro m m' hc
  simp only [comp] at hc
  repeat' split at hc
  all_goals cases hc
 | rangeFunc =>
  intro m m' hc
  simp only [comp] at hc
  repeat' split at hc
  all_goals cases hc
 | _ => intro m m' hc; simp [comp] at hc
theorem snd_block {x : CCode} {id : Nat} {s : St} {post : Ex → St → Prop} (h : SndC P tab call n nt x s (fun ex s' => match ex with | .exit i => if i = id then post .normal s' else post (.exit i) s' | e => post e s')) : SndC P tab call n nt (.block id x) s post := by
 intro n0 c
 induction c with
 | block i c ih =>
  intro m m' hc hO g0 ob0 w0 g a w hR Q hQ
  simp only [comp] at hc
  split at hc
  case h_2 => cases hc
  rename_i c' m1 hc'
  simp only [Qa, Qj, CCode.block.injEq] at hc
  obtain ⟨⟨rfl, rfl⟩, rfl⟩ := hc
  refine wpIn_block (h n0 c m m1 hc' hO g0 ob0 w0 g a w hR _ (fun ex s' g' a' w' hp hG => ?_))
  cases ex with
  | normal => exact hQ _ _ _ _ _ hp hG
  | ret => exact hQ _ _ _ _ _ hp hG
  | exit j =>
   simp only [exOf, Exit.inBlock]
   simp only at hp
   split
   ·rename_i e; rw [if_pos e] at hp; exact hQ .normal s' g' a' w' hp hG
   ·rename_i e; rw [if_neg e] at hp; exact hQ (.exit j) s' g' a' w' hp hG
 | scope c ih =>
  intro m m' hc hO g0 ob0 w0 g a w hR Q hQ
  simp only [comp] at hc
  refine wpIn_scope_straight (ih m m' hc hO g0 ob0 w0 g a w hR _ (fun ex s' g' a' w' hp h => ?_))
  have := hQ ex s' g' a' w' hp h
  cases ex <;> exact this
 | skip => intro m m' hc; simp [comp] at hc
 | label l => intro m m' hc; simp [comp] at hc
 | exit i => intro m m' hc; simp [comp] at hc
 | ret => intro m m' hc; simp [comp] at hc
 | region i o d =>
  intro m m' hc
  simp only [comp] at hc
  repeat' split at hc
  all_goals cases hc
 | cond c x y =>
  intro m m' hc
  simp only [comp] at hc
  repeat' split at hc
  all_goals cases hc
 | loop c =>
  intro m m' hc
  simp only [comp] at hc
  repeat' split at hc
  all_goals cases hc
 | rangeFunc =>
  intro m m' hc
  simp only [comp] at hc
  repeat' split at hc
  all_goals cases hc
 | seq c d =>
  intro m m' hc
  simp only [comp] at hc
  split at hc
  case h_2 => cases hc
  split at hc
  case h_2 => cases hc
  simp only [Qa, Qj] at hc
  rename_i c' _ _ _ d' _ _
  rcases fuse_cases (P := P) (tab := tab) c d c' d' with e | ⟨_, _, _, _, _, _, _, _, _, _, _, _, _, _, _, _, _, _, _, e⟩ <;> rw [e] at hc <;> cases hc.1
 | _ => intro m m' hc; simp [comp] at hc
theorem snd_loop {x : CCode} {ann : Ann} {s : St} {post : Ex → St → Prop} (J : St → Prop) (μ : St → Nat) (h0 : J (enter ann s)) (h : ∀ t, J t → SndC P tab call n nt x t (fun ex t' => match ex with | .normal => ∃ t'', back ann (enter ann s).heap.length t' = some t'' ∧ J t'' ∧ μ t'' < μ t | e => post e t')) :
  SndC P tab call n nt (.loop ann x) s post := by
 intro n0 c
 induction c with
 | loop c ih =>
  intro m m' hc hO g0 ob0 w0 g a w hR Q hQ
  simp only [comp] at hc
  split at hc
  case h_2 => cases hc
  rename_i ann' as hann
  split at hc
  case h_2 => cases hc
  rename_i c' m1 hc'
  simp only [Qa, Qj, CCode.loop.injEq] at hc
  obtain ⟨⟨rfl, rfl⟩, rfl⟩ := hc
  obtain ⟨g1, hR1⟩ := enter_ok ann' hR.go
  have hR1 : Go2 tab nt n0 g0 ob0 w0 g1 (enter ann' s).get (enter ann' s).obj a w := ⟨hR1, hR.mks, hR.lo⟩
  have hlow : ∀ i, (ob0 i).isSome = true → i < (enter ann' s).heap.length := fun i hi => obj_lt (kevo_some hR1.go.evo.kevo hi)
  refine wpIn_loop_rounds (μ (enter ann' s) + 1) ?_
  have key : ∀ (k : Nat) (t : St) (g : Gh) (a : Act) (w : World), μ t ≤ k → J t → Go2 tab nt n0 g0 ob0 w0 g t.get t.obj a w → Code.roundsIn (fen none) 0 P c Q (k + 1) a w := by
   intro k
   induction k with
   | zero =>
    intro t g a w hk hj hG
    rw [roundsIn_succ]
    refine h t hj n0 c _ m1 hc' hO g0 ob0 w0 g a w hG _ (fun ex t' g' a' w' hp hG' => ?_)
    cases ex with
    | normal => obtain ⟨t'', _, _, hlt⟩ := hp; omega
    | ret => exact hQ _ _ _ _ _ hp hG'
    | exit j => exact hQ _ _ _ _ _ hp hG'
   | succ k ihk =>
    intro t g a w hk hj hG
    rw [roundsIn_succ]
    refine h t hj n0 c _ m1 hc' hO g0 ob0 w0 g a w hG _ (fun ex t' g' a' w' hp hG' => ?_)
    cases ex with
    | normal =>
     obtain ⟨t'', hb, hj', hlt⟩ := hp
     exact ihk t'' g' a' w' (by omega) hj' ⟨back_ok hG'.go hlow hb, hG'.mks, hG'.lo⟩
    | ret => exact hQ _ _ _ _ _ hp hG'
    | exit j => exact hQ _ _ _ _ _ hp hG'
  exact key _ _ g1 a w (Nat.le_refl _) h0 hR1
 | scope c ih =>
  intro m m' hc hO g0 ob0 w0 g a w hR Q hQ
  simp only [comp] at hc
  refine wpIn_scope_straight (ih m m' hc hO g0 ob0 w0 g a w hR _ (fun ex s' g' a' w' hp h => ?_))
  have := hQ ex s' g' a' w' hp h
  cases ex <;> exact this
 | skip => intro m m' hc; simp [comp] at hc
 | label l => intro m m' hc; simp [comp] at hc
 | exit i => intro m m' hc; simp [comp] at hc
 | ret => intro m m' hc; simp [comp] at hc
 | region i o d =>
  intro m m' hc
  simp only [comp] at hc
  repeat' split at hc
  all_goals cases hc
 | cond c x y =>
  intro m m' hc
  simp only [comp] at hc
  repeat' split at hc
  all_goals cases hc
 | block i c =>
  intro m m' hc
  simp only [comp] at hc
  repeat' split at hc
  all_goals cases hc
 | rangeFunc =>
  intro m m' hc
  simp only [comp] at hc
  repeat' split at hc
  all_goals cases hc
 | seq c d =>
  intro m m' hc
  simp only [comp] at hc
  split at hc
  case h_2 => cases hc
  split at hc
  case h_2 => cases hc
  simp only [Qa, Qj] at hc
  rename_i c' _ _ _ d' _ _
  rcases fuse_cases (P := P) (tab := tab) c d c' d' with e | ⟨_, _, _, _, _, _, _, _, _, _, _, _, _, _, _, _, _, _, _, e⟩ <;> rw [e] at hc <;> cases hc.1
 | _ => intro m m' hc; simp [comp] at hc
theorem snd_rangeM (hB : BodyOk P tab) (hCall : CallOk P tab call) (hm : P.follows .mixedOrders = true) {ops : List CO} {ann : Ann} {mp : A} {it pr out : Nat} {rc : CCode} {s s1 : St} (hs1 : runRegion call false ops s = some s1) {post : Ex → St → Prop} {O : Ex × St → Prop}
  (hcase : (s1.ev mp = .d .nm ∧ ∃ s2, back ann (s1.heap.length + 1) (iterM it s1) = some s2 ∧ s2.get it = .ptr s1.heap.length 0 ∧ O (.normal, s2)) ∨
   ∃ id kvs0 s2 s3 kvs, s1.ev mp = .map id ∧ ((s1.obj id = some (.map kvs0) ∨ s1.obj id = some (.cmap kvs0)) ∧ (s2 = s1 ∨ s2 = { s1 with heap := s1.heap.map freezeO })) ∧
    back ann (s2.heap.length + 1) (iterM it s2) = some s3 ∧ s3.obj id = some (.cmap kvs) ∧ s3.get it = .ptr s2.heap.length 0 ∧
    ∃ J : St → List (List D × V) → Prop, J s3 [] ∧ (∀ t dn p, J t dn → p ∈ kvs → p ∉ dn → (∃ t'', oneM (execC call n rc) ann it s2.heap.length id kvs pr t p = some (.normal, t'') ∧ J t'' (p :: dn)) ∨
     (∃ ex t'', ex ≠ .normal ∧ oneM (execC call n rc) ann it s2.heap.length id kvs pr t p = some (ex, t'') ∧ O (ex, t''))) ∧ (∀ t dn, J t dn → (∀ p ∈ kvs, p ∈ dn) → O (.normal, t)))
  (hpost : ∀ o, O o → post (leaveM out o).1 o.2) : SndC P tab call n nt (.rangeM ops ann mp it pr out rc) s post := by
 intro n0 c
 induction c with
 | seq x y ihx ihy =>
  intro m m' hc hO g0 ob0 w0 g a w hR Q hQ
  simp only [comp] at hc
  split at hc
  case h_2 => cases hc
  rename_i x' m1 hx'
  split at hc
  case h_2 => cases hc
  rename_i y' m2 hy'
  simp only [Qa, Qj] at hc
  obtain ⟨hf, rfl⟩ := hc
  rcases fuse_cases (P := P) (tab := tab) x y x' y' with e | ⟨ida, opsA, d, cs, it', m0, nx, mr, pr', out', ann', rc', rfl, rfl, k1, k2, k3, k4, k5, e⟩
  ·rw [e] at hf; cases hf
  ·rw [e] at hf
   cases hf
   simp only [comp] at hx'
   split at hx'
   ·rename_i cs0 fz hcs
    split at hx'
    ·simp only [Qa, Qj, CCode.region.injEq] at hx'
     obtain ⟨⟨_, rfl⟩, rfl⟩ := hx'
     exact rangeM_gen hB hCall k1 k2 (compOps_ok hcs).1 hy' k3 k4 k5 (fun i2 ops2 N i3 ops3 body he => comp_sound hB hCall hm n body) hO (fun l0 e => by cases e) hs1 hR hcase (fun o ho g' a' w' hG => hQ _ o.2 g' a' w' (hpost o ho) hG)
    ·cases hx'
   ·cases hx'
 | scope c ih =>
  intro m m' hc hO g0 ob0 w0 g a w hR Q hQ
  simp only [comp] at hc
  refine wpIn_scope_straight (ih m m' hc hO g0 ob0 w0 g a w hR _ (fun ex s' g' a' w' hp h => ?_))
  have := hQ ex s' g' a' w' hp h
  cases ex <;> exact this
 | skip => intro m m' hc; simp [comp] at hc
 | label l => intro m m' hc; simp [comp] at hc
 | exit i => intro m m' hc; simp [comp] at hc
 | ret => intro m m' hc; simp [comp] at hc
 | region i o d =>
  intro m m' hc
  simp only [comp] at hc
  repeat' split at hc
  all_goals cases hc
 | cond c x y =>
  intro m m' hc
  simp only [comp] at hc
  repeat' split at hc
  all_goals cases hc
 | block i c =>
  intro m m' hc
  simp only [comp] at hc
  repeat' split at hc
  all_goals cases hc
 | loop c =>
  intro m m' hc
  simp only [comp] at hc
  repeat' split at hc
  all_goals cases hc
 | rangeFunc =>
  intro m m' hc
  simp only [comp] at hc
  repeat' split at hc
  all_goals cases hc
 | _ => intro m m' hc; simp [comp] at hc
theorem tells_perm {s : St} {id : Nat} {kvs kvs' : List (List D × V)} (ho : s.obj id = some (.map kvs)) (hp : kvs.Perm kvs') : Tells tab s { s with heap := s.heap.set id (some (.map kvs')) } := by
 intro nt n0 g0 ob0 w0 g a w h
 have hlt : id < s.heap.length := obj_lt (by rw [ho]; rfl)
 have hat : updP g.at_ id (g.at_ id) = g.at_ := by funext j; unfold updP; split <;> simp_all
 have howns : ∀ b q, owns ⟨updP g.at_ id (g.at_ id), g.im⟩ (updO s.obj id (some (.map kvs'))) id b q → owns g s.obj id b q := fun b q h => by
  unfold owns at *
  simp only [updO_same, updP_same] at h
  rw [ho]; exact h
 have kind : OEvo g s.obj ⟨updP g.at_ id (g.at_ id), g.im⟩ (updO s.obj id (some (.map kvs'))) := by
  intro j
  by_cases e : j = id
  ·subst e; rw [ho]; exact ⟨.inl ⟨kvs', updO_same _ _ _⟩, updP_same _ _ _⟩
  ·have := OEvo.refl g s.obj j
   rw [updO_ne _ _ e, show (⟨updP g.at_ id (g.at_ id), g.im⟩ : Gh).at_ j = g.at_ j from updP_ne _ _ e]
   exact this
 obtain ⟨h1, h2, h3⟩ := step1 (w' := w) h.go.rel.heap id (.map kvs') (g.at_ id) g.im rfl rfl rfl (Nat.le_refl _) (fun _ _ => .refl _) (fun b q h => h) (fun b q h => .inl h)
  (fun b q h' => ⟨.inl (howns b q h'), h.go.rel.heap.imm id b q (howns b q h')⟩)
  (fun b q h hm => by simp [Obj.isMap] at hm)
  kind
  (fun hv => by
   obtain ⟨es, cl, k1, k2⟩ := h.go.rel.heap.ob id _ ho
   exact ⟨es, cl, k1, (MRel.mono kind (fun _ _ h => h) (fun _ _ _ => rfl) kvs es.toList cl k2).perm hp⟩)
 have hobj : (⟨s.tmps, s.heap.set id (some (.map kvs'))⟩ : St).obj = updO s.obj id (some (.map kvs')) := obj_set hlt
 refine ⟨⟨updP g.at_ id (g.at_ id), g.im⟩, ⟨⟨fun t => ?_, h.go.rel.size, ?_⟩, ?_, h.go.df⟩, h.mks, h.lo⟩
 ·rw [hobj]; exact h3 _ _ (h.go.rel.tmp t)
 ·rw [hobj]; exact h1
 ·rw [hobj]; exact h.go.evo.trans h2
theorem tells_freeze1 {s : St} {id : Nat} {kvs : List (List D × V)} (ho : s.obj id = some (.map kvs)) : Tells tab s { s with heap := s.heap.set id (some (.cmap kvs)) } := by
 intro nt n0 g0 ob0 w0 g a w h
 have hlt : id < s.heap.length := obj_lt (by rw [ho]; rfl)
 obtain ⟨g2, hP⟩ := freeze_map (tab := tab) h.go.rel.heap ho
 have hobj : (⟨s.tmps, s.heap.set id (some (.cmap kvs))⟩ : St).obj = updO s.obj id (some (.cmap kvs)) := obj_set hlt
 refine ⟨g2, ⟨⟨fun t => ?_, h.go.rel.size, ?_⟩, ?_, h.go.df⟩, h.mks, h.lo⟩
 ·rw [hobj]; exact hP.vals _ _ (h.go.rel.tmp t)
 ·rw [hobj]; exact hP.heap
 ·rw [hobj]; exact h.go.evo.trans hP.evo
theorem tells_freeze (tm : List (Nat × V)) : ∀ (h pre : List (Option Obj)), Tells tab ⟨tm, pre ++ h⟩ ⟨tm, pre ++ h.map freezeO⟩
 | [], pre => by simpa using Tells.refl _
 | o :: h, pre => by
  have ih := tells_freeze tm h (pre ++ [freezeO o])
  simp only [List.append_assoc, List.singleton_append] at ih
  refine Tells.trans ?_ (by simpa using ih)
  cases o with
  | none => exact Tells.refl _
  | some ob =>
   cases ob with
   | map kvs =>
    have := tells_freeze1 (tab := tab) (s := ⟨tm, pre ++ some (.map kvs) :: h⟩) (id := pre.length) (kvs := kvs) (by unfold St.obj; simp)
    simpa [freezeO] using this
   | _ => exact Tells.refl _
theorem fn_snd (hB : BodyOk P tab) {fid : Nat} {fn : Func} (hf : P.funcs[fid]? = some fn) {cf : CFn} {notes : Notes} {outs : List (Nat × Array Nat × Code × Code × List Nat)} (hc : compFn P tab fn notes = some (cf, outs)) (ho : ∀ o ∈ outs, OutOk tab fn.ntmps o)
  {impl : List V → List (Option Obj) → Option (V × List (Option Obj))}
  (hs : ∀ args hp r hp', impl args hp = some (r, hp') → SndC P tab call n fn.ntmps cf.body (entry args hp) (fun ex s => (ex = .normal ∨ ex = .ret) ∧ result hp.length s cf.rets = some (r, hp'))) : FnOk P tab fid impl := by
 intro ds hp r hp' h g w vs hH hds
 unfold compFn at hc
 split at hc
 ·rename_i body hbody
  split at hc
  ·rename_i cc m' rets hcc hrets
   simp only [Qa, Qj] at hc
   obtain ⟨rfl, rfl⟩ := hc
   refine callsIn_wide.1 (callsIn_of_wp_marks (F := Fence.wide) (n := 0) hf hbody trivial ?_)
   refine hs ds hp r hp' h w.heap.size body _ m' hcc ho g (objOf hp) w g _ w ⟨entry_ok hH hds, ⟨fun d hd => (by cases hd), List.Pairwise.nil⟩, Nat.le_refl _⟩ _ (fun ex s g' a' w' hp1 hG => ?_)
   obtain ⟨hne, hres⟩ := hp1
   have hfin := leaves_ok hrets hres a'.defers w' hG.go.rel hG.go.evo hG.mks
   rcases hne with rfl | rfl
   ·exact hfin
   ·exact hfin
  ·cases hc
 ·cases hc
end
end Ab
namespace Ab.Ci
open Go Ab
abbrev Pr := Int × Int
def kP (p : Pr) : List D := [.i .i64 p.1, .i .i64 p.2]
def pK : List D → Option Pr
 | [.i .i64 a, .i .i64 b] => some (a, b)
 | _ => none
theorem pK_some {k : List D} {p : Pr} (h : pK k = some p) : k = kP p := by
 unfold pK at h
 split at h
 ·cases h; rfl
 ·cases h
def pKs : List (List D × V) → Option (List Pr)
 | [] => some []
 | (k, _) :: r => match pK k, pKs r with
  | some p, some ps => some (p :: ps)
  | _, _ => none
def mapO : Option Obj → Option (List (List D × V))
 | some (.map kvs) => some kvs
 | some (.cmap kvs) => some kvs
 | _ => none
def graphOf (hp : List (Option Obj)) : List (List D × V) → Option (List (Pr × List Pr))
 | [] => some []
 | (k, .map id) :: r => match pK k, mapO (hp[id]?).join, graphOf hp r with
  | some p, some inner, some g => match pKs inner with
   | some l => some ((p, l) :: g)
   | none => none
  | _, _, _ => none
 | _ :: _ => none
def succP (g : List (Pr × List Pr)) (x : Pr) : List Pr := match g.find? (fun e => e.1 == x) with
 | some e => e.2
 | none => []
def closeP (g : List (Pr × List Pr)) : Nat → List Pr → List Pr → Option (List Pr)
 | _, [], out => some out
 | 0, _ :: _, _ => none
 | f + 1, x :: r, out =>
  let new := (succP g x).filter fun y => !out.contains y
  closeP g f (new ++ r) (out ++ new)
def simpleV (n : Nat) : V → Bool
 | .d _ => true
 | .map id => decide (id < n)
 | _ => false
def simpleO (n : Nat) (o : Option Obj) : Bool := match mapO o with
 | some kvs => kvs.all fun p => simpleV n p.2
 | none => false
def kvOut (l : List Pr) : List (List D × V) := l.map fun p => (kP p, .d (.b true))
def refsAll : List (Option Obj) → Nat
 | [] => 0
 | o :: r => (Obj.refs o).length + refsAll r
def size2 (g : List (Pr × List Pr)) : Nat := g.foldl (fun n e => n + e.2.length) 2
def reachImpl : List V → List (Option Obj) → Option (V × List (Option Obj))
 | [.map a, .agg [.d (.i .i64 x), .d (.i .i64 y)]], hp => if hp.all (simpleO hp.length) then match mapO (hp[a]?).join with
   | some kvs => match graphOf hp kvs with
    | some g => if (g.all fun e => decide e.2.Nodup) then match closeP g (size2 g) [(x, y)] [] with
      | some out => if out.length ≤ 65536 ∧ hp.length + 1 + refsAll hp ≤ far then some (.map hp.length, hp.map freezeO ++ [some (.map (kvOut out))]) else none
      | none => none
     else none
    | none => none
   | none => none
  else none
 | _, _ => none
def reachN : Notes := { anns := [⟨[0, 5, 6], [], [], [6], [], true⟩, ⟨[0, 4, 5, 6, 29], [], [], [], [], true⟩], frz := [0, 0, 0, 0, 1, 0, 0, 0, 0, 0, 0, 0, 0, 0, 0, 0, 0, 0, 0, 0, 0, 0, 0, 0, 0, 0, 0, 0, 0, 0, 0, 0, 0, 0, 0, 0, 0, 0, 0, 0, 0, 0, 0, 1, 1], rgs := [] }
def reachC : CFn := ⟨.seq (.region false [
 ⟨(some 3), .box (.t 1), none, 0⟩,
 ⟨(some 4), .mv (.k (.d .nm)), none, 0⟩]) (
.seq (.region true [
 ⟨(some 9), .mkm, none, 0⟩,
 ⟨(some 10), .ld true 2 (.t 3), none, 0⟩,
 ⟨(some 11), .bsa 2 1 [(.i .i64 0), (.i .i64 0)] [(0, (.t 10))], none, 2⟩,
 ⟨(some 5), .mv (.t 9), none, 1⟩,
 ⟨(some 6), .mv (.t 11), none, 15⟩]) (
.seq (.block 0 (.loop ⟨[0, 5, 6], [], [], [6], [], true⟩ (.seq (.seq (.region false [
 ⟨(some 12), .mv (.t 6), none, 0⟩,
 ⟨(some 13), .len 0 (.t 12), none, 0⟩,
 ⟨(some 14), .bin .gtr (.t 13) (.k (.d (.i .i64 0))), none, 0⟩]) (
.cond (.t 14) (
.skip) (.exit 0))) (
.block 1 (.seq (.region false [
 ⟨(some 15), .mv (.t 6), none, 0⟩,
 ⟨(some 16), .mv (.t 6), none, 0⟩,
 ⟨(some 17), .len 0 (.t 16), none, 0⟩,
 ⟨(some 18), .bin .sub (.t 17) (.k (.d (.i .i64 1))), none, 0⟩,
 ⟨(some 19), .ia 2 (.t 15) (.t 18), none, 0⟩,
 ⟨(some 20), .ld true 2 (.t 19), none, 0⟩,
 ⟨(some 7), .zero (.agg [(.d (.i .i64 0)), (.d (.i .i64 0))]), none, 0⟩,
 ⟨none, .st 2 (.t 7) (.t 20), none, 0⟩]) (
.seq (.region false [
 ⟨(some 21), .mv (.t 6), none, 0⟩,
 ⟨(some 22), .mv (.t 6), none, 0⟩,
 ⟨(some 23), .len 0 (.t 22), none, 0⟩,
 ⟨(some 24), .bin .sub (.t 23) (.k (.d (.i .i64 1))), none, 0⟩,
 ⟨(some 25), .slc 2 (.t 21) none (some (.t 24)), none, 0⟩,
 ⟨(some 6), .mv (.t 25), none, 0⟩]) (
.rangeM [
 ⟨(some 26), .mv (.t 0), none, 0⟩,
 ⟨(some 27), .ld true 2 (.t 7), none, 0⟩,
 ⟨(some 28), .lk true [.i, .i] false (.d .nm) (.t 26) (.t 27), none, 0⟩] ⟨[0, 4, 5, 6, 29], [], [], [], [], true⟩ (.t 28) 29 32 2 (.block 3 (.seq (.region false [
 ⟨(some 33), .ext (.t 32) 0, none, 0⟩,
 ⟨(some 8), .zero (.agg [(.d (.i .i64 0)), (.d (.i .i64 0))]), none, 0⟩,
 ⟨none, .st 2 (.t 8) (.t 33), none, 0⟩]) (
.seq (.region false [
 ⟨(some 34), .mv (.t 5), none, 0⟩,
 ⟨(some 35), .ld true 2 (.t 8), none, 0⟩,
 ⟨(some 36), .lk true [.i, .i] false (.d (.b false)) (.t 34) (.t 35), none, 0⟩,
 ⟨(some 37), .un .not (.t 36), none, 0⟩]) (
.cond (.t 37) (
.seq (.region false [
 ⟨(some 38), .mv (.t 5), none, 0⟩,
 ⟨(some 39), .ld true 2 (.t 8), none, 0⟩,
 ⟨none, .mu true [.i, .i] (.t 38) (.t 39) (.k (.d (.b true))), none, 0⟩]) (
.region false [
 ⟨(some 40), .mv (.t 6), none, 0⟩,
 ⟨(some 41), .ld true 2 (.t 8), none, 0⟩,
 ⟨(some 42), .bsa 2 1 [(.i .i64 0), (.i .i64 0)] [(0, (.t 41))], none, 0⟩,
 ⟨(some 43), .apa 2 16 (.t 40) (.t 42), none, 0⟩,
 ⟨(some 6), .mv (.t 43), none, 0⟩])) (.skip)))))))))))) (
.seq (.region false [
 ⟨(some 44), .mv (.t 5), none, 0⟩,
 ⟨(some 4), .mv (.t 44), none, 0⟩]) (
.ret)))), [.slot 4]⟩
end Ab.Ci
namespace Ab.Ci
open Go Ab
theorem get_app {α : Type} (h l : List α) (k : Nat) : (h ++ l)[h.length + k]? = l[k]? := by
 rw [List.getElem?_append_right (by omega)]; congr 1; omega
theorem get_app0 {α : Type} (h l : List α) : (h ++ l)[h.length]? = l[0]? := get_app h l 0
theorem set_app {α : Type} (h l : List α) (k : Nat) (x : α) : (h ++ l).set (h.length + k) x = h ++ l.set k x := by
 rw [List.set_append_right _ _ (by omega)]; congr 2; omega
theorem set_app0 {α : Type} (h l : List α) (x : α) : (h ++ l).set h.length x = h ++ l.set 0 x := set_app h l 0 x
section
variable (C : CallF) (n : Nat) (hp : List (Option Obj))
def tm0 (a : Nat) (x y : Int) : List (Nat × V) := [(0, .map a), (1, .agg [.d (.i .i64 x), .d (.i .i64 y)])]
theorem reg0 (a : Nat) (x y : Int) : runRegion C false [
 ⟨(some 3), .box (.t 1), none, 0⟩,
 ⟨(some 4), .mv (.k (.d .nm)), none, 0⟩] ⟨tm0 a x y, hp⟩ = some ⟨(4, .d .nm) :: (3, .ptr hp.length 0) :: tm0 a x y, hp ++ [some (.box [.d (.i .i64 x), .d (.i .i64 y)])]⟩ := by
 simp [runRegion, runOps, opEff, wanted, Cop.isCall, St.ev, St.get, look, St.obj, Cop.args, Cop.ids, Cop.wr, Cop.nmk, Cop.mk, act, Res.nws, Eff.on, setObjs, St.put, St.set, countMk, V.cel, tm0, List.range', get_app0, set_app0, get_app, set_app]
theorem reg1 (tm : List (Nat × V)) (x y : Int) (h3 : look tm 3 = .ptr hp.length 0) : runRegion C true [
 ⟨(some 9), .mkm, none, 0⟩,
 ⟨(some 10), .ld true 2 (.t 3), none, 0⟩,
 ⟨(some 11), .bsa 2 1 [(.i .i64 0), (.i .i64 0)] [(0, (.t 10))], none, 2⟩,
 ⟨(some 5), .mv (.t 9), none, 1⟩,
 ⟨(some 6), .mv (.t 11), none, 15⟩] ⟨tm, hp ++ [some (.box [.d (.i .i64 x), .d (.i .i64 y)])]⟩ = some ⟨(6, .arr (hp.length + 2) 0 0 1) :: (5, .map (hp.length + 1)) :: (11, .arr (hp.length + 2) 0 0 1) :: (10, .agg [.d (.i .i64 x), .d (.i .i64 y)]) :: (9, .map (hp.length + 1)) :: tm,
  hp ++ [some (.box [.d (.i .i64 x), .d (.i .i64 y)]), some (.map []), some (.arr 0 2 [[.d (.i .i64 x), .d (.i .i64 y)]])]⟩ := by
 simp [runRegion, runOps, opEff, wanted, Cop.isCall, St.ev, St.get, look, St.obj, Cop.args, Cop.ids, Cop.wr, Cop.nmk, Cop.mk, act, Res.nws, Eff.on, setObjs, St.put, St.set, countMk, V.cel, List.range', get_app0, set_app0, get_app, set_app, h3, actLd, takeV, asVar, optV, fillA, zipI, ofDs, noRace, raceFrom, clash, Eff.new, Nat.add_assoc]
def oTm (a N ver len : Nat) : List (Nat × V) := [(0, .map a), (5, .map (N + 1)), (6, .arr (N + 2) ver 0 len)]
def oHp (hp : List (Option Obj)) (bx : List V) (kv : List (List D × V)) (ver : Nat) (rows : List (List V)) : List (Option Obj) := hp ++ [some (.box bx), some (.map kv), some (.arr ver 2 rows)]
def rowP (p : Pr) : List V := [.d (.i .i64 p.1), .d (.i .i64 p.2)]
theorem reg2 (bx : List V) (kv : List (List D × V)) (a ver len : Nat) (rows : List (List V)) : runRegion C false [
 ⟨(some 12), .mv (.t 6), none, 0⟩,
 ⟨(some 13), .len 0 (.t 12), none, 0⟩,
 ⟨(some 14), .bin .gtr (.t 13) (.k (.d (.i .i64 0))), none, 0⟩] ⟨oTm a hp.length ver len, oHp hp bx kv ver rows⟩ = some ⟨(14, .d (.b (decide (0 < len)))) :: (13, .d (.i .i64 len)) :: (12, .arr (hp.length + 2) ver 0 len) :: oTm a hp.length ver len, oHp hp bx kv ver rows⟩ := by
 simp [runRegion, runOps, opEff, wanted, Cop.isCall, St.ev, St.get, look, St.obj, Cop.args, Cop.ids, Cop.wr, Cop.nmk, Cop.mk, act, Res.nws, Eff.on, setObjs, St.put, St.set, countMk, oTm, oHp, List.range', optD, binOp, isShift, binInt]
theorem reg3 (tm : List (Nat × V)) (bx : List V) (kv : List (List D × V)) (ver len : Nat) (rows : List (List V)) (p : Pr) (h6 : look tm 6 = .arr (hp.length + 2) ver 0 (len + 1)) (hl : (len : Int) < 4611686018427387904) (hr : rows[len]? = some (rowP p)) : runRegion C false [
 ⟨(some 15), .mv (.t 6), none, 0⟩,
 ⟨(some 16), .mv (.t 6), none, 0⟩,
 ⟨(some 17), .len 0 (.t 16), none, 0⟩,
 ⟨(some 18), .bin .sub (.t 17) (.k (.d (.i .i64 1))), none, 0⟩,
 ⟨(some 19), .ia 2 (.t 15) (.t 18), none, 0⟩,
 ⟨(some 20), .ld true 2 (.t 19), none, 0⟩,
 ⟨(some 7), .zero (.agg [(.d (.i .i64 0)), (.d (.i .i64 0))]), none, 0⟩,
 ⟨none, .st 2 (.t 7) (.t 20), none, 0⟩] ⟨tm, oHp hp bx kv ver rows⟩ = some ⟨(7, .ptr (hp.length + 3) 0) :: (20, .agg (rowP p)) :: (19, .pm (hp.length + 2) ver len 0) :: (18, .d (.i .i64 len)) :: (17, .d (.i .i64 (len + 1))) :: (16, .arr (hp.length + 2) ver 0 (len + 1)) :: (15, .arr (hp.length + 2) ver 0 (len + 1)) :: tm, oHp hp bx kv ver rows ++ [some (.box (rowP p))]⟩ := by
 have hw : IntKind.i64.wrap (len : Int) = len := Go.IntWalk.i64_in len ⟨by omega, by omega⟩
 have h1 : (len : Int) < (len : Int) + 1 := by omega
 simp [runRegion, runOps, opEff, wanted, Cop.isCall, St.ev, St.get, look, St.obj, Cop.args, Cop.ids, Cop.wr, Cop.nmk, Cop.mk, act, Res.nws, Eff.on, setObjs, St.put, St.set, countMk, oHp, List.range', optD, binOp, isShift, binInt, h6, hw, h1, actIa, optV, actLd, hr, takeV, asVar, rowP, V.cells, V.cel, actSt, over, Nat.add_assoc, get_app, get_app0, set_app, set_app0, V.undef]
theorem reg4 (tm : List (Nat × V)) (h : List (Option Obj)) (ver len : Nat) (rows : List (List V)) (id : Nat) (h6 : look tm 6 = .arr id ver 0 (len + 1)) (ho : (h[id]?).join = some (.arr ver 2 rows)) (hl : (len : Int) < 4611686018427387904) : runRegion C false [
 ⟨(some 21), .mv (.t 6), none, 0⟩,
 ⟨(some 22), .mv (.t 6), none, 0⟩,
 ⟨(some 23), .len 0 (.t 22), none, 0⟩,
 ⟨(some 24), .bin .sub (.t 23) (.k (.d (.i .i64 1))), none, 0⟩,
 ⟨(some 25), .slc 2 (.t 21) none (some (.t 24)), none, 0⟩,
 ⟨(some 6), .mv (.t 25), none, 0⟩] ⟨tm, h⟩ = some ⟨(6, .arr id ver 0 len) :: (25, .arr id ver 0 len) :: (24, .d (.i .i64 len)) :: (23, .d (.i .i64 (len + 1))) :: (22, .arr id ver 0 (len + 1)) :: (21, .arr id ver 0 (len + 1)) :: tm, h⟩ := by
 have hw : IntKind.i64.wrap (len : Int) = len := Go.IntWalk.i64_in len ⟨by omega, by omega⟩
 have h1 : (len : Int) ≤ (len : Int) + 1 := by omega
 simp [runRegion, runOps, opEff, wanted, Cop.isCall, St.ev, St.get, look, St.obj, Cop.args, Cop.ids, Cop.wr, Cop.nmk, Cop.mk, act, Res.nws, Eff.on, setObjs, St.put, St.set, countMk, List.range', optD, binOp, isShift, binInt, h6, hw, optV, actSlc, ho, bounds, h1]
theorem reg5 (tm : List (Nat × V)) (h : List (Option Obj)) (a b : Nat) (p : Pr) (kvs : List (List D × V)) (k : Nat) (h0 : look tm 0 = .map a) (h7 : look tm 7 = .ptr b 0) (ha : (h[a]?).join = some (.cmap kvs)) (hb : (h[b]?).join = some (.box (rowP p))) (hk : mapAt [.i, .i] (kP p) kvs = some k) : runRegion C false [
 ⟨(some 26), .mv (.t 0), none, 0⟩,
 ⟨(some 27), .ld true 2 (.t 7), none, 0⟩,
 ⟨(some 28), .lk true [.i, .i] false (.d .nm) (.t 26) (.t 27), none, 0⟩] ⟨tm, h⟩ = some ⟨(28, got false (.d .nm) kvs[k]?) :: (27, .agg (rowP p)) :: (26, .map a) :: tm, h⟩ := by
 simp only [kP] at hk
 simp [runRegion, runOps, opEff, wanted, Cop.isCall, St.ev, St.get, look, St.obj, Cop.args, Cop.ids, Cop.wr, Cop.nmk, Cop.mk, act, Res.nws, Eff.on, setObjs, St.put, St.set, countMk, List.range', h0, h7, optV, actLd, ha, hb, takeV, asVar, rowP, actLk, keyD, okKey, V.cells, V.toDs, V.toD, hk]
def iTm (a N ver len : Nat) : List (Nat × V) := [(0, .map a), (4, .bad), (5, .map (N + 1)), (6, .arr (N + 2) ver 0 len), (29, .ptr (N + 4) 0)]
def iHp (hp : List (Option Obj)) (bx : List V) (kv : List (List D × V)) (ver : Nat) (rows : List (List V)) (p : Pr) : List (Option Obj) := hp ++ [some (.box bx), some (.map kv), some (.arr ver 2 rows), some (.box (rowP p)), some (.cst [])]
theorem reg7 (tm : List (Nat × V)) (h : List (Option Obj)) (q : Pr) (v : V) : runRegion C false [
 ⟨(some 33), .ext (.t 32) 0, none, 0⟩,
 ⟨(some 8), .zero (.agg [(.d (.i .i64 0)), (.d (.i .i64 0))]), none, 0⟩,
 ⟨none, .st 2 (.t 8) (.t 33), none, 0⟩] ⟨(32, .tup [.agg (rowP q), v]) :: tm, h⟩ = some ⟨(8, .ptr h.length 0) :: (33, .agg (rowP q)) :: (32, .tup [.agg (rowP q), v]) :: tm, h ++ [some (.box (rowP q))]⟩ := by
 simp [runRegion, runOps, opEff, wanted, Cop.isCall, St.ev, St.get, look, St.obj, Cop.args, Cop.ids, Cop.wr, Cop.nmk, Cop.mk, act, Res.nws, Eff.on, setObjs, St.put, St.set, countMk, List.range', optV, rowP, V.cells, V.cel, actSt, over, get_app0, set_app0, V.undef]
theorem reg8 (tm : List (Nat × V)) (h : List (Option Obj)) (m b : Nat) (q : Pr) (kv : List (List D × V)) (k : Nat) (x : Bool) (h5 : look tm 5 = .map m) (h8 : look tm 8 = .ptr b 0) (hm : (h[m]?).join = some (.map kv)) (hb : (h[b]?).join = some (.box (rowP q))) (hk : mapAt [.i, .i] (kP q) kv = some k) (hx : got false (.d (.b false)) kv[k]? = .d (.b x)) : runRegion C false [
 ⟨(some 34), .mv (.t 5), none, 0⟩,
 ⟨(some 35), .ld true 2 (.t 8), none, 0⟩,
 ⟨(some 36), .lk true [.i, .i] false (.d (.b false)) (.t 34) (.t 35), none, 0⟩,
 ⟨(some 37), .un .not (.t 36), none, 0⟩] ⟨tm, h⟩ = some ⟨(37, .d (.b (!x))) :: (36, .d (.b x)) :: (35, .agg (rowP q)) :: (34, .map m) :: tm, h⟩ := by
 simp only [kP] at hk
 simp [runRegion, runOps, opEff, wanted, Cop.isCall, St.ev, St.get, look, St.obj, Cop.args, Cop.ids, Cop.wr, Cop.nmk, Cop.mk, act, Res.nws, Eff.on, setObjs, St.put, St.set, countMk, List.range', h5, h8, optV, optD, actLd, hm, hb, takeV, asVar, rowP, actLk, keyD, okKey, V.cells, V.toDs, V.toD, hk, hx, unOp]
theorem reg9 (tm : List (Nat × V)) (h : List (Option Obj)) (m b : Nat) (q : Pr) (kv : List (List D × V)) (h5 : look tm 5 = .map m) (h8 : look tm 8 = .ptr b 0) (hm : (h[m]?).join = some (.map kv)) (hb : (h[b]?).join = some (.box (rowP q))) (hk : mapAt [.i, .i] (kP q) kv = some kv.length) : runRegion C false [
 ⟨(some 38), .mv (.t 5), none, 0⟩,
 ⟨(some 39), .ld true 2 (.t 8), none, 0⟩,
 ⟨none, .mu true [.i, .i] (.t 38) (.t 39) (.k (.d (.b true))), none, 0⟩] ⟨tm, h⟩ = some ⟨(39, .agg (rowP q)) :: (38, .map m) :: tm, h.set m (some (.map (kv ++ [(kP q, .d (.b true))])))⟩ := by
 simp only [kP] at hk
 simp [runRegion, runOps, opEff, wanted, Cop.isCall, St.ev, St.get, look, St.obj, Cop.args, Cop.ids, Cop.wr, Cop.nmk, Cop.mk, act, Res.nws, Eff.on, setObjs, St.put, St.set, countMk, List.range', h5, h8, optV, optD, actLd, hm, hb, takeV, asVar, rowP, actMu, keyD, okKey, V.cells, V.toDs, V.toD, hk, kP, V.undef]
theorem reg10 (tm : List (Nat × V)) (h : List (Option Obj)) (id b ver len : Nat) (q : Pr) (rows : List (List V)) (h6 : look tm 6 = .arr id ver 0 len) (h8 : look tm 8 = .ptr b 0) (hi : (h[id]?).join = some (.arr ver 2 rows)) (hil : id < h.length) (hb : (h[b]?).join = some (.box (rowP q))) (hlen : len ≤ rows.length) (hro : roomy (len + 1) 16 = true) : runRegion C false [
 ⟨(some 40), .mv (.t 6), none, 0⟩,
 ⟨(some 41), .ld true 2 (.t 8), none, 0⟩,
 ⟨(some 42), .bsa 2 1 [(.i .i64 0), (.i .i64 0)] [(0, (.t 41))], none, 0⟩,
 ⟨(some 43), .apa 2 16 (.t 40) (.t 42), none, 0⟩,
 ⟨(some 6), .mv (.t 43), none, 0⟩] ⟨tm, h⟩ = some ⟨(6, .arr id (ver + 1) 0 (len + 1)) :: (43, .arr id (ver + 1) 0 (len + 1)) :: (42, .arr h.length 0 0 1) :: (41, .agg (rowP q)) :: (40, .arr id ver 0 len) :: tm, ((h ++ [some (Obj.arr 0 2 [rowP q]), none]).set id (some (Obj.arr (ver + 1) 2 (rows.take len ++ [rowP q])))).set h.length (some (Obj.arr 0 2 [rowP q]))⟩ := by
 have e1 : ∀ (l : List (Option Obj)), (h ++ l)[id]? = h[id]? := fun l => List.getElem?_append_left hil
 have hne : id ≠ h.length := by omega
 have hbl : b < h.length := by
  rcases Qn b h.length with k | k
  ·exact k
  ·rw [Qe k] at hb; cases hb
 have e2 : ∀ (l : List (Option Obj)), (h ++ l)[b]? = h[b]? := fun l => List.getElem?_append_left hbl
 simp [runRegion, runOps, opEff, wanted, Cop.isCall, St.ev, St.get, look, St.obj, Cop.args, Cop.ids, Cop.wr, Cop.nmk, Cop.mk, act, Res.nws, Eff.on, setObjs, St.put, St.set, countMk, List.range', h6, h8, optV, optD, actLd, hi, hb, takeV, asVar, rowP, V.cells, V.cel, fillA, zipI, ofDs, actApa, apaArr, arrMore, V.other, hlen, hro, e1, e2, get_app0, set_app0, hne, Ne.symm hne]
end
end Ab.Ci
namespace Ab.Ci
open Go Ab
theorem eqDs_kP (p q : Pr) : eqDs [.i, .i] (kP p) (kP q) = some (p == q) := by
 obtain ⟨a, b⟩ := p
 obtain ⟨c, d⟩ := q
 simp [kP, eqDs, eqD]
 rfl
theorem out_new {q : Pr} : ∀ {l : List Pr}, q ∉ l → mapAt [.i, .i] (kP q) (kvOut l) = some (kvOut l).length
 | [], _ => rfl
 | p :: l, h => by
  simp only [List.mem_cons, not_or] at h
  have ih := out_new h.2
  simp only [kvOut] at ih
  simp only [kvOut, Qb, mapAt, eqDs_kP, beq_eq_false_iff_ne.2 h.1, ih, List.length_cons]
theorem out_old {q : Pr} : ∀ {l : List Pr}, q ∈ l → ∃ k, mapAt [.i, .i] (kP q) (kvOut l) = some k ∧ (kvOut l)[k]? = some (kP q, .d (.b true))
 | p :: l, h => by
  by_cases e : q = p
  ·subst e; exact ⟨0, by simp [kvOut, mapAt, eqDs_kP], rfl⟩
  ·obtain ⟨k, h1, h2⟩ := out_old ((List.mem_cons.1 h).resolve_left e)
   simp only [kvOut] at h1 h2
   exact ⟨k + 1, by simp only [kvOut, Qb, mapAt, eqDs_kP, beq_eq_false_iff_ne.2 e, h1], by simpa [kvOut] using h2⟩
theorem graph_at {hp : List (Option Obj)} (x : Pr) : ∀ {kvs : List (List D × V)} {g : List (Pr × List Pr)}, graphOf hp kvs = some g → ∃ k, mapAt [.i, .i] (kP x) kvs = some k ∧
  ((g.find? (fun e => e.1 == x) = none ∧ kvs[k]? = none) ∨ ∃ e id inner, g.find? (fun e => e.1 == x) = some e ∧ kvs[k]? = some (kP x, .map id) ∧ mapO (hp[id]?).join = some inner ∧ pKs inner = some e.2)
 | [], g, h => by
  simp only [graphOf, Qa] at h
  subst h
  exact ⟨0, rfl, .inl ⟨rfl, rfl⟩⟩
 | (k, v) :: r, g, h => by
  cases v with
  | map id =>
   simp only [graphOf] at h
   split at h
   ·rename_i p inner g' h1 h2 h3
    split at h
    ·rename_i l hl
     simp only [Qa] at h
     subst h
     have hk := pK_some h1
     subst hk
     by_cases e : x = p
     ·subst e
      exact ⟨0, by simp [mapAt, eqDs_kP], .inr ⟨(x, l), id, inner, by simp, rfl, h2, hl⟩⟩
     ·obtain ⟨n, m1, m2⟩ := graph_at x h3
      refine ⟨n + 1, by simp only [mapAt, eqDs_kP, beq_eq_false_iff_ne.2 e, m1], ?_⟩
      have hne : (p == x) = false := beq_eq_false_iff_ne.2 (Ne.symm e)
      simp only [List.find?_cons, hne, List.getElem?_cons_succ]
      exact m2
    ·cases h
   ·cases h
  | _ => simp [graphOf] at h
theorem pKs_mem : ∀ {kvs : List (List D × V)} {l : List Pr}, pKs kvs = some l → (∀ e ∈ kvs, ∃ q ∈ l, e.1 = kP q) ∧ (∀ q ∈ l, ∃ e ∈ kvs, e.1 = kP q)
 | [], l, h => by simp only [pKs, Qa] at h; subst h; simp
 | (k, v) :: r, l, h => by
  simp only [pKs] at h
  split at h
  ·rename_i p ps h1 h2
   simp only [Qa] at h
   subst h
   obtain ⟨k1, k2⟩ := pKs_mem h2
   refine ⟨fun e he => ?_, fun q hq => ?_⟩
   ·rcases List.mem_cons.1 he with rfl | he
    ·exact ⟨p, List.mem_cons_self, pK_some h1⟩
    ·obtain ⟨q, a, b⟩ := k1 e he; exact ⟨q, List.mem_cons_of_mem _ a, b⟩
   ·rcases List.mem_cons.1 hq with rfl | hq
    ·exact ⟨_, List.mem_cons_self, pK_some h1⟩
    ·obtain ⟨e, a, b⟩ := k2 q hq; exact ⟨e, List.mem_cons_of_mem _ a, b⟩
  ·cases h
theorem kP_inj {p q : Pr} (h : kP p = kP q) : p = q := by
 obtain ⟨a, b⟩ := p
 obtain ⟨c, d⟩ := q
 simp only [kP, List.cons.injEq, D.i.injEq, true_and, and_true] at h
 exact Prod.ext h.1 h.2
inductive Far (g : List (Pr × List Pr)) (s : Pr) : Pr → Prop
 | one {y : Pr} (h : y ∈ succP g s) : Far g s y
 | more {x y : Pr} (h : Far g s x) (k : y ∈ succP g x) : Far g s y
structure Inv (g : List (Pr × List Pr)) (s : Pr) (l td : List Pr) : Prop where
 nd : l.Nodup
 far : ∀ y ∈ l, Far g s y
 todo : ∀ x ∈ td, x = s ∨ x ∈ l
 done : ∀ x, x = s ∨ x ∈ l → x ∈ td ∨ ∀ y ∈ succP g x, y ∈ l
theorem Inv.all {g : List (Pr × List Pr)} {s : Pr} {l : List Pr} (h : Inv g s l []) : ∀ y, Far g s y → y ∈ l := fun y hy => by
 induction hy with
 | one hy => exact ((h.done s (.inl rfl)).resolve_left (by simp)) _ hy
 | more _ k ih => exact ((h.done _ (.inr ih)).resolve_left (by simp)) _ k
theorem Inv.perm {g : List (Pr × List Pr)} {s : Pr} {l m : List Pr} (h : Inv g s l []) (k : Inv g s m []) : l.Perm m :=
 (List.perm_ext_iff_of_nodup h.nd k.nd).2 fun y => ⟨fun hy => k.all y (h.far y hy), fun hy => h.all y (k.far y hy)⟩
theorem Inv.start (g : List (Pr × List Pr)) (s : Pr) : Inv g s [] [s] :=
 ⟨.nil, by simp, by simp, fun x hx => .inl (by simpa using hx)⟩
theorem close_inv {g : List (Pr × List Pr)} (hg : ∀ e ∈ g, e.2.Nodup) {s : Pr} : ∀ {f : Nat} {td l out : List Pr}, closeP g f td l = some out → Inv g s l td → Inv g s out []
 | _, [], l, out, h, hi => by simp only [closeP, Qa] at h; subst h; exact hi
 | 0, _ :: _, l, out, h, hi => by simp [closeP] at h
 | f + 1, x :: r, l, out, h, hi => by
  simp only [closeP] at h
  refine close_inv hg h ⟨?_, fun y hy => ?_, fun y hy => ?_, fun y hy => ?_⟩
  ·have hn : (succP g x).Nodup := by
    unfold succP
    split
    ·rename_i e he; exact hg e (List.mem_of_find?_eq_some he)
    ·exact .nil
   refine List.nodup_append.2 ⟨hi.nd, List.Pairwise.filter _ hn, fun a ha b hb e => ?_⟩
   ·subst e
    simp only [List.mem_filter] at hb
    simp [ha] at hb
  ·rcases List.mem_append.1 hy with hy | hy
   ·exact hi.far y hy
   ·simp only [List.mem_filter] at hy
    rcases hi.todo x List.mem_cons_self with rfl | hx
    ·exact .one hy.1
    ·exact .more (hi.far x hx) hy.1
  ·rcases List.mem_append.1 hy with hy | hy
   ·exact .inr (List.mem_append.2 (.inr hy))
   ·exact (hi.todo y (List.mem_cons_of_mem _ hy)).imp id fun h => List.mem_append.2 (.inl h)
  ·have key : ∀ z ∈ succP g x, z ∈ l ++ (succP g x).filter (fun y => !l.contains y) := fun z hz => by
    by_cases hzl : z ∈ l
    ·exact List.mem_append.2 (.inl hzl)
    ·exact List.mem_append.2 (.inr (by simp only [List.mem_filter]; exact ⟨hz, by simpa using hzl⟩))
   by_cases e : y = x
   ·subst e; exact .inr key
   ·have old : y = s ∨ y ∈ l → y ∈ (succP g x).filter (fun y => !l.contains y) ++ r ∨ ∀ z ∈ succP g y, z ∈ l ++ (succP g x).filter (fun y => !l.contains y) := fun h => by
     rcases hi.done y h with h | h
     ·exact .inl (List.mem_append.2 (.inr ((List.mem_cons.1 h).resolve_left e)))
     ·exact .inr fun z hz => List.mem_append.2 (.inl (h z hz))
    rcases hy with hy | hy
    ·exact old (.inl hy)
    ·rcases List.mem_append.1 hy with hy | hy
     ·exact old (.inr hy)
     ·exact .inl (List.mem_append.2 (.inl hy))
theorem simple_freeze {n : Nat} {o : Option Obj} (h : simpleO n o = true) : simpleO n (freezeO o) = true ∧ ∃ kvs, freezeO o = some (.cmap kvs) ∧ mapO o = some kvs ∧ ∀ p ∈ kvs, simpleV n p.2 = true := by
 unfold simpleO at *
 cases o with
 | none => simp [mapO] at h
 | some o =>
  cases o <;> simp only [mapO, freezeO] at * <;> first | (cases h; done) | exact ⟨h, _, rfl, rfl, fun p hp => List.all_eq_true.1 h p hp⟩
theorem simple_norm {n m : Nat} (hle : n ≤ m) {h : List (Option Obj)} {kvs : List (List D × V)} (hs : ∀ p ∈ kvs, simpleV n p.2 = true) : Obj.under m (some (.cmap kvs)) = true ∧ normObj h (some (.cmap kvs)) = some (.cmap kvs) ∧ (∀ f : Nat → Nat, (∀ i, i < n → f i = i) → Obj.ren f noShift 0 (.cmap kvs) = .cmap kvs) ∧ ∀ i ∈ Obj.refs (some (.cmap kvs)), i < n := by
 have one : ∀ v, simpleV n v = true → V.under m v = true ∧ normV h v = v ∧ (∀ f : Nat → Nat, (∀ i, i < n → f i = i) → V.ren f noShift v = v) ∧ ∀ i ∈ V.refs v, i < n := fun v hv => by
  cases v with
  | d x => exact ⟨rfl, by simp [normV, normC, V.fine], fun f hf => rfl, by simp [V.refs]⟩
  | map id =>
   simp only [simpleV, Qh] at hv
   exact ⟨by simp [V.under]; omega, by simp [normV, normC, V.fine], fun f hf => by simp [V.ren, hf id hv], by simp [V.refs, hv]⟩
  | _ => simp [simpleV] at hv
 have k1 : ∀ kvs : List (List D × V), (∀ p ∈ kvs, simpleV n p.2 = true) → underKvs m kvs = true ∧ kvs.map (fun p => (p.1, normV h p.2)) = kvs ∧ (∀ f : Nat → Nat, (∀ i, i < n → f i = i) → renKvs f noShift kvs = kvs) ∧ ∀ i ∈ refsKvs kvs, i < n := by
  intro kvs
  induction kvs with
  | nil => intro _; exact ⟨rfl, rfl, fun _ _ => rfl, by simp [refsKvs]⟩
  | cons p kvs ih =>
   obtain ⟨k, v⟩ := p
   intro hs
   obtain ⟨a1, a2, a3, a4⟩ := one v (hs _ List.mem_cons_self)
   obtain ⟨b1, b2, b3, b4⟩ := ih fun p hp => hs p (List.mem_cons_of_mem _ hp)
   refine ⟨by simp [underKvs, a1, b1], by simp only [Qb, a2, b2], fun f hf => by simp only [renKvs, a3 f hf, b3 f hf], fun i hi => ?_⟩
   simp only [refsKvs, List.mem_append] at hi
   exact hi.elim (a4 i) (b4 i)
 obtain ⟨c1, c2, c3, c4⟩ := k1 kvs hs
 exact ⟨c1, by simp only [normObj, c2], fun f hf => by simp only [Obj.ren, c3 f hf], c4⟩
structure Simple (n : Nat) (hp : List (Option Obj)) : Prop where
 all : ∀ o ∈ hp, ∃ kvs, o = some (.cmap kvs) ∧ ∀ p ∈ kvs, simpleV n p.2 = true
theorem Simple.under {n m : Nat} (hle : n ≤ m) {hp : List (Option Obj)} (h : Simple n hp) : hp.all (Obj.under m) = true :=
 List.all_eq_true.2 fun o ho => by obtain ⟨kvs, rfl, hk⟩ := h.all o ho; exact (simple_norm (h := []) hle hk).1
theorem Simple.norm {n : Nat} {hp : List (Option Obj)} (h : Simple n hp) (g : List (Option Obj)) : hp.map (normObj g) = hp := by
 conv => rhs; rw [← List.map_id hp]
 exact List.map_congr_left fun o ho => by obtain ⟨kvs, rfl, hk⟩ := h.all o ho; exact (simple_norm (h := g) (Nat.le_refl n) hk).2.1
theorem freeze_simple {hp : List (Option Obj)} (h : hp.all (simpleO hp.length) = true) : Simple hp.length (hp.map freezeO) :=
 ⟨fun o ho => by
  obtain ⟨o', h1, rfl⟩ := List.mem_map.1 ho
  obtain ⟨_, kvs, k1, _, k2⟩ := simple_freeze (List.all_eq_true.1 h o' h1)
  exact ⟨kvs, k1, k2⟩⟩
end Ab.Ci
namespace Ab.Ci
open Go Ab
theorem under_out (n : Nat) : ∀ l : List Pr, underKvs n (kvOut l) = true
 | [] => rfl
 | p :: l => by
  have := under_out n l
  simp only [kvOut] at this
  simp [kvOut, underKvs, V.under, this]
theorem norm_out (h : List (Option Obj)) (l : List Pr) : (kvOut l).map (fun p => (p.1, normV h p.2)) = kvOut l := by
 simp [kvOut, normV, normC, V.fine]
theorem under_rows (n : Nat) : ∀ rs : List Pr, underRows n (rs.map rowP) = true
 | [] => rfl
 | p :: rs => by simp [underRows, rowP, V.underAll, V.under, under_rows n rs]
theorem norm_rows (h : List (Option Obj)) (rs : List Pr) : (rs.map rowP).map (fun r => r.map (normC h)) = rs.map rowP := by
 simp [rowP, normC, V.fine]
def oOs (s : Pr) (l : List Pr) (ver : Nat) (rs : List Pr) : List (Option Obj) := [some (.box (rowP s)), some (.map (kvOut l)), some (.arr ver 2 (rs.map rowP))]
def iOs (s : Pr) (l : List Pr) (ver : Nat) (rs : List Pr) (p : Pr) : List (Option Obj) := [some (.box (rowP s)), some (.map (kvOut l)), some (.arr ver 2 (rs.map rowP)), some (.box (rowP p)), some (.cst [])]
section
variable {hq : List (Option Obj)} (hS : Simple hq.length hq)
include hS
theorem oOs_ok (s : Pr) (l : List Pr) (ver : Nat) (rs : List Pr) : (hq ++ oOs s l ver rs).all (Obj.under (hq.length + 3)) = true ∧ ∀ h, (hq ++ oOs s l ver rs).map (normObj h) = hq ++ oOs s l ver rs := by
 refine ⟨?_, fun h => ?_⟩
 ·rw [List.all_append, hS.under (by omega)]
  simp [oOs, Obj.under, under_out, under_rows, rowP, V.underAll, V.under]
 ·rw [List.map_append, hS.norm]
  have := norm_rows h rs
  have h2 := norm_out h l
  simp only [oOs, Qb, Qc, normObj, this, h2]
  simp [rowP, normC, V.fine]
theorem iOs_ok (s : Pr) (l : List Pr) (ver : Nat) (rs : List Pr) (p : Pr) : (hq ++ iOs s l ver rs p).all (Obj.under (hq.length + 5)) = true ∧ ∀ h, (hq ++ iOs s l ver rs p).map (normObj h) = hq ++ iOs s l ver rs p := by
 refine ⟨?_, fun h => ?_⟩
 ·rw [List.all_append, hS.under (by omega)]
  simp [iOs, Obj.under, under_out, under_rows, rowP, V.underAll, V.under]
 ·rw [List.map_append, hS.norm]
  have := norm_rows h rs
  have h2 := norm_out h l
  simp only [iOs, Qb, Qc, normObj, this, h2]
  simp [rowP, normC, V.fine]
def oSt (hq : List (Option Obj)) (a : Nat) (s : Pr) (l : List Pr) (ver len : Nat) (rs : List Pr) : St := ⟨oTm a hq.length ver len, hq ++ oOs s l ver rs⟩
def iSt (hq : List (Option Obj)) (a : Nat) (s : Pr) (l : List Pr) (ver len : Nat) (rs : List Pr) (p : Pr) : St := ⟨iTm a hq.length ver len, hq ++ iOs s l ver rs p⟩
def annO : Ann := ⟨[0, 5, 6], [], [], [6], [], true⟩
def annI : Ann := ⟨[0, 4, 5, 6, 29], [], [], [], [], true⟩
theorem back_o {a : Nat} (ha : a < hq.length) {s : Pr} {l : List Pr} {ver len : Nat} {rs : List Pr} {tm : List (Nat × V)} (h0 : look tm 0 = .map a) (h5 : look tm 5 = .map (hq.length + 1)) (h6 : look tm 6 = .arr (hq.length + 2) ver 0 len) (ext : List (Option Obj)) :
  back annO (hq.length + 3) ⟨tm, hq ++ oOs s l ver rs ++ ext⟩ = some (oSt hq a s l ver len rs) := by
 obtain ⟨k1, k2⟩ := oOs_ok hS s l ver rs
 have ht : (hq ++ oOs s l ver rs ++ ext).take (hq.length + 3) = hq ++ oOs s l ver rs := List.take_left' (by simp [oOs])
 have hd : dats annO ⟨tm, hq ++ oOs s l ver rs ++ ext⟩ = ⟨(6, .arr (hq.length + 2) ver 0 len) :: tm, hq ++ oOs s l ver rs ++ ext⟩ := by
  simp [dats, annO, datSlot, St.get, h6, datV, datC, St.set]
 unfold back
 simp only [hd, ht, k1, k2]
 have hkeep : keepTmps ⟨(6, .arr (hq.length + 2) ver 0 len) :: tm, hq ++ oOs s l ver rs ++ ext⟩ annO.keep = [(0, .map a), (5, .map (hq.length + 1)), (6, .arr (hq.length + 2) ver 0 len)] := by
  simp [keepTmps, annO, St.get, look, h0, h5]
 rw [hkeep]
 have ha' : a < hq.length + 3 := by omega
 simp [annO, underTmps, V.under, ha', normTmps, normV, normC, V.fine, oSt, oTm, get_app, oOs]
theorem back_i {a : Nat} (ha : a < hq.length) {s : Pr} {l : List Pr} {ver len : Nat} {rs : List Pr} {p : Pr} {tm : List (Nat × V)} (h0 : look tm 0 = .map a) (h4 : look tm 4 = .bad) (h5 : look tm 5 = .map (hq.length + 1)) (h6 : look tm 6 = .arr (hq.length + 2) ver 0 len) (h29 : look tm 29 = .ptr (hq.length + 4) 0) (ext : List (Option Obj)) :
  back annI (hq.length + 5) ⟨tm, hq ++ iOs s l ver rs p ++ ext⟩ = some (iSt hq a s l ver len rs p) := by
 obtain ⟨k1, k2⟩ := iOs_ok hS s l ver rs p
 have ht : (hq ++ iOs s l ver rs p ++ ext).take (hq.length + 5) = hq ++ iOs s l ver rs p := List.take_left' (by simp [iOs])
 have hd : dats annI ⟨tm, hq ++ iOs s l ver rs p ++ ext⟩ = ⟨tm, hq ++ iOs s l ver rs p ++ ext⟩ := by simp [dats, annI]
 unfold back
 simp only [hd, ht, k1, k2]
 have hkeep : keepTmps ⟨tm, hq ++ iOs s l ver rs p ++ ext⟩ annI.keep = [(0, .map a), (4, .bad), (5, .map (hq.length + 1)), (6, .arr (hq.length + 2) ver 0 len), (29, .ptr (hq.length + 4) 0)] := by
  simp [keepTmps, annI, St.get, h0, h4, h5, h6, h29]
 rw [hkeep]
 have ha' : a < hq.length + 5 := by omega
 simp [annI, underTmps, V.under, ha', normTmps, normV, normC, V.fine, iSt, iTm, get_app, iOs]
end
theorem reach_done (obj : Nat → Option Obj) : ∀ (f : Nat) (ys dn : List Nat), (∀ y ∈ ys, y ∈ dn) → ys.length ≤ f → reach obj f ys dn = some dn
 | _, [], dn, _, _ => by cases ‹Nat› <;> rfl
 | 0, y :: ys, dn, _, h => by simp at h
 | f + 1, y :: ys, dn, hy, h => by
  have : dn.contains y = true := by simpa using hy y List.mem_cons_self
  simp only [reach, this, if_true]
  exact reach_done obj f ys dn (fun z hz => hy z (List.mem_cons_of_mem _ hz)) (by simpa using h)
def refsN (obj : Nat → Option Obj) : List Nat → Nat
 | [] => 0
 | x :: r => (Obj.refs (obj x)).length + refsN obj r
theorem reach_all (obj : Nat → Option Obj) : ∀ (f : Nat) (xs ys dn : List Nat), xs.Nodup → (∀ x ∈ xs, x ∉ dn) → (∀ x ∈ xs, ∀ r ∈ Obj.refs (obj x), r ∈ dn ++ xs) → (∀ y ∈ ys, y ∈ dn ++ xs) → xs.length + ys.length + refsN obj xs ≤ f → reach obj f (xs ++ ys) dn = some (dn ++ xs)
 | f, [], ys, dn, _, _, _, hy, h => by
  simp only [List.append_nil, List.nil_append] at *
  exact reach_done obj f ys dn hy (by simp at h; omega)
 | 0, x :: xs, ys, dn, _, _, _, _, h => by simp at h
 | f + 1, x :: xs, ys, dn, hn, hd, hr, hy, h => by
  have hx : dn.contains x = false := by simpa using hd x List.mem_cons_self
  simp only [List.cons_append, reach, hx, Qm, if_false]
  rw [List.append_assoc]
  have hn' := List.nodup_cons.1 hn
  refine (reach_all obj f xs (ys ++ Obj.refs (obj x)) (dn ++ [x]) hn'.2 (fun z hz => ?_) (fun z hz r hr' => ?_) (fun z hz => ?_) ?_).trans (by simp)
  ·simp only [List.mem_append, List.mem_singleton, not_or]
   exact ⟨hd z (List.mem_cons_of_mem _ hz), fun e => hn'.1 (e ▸ hz)⟩
  ·have := hr z (List.mem_cons_of_mem _ hz) r hr'
   simpa using this
  ·rcases List.mem_append.1 hz with hz | hz
   ·have := hy z hz; simpa using this
   ·have := hr x List.mem_cons_self z hz; simpa using this
  ·simp only [Qg, List.length_cons, refsN] at *; omega
theorem place_range {n i : Nat} (l : List Nat) : ∀ k, k ≤ i → i < k + n → placeOf (List.range' k n ++ l) i = i - k := by
 induction n with
 | zero => intro k h1 h2; omega
 | succ n ih =>
  intro k h1 h2
  rw [List.range'_succ, List.cons_append]
  simp only [placeOf]
  by_cases e : k = i
  ·rw [if_pos e]; omega
  ·rw [if_neg e, ih (k + 1) (by omega) (by omega)]; omega
theorem place_behind {n i : Nat} : ∀ k, k + n ≤ i → placeOf (List.range' k n ++ [i]) i = n := by
 induction n with
 | zero => intro k h; simp [placeOf]
 | succ n ih =>
  intro k h
  rw [List.range'_succ, List.cons_append]
  simp only [placeOf]
  rw [if_neg (by omega), ih (k + 1) (by omega)]
theorem renObjs_map (f sh : Nat → Nat) (g : Option Obj → Option Obj) : ∀ (l : List (Option Obj)) (i : Nat), (∀ o ∈ l, ∃ x, o = some x ∧ ∀ j, Obj.ren f sh j x = x) → renObjs f sh i l = some l
 | [], i, _ => rfl
 | o :: l, i, h => by
  obtain ⟨x, rfl, hx⟩ := h o List.mem_cons_self
  simp only [renObjs, renObjs_map f sh g l (i + 1) (fun o ho => h o (List.mem_cons_of_mem _ ho)), hx]
theorem refsAll_eq (f : Nat → Option Obj) : ∀ (l : List (Option Obj)) (k : Nat), (∀ i, i < l.length → f (k + i) = (l[i]?).join) → refsN f (List.range' k l.length) = refsAll l
 | [], k, _ => rfl
 | o :: l, k, h => by
  have h0 := h 0 (by simp)
  simp only [Nat.add_zero, List.getElem?_cons_zero, Option.join_some] at h0
  rw [List.length_cons, List.range'_succ]
  simp only [refsN, refsAll, h0]
  rw [refsAll_eq f l (k + 1) (fun i hi => by have := h (i + 1) (by simp; omega); rw [show k + 1 + i = k + (i + 1) by omega, this]; simp)]
theorem ren_out (f sh : Nat → Nat) (j : Nat) (l : List Pr) : Obj.ren f sh j (.map (kvOut l)) = .map (kvOut l) := by
 have : ∀ l : List Pr, renKvs f sh (kvOut l) = kvOut l := by
  intro l
  induction l with
  | nil => rfl
  | cons p l ih =>
   simp only [kvOut] at ih
   simp only [kvOut, Qb, renKvs, ih, V.ren]
 simp only [Obj.ren, this]
theorem refs_out (l : List Pr) : Obj.refs (some (.map (kvOut l))) = [] := by
 have : ∀ l : List Pr, refsKvs (kvOut l) = [] := by
  intro l
  induction l with
  | nil => rfl
  | cons p l ih =>
   simp only [kvOut] at ih
   simp only [kvOut, Qb, refsKvs, ih, V.refs, List.append_nil]
 simp only [Obj.refs, this]
theorem result_ok {hq : List (Option Obj)} (hS : Simple hq.length hq) (hf : hq.length + 1 + refsAll hq ≤ far) (s : Pr) (l : List Pr) (ver : Nat) (rs : List Pr) (tm : List (Nat × V)) (h4 : look tm 4 = .map (hq.length + 1)) :
  result hq.length ⟨tm, hq ++ oOs s l ver rs⟩ [.slot 4] = some (.map hq.length, hq ++ [some (.map (kvOut l))]) := by
 have hobj : ∀ i, i < hq.length → (⟨tm, hq ++ oOs s l ver rs⟩ : St).obj i = (hq[i]?).join := fun i hi => by
  unfold St.obj; simp only; rw [List.getElem?_append_left hi]
 have hob1 : (⟨tm, hq ++ oOs s l ver rs⟩ : St).obj (hq.length + 1) = some (.map (kvOut l)) := by
  unfold St.obj; simp [get_app, oOs]
 have hmem : ∀ i, i < hq.length → ∃ kvs, (hq[i]?).join = some (.cmap kvs) ∧ ∀ p ∈ kvs, simpleV hq.length p.2 = true := fun i hi => by
  obtain ⟨kvs, h1, h2⟩ := hS.all _ (List.getElem_mem hi)
  exact ⟨kvs, by rw [Qd hi, h1]; rfl, h2⟩
 have hreach : reach (⟨tm, hq ++ oOs s l ver rs⟩ : St).obj far (List.range' 0 hq.length ++ [hq.length + 1]) [] = some (List.range' 0 hq.length ++ [hq.length + 1]) := by
  have := reach_all (⟨tm, hq ++ oOs s l ver rs⟩ : St).obj far (List.range' 0 hq.length ++ [hq.length + 1]) [] [] ?_ (by simp) (fun x hx r hr => ?_) (by simp) ?_
  ·simpa using this
  ·refine List.nodup_append.2 ⟨List.nodup_range', by simp, fun a ha b hb e => ?_⟩
   subst e
   simp only [List.mem_singleton] at hb
   simp only [List.mem_range'_1] at ha
   omega
  ·simp only [List.nil_append, List.mem_append, List.mem_range'_1, List.mem_singleton] at *
   rcases hx with hx | rfl
   ·rw [hobj x (by omega)] at hr
    obtain ⟨kvs, k1, k2⟩ := hmem x (by omega)
    rw [k1] at hr
    have := (simple_norm (h := []) (Nat.le_refl _) k2).2.2.2 r hr
    omega
   ·rw [hob1, refs_out] at hr; cases hr
  ·have e1 : refsN (⟨tm, hq ++ oOs s l ver rs⟩ : St).obj (List.range' 0 hq.length) = refsAll hq := refsAll_eq _ hq 0 (fun i hi => by rw [Nat.zero_add]; exact hobj i hi)
   have e2 : ∀ (obj : Nat → Option Obj) (xs ys : List Nat), refsN obj (xs ++ ys) = refsN obj xs + refsN obj ys := by
    intro obj xs ys
    induction xs with
    | nil => simp [refsN]
    | cons x xs ih => simp only [List.cons_append, refsN, ih]; omega
   rw [e2, e1]
   simp only [refsN, hob1, refs_out, Qg, List.length_range', List.length_singleton, List.length_nil]
   omega
 have hL : (List.range' 0 hq.length ++ [hq.length + 1]).map (⟨tm, hq ++ oOs s l ver rs⟩ : St).obj = hq ++ [some (.map (kvOut l))] := by
  rw [List.map_append, List.map_singleton, hob1]
  congr 1
  refine List.ext_getElem? fun i => ?_
  rw [List.getElem?_map]
  rcases Qn i hq.length with h | h
  ·obtain ⟨kvs, k1, _⟩ := hmem i h
   rw [List.getElem?_range' h]
   simp only [Option.map_some, Nat.zero_add, Nat.one_mul, hobj i h, k1]
   rw [Qd h] at k1 ⊢
   simp only [Option.join_some] at k1
   rw [k1]
  ·rw [Qe (by simpa using h), Qe h]; rfl
 unfold result
 have hret : retAll ⟨tm, hq ++ oOs s l ver rs⟩ [.slot 4] = some [.map (hq.length + 1)] := by simp [retAll, retV, St.get, h4, V.hand]
 rw [hret]
 simp only [resultV, List.range_eq_range', V.refsAll, V.refs, List.append_nil, hreach, hL]
 rw [renObjs_map _ _ id (hq ++ [some (Obj.map (kvOut l))]) 0 (fun o ho => ?_)]
 ·simp only [answer, V.ren, place_behind 0 (show 0 + hq.length ≤ hq.length + 1 by omega)]
 ·rcases List.mem_append.1 ho with ho | ho
  ·obtain ⟨kvs, rfl, k2⟩ := hS.all o ho
   refine ⟨_, rfl, fun j => ?_⟩
   have := (simple_norm (h := []) (Nat.le_refl hq.length) k2).2.2.1 (placeOf (List.range' 0 hq.length ++ [hq.length + 1])) (fun i hi => by rw [place_range _ 0 (by omega) (by omega)]; omega)
   simpa only [Obj.ren] using this
  ·simp only [List.mem_singleton] at ho
   subst ho
   exact ⟨_, rfl, fun j => ren_out _ _ _ _⟩
end Ab.Ci
