/-
 The interpreter again, told by recursors: the kernel reckons it quickly. It is the same one.
-/
import Derived.Test.YthmlhnbjbbfklaaGreatPack3
set_option linter.unusedSimpArgs false
set_option linter.unusedVariables false
set_option linter.unusedSectionVars false
set_option linter.unnecessarySimpa false
namespace Ab
open Go
noncomputable section
def aMv (_ : A) (vs : List V) (os : List (Option Obj)) (fresh : Nat) : Option Res :=
 match vs with | [v] => some ⟨v, os, none⟩ | _ => none
def aPick (_ : A) (_ : A) (_ : A) (vs : List V) (os : List (Option Obj)) (fresh : Nat) : Option Res :=
 match vs with
  | [.d (.b c), a, b] => some ⟨if c then a else b, os, none⟩
  | _ => none
def aZero (z : V) (vs : List V) (os : List (Option Obj)) (fresh : Nat) : Option Res :=
 some ⟨.ptr fresh 0, os, some (.box z.cells)⟩
def aBox (_ : A) (vs : List V) (os : List (Option Obj)) (fresh : Nat) : Option Res :=
 match vs with
  | [v] => match v.cel with | some c => some ⟨.ptr fresh 0, os, some (.box c)⟩ | none => none
  | _ => none
def aBuild (z : List V) (ps : List (Nat × Nat × A)) (vs : List V) (os : List (Option Obj)) (fresh : Nat) : Option Res :=
 match fillV z (zipP ps vs) with | some cs => some ⟨.agg cs, os, none⟩ | none => none
def aBsl (sz : Nat) (len : Nat) (z : List D) (ps : List (Nat × A)) (vs : List V) (os : List (Option Obj)) (fresh : Nat) : Option Res :=
 match fillR sz (List.replicate len z) (zipI ps vs) with
  | some xs => some ⟨.own fresh 0 sz xs, os, some (.tok 0 sz)⟩
  | none => none
def aBsa (sz : Nat) (len : Nat) (z : List D) (ps : List (Nat × A)) (vs : List V) (os : List (Option Obj)) (fresh : Nat) : Option Res :=
 match fillA sz (List.replicate len (ofDs z)) (zipI ps vs) with
  | some xs => some ⟨.arr fresh 0 0 len, os, some (.arr 0 sz xs)⟩
  | none => none
def aLd (agg : Bool) (n : Nat) (_ : A) (vs : List V) (os : List (Option Obj)) (fresh : Nat) : Option Res :=
 optV (actLd agg n vs os) os
def aSt (n : Nat) (_ : A) (_ : A) (vs : List V) (os : List (Option Obj)) (fresh : Nat) : Option Res :=
 match actSt n vs os with | some os' => some ⟨.undef, os', none⟩ | none => none
def aNilc (_ : A) (vs : List V) (os : List (Option Obj)) (fresh : Nat) : Option Res :=
 match vs with
  | [.ptr id off] => some ⟨.ptr id off, os, none⟩
  | [.pm id ver idx off] => some ⟨.pm id ver idx off, os, none⟩
  | [.d (.q ds off)] => some ⟨.d (.q ds off), os, none⟩
  | [.d (.f k a c)] => some ⟨.d (.f k a c), os, none⟩
  | [.fn k a c] => some ⟨.fn k a c, os, none⟩
  | _ => none
def aBin (op : BinOp) (_ : A) (_ : A) (vs : List V) (os : List (Option Obj)) (fresh : Nat) : Option Res :=
 match vs with | [x, y] => optD (binOp op x y) os | _ => none
def aEqa (ks : List CK) (neg : Bool) (_ : A) (_ : A) (vs : List V) (os : List (Option Obj)) (fresh : Nat) : Option Res :=
 match vs with
  | [.agg x, .agg y] => match V.toDs x, V.toDs y with
   | some x, some y => match eqDs ks x y with | some r => some ⟨.d (.b (if neg then !r else r)), os, none⟩ | none => none
   | _, _ => none
  | _ => none
def aEqb (neg : Bool) (_ : A) (_ : A) (vs : List V) (os : List (Option Obj)) (fresh : Nat) : Option Res :=
 match vs with
  | [.d (.b x), .d (.b y)] => some ⟨.d (.b (if neg then x != y else x == y)), os, none⟩
  | _ => none
def aUn (op : UnOp) (_ : A) (vs : List V) (os : List (Option Obj)) (fresh : Nat) : Option Res :=
 match vs with | [x] => optD (unOp op x) os | _ => none
def aNils (neg : Bool) (_ : A) (vs : List V) (os : List (Option Obj)) (fresh : Nat) : Option Res :=
 match vs with
  | [x] => match nilSlice x with | some r => some ⟨.d (.b (if neg then !r else r)), os, none⟩ | none => none
  | _ => none
def aConv (k : IntKind) (_ : A) (vs : List V) (os : List (Option Obj)) (fresh : Nat) : Option Res :=
 match vs with | [.d (.i _ n)] => some ⟨.d (.i k (k.wrap n)), os, none⟩ | _ => none
def aSid (_ : A) (vs : List V) (os : List (Option Obj)) (fresh : Nat) : Option Res :=
 match vs with | [.d (.s x)] => some ⟨.d (.s x), os, none⟩ | _ => none
def aMkf (key : Nat) (f : List A) (_ : List A) (frz : Bool) (vs : List V) (os : List (Option Obj)) (fresh : Nat) : Option Res :=
  if frz then match nodupB (ptrIds vs), freezeCaps vs os with
   | true, some (c, os') => some ⟨.d (.f key (c.take f.length) (c.drop f.length)), os', none⟩
   | true, none => match os.all Option.isSome with
    | true => some ⟨.fn key (vs.take f.length) (vs.drop f.length), os, none⟩
    | false => none
   | _, _ => none
  else some ⟨.fn key (vs.take f.length) (vs.drop f.length), os, none⟩
def aMkm  (vs : List V) (os : List (Option Obj)) (fresh : Nat) : Option Res :=
 some ⟨.map fresh, os, some (.map [])⟩
def aMks (sz : Nat) (bytes : Nat) (z : List D) (ow : Bool) (_ : A) (_ : A) (vs : List V) (os : List (Option Obj)) (fresh : Nat) : Option Res :=
 match vs with
  | [.d (.i _ l), .d (.i _ c)] => if 0 ≤ l ∧ l ≤ c ∧ roomy c.toNat bytes then
    if l = 0 ∨ ow = true then some ⟨.own fresh 0 sz (List.replicate l.toNat z), os, some (.tok 0 sz)⟩
    else if l = c then some ⟨.arr fresh 0 0 l.toNat, os, some (.arr 0 sz (List.replicate l.toNat (ofDs z)))⟩ else none
   else none
  | _ => none
def aBts (_ : A) (vs : List V) (os : List (Option Obj)) (fresh : Nat) : Option Res :=
 match vs with
  | [v] => match bytesV v with | some b => some ⟨.d (.s b), os, none⟩ | none => none
  | _ => none
def aSlc (sz : Nat) (_ : A) (lo : Option A) (hi : Option A) (vs : List V) (os : List (Option Obj)) (fresh : Nat) : Option Res :=
 match vs, lo, hi with
  | [x], none, none => optV (actSlc sz x none none os) os
  | [x, l], some _, none => optV (actSlc sz x (some l) none os) os
  | [x, h], none, some _ => optV (actSlc sz x none (some h) os) os
  | [x, l, h], some _, some _ => optV (actSlc sz x (some l) (some h) os) os
  | _, _, _ => none
def aSls (_ : A) (lo : Option A) (hi : Option A) (vs : List V) (os : List (Option Obj)) (fresh : Nat) : Option Res :=
 match vs, lo, hi with
  | [.d (.s x)], none, none => some ⟨.d (.s x), os, none⟩
  | [.d (.s x), l], some _, none => match bounds (some l) none x.length with | some (l, h) => some ⟨.d (.s ((x.take h).drop l)), os, none⟩ | none => none
  | [.d (.s x), h], none, some _ => match bounds none (some h) x.length with | some (l, h) => some ⟨.d (.s ((x.take h).drop l)), os, none⟩ | none => none
  | [.d (.s x), l, h], some _, some _ => match bounds (some l) (some h) x.length with | some (l, h) => some ⟨.d (.s ((x.take h).drop l)), os, none⟩ | none => none
  | _, _, _ => none
def aFa (off : Nat) (_ : A) (vs : List V) (os : List (Option Obj)) (fresh : Nat) : Option Res :=
 match vs with
  | [.ptr id o] => some ⟨.ptr id (o + off), os, none⟩
  | [.pm id ver idx o] => some ⟨.pm id ver idx (o + off), os, none⟩
  | [.d (.q ds o)] => some ⟨.d (.q ds (o + off)), os, none⟩
  | _ => none
def aFl (agg : Bool) (off : Nat) (n : Nat) (_ : A) (vs : List V) (os : List (Option Obj)) (fresh : Nat) : Option Res :=
 match vs with
  | [.agg cs] => match takeV cs off n with | some c => optV (asVar agg n c) os | none => none
  | _ => none
def aIa (sz : Nat) (_ : A) (_ : A) (vs : List V) (os : List (Option Obj)) (fresh : Nat) : Option Res :=
 optV (actIa sz vs os) os
def aIaa (len : Nat) (sz : Nat) (_ : A) (_ : A) (vs : List V) (os : List (Option Obj)) (fresh : Nat) : Option Res :=
 match vs with
  | [.ptr id o, .d (.i _ i)] => if 0 ≤ i ∧ i < len then some ⟨.ptr id (o + i.toNat * sz), os, none⟩ else none
  | [.d (.q ds o), .d (.i _ i)] => if 0 ≤ i ∧ i < len then some ⟨.d (.q ds (o + i.toNat * sz)), os, none⟩ else none
  | _ => none
def aIxs (_ : A) (_ : A) (vs : List V) (os : List (Option Obj)) (fresh : Nat) : Option Res :=
 match vs with
  | [.d (.s x), .d (.i _ i)] => if 0 ≤ i then match x[i.toNat]? with | some c => some ⟨.d (.i .u8 c.toNat), os, none⟩ | none => none else none
  | _ => none
def aIxa (agg : Bool) (len : Nat) (sz : Nat) (_ : A) (_ : A) (vs : List V) (os : List (Option Obj)) (fresh : Nat) : Option Res :=
 match vs with
  | [.agg cs, .d (.i _ i)] => if 0 ≤ i ∧ i < len then match takeV cs (i.toNat * sz) sz with | some c => optV (asVar agg sz c) os | none => none else none
  | _ => none
def aLen (k : Nat) (_ : A) (vs : List V) (os : List (Option Obj)) (fresh : Nat) : Option Res :=
 match k, vs, os with
  | 1, [.d (.s x)], os => some ⟨.d (.i .i64 x.length), os, none⟩
  | 0, [.d (.l _ xs)], os => some ⟨.d (.i .i64 xs.length), os, none⟩
  | 0, [.own _ _ _ xs], os => some ⟨.d (.i .i64 xs.length), os, none⟩
  | 0, [.nil _], os => some ⟨.d (.i .i64 0), os, none⟩
  | 0, [.arr _ _ _ n], os => some ⟨.d (.i .i64 n), os, none⟩
  | 2, [.map _], [some (.map kvs)] => some ⟨.d (.i .i64 kvs.length), [some (.map kvs)], none⟩
  | _, _, _ => none
def aApp (sz : Nat) (bytes : Nat) (_ : A) (_ : A) (vs : List V) (os : List (Option Obj)) (fresh : Nat) : Option Res :=
 actApp sz bytes fresh vs os
def aApa (sz : Nat) (bytes : Nat) (_ : A) (_ : A) (vs : List V) (os : List (Option Obj)) (fresh : Nat) : Option Res :=
 actApa sz bytes fresh vs os
def aApz (sz : Nat) (bytes : Nat) (z : List D) (_ : A) (_ : A) (vs : List V) (os : List (Option Obj)) (fresh : Nat) : Option Res :=
 actApz sz bytes fresh z vs os
def aCapn (_ : A) (vs : List V) (os : List (Option Obj)) (fresh : Nat) : Option Res :=
 match vs with | [.nil _] => some ⟨.d (.i .i64 0), os, none⟩ | _ => none
def aNilm (neg : Bool) (_ : A) (vs : List V) (os : List (Option Obj)) (fresh : Nat) : Option Res :=
 match vs with
  | [x] => match nilMap x with | some r => some ⟨.d (.b (if neg then !r else r)), os, none⟩ | none => none
  | _ => none
def aMm (mx : Bool) (_ : List A) (vs : List V) (os : List (Option Obj)) (fresh : Nat) : Option Res :=
 optD (maxInt mx vs) os
def aLk (ag : Bool) (ks : List CK) (ok : Bool) (zero : V) (_ : A) (_ : A) (vs : List V) (os : List (Option Obj)) (fresh : Nat) : Option Res :=
 optV (actLk ag ks ok zero vs os) os
def aMu (ag : Bool) (ks : List CK) (_ : A) (_ : A) (_ : A) (vs : List V) (os : List (Option Obj)) (fresh : Nat) : Option Res :=
 match actMu ag ks vs os with | some os' => some ⟨.undef, os', none⟩ | none => none
def aDel (ag : Bool) (ks : List CK) (_ : A) (_ : A) (vs : List V) (os : List (Option Obj)) (fresh : Nat) : Option Res :=
 match actDel ag ks vs os with | some os' => some ⟨.undef, os', none⟩ | none => none
def aFrz (_ : A) (vs : List V) (os : List (Option Obj)) (fresh : Nat) : Option Res :=
 actFrz vs os
def aCall (_ : Nat) (_ : List A) (_ : Nat) (_ : Bool) (vs : List V) (os : List (Option Obj)) (fresh : Nat) : Option Res :=
 none
def aCallv (_ : A) (_ : List A) (_ : Nat) (_ : Bool) (vs : List V) (os : List (Option Obj)) (fresh : Nat) : Option Res :=
 none
def aLend (_ : Nat) (_ : List A) (vs : List V) (os : List (Option Obj)) (fresh : Nat) : Option Res :=
 none
def aCallr (_ : Nat) (_ : List A) (_ : Nat) (vs : List V) (os : List (Option Obj)) (fresh : Nat) : Option Res :=
 none
def aExt (_ : A) (i : Nat) (vs : List V) (os : List (Option Obj)) (fresh : Nat) : Option Res :=
 match vs with
  | [.tup ws] => match ws[i]? with | some w => some ⟨w, os, none⟩ | none => none
  | _ => none
def aDie  (vs : List V) (os : List (Option Obj)) (fresh : Nat) : Option Res :=
 none
def actK : Cop → List V → List (Option Obj) → Nat → Option Res :=
 @Cop.rec (fun _ => List V → List (Option Obj) → Nat → Option Res) aMv aPick aZero aBox aBuild aBsl aBsa aLd aSt aNilc aBin aEqa aEqb aUn aNils aConv aSid aMkf aMkm aMks aBts aSlc aSls aFa aFl aIa aIaa aIxs aIxa aLen aApp aApa aApz aCapn aNilm aMm aLk aMu aDel aFrz aCall aCallv aLend aCallr aExt aDie
theorem actK_eq (op : Cop) : actK op = act op := by cases op <;> rfl
def vD : V → Option D := @V.rec (fun _ => Option D) (fun _ => Unit) some (fun _ => none) (fun _ _ _ _ => none) (fun _ _ _ _ => none) (fun _ _ => none) (fun _ _ _ _ => none) (fun _ => none) (fun _ _ _ _ _ => none) (fun _ _ => none) (fun _ _ => none) none () (fun _ _ _ _ => ())
def vPtr : V → Option (Nat × Nat) := @V.rec (fun _ => Option (Nat × Nat)) (fun _ => Unit) (fun _ => none) (fun _ => none) (fun _ _ _ _ => none) (fun _ _ _ _ => none) (fun a b => some (a, b)) (fun _ _ _ _ => none) (fun _ => none) (fun _ _ _ _ _ => none) (fun _ _ => none) (fun _ _ => none) none () (fun _ _ _ _ => ())
def vAgg : V → Option (List V) := @V.rec (fun _ => Option (List V)) (fun _ => Unit) (fun _ => none) (fun _ => none) (fun _ _ _ _ => none) (fun _ _ _ _ => none) (fun _ _ => none) (fun _ _ _ _ => none) (fun _ => none) (fun _ _ _ _ _ => none) (fun cs _ => some cs) (fun _ _ => none) none () (fun _ _ _ _ => ())
def vTup : V → Option (List V) := @V.rec (fun _ => Option (List V)) (fun _ => Unit) (fun _ => none) (fun _ => none) (fun _ _ _ _ => none) (fun _ _ _ _ => none) (fun _ _ => none) (fun _ _ _ _ => none) (fun _ => none) (fun _ _ _ _ _ => none) (fun _ _ => none) (fun cs _ => some cs) none () (fun _ _ _ _ => ())
def vRow : V → Option (List (List D)) := @V.rec (fun _ => Option (List (List D))) (fun _ => Unit)
 (@D.rec (fun _ => Option (List (List D))) (fun _ => Unit) (fun _ => Unit) (fun _ => none) (fun _ _ => none) (fun _ => none) (fun _ xs _ => some xs) (fun _ _ _ => none) (fun _ _ _ _ _ => none) none none none () (fun _ _ _ _ => ()) () (fun _ _ _ _ => ()))
 (fun _ => some []) (fun _ _ _ xs => some xs) (fun _ _ _ _ => none) (fun _ _ => none) (fun _ _ _ _ => none) (fun _ => none) (fun _ _ _ _ _ => none) (fun _ _ => none) (fun _ _ => none) none () (fun _ _ _ _ => ())
def dI : D → Option (IntKind × Int) := @D.rec (fun _ => Option (IntKind × Int)) (fun _ => Unit) (fun _ => Unit) (fun _ => none) (fun k n => some (k, n)) (fun _ => none) (fun _ _ _ => none) (fun _ _ _ => none) (fun _ _ _ _ _ => none) none none none () (fun _ _ _ _ => ()) () (fun _ _ _ _ => ())
def dB : D → Option Bool := @D.rec (fun _ => Option Bool) (fun _ => Unit) (fun _ => Unit) some (fun _ _ => none) (fun _ => none) (fun _ _ _ => none) (fun _ _ _ => none) (fun _ _ _ _ _ => none) none none none () (fun _ _ _ _ => ()) () (fun _ _ _ _ => ())
def dS : D → Option (List UInt8) := @D.rec (fun _ => Option (List UInt8)) (fun _ => Unit) (fun _ => Unit) (fun _ => none) (fun _ _ => none) some (fun _ _ _ => none) (fun _ _ _ => none) (fun _ _ _ _ _ => none) none none none () (fun _ _ _ _ => ()) () (fun _ _ _ _ => ())
def dQ : D → Option (List D × Nat) := @D.rec (fun _ => Option (List D × Nat)) (fun _ => Unit) (fun _ => Unit) (fun _ => none) (fun _ _ => none) (fun _ => none) (fun _ _ _ => none) (fun xs off _ => some (xs, off)) (fun _ _ _ _ _ => none) none none none () (fun _ _ _ _ => ()) () (fun _ _ _ _ => ())
theorem vD_some {v : V} {x : D} (h : vD v = some x) : v = .d x := by
 cases v <;> first | (injection h with h; rw [h]) | cases h
theorem vPtr_some {v : V} {p : Nat × Nat} (h : vPtr v = some p) : v = .ptr p.1 p.2 := by
 cases v <;> first | (injection h with h; rw [← h]) | cases h
theorem vAgg_some {v : V} {x : List V} (h : vAgg v = some x) : v = .agg x := by
 cases v <;> first | (injection h with h; rw [h]) | cases h
theorem vTup_some {v : V} {x : List V} (h : vTup v = some x) : v = .tup x := by
 cases v <;> first | (injection h with h; rw [h]) | cases h
theorem dI_some {v : D} {x : IntKind × Int} (h : dI v = some x) : v = .i x.1 x.2 := by
 cases v <;> first | (injection h with h; rw [← h]) | cases h
theorem dB_some {v : D} {x : Bool} (h : dB v = some x) : v = .b x := by
 cases v <;> first | (injection h with h; rw [h]) | cases h
theorem dS_some {v : D} {x : List UInt8} (h : dS v = some x) : v = .s x := by
 cases v <;> first | (injection h with h; rw [h]) | cases h
theorem dQ_some {v : D} {x : List D × Nat} (h : dQ v = some x) : v = .q x.1 x.2 := by
 cases v <;> first | (injection h with h; rw [← h]) | cases h
def bindK {α β : Type} (x : Option α) (f : α → Option β) : Option β := @Option.rec α (fun _ => Option β) none f x
theorem bindK_some {α β : Type} {x : Option α} {f : α → Option β} {b : β} (h : bindK x f = some b) : ∃ a, x = some a ∧ f a = some b := by
 cases x with
 | none => cases h
 | some a => exact ⟨a, rfl, h⟩
def vI (v : V) : Option (IntKind × Int) := bindK (vD v) dI
def vS (v : V) : Option (List UInt8) := bindK (vD v) dS
def vB (v : V) : Option Bool := bindK (vD v) dB
def vQ (v : V) : Option (List D × Nat) := bindK (vD v) dQ
theorem vI_some {v : V} {x : IntKind × Int} (h : vI v = some x) : v = .d (.i x.1 x.2) := by
 obtain ⟨a, h1, h2⟩ := bindK_some h
 rw [vD_some h1, dI_some h2]
theorem vS_some {v : V} {x : List UInt8} (h : vS v = some x) : v = .d (.s x) := by
 obtain ⟨a, h1, h2⟩ := bindK_some h
 rw [vD_some h1, dS_some h2]
theorem vB_some {v : V} {x : Bool} (h : vB v = some x) : v = .d (.b x) := by
 obtain ⟨a, h1, h2⟩ := bindK_some h
 rw [vD_some h1, dB_some h2]
theorem vQ_some {v : V} {x : List D × Nat} (h : vQ v = some x) : v = .d (.q x.1 x.2) := by
 obtain ⟨a, h1, h2⟩ := bindK_some h
 rw [vD_some h1, dQ_some h2]
def ifK {α : Type} (b : Bool) (x y : α) : α := @Bool.rec (fun _ => α) y x b
def kNth {α : Type} : List α → Nat → Option α := @List.rec α (fun _ => Nat → Option α) (fun _ => none) (fun a _ ih i => @Nat.rec (fun _ => Option α) (some a) (fun j _ => ih j) i)
theorem kNth_eq {α : Type} : ∀ (l : List α) (i : Nat), kNth l i = l[i]?
 | [], _ => rfl
 | a :: l, 0 => rfl
 | a :: l, i + 1 => by
  show kNth l i = _
  rw [kNth_eq l i]; rfl
def kLen {α : Type} : List α → Nat := @List.rec α (fun _ => Nat) 0 (fun _ _ ih => Nat.succ ih)
theorem kLen_eq {α : Type} : ∀ (l : List α), kLen l = l.length
 | [] => rfl
 | a :: l => by show Nat.succ (kLen l) = _; rw [kLen_eq l]; rfl
def kget : List (Nat × V) → Nat → V :=
 @List.rec (Nat × V) (fun _ => Nat → V) (fun _ => .bad) (fun p _ ih j => @Bool.rec (fun _ => V) (ih j) p.2 (Nat.beq p.1 j))
theorem beq_ne {i j : Nat} (h : i ≠ j) : Nat.beq i j = false := by
 cases hb : Nat.beq i j with
 | false => rfl
 | true => exact absurd (Nat.eq_of_beq_eq_true hb) h
theorem beq_self' (i : Nat) : Nat.beq i i = true := by simp
theorem kget_eq (tm : List (Nat × V)) (j : Nat) : kget tm j = look tm j := by
 induction tm with
 | nil => rfl
 | cons p tm ih =>
  obtain ⟨i, v⟩ := p
  show @Bool.rec (fun _ => V) (kget tm j) v (Nat.beq i j) = _
  simp only [look, ih]
  by_cases h : i = j
  ·subst h; rw [beq_self', if_pos rfl]
  ·rw [if_neg h, beq_ne h]
def kev : A → List (Nat × V) → V := @A.rec (fun _ => List (Nat × V) → V) (fun t tm => kget tm t) (fun v _ => v)
theorem kev_eq' (s : St) (a : A) : kev a s.tmps = s.ev a := by
 cases a with
 | t t => exact kget_eq s.tmps t
 | k v => rfl
def kargs : List A → List (Nat × V) → List V := @List.rec A (fun _ => List (Nat × V) → List V) (fun _ => []) (fun a _ ih tm => kev a tm :: ih tm)
theorem kargs_eq (s : St) : ∀ (as : List A), kargs as s.tmps = as.map s.ev
 | [] => rfl
 | a :: r => by
  show kev a s.tmps :: kargs r s.tmps = _
  rw [kargs_eq s r, Qb, kev_eq']
def ltK : Int → Int → Bool := @Int.rec (fun _ => Int → Bool) (fun a => @Int.rec (fun _ => Bool) (fun b => Nat.ble (Nat.succ a) b) (fun _ => false)) (fun a => @Int.rec (fun _ => Bool) (fun _ => true) (fun b => Nat.ble (Nat.succ b) a))
def eqK : Int → Int → Bool := @Int.rec (fun _ => Int → Bool) (fun a => @Int.rec (fun _ => Bool) (fun b => Nat.beq a b) (fun _ => false)) (fun a => @Int.rec (fun _ => Bool) (fun _ => false) (fun b => Nat.beq a b))
def notK (b : Bool) : Bool := @Bool.rec (fun _ => Bool) true false b
theorem ltK_eq (a b : Int) : ltK a b = decide (a < b) := by
 cases a with
 | ofNat a => cases b with
  | ofNat b =>
   show Nat.ble (Nat.succ a) b = _
   rw [Bool.eq_iff_iff]
   simp only [Qh]
   constructor
   ·intro h; have := Nat.le_of_ble_eq_true h; simp only [Int.ofNat_eq_natCast]; omega
   ·intro h; simp only [Int.ofNat_eq_natCast] at h; exact Nat.ble_eq_true_of_le (by omega)
  | negSucc b => show false = _; simp; omega
 | negSucc a => cases b with
  | ofNat b => show true = _; simp; omega
  | negSucc b =>
   show Nat.ble (Nat.succ b) a = _
   rw [Bool.eq_iff_iff]
   simp only [Qh]
   constructor
   ·intro h; have := Nat.le_of_ble_eq_true h; omega
   ·intro h; exact Nat.ble_eq_true_of_le (by omega)
theorem eqK_eq (a b : Int) : eqK a b = (a == b) := by
 rw [Bool.eq_iff_iff]
 simp only [beq_iff_eq]
 cases a with
 | ofNat a => cases b with
  | ofNat b => show Nat.beq a b = true ↔ _; rw [Nat.beq_eq]; simp only [Int.ofNat_eq_natCast]; constructor <;> (intro h; omega)
  | negSucc b => show false = true ↔ _; constructor <;> (intro h; first | cases h | omega)
 | negSucc a => cases b with
  | ofNat b => show false = true ↔ _; constructor <;> (intro h; first | cases h | omega)
  | negSucc b => show Nat.beq a b = true ↔ _; rw [Nat.beq_eq]; constructor <;> (intro h; omega)
theorem notK_eq (b : Bool) : notK b = !b := by cases b <;> rfl
def forceK {α : Type} (n : Nat) (f : Nat → α) : α := @Nat.rec (fun _ => α) (f 0) (fun m _ => f (Nat.succ m)) n
theorem forceK_eq {α : Type} (n : Nat) (f : Nat → α) : forceK n f = f n := by cases n <;> rfl
def kindK : IntKind → Nat := @IntKind.rec (fun _ => Nat) 2 2 2 0 1 2 2 2
theorem kind0 {k : IntKind} (h : Nat.beq (kindK k) 0 = true) : k = .i64 := by cases k <;> first | rfl | cases h
theorem kind1 {k : IntKind} (h : Nat.beq (kindK k) 1 = true) : k = .u8 := by cases k <;> first | rfl | cases h
def smallK (k : IntKind) (c : Nat) : Bool := ifK (Nat.beq (kindK k) 0) (Nat.ble c 9223372036854775807) (ifK (Nat.beq (kindK k) 1) (Nat.ble c 255) false)
theorem smallK_wrap {k : IntKind} {c : Nat} (h : smallK k c = true) : k.wrap (c : Int) = c := by
 unfold smallK ifK at h
 cases h0 : Nat.beq (kindK k) 0 with
 | true =>
  rw [h0] at h
  have := kind0 h0
  subst this
  have := Nat.le_of_ble_eq_true h
  exact Go.IntWalk.i64_in c ⟨by omega, by omega⟩
 | false =>
  rw [h0] at h
  cases h1 : Nat.beq (kindK k) 1 with
  | false => rw [h1] at h; cases h
  | true =>
   rw [h1] at h
   have := kind1 h1
   subst this
   have := Nat.le_of_ble_eq_true h
   simp only [IntKind.wrap, IntKind.bits, IntKind.signed, Bool.false_and, Qm, if_false]
   omega
def mkK (k : IntKind) (c : Nat) : Option D := ifK (smallK k c) (forceK c fun c => some (.i k (.ofNat c))) none
theorem mkK_some {k : IntKind} {c : Nat} {d : D} (h : mkK k c = some d) : d = .i k (k.wrap (c : Int)) := by
 unfold mkK ifK at h
 cases hs : smallK k c with
 | false => rw [hs] at h; cases h
 | true =>
  rw [hs] at h
  simp only [forceK_eq, Qa] at h
  rw [smallK_wrap hs, ← h]
  rfl
def addK (k : IntKind) : Int → Int → Option D := @Int.rec (fun _ => Int → Option D) (fun a => @Int.rec (fun _ => Option D) (fun b => mkK k (Nat.add a b)) (fun b => ifK (Nat.ble (Nat.succ b) a) (mkK k (Nat.sub a (Nat.succ b))) none)) (fun _ _ => none)
def subK (k : IntKind) : Int → Int → Option D := @Int.rec (fun _ => Int → Option D) (fun a => @Int.rec (fun _ => Option D) (fun b => ifK (Nat.ble b a) (mkK k (Nat.sub a b)) none) (fun b => mkK k (Nat.add a (Nat.succ b)))) (fun _ _ => none)
theorem addK_some {k : IntKind} {a b : Int} {d : D} (h : addK k a b = some d) : d = .i k (k.wrap (a + b)) := by
 cases a with
 | negSucc a => cases h
 | ofNat a => cases b with
  | ofNat b => exact mkK_some (c := a + b) h
  | negSucc b =>
   have h : ifK (Nat.ble (Nat.succ b) a) (mkK k (Nat.sub a (Nat.succ b))) none = some d := h
   unfold ifK at h
   cases hb : Nat.ble (Nat.succ b) a with
   | false => rw [hb] at h; cases h
   | true =>
    rw [hb] at h
    have hle := Nat.le_of_ble_eq_true hb
    rw [mkK_some h]
    congr 2
    show ((a - (b + 1) : Nat) : Int) = _
    simp only [Int.ofNat_eq_natCast]
    omega
theorem subK_some {k : IntKind} {a b : Int} {d : D} (h : subK k a b = some d) : d = .i k (k.wrap (a - b)) := by
 cases a with
 | negSucc a => cases h
 | ofNat a => cases b with
  | ofNat b =>
   have h : ifK (Nat.ble b a) (mkK k (Nat.sub a b)) none = some d := h
   unfold ifK at h
   cases hb : Nat.ble b a with
   | false => rw [hb] at h; cases h
   | true =>
    rw [hb] at h
    have hle := Nat.le_of_ble_eq_true hb
    rw [mkK_some h]
    congr 2
    show ((a - b : Nat) : Int) = _
    simp only [Int.ofNat_eq_natCast]
    omega
  | negSucc b =>
   rw [mkK_some (c := a + (b + 1)) h]
   congr 2
def noneK {α β : Type} (_ _ : α) : Option β := none
def binIK : BinOp → IntKind → Int → Int → Option D := @BinOp.rec (fun _ => IntKind → Int → Int → Option D) addK subK (fun _ _ _ => none) (fun _ _ _ => none) (fun _ _ _ => none) (fun _ _ _ => none) (fun _ _ _ => none) (fun _ _ _ => none) (fun _ _ _ => none) (fun _ _ _ => none) (fun _ _ _ => none)
 (fun _ a b => some (.b (eqK a b))) (fun _ a b => some (.b (notK (eqK a b)))) (fun _ a b => some (.b (ltK a b))) (fun _ a b => some (.b (notK (ltK b a)))) (fun _ a b => some (.b (ltK b a))) (fun _ a b => some (.b (notK (ltK a b))))
def sameK (k k' : IntKind) : Bool := ifK (Nat.beq (kindK k) 2) false (Nat.beq (kindK k) (kindK k'))
theorem sameK_eq {k k' : IntKind} (h : sameK k k' = true) : k = k' := by cases k <;> cases k' <;> first | rfl | cases h
theorem leK_eq (a b : Int) : notK (ltK b a) = decide (a ≤ b) := by
 rw [notK_eq, ltK_eq]
 by_cases h : b < a
 ·simp [h]
 ·simp [h, Int.not_lt.1 h]
theorem binIK_some {op : BinOp} {k k' : IntKind} {a b : Int} {d : D} (hk : sameK k k' = true) (h : binIK op k a b = some d) : binOp op (.d (.i k a)) (.d (.i k' b)) = some d := by
 have hk := sameK_eq hk
 subst hk
 cases op <;> first
  | (have := addK_some h; subst this; simp [binOp, isShift, binInt]; done)
  | (have := subK_some h; subst this; simp [binOp, isShift, binInt]; done)
  | (cases h; simp [binOp, isShift, binInt, eqK_eq, ltK_eq, notK_eq]; done)
  | (cases h; simp [binOp, isShift, binInt, eqK_eq, ltK_eq, notK_eq, bne]; done)
  | (cases h; simp [binOp, isShift, binInt, leK_eq]; done)
  | cases h
def kbin (op : BinOp) (x y : V) : Option V := bindK (vI x) fun p => bindK (vI y) fun q => ifK (sameK p.1 q.1) (bindK (binIK op p.1 p.2 q.2) fun d => some (.d d)) none
theorem ifK_some {α : Type} {b : Bool} {x : Option α} {r : α} (h : ifK b x none = some r) : b = true ∧ x = some r := by
 cases b with
 | true => exact ⟨rfl, h⟩
 | false => cases h
theorem kbin_some {op : BinOp} {x y v : V} (h : kbin op x y = some v) : ∃ d, v = .d d ∧ binOp op x y = some d := by
 obtain ⟨p, h1, h⟩ := bindK_some h
 obtain ⟨q, h2, h⟩ := bindK_some h
 obtain ⟨hs, h⟩ := ifK_some h
 obtain ⟨d, h3, h⟩ := bindK_some h
 cases h
 rw [vI_some h1, vI_some h2]
 exact ⟨d, rfl, binIK_some hs h3⟩
def kun (op : UnOp) (x : V) : Option V := bindK (vB x) fun b => @UnOp.rec (fun _ => Option V) none none (some (.d (.b (notK b)))) none op
def kObj (hp : List (Option Obj)) (id : Nat) : Option (Option Obj) := kNth hp id
def oBox : Option Obj → Option (List V) := @Option.rec Obj (fun _ => Option (List V)) none (@Obj.rec (fun _ => Option (List V)) some (fun _ => none) (fun _ _ => none) (fun _ _ _ => none) (fun _ => none) (fun _ _ _ => none))
theorem oBox_some {o : Option Obj} {cs : List V} (h : oBox o = some cs) : o = some (.box cs) := by
 cases o with
 | none => cases h
 | some o => cases o <;> first | (injection h with h; rw [h]) | cases h
def kld (agg : Bool) (n : Nat) (x : V) (hp : List (Option Obj)) : Option V :=
 ifK agg none (ifK (Nat.beq n 1) (@Option.rec (Nat × Nat) (fun _ => Option V)
  (bindK (vQ x) fun q => bindK (kNth q.1 q.2) fun d => some (.d d))
  (fun p => bindK (kNth hp p.1) fun o => bindK (oBox o) fun cs => kNth cs p.2) (vPtr x)) none)
def kfa (off : Nat) (x : V) : Option V := @Option.rec (Nat × Nat) (fun _ => Option V)
  (bindK (vQ x) fun q => some (.d (.q q.1 (q.2 + off))))
  (fun p => some (.ptr p.1 (p.2 + off))) (vPtr x)
def kfl (agg : Bool) (off n : Nat) (x : V) : Option V := ifK agg none (ifK (Nat.beq n 1) (bindK (vAgg x) fun cs => kNth cs off) none)
def klen (k : Nat) (x : V) : Option V := @Nat.rec (fun _ => Option V) (bindK (vRow x) fun xs => forceK (kLen xs) fun n => some (.d (.i .i64 (.ofNat n)))) (fun k _ => ifK (Nat.beq k 0) (bindK (vS x) fun xs => forceK (kLen xs) fun n => some (.d (.i .i64 (.ofNat n)))) none) k
def natK : Int → Option Nat := @Int.rec (fun _ => Option Nat) some (fun _ => none)
theorem natK_some {i : Int} {n : Nat} (h : natK i = some n) : i = (n : Int) := by
 cases i with
 | ofNat a => injection h with h; rw [h]; rfl
 | negSucc a => cases h
def kixs (x i : V) : Option V := bindK (vS x) fun s => bindK (vI i) fun p => bindK (natK p.2) fun n => bindK (kNth s n) fun c => forceK c.toNat fun m => some (.d (.i .u8 (.ofNat m)))
def kext (x : V) (i : Nat) : Option V := bindK (vTup x) fun ws => kNth ws i
def dL : D → Option (Nat × List (List D)) := @D.rec (fun _ => Option (Nat × List (List D))) (fun _ => Unit) (fun _ => Unit) (fun _ => none) (fun _ _ => none) (fun _ => none) (fun sz xs _ => some (sz, xs)) (fun _ _ _ => none) (fun _ _ _ _ _ => none) none none none () (fun _ _ _ _ => ()) () (fun _ _ _ _ => ())
theorem dL_some {v : D} {x : Nat × List (List D)} (h : dL v = some x) : v = .l x.1 x.2 := by
 cases v <;> first | (injection h with h; rw [← h]) | cases h
def kia (sz : Nat) (x i : V) : Option V := bindK (vD x) fun d => bindK (dL d) fun l => ifK (Nat.beq l.1 sz) (bindK (vI i) fun p => bindK (natK p.2) fun n => bindK (kNth l.2 n) fun r => some (.d (.q r 0))) none
def knilc (x : V) : Option V := @Option.rec (Nat × Nat) (fun _ => Option V) (bindK (vQ x) fun q => some (.d (.q q.1 q.2))) (fun p => some (.ptr p.1 p.2)) (vPtr x)
def pvalK : Cop → List (Nat × V) → List (Option Obj) → Option V := @Cop.rec (fun _ => List (Nat × V) → List (Option Obj) → Option V)
 (fun x tm _ => some (kev x tm)) (fun _ _ _ _ _ => none) (fun _ _ _ => none) (fun _ _ _ => none) (fun _ _ _ _ => none) (fun _ _ _ _ _ _ => none) (fun _ _ _ _ _ _ => none) (fun agg n a tm hp => kld agg n (kev a tm) hp) (fun _ _ _ _ _ => none) (fun x tm _ => knilc (kev x tm)) (fun op x y tm _ => kbin op (kev x tm) (kev y tm))
 (fun _ _ _ _ _ _ => none) (fun _ _ _ _ _ => none) (fun op x tm _ => kun op (kev x tm)) (fun _ _ _ _ => none) (fun _ _ _ _ => none) (fun _ _ _ => none) (fun _ _ _ _ _ _ => none) (fun _ _ => none) (fun _ _ _ _ _ _ _ _ => none) (fun _ _ _ => none) (fun _ _ _ _ _ _ => none) (fun _ _ _ _ _ => none)
 (fun off x tm _ => kfa off (kev x tm)) (fun agg off n x tm _ => kfl agg off n (kev x tm)) (fun sz x i tm _ => kia sz (kev x tm) (kev i tm)) (fun _ _ _ _ _ _ => none) (fun x i tm _ => kixs (kev x tm) (kev i tm)) (fun _ _ _ _ _ _ _ => none) (fun k x tm _ => klen k (kev x tm)) (fun _ _ _ _ _ _ => none) (fun _ _ _ _ _ _ => none) (fun _ _ _ _ _ _ _ => none) (fun _ _ _ => none) (fun _ _ _ _ => none)
 (fun _ _ _ _ => none) (fun _ _ _ _ _ _ _ _ => none) (fun _ _ _ _ _ _ _ => none) (fun _ _ _ _ _ _ => none) (fun _ _ _ => none) (fun _ _ _ _ _ _ => none) (fun _ _ _ _ _ _ => none) (fun _ _ _ _ => none) (fun _ _ _ _ _ => none) (fun x i tm _ => kext (kev x tm) i) (fun _ _ => none)
theorem pure_eff (call : CallF) {op : Cop} {s : St} {v : V} {os : List (Option Obj)} {fresh : Nat} (h1 : op.isCall = false) (h2 : op.wr = false) (h : act op (op.args.map s.ev) ((op.ids (op.args.map s.ev)).map s.obj) fresh = some ⟨v, os, none⟩) (dst : Option Nat) (pre : Nat) :
  ∃ e, opEff call s ⟨dst, op, none, pre⟩ fresh = some e ∧ e.on s = s.put dst v := by
 refine ⟨⟨dst, v, op.ids (op.args.map s.ev), op.wr, os, fresh, []⟩, ?_, ?_⟩
 ·simp only [opEff, wanted, h1, Qm, if_false, h]
  rfl
 ·simp only [Eff.on, h2, Qm, if_false, List.length_nil, List.range'_zero, setObjs]
theorem obj_nth (s : St) (id : Nat) : s.obj id = (kNth s.heap id).join := by rw [kNth_eq]; rfl
theorem take_one {α : Type} {xs : List α} {off : Nat} {d : α} (h : xs[off]? = some d) : off + 1 ≤ xs.length ∧ (xs.drop off).take 1 = [d] := by
 have hlt : off < xs.length := by
  rcases Qn off xs.length with h' | h'
  ·exact h'
  ·rw [Qe h'] at h; cases h
 refine ⟨hlt, ?_⟩
 rw [Qd hlt] at h
 cases h
 rw [List.drop_eq_getElem_cons hlt]; rfl
theorem takeD_one {xs : List D} {off : Nat} {d : D} (h : xs[off]? = some d) : takeD xs off 1 = some [d] := by
 obtain ⟨h1, h2⟩ := take_one h
 unfold takeD
 rw [if_pos h1, h2]
theorem takeV_one {xs : List V} {off : Nat} {d : V} (h : xs[off]? = some d) : takeV xs off 1 = some [d] := by
 obtain ⟨h1, h2⟩ := take_one h
 unfold takeV
 rw [if_pos h1, h2]
theorem kld_some {agg : Bool} {n : Nat} {x v : V} {s : St} (h : kld agg n x s.heap = some v) (a : A) : ∃ os, act (.ld agg n a) [x] ((Cop.ids (.ld agg n a) [x]).map s.obj) 0 = some ⟨v, os, none⟩ := by
 unfold kld at h
 cases agg with
 | true => cases h
 | false =>
  obtain ⟨hn, h⟩ := ifK_some (show ifK (Nat.beq n 1) _ none = some v from h)
  have hn := Nat.eq_of_beq_eq_true hn
  subst hn
  cases hp : vPtr x with
  | none =>
   rw [hp] at h
   obtain ⟨q, h1, h⟩ := bindK_some h
   obtain ⟨d, h2, h⟩ := bindK_some h
   cases h
   rw [vQ_some h1]
   rw [kNth_eq] at h2
   exact ⟨[], by simp [act, Cop.ids, actLd, optV, takeD_one h2, ofDs, asVar]⟩
  | some p =>
   rw [hp] at h
   obtain ⟨o, h1, h⟩ := bindK_some h
   obtain ⟨cs, h2, h⟩ := bindK_some h
   rw [vPtr_some hp]
   rw [kNth_eq] at h
   have ho : s.obj p.1 = some (.box cs) := by rw [obj_nth, h1]; exact oBox_some h2
   exact ⟨[some (.box cs)], by simp [act, Cop.ids, actLd, optV, takeV_one h, ho, asVar]⟩
theorem kfa_some {off : Nat} {x v : V} (h : kfa off x = some v) (a : A) (f : Nat) : act (.fa off a) [x] [] f = some ⟨v, [], none⟩ := by
 unfold kfa at h
 cases hp : vPtr x with
 | none =>
  rw [hp] at h
  obtain ⟨q, h1, h⟩ := bindK_some h
  cases h
  rw [vQ_some h1]; rfl
 | some p =>
  rw [hp] at h
  cases h
  rw [vPtr_some hp]; rfl
theorem knilc_some {x v : V} (h : knilc x = some v) (a : A) (f : Nat) : act (.nilc a) [x] [] f = some ⟨v, [], none⟩ := by
 unfold knilc at h
 cases hp : vPtr x with
 | none =>
  rw [hp] at h
  obtain ⟨q, h1, h⟩ := bindK_some h
  cases h
  rw [vQ_some h1]; rfl
 | some p =>
  rw [hp] at h
  cases h
  rw [vPtr_some hp]; rfl
theorem kfl_some {agg : Bool} {off n : Nat} {x v : V} (h : kfl agg off n x = some v) (a : A) (f : Nat) : act (.fl agg off n a) [x] [] f = some ⟨v, [], none⟩ := by
 unfold kfl at h
 cases agg with
 | true => cases h
 | false =>
  obtain ⟨hn, h⟩ := ifK_some (show ifK (Nat.beq n 1) _ none = some v from h)
  have hn := Nat.eq_of_beq_eq_true hn
  subst hn
  obtain ⟨cs, h1, h⟩ := bindK_some h
  rw [vAgg_some h1]
  rw [kNth_eq] at h
  simp [act, optV, takeV_one h, asVar]
theorem vRow_some {x : V} {xs : List (List D)} (h : vRow x = some xs) : (∃ sz, x = .d (.l sz xs)) ∨ (∃ sz, x = .nil sz ∧ xs = []) ∨ ∃ id ver sz, x = .own id ver sz xs := by
 cases x with
 | d d => cases d <;> first | (injection h with h; rw [h]; exact .inl ⟨_, rfl⟩) | cases h
 | nil sz => injection h with h; exact .inr (.inl ⟨sz, rfl, h.symm⟩)
 | own id ver sz ys => injection h with h; rw [h]; exact .inr (.inr ⟨_, _, _, rfl⟩)
 | _ => cases h
theorem klen_some {k : Nat} {x v : V} (h : klen k x = some v) (a : A) (f : Nat) : Cop.ids (.len k a) [x] = [] ∧ act (.len k a) [x] [] f = some ⟨v, [], none⟩ := by
 cases k with
 | zero =>
  obtain ⟨xs, h1, h⟩ := bindK_some (show bindK (vRow x) _ = some v from h)
  simp only [forceK_eq, kLen_eq, Qa] at h
  subst h
  rcases vRow_some h1 with ⟨sz, rfl⟩ | ⟨sz, rfl, rfl⟩ | ⟨id, ver, sz, rfl⟩ <;> exact ⟨rfl, rfl⟩
 | succ k =>
  obtain ⟨hn, h⟩ := ifK_some (show ifK (Nat.beq k 0) _ none = some v from h)
  have hn := Nat.eq_of_beq_eq_true hn
  subst hn
  obtain ⟨xs, h1, h⟩ := bindK_some h
  simp only [forceK_eq, kLen_eq, Qa] at h
  subst h
  rw [vS_some h1]
  exact ⟨rfl, rfl⟩
theorem kixs_some {x i v : V} (h : kixs x i = some v) (a b : A) (f : Nat) : act (.ixs a b) [x, i] [] f = some ⟨v, [], none⟩ := by
 obtain ⟨s, h1, h⟩ := bindK_some h
 obtain ⟨p, h2, h⟩ := bindK_some h
 obtain ⟨n, h3, h⟩ := bindK_some h
 obtain ⟨c, h4, h⟩ := bindK_some h
 simp only [forceK_eq, Qa] at h
 subst h
 rw [vS_some h1, vI_some h2, natK_some h3]
 rw [kNth_eq] at h4
 simp [act, h4]
theorem kia_some {sz : Nat} {x i v : V} (h : kia sz x i = some v) (a b : A) (f : Nat) : Cop.ids (.ia sz a b) [x, i] = [] ∧ act (.ia sz a b) [x, i] [] f = some ⟨v, [], none⟩ := by
 obtain ⟨d, h1, h⟩ := bindK_some h
 obtain ⟨l, h2, h⟩ := bindK_some h
 obtain ⟨hz, h⟩ := ifK_some h
 obtain ⟨p, h3, h⟩ := bindK_some h
 obtain ⟨n, h4, h⟩ := bindK_some h
 obtain ⟨r, h5, h⟩ := bindK_some h
 cases h
 have hz := Nat.eq_of_beq_eq_true hz
 rw [vD_some h1, dL_some h2, vI_some h3, natK_some h4]
 rw [kNth_eq] at h5
 exact ⟨rfl, by simp [act, actIa, hz, h5, optV]⟩
theorem kext_some {x v : V} {i : Nat} (h : kext x i = some v) (a : A) (f : Nat) : act (.ext a i) [x] [] f = some ⟨v, [], none⟩ := by
 obtain ⟨ws, h1, h⟩ := bindK_some h
 rw [vTup_some h1]
 rw [kNth_eq] at h
 simp [act, h]
theorem kun_some {op : UnOp} {x v : V} (h : kun op x = some v) (a : A) (f : Nat) : act (.un op a) [x] [] f = some ⟨v, [], none⟩ := by
 obtain ⟨b, h1, h⟩ := bindK_some h
 rw [vB_some h1]
 cases op <;> first | (cases h; simp [act, optD, unOp, notK_eq]; done) | cases h
theorem pvalK_some (call : CallF) {op : Cop} {s : St} {v : V} (h : pvalK op s.tmps s.heap = some v) (dst : Option Nat) (pre fresh : Nat) : ∃ e, opEff call s ⟨dst, op, none, pre⟩ fresh = some e ∧ e.on s = s.put dst v := by
 cases op
 case mv x =>
  have h : some (kev x s.tmps) = some v := h
  rw [kev_eq'] at h
  cases h
  exact pure_eff call (os := []) rfl rfl rfl dst pre
 case ld agg n a =>
  have h : kld agg n (kev a s.tmps) s.heap = some v := h
  rw [kev_eq'] at h
  obtain ⟨os, h⟩ := kld_some h a
  exact pure_eff call (os := os) rfl rfl (by rw [← h]; rfl) dst pre
 case nilc x =>
  have h : knilc (kev x s.tmps) = some v := h
  rw [kev_eq'] at h
  exact pure_eff call (os := []) rfl rfl (knilc_some h x fresh) dst pre
 case bin op x y =>
  have h : kbin op (kev x s.tmps) (kev y s.tmps) = some v := h
  rw [kev_eq', kev_eq'] at h
  obtain ⟨d, rfl, hb⟩ := kbin_some h
  exact pure_eff call (os := []) rfl rfl (by
   have h' : act (.bin op x y) [s.ev x, s.ev y] [] fresh = some ⟨.d d, [], none⟩ := by simp only [act]; rw [hb]; rfl
   exact h') dst pre
 case un op x =>
  have h : kun op (kev x s.tmps) = some v := h
  rw [kev_eq'] at h
  exact pure_eff call (os := []) rfl rfl (kun_some h x fresh) dst pre
 case fa off x =>
  have h : kfa off (kev x s.tmps) = some v := h
  rw [kev_eq'] at h
  exact pure_eff call (os := []) rfl rfl (kfa_some h x fresh) dst pre
 case fl agg off n x =>
  have h : kfl agg off n (kev x s.tmps) = some v := h
  rw [kev_eq'] at h
  exact pure_eff call (os := []) rfl rfl (kfl_some h x fresh) dst pre
 case ia sz x i =>
  have h : kia sz (kev x s.tmps) (kev i s.tmps) = some v := h
  rw [kev_eq', kev_eq'] at h
  obtain ⟨h1, h2⟩ := kia_some h x i fresh
  exact pure_eff call (os := []) rfl rfl (by simp only [Cop.args, Qb, Qc, h1, h2]) dst pre
 case ixs x i =>
  have h : kixs (kev x s.tmps) (kev i s.tmps) = some v := h
  rw [kev_eq', kev_eq'] at h
  exact pure_eff call (os := []) rfl rfl (kixs_some h x i fresh) dst pre
 case len k x =>
  have h : klen k (kev x s.tmps) = some v := h
  rw [kev_eq'] at h
  obtain ⟨h1, h2⟩ := klen_some h x fresh
  exact pure_eff call (os := []) rfl rfl (by simp only [Cop.args, Qb, Qc, h1, h2]) dst pre
 case ext x i =>
  have h : kext (kev x s.tmps) i = some v := h
  rw [kev_eq'] at h
  exact pure_eff call (os := []) rfl rfl (kext_some h x fresh) dst pre
 all_goals cases h
def allK {α : Type} (p : α → Bool) : List α → Bool := @List.rec α (fun _ => Bool) true (fun a _ ih => ifK (p a) ih false)
theorem allK_mem {α : Type} {p : α → Bool} : ∀ {l : List α}, allK p l = true → ∀ a ∈ l, p a = true
 | x :: l, h, a, ha => by
  have h : ifK (p x) (allK p l) false = true := h
  cases hp : p x with
  | false => rw [hp] at h; cases h
  | true =>
   rw [hp] at h
   rcases List.mem_cons.1 ha with rfl | ha
   ·exact hp
   ·exact allK_mem h a ha
def isD : V → Bool := @V.rec (fun _ => Bool) (fun _ => Unit) (fun _ => true) (fun _ => false) (fun _ _ _ _ => false) (fun _ _ _ _ => false) (fun _ _ => false) (fun _ _ _ _ => false) (fun _ => false) (fun _ _ _ _ _ => false) (fun _ _ => false) (fun _ _ => false) false () (fun _ _ _ _ => ())
def isP : V → Bool := @V.rec (fun _ => Bool) (fun _ => Unit) (fun _ => true) (fun _ => false) (fun _ _ _ _ => false) (fun _ _ _ _ => false) (fun _ _ => false) (fun _ _ _ _ => false) (fun _ => false) (fun _ _ _ _ _ => false) (fun cs _ => allK isD cs) (fun _ _ => false) false () (fun _ _ _ _ => ())
def isPT : V → Bool := @V.rec (fun _ => Bool) (fun _ => Unit) (fun _ => true) (fun _ => false) (fun _ _ _ _ => false) (fun _ _ _ _ => false) (fun _ _ => false) (fun _ _ _ _ => false) (fun _ => false) (fun _ _ _ _ _ => false) (fun cs _ => allK isD cs) (fun vs _ => allK isP vs) false () (fun _ _ _ _ => ())
theorem isD_d {v : V} (h : isD v = true) : ∃ d, v = .d d := by cases v <;> first | exact ⟨_, rfl⟩ | cases h
theorem isP_cases {v : V} (h : isP v = true) : (∃ d, v = .d d) ∨ ∃ cs, v = .agg cs ∧ ∀ c ∈ cs, isD c = true := by
 cases v <;> first | exact .inl ⟨_, rfl⟩ | exact .inr ⟨_, rfl, allK_mem h⟩ | cases h
theorem isPT_cases {v : V} (h : isPT v = true) : isP v = true ∨ ∃ vs, v = .tup vs ∧ ∀ c ∈ vs, isP c = true := by
 cases v <;> first | exact .inr ⟨_, rfl, allK_mem h⟩ | exact .inl h | cases h
section
variable (f sh : Nat → Nat)
theorem ren_cells : ∀ {cs : List V}, (∀ c ∈ cs, isD c = true) → V.renAll f sh cs = cs ∧ V.refsAll cs = [] ∧ V.handAll cs = some cs
 | [], _ => ⟨rfl, rfl, rfl⟩
 | c :: cs, h => by
  obtain ⟨d, rfl⟩ := isD_d (h c (by simp))
  obtain ⟨h1, h2, h3⟩ := ren_cells (fun c hc => h c (List.mem_cons_of_mem _ hc))
  simp [V.renAll, V.ren, h1, V.refsAll, V.refs, h2, V.handAll, V.hand, h3]
theorem ren_pure {v : V} (h : isP v = true) : V.ren f sh v = v ∧ V.refs v = [] ∧ V.hand v = some v := by
 rcases isP_cases h with ⟨d, rfl⟩ | ⟨cs, rfl, hc⟩
 ·simp [V.ren, V.refs, V.hand]
 ·obtain ⟨h1, h2, h3⟩ := ren_cells f sh hc
  simp [V.ren, h1, V.refs, h2, V.hand, h3]
theorem ren_pures : ∀ {vs : List V}, (∀ c ∈ vs, isP c = true) → V.renAll f sh vs = vs ∧ V.refsAll vs = [] ∧ V.handAll vs = some vs
 | [], _ => ⟨rfl, rfl, rfl⟩
 | c :: cs, h => by
  obtain ⟨h1, h2, h3⟩ := ren_pure f sh (h c (by simp))
  obtain ⟨k1, k2, k3⟩ := ren_pures (fun c hc => h c (List.mem_cons_of_mem _ hc))
  simp [V.renAll, h1, k1, V.refsAll, h2, k2, V.handAll, h3, k3]
theorem ren_pureT {v : V} (h : isPT v = true) : V.ren f sh v = v ∧ V.refs v = [] := by
 rcases isPT_cases h with h | ⟨vs, rfl, hc⟩
 ·exact ⟨(ren_pure f sh h).1, (ren_pure f sh h).2.1⟩
 ·obtain ⟨h1, h2, _⟩ := ren_pures f sh hc
  simp [V.ren, h1, V.refs, h2]
end
theorem arrIds_cells (m : Nat) : ∀ {cs : List V}, (∀ c ∈ cs, isD c = true) → arrIdsAll m cs = []
 | [], _ => rfl
 | c :: cs, h => by
  obtain ⟨d, rfl⟩ := isD_d (h c (by simp))
  simp [arrIdsAll, V.arrIds, arrIds_cells m (fun c hc => h c (List.mem_cons_of_mem _ hc))]
theorem valIds_pure (m : Nat) {v : V} (h : isP v = true) : valIds m v = [] := by
 rcases isP_cases h with ⟨d, rfl⟩ | ⟨cs, rfl, hc⟩
 ·rfl
 ·exact arrIds_cells m hc
theorem valIds_pures (m : Nat) : ∀ {vs : List V}, (∀ c ∈ vs, isP c = true) → valIdsAll m vs = []
 | [], _ => rfl
 | c :: cs, h => by simp [valIdsAll, valIds_pure m (h c (by simp)), valIds_pures m (fun c hc => h c (List.mem_cons_of_mem _ hc))]
theorem ansIds_pure (m : Nat) {v : V} (h : isPT v = true) : ansIds m v = [] := by
 rcases isPT_cases h with h | ⟨vs, rfl, hc⟩
 ·rcases isP_cases h with ⟨d, rfl⟩ | ⟨cs, rfl, hc⟩
  ·rfl
  ·exact arrIds_cells m hc
 ·exact valIds_pures m hc
theorem rawAll_pure : ∀ {vs : List V}, (∀ c ∈ vs, isP c = true) → V.rawAll vs = some vs
 | [], _ => rfl
 | c :: cs, h => by
  have hc := h c (by simp)
  have := (ren_pure id id hc).2.2
  have h2 : V.rawH c = some c := by cases c <;> first | exact this | rfl
  simp [V.rawAll, h2, rawAll_pure (fun c hc => h c (List.mem_cons_of_mem _ hc))]
theorem hands_pure {md : Md} {vs : List V} (h : ∀ c ∈ vs, isP c = true) : md.hands vs = some vs := by
 cases md <;> first | exact (ren_pures id id h).2.2 | exact rawAll_pure h
theorem lendAll_cells (obj : Nat → Option Obj) : ∀ {cs : List V} (f : Nat), (∀ c ∈ cs, isD c = true) → cs.length < f → ∃ ds, lendAll obj f cs = some ds ∧ ofDs ds = cs
 | [], f + 1, _, _ => ⟨[], rfl, rfl⟩
 | c :: cs, f + 1, h, hl => by
  obtain ⟨d, rfl⟩ := isD_d (h c (by simp))
  have hf : cs.length < f := by simpa using hl
  obtain ⟨ds, k1, k2⟩ := lendAll_cells obj f (fun c hc => h c (List.mem_cons_of_mem _ hc)) hf
  obtain ⟨f, rfl⟩ : ∃ g, f = g + 1 := ⟨f - 1, by omega⟩
  exact ⟨d :: ds, by simp [lendAll, V.lend, V.toD, k1], by simp [ofDs] at k2 ⊢; exact k2⟩
 | _, 0, _, hl => by omega
def fewK : V → Bool := @V.rec (fun _ => Bool) (fun _ => Unit) (fun _ => true) (fun _ => false) (fun _ _ _ _ => false) (fun _ _ _ _ => false) (fun _ _ => false) (fun _ _ _ _ => false) (fun _ => false) (fun _ _ _ _ _ => false) (fun cs _ => Nat.ble (kLen cs) 1000) (fun _ _ => false) false () (fun _ _ _ _ => ())
theorem lendArgs_pure (obj : Nat → Option Obj) : ∀ {vs : List V}, (∀ c ∈ vs, isP c = true) → (∀ c ∈ vs, fewK c = true) → lendArgs obj vs = some vs
 | [], _, _ => rfl
 | c :: cs, h, hf => by
  have k := lendArgs_pure obj (fun c hc => h c (List.mem_cons_of_mem _ hc)) (fun c hc => hf c (List.mem_cons_of_mem _ hc))
  rcases isP_cases (h c (by simp)) with ⟨d, rfl⟩ | ⟨ds, rfl, hc⟩
  ·simp [lendArgs, V.lend, far, V.toD, k]
  ·have hl : Nat.ble (kLen ds) 1000 = true := hf (.agg ds) (by simp)
   rw [kLen_eq] at hl
   have hl := Nat.le_of_ble_eq_true hl
   obtain ⟨es, k1, k2⟩ := lendAll_cells obj far hc (by unfold far; omega)
   simp [lendArgs, k1, k2, k]
structure Ent where
 key : Nat
 args : List V
 lent : Bool
def handC : V → Option V := @V.rec (fun _ => Option V) (fun _ => Unit) (fun d => some (.d d)) (fun sz => some (.d (.l sz []))) (fun _ _ sz xs => some (.d (.l sz xs))) (fun _ _ _ _ => none) (fun _ _ => none) (fun _ _ _ _ => none) (fun _ => none) (fun _ _ _ _ _ => none) (fun _ _ => none) (fun _ _ => none) none () (fun _ _ _ _ => ())
def handCs : List V → Option (List V) := @List.rec V (fun _ => Option (List V)) (some []) (fun v _ ih => bindK (handC v) fun x => bindK ih fun xs => some (x :: xs))
def handP : V → Option V := @V.rec (fun _ => Option V) (fun _ => Unit) (fun d => some (.d d)) (fun sz => some (.d (.l sz []))) (fun _ _ sz xs => some (.d (.l sz xs))) (fun _ _ _ _ => none) (fun _ _ => none) (fun _ _ _ _ => none) (fun _ => none) (fun _ _ _ _ _ => none) (fun cs _ => bindK (handCs cs) fun cs => some (.agg cs)) (fun _ _ => none) none () (fun _ _ _ _ => ())
def handPs : List V → Option (List V) := @List.rec V (fun _ => Option (List V)) (some []) (fun v _ ih => bindK (handP v) fun x => bindK ih fun xs => some (x :: xs))
theorem handC_some {v x : V} (h : handC v = some x) : V.hand v = some x ∧ isD x = true := by
 cases v <;> first | (cases h; exact ⟨by simp [V.hand], rfl⟩) | cases h
theorem handCs_some : ∀ {vs xs : List V}, handCs vs = some xs → V.handAll vs = some xs ∧ ∀ c ∈ xs, isD c = true
 | [], xs, h => by cases h; exact ⟨rfl, by simp⟩
 | v :: vs, xs, h => by
  obtain ⟨x, h1, h⟩ := bindK_some h
  obtain ⟨ys, h2, h⟩ := bindK_some h
  cases h
  obtain ⟨k1, k2⟩ := handC_some h1
  obtain ⟨m1, m2⟩ := handCs_some h2
  exact ⟨by simp [V.handAll, k1, m1], by simp [k2]; exact m2⟩
theorem allK_of {α : Type} {p : α → Bool} : ∀ {l : List α}, (∀ a ∈ l, p a = true) → allK p l = true
 | [], _ => rfl
 | x :: l, h => by
  show ifK (p x) (allK p l) false = true
  rw [h x (by simp), allK_of (fun a ha => h a (List.mem_cons_of_mem _ ha))]; rfl
theorem handP_some {v x : V} (h : handP v = some x) : V.hand v = some x ∧ isP x = true := by
 cases v with
 | agg cs =>
  obtain ⟨ys, h1, h⟩ := bindK_some (show bindK (handCs cs) _ = some x from h)
  cases h
  obtain ⟨m1, m2⟩ := handCs_some h1
  exact ⟨by simp [V.hand, m1], allK_of m2⟩
 | _ => first | (cases h; exact ⟨by simp [V.hand], rfl⟩) | cases h
theorem handPs_some : ∀ {vs xs : List V}, handPs vs = some xs → V.handAll vs = some xs ∧ ∀ c ∈ xs, isP c = true
 | [], xs, h => by cases h; exact ⟨rfl, by simp⟩
 | v :: vs, xs, h => by
  obtain ⟨x, h1, h⟩ := bindK_some h
  obtain ⟨ys, h2, h⟩ := bindK_some h
  cases h
  obtain ⟨k1, k2⟩ := handP_some h1
  obtain ⟨m1, m2⟩ := handPs_some h2
  exact ⟨by simp [V.handAll, k1, m1], by simp [k2]; exact m2⟩
theorem enter_pure (call : CallF) (md : Md) (obj : Nat → Option Obj) {key res fresh : Nat} {vs hs : List V} {r : V} (hv : md.hands vs = some hs) (hp : ∀ c ∈ hs, isP c = true) (hc : frzCall md call key hs [] = some (r, [])) (hr : isPT r = true) :
  enterCall (frzCall md call) md obj key vs res fresh = some (r, [], [], []) := by
 obtain ⟨h1, h2, h3⟩ := ren_pures (placeOf []) noShift hp
 have hreach : reach obj far (V.refsAll hs) [] = some [] := by rw [h2]; rfl
 unfold enterCall
 simp only [hv, hreach, Qc, renObjs, h1, hc, List.length_nil, Nat.not_lt_zero, if_false, Nat.le_refl, Nat.zero_le, true_and, if_true, List.take_nil, List.drop_nil]
 rw [(ren_pureT _ _ hr).1]
def idsPt : List V → List Nat
 | .ptr id _ :: _ => [id]
 | .pm id _ _ _ :: _ => [id]
 | _ => []
def idsAr : List V → List Nat
 | .arr id _ _ _ :: _ => [id]
 | _ => []
def idsOw : List V → List Nat
 | .own id _ _ _ :: _ => [id]
 | _ => []
def idsMp : List V → List Nat
 | .map id :: _ => [id]
 | _ => []
def idsK : Cop → List V → List Nat := @Cop.rec (fun _ => List V → List Nat) (fun _ => fun _ => []) (fun _ _ _ => fun _ => []) (fun _ => fun _ => []) (fun _ => fun _ => []) (fun _ _ => fun _ => []) (fun _ _ _ _ => fun _ => []) (fun _ _ _ _ => fun _ => []) (fun _ _ _ => idsPt) (fun _ _ _ => idsPt) (fun _ => fun _ => []) (fun _ _ _ => fun _ => []) (fun _ _ _ _ => fun _ => []) (fun _ _ _ => fun _ => []) (fun _ _ => fun _ => []) (fun _ _ => fun _ => []) (fun _ _ => fun _ => []) (fun _ => fun _ => []) (fun _ _ _ z vs => ifK z (ptrIds vs) []) (fun _ => []) (fun _ _ _ _ _ _ => fun _ => []) (fun _ => fun _ => []) (fun _ _ _ _ => idsAr) (fun _ _ _ => fun _ => []) (fun _ _ => fun _ => []) (fun _ _ _ _ => fun _ => []) (fun _ _ _ => idsAr) (fun _ _ _ _ => fun _ => []) (fun _ _ => fun _ => []) (fun _ _ _ _ _ => fun _ => []) (fun _ _ => idsMp) (fun _ _ _ _ => idsOw) (fun sz b x y vs => Cop.ids (.apa sz b x y) vs) (fun _ _ _ _ _ => idsAr) (fun _ => fun _ => []) (fun _ _ => fun _ => []) (fun _ _ => fun _ => []) (fun _ _ _ _ _ _ => idsMp) (fun _ _ _ _ _ => idsMp) (fun _ _ _ _ => idsMp) (fun _ => idsAr) (fun _ _ _ _ => fun _ => []) (fun _ _ _ _ => fun _ => []) (fun _ _ => fun _ => []) (fun _ _ _ => fun _ => []) (fun _ _ => fun _ => []) (fun _ => [])
theorem idsK_eq (op : Cop) (vs : List V) : idsK op vs = op.ids vs := by
 cases op <;> first
  | rfl
  | (cases vs with | nil => rfl | cons v vs => cases v <;> rfl)
  | (rename_i z; cases z <;> rfl)
def wrK : Cop → Bool := @Cop.rec (fun _ => Bool) (fun _ => false) (fun _ _ _ => false) (fun _ => false) (fun _ => false) (fun _ _ => false) (fun _ _ _ _ => false) (fun _ _ _ _ => false) (fun _ _ _ => false) (fun _ _ _ => true) (fun _ => false) (fun _ _ _ => false) (fun _ _ _ _ => false) (fun _ _ _ => false) (fun _ _ => false) (fun _ _ => false) (fun _ _ => false) (fun _ => false) (fun _ _ _ z => z) (false) (fun _ _ _ _ _ _ => false) (fun _ => false) (fun _ _ _ _ => false) (fun _ _ _ => false) (fun _ _ => false) (fun _ _ _ _ => false) (fun _ _ _ => false) (fun _ _ _ _ => false) (fun _ _ => false) (fun _ _ _ _ _ => false) (fun _ _ => false) (fun _ _ _ _ => true) (fun _ _ _ _ => true) (fun _ _ _ _ _ => true) (fun _ => false) (fun _ _ => false) (fun _ _ => false) (fun _ _ _ _ _ _ => false) (fun _ _ _ _ _ => true) (fun _ _ _ _ => true) (fun _ => true) (fun _ _ _ _ => false) (fun _ _ _ _ => false) (fun _ _ => false) (fun _ _ _ => false) (fun _ _ => false) (false)
theorem wrK_eq (op : Cop) : wrK op = op.wr := by cases op <;> first | rfl | (rename_i z; cases z <;> rfl)
def nmkK : Cop → Nat := @Cop.rec (fun _ => Nat) (fun _ => 0) (fun _ _ _ => 0) (fun _ => 1) (fun _ => 1) (fun _ _ => 0) (fun _ _ _ _ => 1) (fun _ _ _ _ => 1) (fun _ _ _ => 0) (fun _ _ _ => 0) (fun _ => 0) (fun _ _ _ => 0) (fun _ _ _ _ => 0) (fun _ _ _ => 0) (fun _ _ => 0) (fun _ _ => 0) (fun _ _ => 0) (fun _ => 0) (fun _ _ _ _ => 0) (1) (fun _ _ _ _ _ _ => 1) (fun _ => 0) (fun _ _ _ _ => 0) (fun _ _ _ => 0) (fun _ _ => 0) (fun _ _ _ _ => 0) (fun _ _ _ => 0) (fun _ _ _ _ => 0) (fun _ _ => 0) (fun _ _ _ _ _ => 0) (fun _ _ => 0) (fun _ _ _ _ => 1) (fun _ _ _ _ => 1) (fun _ _ _ _ _ => 1) (fun _ => 0) (fun _ _ => 0) (fun _ _ => 0) (fun _ _ _ _ _ _ => 0) (fun _ _ _ _ _ => 0) (fun _ _ _ _ => 0) (fun _ => 0) (fun _ _ r _ => r) (fun _ _ r _ => r) (fun _ _ => 0) (fun _ _ r => r) (fun _ _ => 0) (0)
theorem nmkK_eq (op : Cop) : nmkK op = op.nmk := by cases op <;> rfl
def callK : Cop → Bool := @Cop.rec (fun _ => Bool) (fun _ => false) (fun _ _ _ => false) (fun _ => false) (fun _ => false) (fun _ _ => false) (fun _ _ _ _ => false) (fun _ _ _ _ => false) (fun _ _ _ => false) (fun _ _ _ => false) (fun _ => false) (fun _ _ _ => false) (fun _ _ _ _ => false) (fun _ _ _ => false) (fun _ _ => false) (fun _ _ => false) (fun _ _ => false) (fun _ => false) (fun _ _ _ _ => false) (false) (fun _ _ _ _ _ _ => false) (fun _ => false) (fun _ _ _ _ => false) (fun _ _ _ => false) (fun _ _ => false) (fun _ _ _ _ => false) (fun _ _ _ => false) (fun _ _ _ _ => false) (fun _ _ => false) (fun _ _ _ _ _ => false) (fun _ _ => false) (fun _ _ _ _ => false) (fun _ _ _ _ => false) (fun _ _ _ _ _ => false) (fun _ => false) (fun _ _ => false) (fun _ _ => false) (fun _ _ _ _ _ _ => false) (fun _ _ _ _ _ => false) (fun _ _ _ _ => false) (fun _ => false) (fun _ _ _ _ => true) (fun _ _ _ _ => true) (fun _ _ => true) (fun _ _ _ => true) (fun _ _ => false) (false)
theorem callK_eq (op : Cop) : callK op = op.isCall := by cases op <;> rfl
def quietK : Cop → Bool := @Cop.rec (fun _ => Bool) (fun _ => true) (fun _ _ _ => true) (fun _ => false) (fun _ => false) (fun _ _ => true) (fun _ _ _ _ => false) (fun _ _ _ _ => false) (fun _ _ _ => false) (fun _ _ _ => false) (fun _ => true) (fun _ _ _ => true) (fun _ _ _ _ => true) (fun _ _ _ => true) (fun _ _ => true) (fun _ _ => true) (fun _ _ => true) (fun _ => true) (fun _ _ _ _ => false) (false) (fun _ _ _ _ _ _ => false) (fun _ => true) (fun _ _ _ _ => false) (fun _ _ _ => true) (fun _ _ => true) (fun _ _ _ _ => true) (fun _ _ _ => false) (fun _ _ _ _ => true) (fun _ _ => true) (fun _ _ _ _ _ => true) (fun _ _ => false) (fun _ _ _ _ => false) (fun _ _ _ _ => false) (fun _ _ _ _ _ => false) (fun _ => true) (fun _ _ => true) (fun _ _ => true) (fun _ _ _ _ _ _ => false) (fun _ _ _ _ _ => false) (fun _ _ _ _ => false) (fun _ => false) (fun _ _ _ _ => false) (fun _ _ _ _ => false) (fun _ _ => false) (fun _ _ _ => false) (fun _ _ => true) (false)
def argsK : Cop → List A := @Cop.rec (fun _ => List A) (fun x => [x]) (fun c a b => [c, a, b]) (fun _ => []) (fun x => [x]) (fun _ ps => ps.map (·.2.2)) (fun _ _ _ ps => ps.map (·.2)) (fun _ _ _ ps => ps.map (·.2)) (fun _ _ a => [a]) (fun _ a v => [a, v]) (fun x => [x]) (fun _ x y => [x, y]) (fun _ _ x y => [x, y]) (fun _ x y => [x, y]) (fun _ x => [x]) (fun _ x => [x]) (fun _ x => [x]) (fun x => [x]) (fun _ f c _ => f ++ c) ([]) (fun _ _ _ _ x y => [x, y]) (fun x => [x]) (fun _ x lo hi => [x] ++ lo.toList ++ hi.toList) (fun x lo hi => [x] ++ lo.toList ++ hi.toList) (fun _ x => [x]) (fun _ _ _ x => [x]) (fun _ x i => [x, i]) (fun _ _ x i => [x, i]) (fun x i => [x, i]) (fun _ _ _ x i => [x, i]) (fun _ x => [x]) (fun _ _ x y => [x, y]) (fun _ _ x y => [x, y]) (fun _ _ _ x n => [x, n]) (fun x => [x]) (fun _ x => [x]) (fun _ xs => xs) (fun _ _ _ _ m k => [m, k]) (fun _ _ m k v => [m, k, v]) (fun _ _ m k => [m, k]) (fun x => [x]) (fun _ as _ _ => as) (fun f as _ _ => f :: as) (fun _ as => as) (fun _ as _ => as) (fun x _ => [x]) ([])
theorem argsK_eq (op : Cop) : argsK op = op.args := by cases op <;> rfl
def dF : D → Option (Nat × List D × List D) := @D.rec (fun _ => Option (Nat × List D × List D)) (fun _ => Unit) (fun _ => Unit) (fun _ => none) (fun _ _ => none) (fun _ => none) (fun _ _ _ => none) (fun _ _ _ => none) (fun k a c _ _ => some (k, a, c)) none none none () (fun _ _ _ _ => ()) () (fun _ _ _ _ => ())
theorem dF_some {v : D} {x : Nat × List D × List D} (h : dF v = some x) : v = .f x.1 x.2.1 x.2.2 := by
 cases v <;> first | (injection h with h; rw [← h]) | cases h
def entK : Cop → List (Nat × V) → Option Ent := @Cop.rec (fun _ => List (Nat × V) → Option Ent) (fun _ => fun _ => none) (fun _ _ _ => fun _ => none) (fun _ => fun _ => none) (fun _ => fun _ => none) (fun _ _ => fun _ => none) (fun _ _ _ _ => fun _ => none) (fun _ _ _ _ => fun _ => none) (fun _ _ _ => fun _ => none) (fun _ _ _ => fun _ => none) (fun _ => fun _ => none) (fun _ _ _ => fun _ => none) (fun _ _ _ _ => fun _ => none) (fun _ _ _ => fun _ => none) (fun _ _ => fun _ => none) (fun _ _ => fun _ => none) (fun _ _ => fun _ => none) (fun _ => fun _ => none) (fun _ _ _ _ => fun _ => none) (fun _ => none) (fun _ _ _ _ _ _ => fun _ => none) (fun _ => fun _ => none) (fun _ _ _ _ => fun _ => none) (fun _ _ _ => fun _ => none) (fun _ _ => fun _ => none) (fun _ _ _ _ => fun _ => none) (fun _ _ _ => fun _ => none) (fun _ _ _ _ => fun _ => none) (fun _ _ => fun _ => none) (fun _ _ _ _ _ => fun _ => none) (fun _ _ => fun _ => none) (fun _ _ _ _ => fun _ => none) (fun _ _ _ _ => fun _ => none) (fun _ _ _ _ _ => fun _ => none) (fun _ => fun _ => none) (fun _ _ => fun _ => none) (fun _ _ => fun _ => none) (fun _ _ _ _ _ _ => fun _ => none) (fun _ _ _ _ _ => fun _ => none) (fun _ _ _ _ => fun _ => none) (fun _ => fun _ => none) (fun key as _ _ tm => bindK (handPs (kargs as tm)) fun hs => some ⟨key, hs, false⟩) (fun f as _ _ tm => bindK (vD (kev f tm)) fun d => bindK (dF d) fun p => bindK (handPs (ofDs p.2.1 ++ kargs as tm ++ ofDs p.2.2)) fun hs => some ⟨p.1, hs, false⟩) (fun key as tm => bindK (handPs (kargs as tm)) fun hs => ifK (allK fewK hs) (some ⟨key, hs, true⟩) none) (fun key as _ tm => ifK (allK isP (kargs as tm)) (some ⟨key, kargs as tm, false⟩) none) (fun _ _ => fun _ => none) (fun _ => none)
theorem entK_some {op : Cop} {s : St} {e : Ent} (h : entK op s.tmps = some e) : op.isCall = true ∧ ∃ vs res md, callee op (op.args.map s.ev) = some (e.key, vs, res, md) ∧ md.hands vs = some e.args ∧ (∀ c ∈ e.args, isP c = true) ∧ (e.lent = false → md = .keep ∨ md = .frz ∨ md = .raw) ∧ (e.lent = true → md = .lend ∧ ∀ c ∈ e.args, fewK c = true) := by
 cases op
 case call key as res fz =>
  obtain ⟨hs, h1, h⟩ := bindK_some (show bindK (handPs (kargs as s.tmps)) _ = some e from h)
  cases h
  rw [kargs_eq] at h1
  obtain ⟨k1, k2⟩ := handPs_some h1
  refine ⟨rfl, as.map s.ev, res, mdOf fz, rfl, ?_, k2, fun _ => ?_, fun h => by cases h⟩
  ·cases fz <;> exact k1
  ·cases fz
   ·exact .inl rfl
   ·exact .inr (.inl rfl)
 case lend key as =>
  obtain ⟨hs, h1, h⟩ := bindK_some (show bindK (handPs (kargs as s.tmps)) _ = some e from h)
  obtain ⟨hf, h⟩ := ifK_some h
  cases h
  rw [kargs_eq] at h1
  obtain ⟨k1, k2⟩ := handPs_some h1
  exact ⟨rfl, as.map s.ev, 0, .lend, rfl, k1, k2, (fun h => by cases h), fun _ => ⟨rfl, allK_mem hf⟩⟩
 case callr key as res =>
  obtain ⟨hp, h⟩ := ifK_some (show ifK (allK isP (kargs as s.tmps)) _ none = some e from h)
  cases h
  rw [kargs_eq] at hp
  refine ⟨rfl, as.map s.ev, res, .raw, rfl, ?_, ?_, fun _ => .inr (.inr rfl), fun h => by cases h⟩
  ·simp only [kargs_eq]; exact rawAll_pure (allK_mem hp)
  ·simp only [kargs_eq]; exact allK_mem hp
 case callv f as res fz =>
  obtain ⟨d, h1, h⟩ := bindK_some (show bindK (vD (kev f s.tmps)) _ = some e from h)
  obtain ⟨p, h2, h⟩ := bindK_some h
  obtain ⟨hs, h3, h⟩ := bindK_some h
  cases h
  rw [kev_eq'] at h1
  rw [kargs_eq] at h3
  obtain ⟨k1, k2⟩ := handPs_some h3
  refine ⟨rfl, ofDs p.2.1 ++ as.map s.ev ++ ofDs p.2.2, res, mdOf fz, ?_, ?_, k2, fun _ => ?_, fun h => by cases h⟩
  ·simp only [Cop.args, Qb, vD_some h1, dF_some h2, callee]
  ·cases fz <;> exact k1
  ·cases fz
   ·exact .inl rfl
   ·exact .inr (.inl rfl)
 all_goals cases h
def nilK {α : Type} : List α → Bool := @List.rec α (fun _ => Bool) true (fun _ _ _ => false)
theorem nilK_eq {α : Type} {l : List α} (h : nilK l = true) : l = [] := by cases l <;> first | rfl | cases h
def scalD : D → Bool := @D.rec (fun _ => Bool) (fun _ => Unit) (fun _ => Unit) (fun _ => true) (fun _ _ => true) (fun _ => true) (fun _ _ _ => false) (fun _ _ _ => false) (fun _ _ _ _ _ => false) false false false () (fun _ _ _ _ => ()) () (fun _ _ _ _ => ())
def scalV : V → Bool := @V.rec (fun _ => Bool) (fun _ => Unit) scalD (fun _ => false) (fun _ _ _ _ => false) (fun _ _ _ _ => false) (fun _ _ => false) (fun _ _ _ _ => false) (fun _ => false) (fun _ _ _ _ _ => false) (fun _ _ => false) (fun _ _ => false) false () (fun _ _ _ _ => ())
theorem scalV_eq {v : V} (h : scalV v = true) : v.scal = true := by
 cases v with
 | d d => cases d <;> first | rfl | cases h
 | _ => cases h
def purC : V → Option V := @V.rec (fun _ => Option V) (fun _ => Unit) (fun d => some (.d d)) (fun _ => none) (fun _ _ _ _ => none) (fun _ _ _ _ => none) (fun _ _ => none) (fun _ _ _ _ => none) (fun _ => none) (fun _ _ _ _ _ => none) (fun _ _ => none) (fun _ _ => none) none () (fun _ _ _ _ => ())
def purCs : List V → Option (List V) := @List.rec V (fun _ => Option (List V)) (some []) (fun v _ ih => bindK (purC v) fun x => bindK ih fun xs => some (x :: xs))
def purP : V → Option V := @V.rec (fun _ => Option V) (fun _ => Unit) (fun d => some (.d d)) (fun _ => none) (fun _ _ _ _ => none) (fun _ _ _ _ => none) (fun _ _ => none) (fun _ _ _ _ => none) (fun _ => none) (fun _ _ _ _ _ => none) (fun cs _ => bindK (purCs cs) fun cs => some (.agg cs)) (fun _ _ => none) none () (fun _ _ _ _ => ())
def purPs : List V → Option (List V) := @List.rec V (fun _ => Option (List V)) (some []) (fun v _ ih => bindK (purP v) fun x => bindK ih fun xs => some (x :: xs))
def purT : V → Option V := @V.rec (fun _ => Option V) (fun _ => Unit) (fun d => some (.d d)) (fun _ => none) (fun _ _ _ _ => none) (fun _ _ _ _ => none) (fun _ _ => none) (fun _ _ _ _ => none) (fun _ => none) (fun _ _ _ _ _ => none) (fun cs _ => bindK (purCs cs) fun cs => some (.agg cs)) (fun vs _ => bindK (purPs vs) fun vs => some (.tup vs)) none () (fun _ _ _ _ => ())
theorem purC_some {v x : V} (h : purC v = some x) : x = v ∧ isD v = true := by cases v <;> first | (cases h; exact ⟨rfl, rfl⟩) | cases h
theorem purCs_some : ∀ {vs xs : List V}, purCs vs = some xs → xs = vs ∧ ∀ c ∈ vs, isD c = true
 | [], xs, h => by cases h; exact ⟨rfl, by simp⟩
 | v :: vs, xs, h => by
  obtain ⟨x, h1, h⟩ := bindK_some h
  obtain ⟨ys, h2, h⟩ := bindK_some h
  cases h
  obtain ⟨rfl, k2⟩ := purC_some h1
  obtain ⟨rfl, m2⟩ := purCs_some h2
  exact ⟨rfl, by simp [k2]; exact m2⟩
theorem purP_some {v x : V} (h : purP v = some x) : x = v ∧ isP v = true := by
 cases v with
 | agg cs =>
  obtain ⟨ys, h1, h⟩ := bindK_some (show bindK (purCs cs) _ = some x from h)
  cases h
  obtain ⟨rfl, m2⟩ := purCs_some h1
  exact ⟨rfl, allK_of m2⟩
 | _ => first | (cases h; exact ⟨rfl, rfl⟩) | cases h
theorem purPs_some : ∀ {vs xs : List V}, purPs vs = some xs → xs = vs ∧ ∀ c ∈ vs, isP c = true
 | [], xs, h => by cases h; exact ⟨rfl, by simp⟩
 | v :: vs, xs, h => by
  obtain ⟨x, h1, h⟩ := bindK_some h
  obtain ⟨ys, h2, h⟩ := bindK_some h
  cases h
  obtain ⟨rfl, k2⟩ := purP_some h1
  obtain ⟨rfl, m2⟩ := purPs_some h2
  exact ⟨rfl, by simp [k2]; exact m2⟩
theorem purT_some {v x : V} (h : purT v = some x) : x = v ∧ isPT v = true := by
 cases v with
 | agg cs =>
  obtain ⟨ys, h1, h⟩ := bindK_some (show bindK (purCs cs) _ = some x from h)
  cases h
  obtain ⟨rfl, m2⟩ := purCs_some h1
  exact ⟨rfl, allK_of m2⟩
 | tup cs =>
  obtain ⟨ys, h1, h⟩ := bindK_some (show bindK (purPs cs) _ = some x from h)
  cases h
  obtain ⟨rfl, m2⟩ := purPs_some h1
  exact ⟨rfl, allK_of m2⟩
 | _ => first | (cases h; exact ⟨rfl, rfl⟩) | cases h
def putK : Option Nat → V → List (Nat × V) → List (Option Obj) → St := @Option.rec Nat (fun _ => V → List (Nat × V) → List (Option Obj) → St) (fun _ tm hp => ⟨tm, hp⟩) (fun t v tm hp => ⟨(t, v) :: tm, hp⟩)
theorem putK_eq (dst : Option Nat) (v : V) (s : St) : putK dst v s.tmps s.heap = s.put dst v := by cases dst <;> rfl
def guardK : Option (Nat × Bool) → List (Nat × V) → Option Bool := @Option.rec (Nat × Bool) (fun _ => List (Nat × V) → Option Bool) (fun _ => some true) (fun p tm => bindK (vB (kget tm p.1)) fun x => some (ifK p.2 x (notK x)))
theorem guardK_some {g : Option (Nat × Bool)} {s : St} {b : Bool} (h : guardK g s.tmps = some b) : wanted s g = some b := by
 cases g with
 | none => cases h; rfl
 | some p =>
  obtain ⟨t, want⟩ := p
  obtain ⟨x, h1, h⟩ := bindK_some (show bindK (vB (kget s.tmps t)) _ = some b from h)
  rw [kget_eq] at h1
  have hv : s.get t = .d (.b x) := vB_some h1
  simp only [wanted, hv]
  cases h
  cases want <;> cases x <;> rfl
theorem guard_eff (call : CallF) {s : St} {g : Option (Nat × Bool)} (hg : wanted s g = some true) (dst : Option Nat) (op : Cop) (pre fresh : Nat) : opEff call s ⟨dst, op, g, pre⟩ fresh = opEff call s ⟨dst, op, none, pre⟩ fresh := by
 unfold opEff
 rw [show wanted s (CO.guard ⟨dst, op, g, pre⟩) = some true from hg]
 rfl
def plainK : V → Bool := @V.rec (fun _ => Bool) (fun _ => Unit) (fun _ => true) (fun _ => true) (fun _ _ _ _ => true) (fun _ _ _ _ => true) (fun _ _ => true) (fun _ _ _ _ => true) (fun _ => true) (fun _ _ _ _ _ => true) (fun _ _ => false) (fun _ _ => false) false () (fun _ _ _ _ => ())
theorem plainK_cel {v : V} (h : plainK v = true) : v.cel = some [v] := by cases v <;> first | rfl | cases h
def setK {α : Type} : List α → Nat → α → Option (List α) := @List.rec α (fun _ => Nat → α → Option (List α)) (fun _ _ => none) (fun a l ih i x => @Nat.rec (fun _ => Option (List α)) (some (x :: l)) (fun j _ => bindK (ih j x) fun l' => some (a :: l')) i)
theorem setK_some {α : Type} : ∀ {l : List α} {i : Nat} {x : α} {l' : List α}, setK l i x = some l' → i < l.length ∧ l' = l.set i x
 | [], i, x, l', h => by cases h
 | a :: l, 0, x, l', h => by cases h; exact ⟨by simp, rfl⟩
 | a :: l, i + 1, x, l', h => by
  obtain ⟨m, h1, h⟩ := bindK_some (show bindK (setK l i x) _ = some l' from h)
  cases h
  obtain ⟨k1, rfl⟩ := setK_some h1
  exact ⟨by simpa using k1, rfl⟩
theorem over_one {cs : List V} {off : Nat} {v : V} (h : off < cs.length) : over cs off [v] = some (cs.set off v) := by
 unfold over
 rw [if_pos (show off + [v].length ≤ cs.length from h)]
 congr 1
 rw [List.set_eq_take_append_cons_drop, if_pos h]
 simp
def storeK (n : Nat) (a v : V) (dst : Option Nat) (tm : List (Nat × V)) (hp : List (Option Obj)) : Option St :=
 ifK (Nat.beq n 1) (ifK (plainK v) (bindK (vPtr a) fun p => bindK (kNth hp p.1) fun o => bindK (oBox o) fun cs => bindK (setK cs p.2 v) fun cs' => bindK (setK hp p.1 (some (.box cs'))) fun hp' => some (putK dst .undef tm hp')) none) none
def storesK : Cop → Option Nat → List (Nat × V) → List (Option Obj) → Option St := fun op dst tm hp => match op with
 | .st n a v => storeK n (kev a tm) (kev v tm) dst tm hp
 | _ => none
theorem storesK_some (call : CallF) {op : Cop} {s s' : St} {dst : Option Nat} (h : storesK op dst s.tmps s.heap = some s') (pre fresh : Nat) : ∃ e, opEff call s ⟨dst, op, none, pre⟩ fresh = some e ∧ e.on s = s' := by
 cases op
 case st n a v =>
  have h : storeK n (kev a s.tmps) (kev v s.tmps) dst s.tmps s.heap = some s' := h
  rw [kev_eq', kev_eq'] at h
  unfold storeK at h
  obtain ⟨hn, h⟩ := ifK_some h
  obtain ⟨hv, h⟩ := ifK_some h
  obtain ⟨p, h1, h⟩ := bindK_some h
  obtain ⟨o, h2, h⟩ := bindK_some h
  obtain ⟨cs, h3, h⟩ := bindK_some h
  obtain ⟨cs', h4, h⟩ := bindK_some h
  obtain ⟨hp', h5, h⟩ := bindK_some h
  cases h
  have hn := Nat.eq_of_beq_eq_true hn
  subst hn
  have ho : s.obj p.1 = some (.box cs) := by rw [obj_nth, h2]; exact oBox_some h3
  obtain ⟨k1, rfl⟩ := setK_some h4
  obtain ⟨k2, rfl⟩ := setK_some h5
  have hact : act (.st 1 a v) [s.ev a, s.ev v] [some (.box cs)] fresh = some ⟨.undef, [some (.box (cs.set p.2 (s.ev v)))], none⟩ := by
   rw [vPtr_some h1]
   simp [act, actSt, plainK_cel hv, over_one k1]
  refine ⟨⟨dst, .undef, [p.1], true, [some (.box (cs.set p.2 (s.ev v)))], fresh, []⟩, ?_, ?_⟩
  ·simp only [opEff, wanted, Cop.isCall, Qm, if_false, Cop.args, Qb, Qc]
   rw [show Cop.ids (.st 1 a v) [s.ev a, s.ev v] = [p.1] by rw [vPtr_some h1]; rfl]
   simp only [Qb, Qc, ho, hact]
   rfl
  ·simp only [Eff.on, if_true, setObjs, List.length_nil, List.range'_zero]
   exact (putK_eq dst .undef ⟨s.tmps, s.heap.set p.1 (some (.box (cs.set p.2 (s.ev v))))⟩).symm
 all_goals cases h
section
variable (call : CallF)
def callStepK (e : Ent) (dst : Option Nat) (tm : List (Nat × V)) (hp : List (Option Obj)) : Option St :=
 bindK (call e.key e.args []) fun rr => ifK (nilK rr.2) (ifK (ifK e.lent (scalV rr.1) true) (bindK (purT rr.1) fun r => some (putK dst r tm hp)) none) none
theorem callStepK_some {op : Cop} {s s' : St} {e : Ent} {dst : Option Nat} (h1 : entK op s.tmps = some e) (h2 : callStepK call e dst s.tmps s.heap = some s') (pre fresh : Nat) : ∃ f, opEff call s ⟨dst, op, none, pre⟩ fresh = some f ∧ f.on s = s' := by
 obtain ⟨hc, vs, res, md, k1, k2, k3, k4, k5⟩ := entK_some h1
 obtain ⟨rr, m1, h⟩ := bindK_some h2
 obtain ⟨m2, h⟩ := ifK_some h
 obtain ⟨m3, h⟩ := ifK_some h
 obtain ⟨r, m4, h⟩ := bindK_some h
 cases h
 obtain ⟨rfl, m5⟩ := purT_some m4
 obtain ⟨r, h'⟩ := rr
 have := nilK_eq m2
 subst this
 have hfr : frzCall md call e.key e.args [] = some (r, []) := by
  cases hl : e.lent with
  | false =>
   rcases k4 hl with rfl | rfl | rfl
   ·exact m1
   ·simp only [frzCall, m1]
    unfold settle
    rw [ansIds_pure _ m5]
   ·exact m1
  | true =>
   obtain ⟨rfl, hf⟩ := k5 hl
   rw [hl] at m3
   have hsc := scalV_eq (show scalV r = true from m3)
   simp only [frzCall, lendArgs_pure _ k3 hf, m1, hsc, if_true]
 have hent := enter_pure call md s.obj (res := res) (fresh := fresh) k2 k3 hfr m5
 refine ⟨⟨dst, r, [], true, [], fresh, []⟩, ?_, ?_⟩
 ·simp only [opEff, wanted, hc, if_true, k1, hent]
 ·simp only [Eff.on, if_true, setObjs, List.length_nil, List.range'_zero]
  exact (putK_eq dst r s).symm
def callEffK (s : St) (o : CO) (fresh : Nat) : Option Eff :=
 match callee o.op (kargs (argsK o.op) s.tmps) with
 | none => none
 | some (key, vs, res, fz) => match enterCall (frzCall fz call) fz s.obj key vs res fresh with
  | none => none
  | some (r, is, os, ns) => some ⟨o.dst, r, is, true, os, fresh, ns⟩
def actEffK (s : St) (o : CO) (fresh : Nat) : Option Eff :=
 match actK o.op (kargs (argsK o.op) s.tmps) ((idsK o.op (kargs (argsK o.op) s.tmps)).map s.obj) fresh with
 | none => none
 | some r => some ⟨o.dst, r.v, idsK o.op (kargs (argsK o.op) s.tmps), wrK o.op, r.os, fresh, r.nws⟩
def goEffK (s : St) (o : CO) (fresh : Nat) : Option Eff := @Bool.rec (fun _ => Option Eff) (actEffK s o fresh) (callEffK call s o fresh) (callK o.op)
theorem goEffK_eq (s : St) (o : CO) (fresh : Nat) (hg : wanted s o.guard = some true) : goEffK call s o fresh = opEff call s o fresh := by
 obtain ⟨dst, op, guard, pre⟩ := o
 simp only [opEff, hg, goEffK, callK_eq]
 cases h : op.isCall with
 | true =>
  simp only [callEffK, if_true, kargs_eq, argsK_eq]
  rfl
 | false =>
  simp only [actEffK, kargs_eq, argsK_eq, actK_eq, idsK_eq, wrK_eq, Qm, if_false]
  rfl
def onK (s : St) (x : Option Eff) : Option St := @Option.rec Eff (fun _ => Option St) none (fun e => some (e.on s)) x
def orK {α : Type} (x : Option α) (y : Option α) : Option α := @Option.rec α (fun _ => Option α) y some x
def stepK (s : St) (o : CO) (fresh : Nat) : Option St :=
 @Option.rec Bool (fun _ => Option St) (onK s (opEff call s o fresh))
  (fun b => ifK b (orK (bindK (pvalK o.op s.tmps s.heap) fun v => some (putK o.dst v s.tmps s.heap)) (orK (storesK o.op o.dst s.tmps s.heap) (orK (bindK (entK o.op s.tmps) fun e => callStepK call e o.dst s.tmps s.heap) (onK s (goEffK call s o fresh))))) (some (putK o.dst .undef s.tmps s.heap))) (guardK o.guard s.tmps)
theorem orK_some {α : Type} {x y : Option α} {a : α} (h : orK x y = some a) : x = some a ∨ (x = none ∧ y = some a) := by
 cases x with
 | none => exact .inr ⟨rfl, h⟩
 | some b => exact .inl h
theorem onK_some {s s' : St} {x : Option Eff} (h : onK s x = some s') : ∃ e, x = some e ∧ e.on s = s' := by
 cases x with
 | none => cases h
 | some e => cases h; exact ⟨e, rfl, rfl⟩
theorem stepK_some {s s' : St} {o : CO} {fresh : Nat} (h : stepK call s o fresh = some s') : ∃ e, opEff call s o fresh = some e ∧ e.on s = s' := by
 unfold stepK at h
 cases hg : guardK o.guard s.tmps with
 | none => rw [hg] at h; exact onK_some h
 | some b =>
  rw [hg] at h
  have hw := guardK_some hg
  cases b with
  | false =>
   have h : some (putK o.dst .undef s.tmps s.heap) = some s' := h
   cases h
   refine ⟨⟨o.dst, .undef, [], false, [], fresh, []⟩, by simp only [opEff, hw], ?_⟩
   simp only [Eff.on, Qm, if_false, List.length_nil, List.range'_zero, setObjs]
   exact (putK_eq o.dst .undef s).symm
  | true =>
   obtain ⟨dst, op, g, pre⟩ := o
   rcases orK_some h with h | ⟨_, h⟩
   ·obtain ⟨v, h1, h⟩ := bindK_some h
    cases h
    rw [guard_eff call hw]
    obtain ⟨e, k1, k2⟩ := pvalK_some call h1 dst pre fresh
    exact ⟨e, k1, by rw [k2]; exact (putK_eq dst v s).symm⟩
   ·rcases orK_some h with h | ⟨_, h⟩
    ·rw [guard_eff call hw]
     exact storesK_some call h pre fresh
    ·rcases orK_some h with h | ⟨_, h⟩
     ·obtain ⟨e, h1, h2⟩ := bindK_some h
      rw [guard_eff call hw]
      exact callStepK_some call h1 h2 pre fresh
     ·obtain ⟨e, k1, k2⟩ := onK_some h
      exact ⟨e, by rw [← goEffK_eq call s ⟨dst, op, g, pre⟩ fresh hw]; exact k1, k2⟩
end
def sumK (p : CO → Nat) : List CO → Nat := @List.rec CO (fun _ => Nat) 0 (fun o _ ih => Nat.add (p o) ih)
def mkCount : List CO → Nat := sumK fun o => nmkK o.op
def noisy : List CO → Nat := sumK fun o => ifK (quietK o.op) 0 1
theorem mkCount_eq : ∀ (ops : List CO), mkCount ops = countMk ops
 | [] => rfl
 | o :: r => by
  show Nat.add (nmkK o.op) (mkCount r) = _
  rw [nmkK_eq, mkCount_eq r]; rfl
def appK {α : Type} (r : List α) : List α → Option (List α) := @List.rec α (fun _ => Option (List α)) (some r) (fun a _ ih => bindK ih fun l => some (a :: l))
theorem appK_some {α : Type} {r : List α} : ∀ {l m : List α}, appK r l = some m → m = l ++ r
 | [], m, h => by cases h; rfl
 | a :: l, m, h => by
  obtain ⟨x, h1, h⟩ := bindK_some (show bindK (appK r l) _ = some m from h)
  cases h
  rw [appK_some h1]; rfl
def repK {α : Type} (x : α) : Nat → List α := @Nat.rec (fun _ => List α) [] (fun _ ih => x :: ih)
theorem repK_eq {α : Type} (x : α) : ∀ n, repK x n = List.replicate n x
 | 0 => rfl
 | n + 1 => by show x :: repK x n = _; rw [repK_eq x n]; rfl
section
variable (call : CallF)
def runOpsK (base : Nat) : List CO → Nat → St → Option St :=
 @List.rec CO (fun _ => Nat → St → Option St) (fun _ s => some s) (fun o _ ih j s => bindK (stepK call s o (base + j)) (ih (j + nmkK o.op)))
def QuietE (e : Eff) : Prop := e.ids = [] ∧ e.nws = []
def Quiets : List CO → List Eff → Prop
 | [], [] => True
 | o :: os, e :: es => (quietK o.op = true → QuietE e) ∧ Quiets os es
 | _, _ => False
theorem quiet_eff {s : St} {o : CO} {fresh : Nat} {e : Eff} (h : opEff call s o fresh = some e) (hq : quietK o.op = true) : QuietE e := by
 obtain ⟨dst, op, g, pre⟩ := o
 have hcall : op.isCall = false := by cases op <;> first | rfl | cases hq
 have hids : ∀ vs, op.ids vs = [] := fun vs => by rw [← idsK_eq]; cases op <;> first | rfl | cases hq
 have hn : op.nmk = 0 := by cases op <;> first | rfl | cases hq
 rw [opEff_eq] at h
 obtain ⟨_, k2, _, _⟩ := eff_in h
 have k2 : e.nws.length ≤ op.nmk := k2
 refine ⟨?_, List.length_eq_zero_iff.1 (by omega)⟩
 rw [← opEff_eq] at h
 unfold opEff at h
 split at h
 ·cases h
 ·cases h; rfl
 ·simp only [hcall, Qm, if_false] at h
  split at h
  ·cases h
  ·cases h; exact hids _
theorem runOps_quiets {base : Nat} : ∀ {ops : List CO} {j : Nat} {s s' : St} {es : List Eff}, runOps call base ops j s = some (s', es) → Quiets ops es
 | [], j, s, s', es, h => by cases h; trivial
 | o :: r, j, s, s', es, h => by
  simp only [runOps] at h
  split at h
  ·cases h
  ·rename_i e he
   split at h
   ·rename_i s2 es2 hes
    cases h
    exact ⟨quiet_eff call he, runOps_quiets hes⟩
   ·cases h
theorem clash_quiet {a b : Eff} (h : QuietE a ∨ QuietE b) : clash a b = false := by
 have hnew : ∀ {e : Eff}, e.nws = [] → ∀ i, e.new i = false := fun {e} he i => by unfold Eff.new; rw [he]; simp
 have hany : ∀ {e f : Eff}, e.nws = [] → f.ids.any e.new = false := fun {e f} he => by
  rw [Bool.eq_false_iff]
  intro hh
  obtain ⟨i, _, hi⟩ := List.any_eq_true.1 hh
  rw [hnew he] at hi; cases hi
 unfold clash
 rcases h with ⟨h1, h2⟩ | ⟨h1, h2⟩
 ·rw [h1, hany h2]; simp
 ·rw [h1, hany h2]; simp
theorem race_one {e : Eff} (he : QuietE e) {k : Nat} : ∀ {os : List CO} {es : List Eff}, raceFrom e k os es = true
 | [], _ => rfl
 | _ :: _, [] => rfl
 | o :: os, e' :: es => by simp [raceFrom, clash_quiet (.inl he), race_one he]
theorem race_all {e : Eff} {k : Nat} : ∀ {os : List CO} {es : List Eff}, noisy os = 0 → Quiets os es → raceFrom e k os es = true
 | [], _, _, _ => rfl
 | _ :: _, [], _, _ => rfl
 | o :: os, e' :: es, hn, hq => by
  have hn : Nat.add (ifK (quietK o.op) 0 1) (noisy os) = 0 := hn
  have h1 : quietK o.op = true := by
   cases hb : quietK o.op with
   | true => rfl
   | false => rw [hb] at hn; have : 1 + noisy os = 0 := hn; omega
  have h2 : noisy os = 0 := by rw [h1] at hn; have : 0 + noisy os = 0 := hn; omega
  simp [raceFrom, clash_quiet (.inr (hq.1 h1)), race_all h2 hq.2]
theorem norace_few : ∀ {os : List CO} {es : List Eff} {k : Nat}, noisy os ≤ 1 → Quiets os es → noRace os es k = true
 | [], [], _, _, _ => rfl
 | [], _ :: _, _, _, h => h.elim
 | _ :: _, [], _, _, h => h.elim
 | o :: os, e :: es, k, hn, hq => by
  have hn : Nat.add (ifK (quietK o.op) 0 1) (noisy os) ≤ 1 := hn
  cases hb : quietK o.op with
  | true =>
   rw [hb] at hn
   have h2 : noisy os ≤ 1 := by have : 0 + noisy os ≤ 1 := hn; omega
   simp [noRace, race_one (hq.1 hb), norace_few h2 hq.2]
  | false =>
   rw [hb] at hn
   have h2 : noisy os = 0 := by have : 1 + noisy os ≤ 1 := hn; omega
   simp [noRace, race_all h2 hq.2, norace_few (by omega : noisy os ≤ 1) hq.2]
theorem runOpsK_some {base : Nat} : ∀ {ops : List CO} {j : Nat} {s s' : St}, runOpsK call base ops j s = some s' → ∃ es, runOps call base ops j s = some (s', es)
 | [], j, s, s', h => by cases h; exact ⟨[], rfl⟩
 | o :: r, j, s, s', h => by
  obtain ⟨s1, h1, h⟩ := bindK_some (show bindK (stepK call s o (base + j)) (runOpsK call base r (j + nmkK o.op)) = some s' from h)
  obtain ⟨e, k1, rfl⟩ := stepK_some call h1
  rw [nmkK_eq] at h
  obtain ⟨es, k2⟩ := runOpsK_some h
  exact ⟨e :: es, by simp only [runOps, k1, k2]⟩
end
def pairOk (e : Eff) (k : Nat) (p : CO × Eff) : Bool := ifK (p.1.pre.testBit k) true (notK (clash e p.2))
def zipO : List CO → List Eff → List (CO × Eff) := @List.rec CO (fun _ => List Eff → List (CO × Eff)) (fun _ => []) (fun o _ ih es => @List.rec Eff (fun _ => List (CO × Eff)) [] (fun e es' _ => (o, e) :: ih es') es)
structure Raced where
 ok : Bool
 touch : List (CO × Eff)
def raceK : List (CO × Eff) → Nat → Raced := @List.rec (CO × Eff) (fun _ => Nat → Raced) (fun _ => ⟨true, []⟩) (fun p rest ih k =>
 @Raced.rec (fun _ => Raced) (fun ok tl => ifK ok (ifK (nilK p.2.ids) ⟨allK (pairOk p.2 k) tl, tl⟩ ⟨allK (pairOk p.2 k) rest, p :: tl⟩) ⟨false, []⟩) (ih (Nat.succ k)))
theorem pairOk_eq (e : Eff) (k : Nat) (p : CO × Eff) : pairOk e k p = (p.1.pre.testBit k || !clash e p.2) := by
 unfold pairOk ifK
 rw [notK_eq]
 cases p.1.pre.testBit k <;> rfl
theorem raceFrom_all (e : Eff) (k : Nat) : ∀ (os : List CO) (es : List Eff), (∀ p ∈ zipO os es, pairOk e k p = true) → raceFrom e k os es = true
 | [], es, _ => by cases es <;> rfl
 | o :: os, [], _ => rfl
 | o :: os, e' :: es, h => by
  have h1 := h (o, e') (List.mem_cons_self ..)
  rw [pairOk_eq] at h1
  simp only [raceFrom, h1, Bool.true_and]
  exact raceFrom_all e k os es (fun p hp => h p (List.mem_cons_of_mem _ hp))
theorem clash_idless {a b : Eff} (h1 : a.ids = []) (h2 : b.ids = []) : clash a b = false := by
 unfold clash; rw [h1, h2]; simp
theorem raceK_ok : ∀ (os : List CO) (es : List Eff) (k : Nat), (raceK (zipO os es) k).ok = true → noRace os es k = true ∧ ∀ p ∈ zipO os es, p ∈ (raceK (zipO os es) k).touch ∨ p.2.ids = []
 | [], es, k, _ => ⟨by cases es <;> rfl, fun p hp => by cases hp⟩
 | o :: os, [], k, _ => ⟨rfl, fun p hp => by cases hp⟩
 | o :: os, e :: es, k, h => by
  have heq : raceK (zipO (o :: os) (e :: es)) k = @Raced.rec (fun _ => Raced) (fun ok tl => ifK ok (ifK (nilK e.ids) ⟨allK (pairOk e k) tl, tl⟩ ⟨allK (pairOk e k) (zipO os es), (o, e) :: tl⟩) ⟨false, []⟩) (raceK (zipO os es) (Nat.succ k)) := rfl
  rw [heq] at h ⊢
  cases hr : raceK (zipO os es) (Nat.succ k) with
  | mk ok tl =>
   rw [hr] at h
   cases ok with
   | false => cases h
   | true =>
    obtain ⟨m1, m2⟩ := raceK_ok os es (k + 1) (by rw [hr])
    rw [hr] at m2
    cases hn : nilK e.ids with
    | true =>
     have h : (ifK (nilK e.ids) (⟨allK (pairOk e k) tl, tl⟩ : Raced) ⟨allK (pairOk e k) (zipO os es), (o, e) :: tl⟩).ok = true := h
     rw [hn] at h
     have hall := allK_mem (show allK (pairOk e k) tl = true from h)
     have hids := nilK_eq hn
     refine ⟨?_, ?_⟩
     ·simp only [noRace, m1, Bool.and_true]
      refine raceFrom_all e k os es (fun p hp => ?_)
      rcases m2 p hp with hm | hm
      ·exact hall p hm
      ·rw [pairOk_eq, clash_idless hids hm]; simp
     ·show ∀ p ∈ (o, e) :: zipO os es, p ∈ tl ∨ p.2.ids = []
      intro p hp
      rcases List.mem_cons.1 hp with rfl | hp
      ·exact .inr hids
      ·exact m2 p hp
    | false =>
     have h : (ifK (nilK e.ids) (⟨allK (pairOk e k) tl, tl⟩ : Raced) ⟨allK (pairOk e k) (zipO os es), (o, e) :: tl⟩).ok = true := h
     rw [hn] at h
     have hall := allK_mem (show allK (pairOk e k) (zipO os es) = true from h)
     refine ⟨?_, ?_⟩
     ·simp only [noRace, m1, Bool.and_true]
      exact raceFrom_all e k os es hall
     ·show ∀ p ∈ (o, e) :: zipO os es, p ∈ (o, e) :: tl ∨ p.2.ids = []
      intro p hp
      rcases List.mem_cons.1 hp with rfl | hp
      ·exact .inl (List.mem_cons_self ..)
      ·rcases m2 p hp with hm | hm
       ·exact .inl (List.mem_cons_of_mem _ hm)
       ·exact .inr hm
section
variable (call : CallF)
def effAtK (s : St) (o : CO) (fresh : Nat) : Option Eff := @Option.rec Bool (fun _ => Option Eff) (opEff call s o fresh)
  (fun b => ifK b (goEffK call s o fresh) (opEff call s o fresh)) (guardK o.guard s.tmps)
theorem effAtK_eq (s : St) (o : CO) (fresh : Nat) : effAtK call s o fresh = opEff call s o fresh := by
 unfold effAtK
 cases hg : guardK o.guard s.tmps with
 | none => rfl
 | some b =>
  cases b with
  | true => exact goEffK_eq call s o fresh (guardK_some hg)
  | false => rfl
def Eff.onK (e : Eff) (s : St) : St := @Eff.rec (fun _ => St) (fun dst v ids wr os fresh nws => ifK (ifK wr (nilK ids) true) (ifK (nilK nws) (putK dst v s.tmps s.heap) (Eff.on ⟨dst, v, ids, wr, os, fresh, nws⟩ s)) (Eff.on ⟨dst, v, ids, wr, os, fresh, nws⟩ s)) e
theorem Eff.onK_eq (e : Eff) (s : St) : e.onK s = e.on s := by
 obtain ⟨dst, v, ids, wr, os, fresh, nws⟩ := e
 show ifK (ifK wr (nilK ids) true) (ifK (nilK nws) (putK dst v s.tmps s.heap) (Eff.on ⟨dst, v, ids, wr, os, fresh, nws⟩ s)) (Eff.on ⟨dst, v, ids, wr, os, fresh, nws⟩ s) = _
 have main : nws = [] → (wr = true → ids = []) → putK dst v s.tmps s.heap = Eff.on ⟨dst, v, ids, wr, os, fresh, nws⟩ s := fun h1 h2 => by
  subst h1
  rw [putK_eq]
  unfold Eff.on
  cases wr with
  | false => simp [setObjs]
  | true => rw [h2 rfl]; cases os <;> simp [setObjs]
 cases hn : nilK nws with
 | false => cases ifK wr (nilK ids) true <;> rfl
 | true =>
  cases hc : ifK wr (nilK ids) true with
  | false => rfl
  | true =>
   refine main (nilK_eq hn) (fun hw => ?_)
   subst hw
   exact nilK_eq hc
structure Ran where
 s : St
 es : List Eff
def runEffK (base : Nat) : List CO → Nat → St → Option Ran :=
 @List.rec CO (fun _ => Nat → St → Option Ran) (fun _ s => some ⟨s, []⟩) (fun o _ ih j s => bindK (effAtK call s o (base + j)) fun e => bindK (ih (j + nmkK o.op) (e.onK s)) fun r => some ⟨r.s, e :: r.es⟩)
theorem runEffK_some {base : Nat} : ∀ {ops : List CO} {j : Nat} {s : St} {r : Ran}, runEffK call base ops j s = some r → runOps call base ops j s = some (r.s, r.es)
 | [], j, s, r, h => by cases h; rfl
 | o :: ops, j, s, r, h => by
  obtain ⟨e, h1, h⟩ := bindK_some (show bindK (effAtK call s o (base + j)) _ = some r from h)
  obtain ⟨r2, h2, h⟩ := bindK_some h
  cases h
  rw [effAtK_eq] at h1
  rw [Eff.onK_eq, nmkK_eq] at h2
  simp only [runOps, h1, runEffK_some h2]
def drawK (ops : List CO) (s : St) : Option St :=
 bindK (appK (repK none (mkCount ops)) s.heap) fun hp => forceK (kLen s.heap) fun b => bindK (runEffK call b ops 0 ⟨s.tmps, hp⟩) fun r => ifK (raceK (zipO ops r.es) 0).ok (some r.s) none
theorem drawK_some {ops : List CO} {s s' : St} (h : drawK call ops s = some s') : runRegion call true ops s = some s' := by
 obtain ⟨hp, h1, h⟩ := bindK_some (show bindK (appK (repK none (mkCount ops)) s.heap) _ = some s' from h)
 rw [forceK_eq, kLen_eq] at h
 obtain ⟨r, h2, h⟩ := bindK_some h
 obtain ⟨h3, h⟩ := ifK_some h
 cases h
 have := appK_some h1
 rw [repK_eq, mkCount_eq] at this
 subst this
 have he := runEffK_some call h2
 unfold runRegion
 simp only [he, (raceK_ok _ _ _ h3).1, if_true]
end
section
variable (call : CallF)
def regionK (draw : Bool) (ops : List CO) (s : St) : Option St :=
 ifK (ifK draw (Nat.ble (noisy ops) 1) true)
  (ifK (Nat.beq (mkCount ops) 0) (runOpsK call (kLen s.heap) ops 0 s) (bindK (appK (repK none (mkCount ops)) s.heap) fun hp => forceK (kLen s.heap) fun b => runOpsK call b ops 0 ⟨s.tmps, hp⟩))
  (orK (ifK draw (drawK call ops s) none) (runRegion call draw ops s))
theorem regionK_some {draw : Bool} {ops : List CO} {s s' : St} (h : regionK call draw ops s = some s') : runRegion call draw ops s = some s' := by
 unfold regionK at h
 have fin : ∀ es, (draw = true → noisy ops ≤ 1) → runOps call s.heap.length ops 0 { s with heap := s.heap ++ List.replicate (countMk ops) none } = some (s', es) → runRegion call draw ops s = some s' := fun es hd he => by
  unfold runRegion
  simp only [he]
  cases draw with
  | false => rfl
  | true => simp [norace_few (hd rfl) (runOps_quiets call he)]
 have go : (draw = true → noisy ops ≤ 1) → (ifK (Nat.beq (mkCount ops) 0) (runOpsK call (kLen s.heap) ops 0 s) (bindK (appK (repK none (mkCount ops)) s.heap) fun hp => forceK (kLen s.heap) fun b => runOpsK call b ops 0 ⟨s.tmps, hp⟩)) = some s' → runRegion call draw ops s = some s' := fun hd h => by
  rw [mkCount_eq, kLen_eq] at h
  cases hz : Nat.beq (countMk ops) 0 with
  | true =>
   rw [hz] at h
   obtain ⟨es, k⟩ := runOpsK_some call (show runOpsK call s.heap.length ops 0 s = some s' from h)
   refine fin es hd ?_
   rw [Nat.eq_of_beq_eq_true hz]
   simpa using k
  | false =>
   rw [hz] at h
   obtain ⟨hp, h1, h⟩ := bindK_some (show bindK (appK (repK none (countMk ops)) s.heap) _ = some s' from h)
   rw [forceK_eq] at h
   have := appK_some h1
   rw [repK_eq] at this
   subst this
   obtain ⟨es, k⟩ := runOpsK_some call h
   exact fin es hd k
 cases draw with
 | false => exact go (fun h => by cases h) h
 | true =>
  cases hb : Nat.ble (noisy ops) 1 with
  | true => rw [hb] at h; exact go (fun _ => Nat.le_of_ble_eq_true hb) h
  | false =>
   rw [hb] at h
   rcases orK_some (show orK (drawK call ops s) (runRegion call true ops s) = some s' from h) with h | ⟨_, h⟩
   ·exact drawK_some call h
   ·exact h
def subK' : List V → Nat → Nat → Option (List V) := @List.rec V (fun _ => Nat → Nat → Option (List V)) (fun off n => ifK (Nat.beq n 0) (ifK (Nat.beq off 0) (some []) none) none)
 (fun a _ ih off n => @Nat.rec (fun _ => Option (List V)) (@Nat.rec (fun _ => Option (List V)) (some []) (fun m _ => bindK (ih 0 m) fun l => some (a :: l)) n) (fun o _ => ih o n) off)
theorem subK'_some : ∀ {cs : List V} {off n : Nat} {l : List V}, subK' cs off n = some l → off + n ≤ cs.length ∧ l = (cs.drop off).take n
 | [], off, n, l, h => by
  obtain ⟨h1, h⟩ := ifK_some (show ifK (Nat.beq n 0) _ none = some l from h)
  obtain ⟨h2, h⟩ := ifK_some h
  cases h
  rw [Nat.eq_of_beq_eq_true h1, Nat.eq_of_beq_eq_true h2]
  simp
 | a :: cs, 0, 0, l, h => by cases h; simp
 | a :: cs, 0, n + 1, l, h => by
  obtain ⟨m, h1, h⟩ := bindK_some (show bindK (subK' cs 0 n) _ = some l from h)
  cases h
  obtain ⟨k1, k2⟩ := subK'_some h1
  refine ⟨by simp; omega, ?_⟩
  rw [k2]; simp
 | a :: cs, off + 1, n, l, h => by
  obtain ⟨k1, k2⟩ := subK'_some (show subK' cs off n = some l from h)
  exact ⟨by simp; omega, by rw [k2]; simp⟩
def retK (s : St) : Ret → Option V := @Ret.rec (fun _ => Option V) (fun _ => none) (fun t => handP (kget s.tmps t)) (fun t agg n => bindK (vPtr (kget s.tmps t)) fun p => bindK (kNth s.heap p.1) fun o => bindK (oBox o) fun cs =>
 ifK agg (bindK (subK' cs p.2 n) fun l => bindK (handCs l) fun l => some (.agg l)) (ifK (Nat.beq n 1) (bindK (kNth cs p.2) handC) none))
theorem isP_of_isD {v : V} (h : isD v = true) : isP v = true := by obtain ⟨d, rfl⟩ := isD_d h; rfl
theorem retK_some {s : St} {r : Ret} {v : V} (h : retK s r = some v) : retV s r = some v ∧ isP v = true := by
 cases r with
 | raw t => cases h
 | slot t =>
  have h : handP (kget s.tmps t) = some v := h
  rw [kget_eq] at h
  exact handP_some h
 | cell t agg n =>
  obtain ⟨p, h1, h⟩ := bindK_some (show bindK (vPtr (kget s.tmps t)) _ = some v from h)
  obtain ⟨o, h2, h⟩ := bindK_some h
  obtain ⟨cs, h3, h⟩ := bindK_some h
  rw [kget_eq] at h1
  have hg : s.get t = .ptr p.1 p.2 := vPtr_some h1
  have ho : s.obj p.1 = some (.box cs) := by rw [obj_nth, h2]; exact oBox_some h3
  cases agg with
  | true =>
   obtain ⟨l, h4, h⟩ := bindK_some (show bindK (subK' cs p.2 n) _ = some v from h)
   obtain ⟨l', h5, h⟩ := bindK_some h
   cases h
   obtain ⟨k1, rfl⟩ := subK'_some h4
   obtain ⟨m1, m2⟩ := handCs_some h5
   have hlen : ((cs.drop p.2).take n).length = n := by simp; omega
   refine ⟨?_, allK_of m2⟩
   simp only [retV, hg, ho, takeV, k1, if_true, asVar, hlen, V.hand, m1]
  | false =>
   obtain ⟨h4, h⟩ := ifK_some (show ifK (Nat.beq n 1) _ none = some v from h)
   obtain ⟨c, h5, h6⟩ := bindK_some h
   have hn := Nat.eq_of_beq_eq_true h4
   subst hn
   rw [kNth_eq] at h5
   obtain ⟨m1, m2⟩ := handC_some h6
   refine ⟨?_, isP_of_isD m2⟩
   simp only [retV, hg, ho, takeV_one h5, asVar, Qm, if_false, m1]
def retsK (s : St) : List Ret → Option (List V) := @List.rec Ret (fun _ => Option (List V)) (some []) (fun r _ ih => bindK (retK s r) fun v => bindK ih fun vs => some (v :: vs))
theorem retsK_some {s : St} : ∀ {rs : List Ret} {vs : List V}, retsK s rs = some vs → retAll s rs = some vs ∧ ∀ v ∈ vs, isP v = true
 | [], vs, h => by cases h; exact ⟨rfl, by simp⟩
 | r :: rs, vs, h => by
  obtain ⟨v, h1, h⟩ := bindK_some (show bindK (retK s r) _ = some vs from h)
  obtain ⟨ws, h2, h⟩ := bindK_some h
  cases h
  obtain ⟨k1, k2⟩ := retK_some h1
  obtain ⟨m1, m2⟩ := retsK_some h2
  exact ⟨by simp only [retAll, k1, m1], by simp [k2]; exact m2⟩
def resultK (h : List (Option Obj)) (s : St) (rets : List Ret) : Option (V × List (Option Obj)) :=
 ifK (nilK h) (orK (bindK (retsK s rets) fun vs => some (answer vs, [])) (result 0 s rets)) (result h.length s rets)
theorem resultK_some {h : List (Option Obj)} {s : St} {rets : List Ret} {r : V × List (Option Obj)} (hr : resultK h s rets = some r) : result h.length s rets = some r := by
 unfold resultK at hr
 cases hn : nilK h with
 | false => rw [hn] at hr; exact hr
 | true =>
  rw [hn] at hr
  have := nilK_eq hn
  subst this
  rcases orK_some hr with hr | ⟨_, hr⟩
  ·obtain ⟨vs, h1, hr⟩ := bindK_some hr
   cases hr
   obtain ⟨k1, k2⟩ := retsK_some h1
   obtain ⟨m1, m2, _⟩ := ren_pures (placeOf []) noShift k2
   have hT : isPT (answer vs) = true := by
    match vs, k2 with
    | [v], k2 =>
     have := k2 v (by simp)
     rcases isP_cases this with ⟨d, rfl⟩ | ⟨cs, rfl, hc⟩
     ·rfl
     ·exact allK_of hc
    | [], _ => rfl
    | a :: b :: r, k2 => exact allK_of k2
   have hreach : reach s.obj far (List.range 0 ++ V.refsAll vs) [] = some [] := by rw [m2]; rfl
   unfold result
   simp only [k1, resultV, List.length_nil, hreach, Qc, renObjs, (ren_pureT _ _ hT).1]
  ·exact hr
end
def headF : V → Option V := @V.rec (fun _ => Option V) (fun _ => Unit) (fun d => some (.d d)) (fun sz => some (.nil sz)) (fun a b c d => some (.own a b c d)) (fun a b c d => some (.arr a b c d)) (fun a b => some (.ptr a b)) (fun a b c d => some (.pm a b c d)) (fun a => some (.map a)) (fun a b c _ _ => some (.fn a b c)) (fun a _ => some (.agg a)) (fun a _ => some (.tup a)) (some .bad) () (fun _ _ _ _ => ())
theorem headF_eq (v : V) : headF v = some v := by cases v <;> rfl
def keepE : List Nat → List (Nat × V) → Option (List (Nat × V)) := @List.rec Nat (fun _ => List (Nat × V) → Option (List (Nat × V))) (fun _ => some []) (fun t _ ih tm => bindK (headF (kget tm t)) fun v => bindK (ih tm) fun l => some ((t, v) :: l))
theorem keepE_some : ∀ {ks : List Nat} {s : St} {l : List (Nat × V)}, keepE ks s.tmps = some l → l = keepTmps s ks
 | [], s, l, h => by cases h; rfl
 | t :: ks, s, l, h => by
  obtain ⟨v, h1, h⟩ := bindK_some (show bindK (headF (kget s.tmps t)) _ = some l from h)
  obtain ⟨m, h2, h⟩ := bindK_some h
  cases h
  rw [headF_eq, kget_eq] at h1
  cases h1
  rw [keepE_some h2]; rfl
def enterK (ann : Ann) (s : St) : Option St := ifK (ifK (nilK ann.own) (ifK (nilK ann.ownB) (ifK (nilK ann.dat) (nilK ann.datB) false) false) false) (bindK (keepE ann.keep s.tmps) fun tm => some ⟨tm, s.heap⟩) none
theorem ifK_true {a b : Bool} (h : ifK a b false = true) : a = true ∧ b = true := by
 cases a with
 | true => exact ⟨rfl, h⟩
 | false => cases h
theorem enterK_some {ann : Ann} {s s' : St} (h : enterK ann s = some s') : enter ann s = s' := by
 obtain ⟨hc, h⟩ := ifK_some h
 obtain ⟨c1, hc⟩ := ifK_true hc
 obtain ⟨c2, hc⟩ := ifK_true hc
 obtain ⟨c3, c4⟩ := ifK_true hc
 obtain ⟨tm, h1, h⟩ := bindK_some h
 cases h
 unfold enter dats
 simp only [nilK_eq c1, nilK_eq c2, nilK_eq c3, nilK_eq c4, List.foldl_nil]
 rw [keepE_some h1]
def datF : V → Option V := @V.rec (fun _ => Option V) (fun _ => Unit) (fun d => some (.d d)) (fun sz => some (.d (.l sz []))) (fun _ _ sz xs => some (.d (.l sz xs))) (fun a b c d => some (.arr a b c d)) (fun a b => some (.ptr a b)) (fun a b c d => some (.pm a b c d)) (fun a => some (.map a)) (fun a b c _ _ => some (.fn a b c)) (fun _ _ => none) (fun a _ => some (.tup a)) (some .bad) () (fun _ _ _ _ => ())
theorem datF_some {v x : V} (h : datF v = some x) : datV v = x := by cases v <;> first | (cases h; rfl) | cases h
def datK : List Nat → List (Nat × V) → Option (List (Nat × V)) := @List.rec Nat (fun _ => List (Nat × V) → Option (List (Nat × V))) some (fun t _ ih tm => bindK (datF (kget tm t)) fun v => ih ((t, v) :: tm))
theorem datK_some : ∀ {ks : List Nat} {s : St} {l : List (Nat × V)}, datK ks s.tmps = some l → ks.foldl datSlot s = ⟨l, s.heap⟩
 | [], s, l, h => by cases h; rfl
 | t :: ks, s, l, h => by
  obtain ⟨v, h1, h⟩ := bindK_some (show bindK (datF (kget s.tmps t)) _ = some l from h)
  rw [kget_eq] at h1
  have := datF_some h1
  rw [List.foldl_cons]
  have hs : datSlot s t = ⟨(t, v) :: s.tmps, s.heap⟩ := by
   unfold datSlot St.set St.get
   rw [this]
  rw [hs]
  exact datK_some (s := ⟨(t, v) :: s.tmps, s.heap⟩) h
section
variable (hp : List (Option Obj)) (n : Nat)
def oTok : Option Obj → Option Nat := @Option.rec Obj (fun _ => Option Nat) none (@Obj.rec (fun _ => Option Nat) (fun _ => none) (fun _ => none) (fun v _ => some v) (fun _ _ _ => none) (fun _ => none) (fun _ _ _ => none))
def oArr : Option Obj → Option Nat := @Option.rec Obj (fun _ => Option Nat) none (@Obj.rec (fun _ => Option Nat) (fun _ => none) (fun _ => none) (fun _ _ => none) (fun v _ _ => some v) (fun _ => none) (fun _ _ _ => none))
theorem oTok_some {o : Option Obj} {v : Nat} (h : oTok o = some v) : ∃ sz, o = some (.tok v sz) := by
 cases o with
 | none => cases h
 | some o => cases o <;> first | (injection h with h; rw [h]; exact ⟨_, rfl⟩) | cases h
theorem oArr_some {o : Option Obj} {v : Nat} (h : oArr o = some v) : ∃ sz xs, o = some (.arr v sz xs) := by
 cases o with
 | none => cases h
 | some o => cases o <;> first | (injection h with h; rw [h]; exact ⟨_, _, rfl⟩) | cases h
def nC : V → Option V := @V.rec (fun _ => Option V) (fun _ => Unit) (fun d => some (.d d)) (fun sz => some (.nil sz))
 (fun id ver sz xs => ifK (Nat.ble (Nat.succ id) n) (bindK (kNth hp id) fun o => bindK (oTok o) fun v => ifK (Nat.beq ver v) (some (.own id 0 sz xs)) (some (.d (.l sz xs)))) none)
 (fun id ver off len => ifK (Nat.ble (Nat.succ id) n) (bindK (kNth hp id) fun o => bindK (oArr o) fun v => ifK (Nat.beq ver v) (some (.arr id ver off len)) (some .bad)) none)
 (fun id off => ifK (Nat.ble (Nat.succ id) n) (some (.ptr id off)) none) (fun _ _ _ _ => none) (fun id => ifK (Nat.ble (Nat.succ id) n) (some (.map id)) none)
 (fun k a c _ _ => ifK (V.under n (.fn k a c)) (ifK (V.fine (.fn k a c)) (some (.fn k a c)) none) none) (fun _ _ => none) (fun _ _ => none) (some .bad) () (fun _ _ _ _ => ())
theorem take_get {i : Nat} (h : i < n) : (hp.take n)[i]? = hp[i]? := by rw [List.getElem?_take, if_pos h]
theorem nC_some {v x : V} (h : nC hp n v = some x) : V.under n v = true ∧ normC (hp.take n) v = x ∧ (∀ cs, v ≠ .agg cs) ∧ (∀ cs, v ≠ .tup cs) := by
 cases v with
 | d d => cases h; exact ⟨rfl, rfl, by simp, by simp⟩
 | nil sz => cases h; exact ⟨rfl, rfl, by simp, by simp⟩
 | own id ver sz xs =>
  obtain ⟨h1, h⟩ := ifK_some (show ifK (Nat.ble (Nat.succ id) n) _ none = some x from h)
  obtain ⟨o, h2, h⟩ := bindK_some h
  obtain ⟨v, h3, hf⟩ := bindK_some h
  have hlt : id < n := Nat.le_of_ble_eq_true h1
  obtain ⟨sz', rfl⟩ := oTok_some h3
  rw [kNth_eq] at h2
  refine ⟨by simp [V.under, hlt], ?_, by simp, by simp⟩
  simp only [normC, take_get hp n hlt, h2, Option.join_some]
  by_cases e : ver = v
  ·subst e; rw [beq_self'] at hf; cases hf; simp
  ·rw [beq_ne e] at hf; cases hf; simp [e]
 | arr id ver off len =>
  obtain ⟨h1, h⟩ := ifK_some (show ifK (Nat.ble (Nat.succ id) n) _ none = some x from h)
  obtain ⟨o, h2, h⟩ := bindK_some h
  obtain ⟨v, h3, hf⟩ := bindK_some h
  have hlt : id < n := Nat.le_of_ble_eq_true h1
  obtain ⟨sz', xs, rfl⟩ := oArr_some h3
  rw [kNth_eq] at h2
  refine ⟨by simp [V.under, hlt], ?_, by simp, by simp⟩
  simp only [normC, take_get hp n hlt, h2, Option.join_some]
  by_cases e : ver = v
  ·subst e; rw [beq_self'] at hf; cases hf; simp
  ·rw [beq_ne e] at hf; cases hf; simp [e]
 | ptr id off =>
  obtain ⟨h1, h⟩ := ifK_some (show ifK (Nat.ble (Nat.succ id) n) _ none = some x from h)
  cases h
  have hlt : id < n := Nat.le_of_ble_eq_true h1
  exact ⟨by simp [V.under, hlt], rfl, by simp, by simp⟩
 | map id =>
  obtain ⟨h1, h⟩ := ifK_some (show ifK (Nat.ble (Nat.succ id) n) _ none = some x from h)
  cases h
  have hlt : id < n := Nat.le_of_ble_eq_true h1
  exact ⟨by simp [V.under, hlt], rfl, by simp, by simp⟩
 | fn k a c =>
  obtain ⟨h1, h⟩ := ifK_some (show ifK (V.under n (.fn k a c)) _ none = some x from h)
  obtain ⟨h2, h⟩ := ifK_some h
  cases h
  exact ⟨h1, by simp only [normC, h2, if_true], by simp, by simp⟩
 | bad => cases h; exact ⟨rfl, rfl, by simp, by simp⟩
 | _ => cases h
def nCs : List V → Option (List V) := @List.rec V (fun _ => Option (List V)) (some []) (fun v _ ih => bindK (nC hp n v) fun x => bindK ih fun xs => some (x :: xs))
theorem nCs_some : ∀ {vs xs : List V}, nCs hp n vs = some xs → V.underAll n vs = true ∧ vs.map (normC (hp.take n)) = xs
 | [], xs, h => by cases h; exact ⟨rfl, rfl⟩
 | v :: vs, xs, h => by
  obtain ⟨x, h1, h⟩ := bindK_some (show bindK (nC hp n v) _ = some xs from h)
  obtain ⟨ys, h2, h⟩ := bindK_some h
  cases h
  obtain ⟨k1, k2, _⟩ := nC_some hp n h1
  obtain ⟨m1, m2⟩ := nCs_some h2
  exact ⟨by simp [V.underAll, k1, m1], by simp [k2, m2]⟩
def nV (v : V) : Option V := orK (nC hp n v) (orK (bindK (vAgg v) fun cs => bindK (nCs hp n cs) fun cs => some (.agg cs)) (bindK (vTup v) fun vs => ifK (nilK vs) (some (.tup [])) none))
theorem nV_some {v x : V} (h : nV hp n v = some x) : V.under n v = true ∧ normV (hp.take n) v = x := by
 rcases orK_some h with h | ⟨_, h⟩
 ·obtain ⟨k1, k2, k3, k4⟩ := nC_some hp n h
  refine ⟨k1, ?_⟩
  cases v with
  | agg cs => exact absurd rfl (k3 cs)
  | tup cs => exact absurd rfl (k4 cs)
  | _ => exact k2
 ·rcases orK_some h with h | ⟨_, h⟩
  ·obtain ⟨cs, h1, h⟩ := bindK_some h
   obtain ⟨ds, h2, h⟩ := bindK_some h
   cases h
   obtain ⟨k1, k2⟩ := nCs_some hp n h2
   rw [vAgg_some h1]
   exact ⟨by simp [V.under, k1], by simp [normV, k2]⟩
  ·obtain ⟨vs, h1, h⟩ := bindK_some h
   obtain ⟨h2, h⟩ := ifK_some h
   cases h
   rw [vTup_some h1, nilK_eq h2]
   exact ⟨rfl, rfl⟩
def keepN (tm : List (Nat × V)) : List Nat → Option (List (Nat × V)) := @List.rec Nat (fun _ => Option (List (Nat × V))) (some []) (fun t _ ih => bindK (nV hp n (kget tm t)) fun v => bindK ih fun l => some ((t, v) :: l))
theorem keepN_some {s : St} : ∀ {ks : List Nat} {l : List (Nat × V)}, keepN hp n s.tmps ks = some l → underTmps n (keepTmps s ks) = true ∧ normTmps (hp.take n) (keepTmps s ks) = l
 | [], l, h => by cases h; exact ⟨rfl, rfl⟩
 | t :: ks, l, h => by
  obtain ⟨v, h1, h⟩ := bindK_some (show bindK (nV hp n (kget s.tmps t)) _ = some l from h)
  obtain ⟨m, h2, h⟩ := bindK_some h
  cases h
  rw [kget_eq] at h1
  obtain ⟨k1, k2⟩ := nV_some hp n h1
  obtain ⟨m1, m2⟩ := keepN_some h2
  have k1 : V.under n (s.get t) = true := k1
  have k2 : normV (hp.take n) (s.get t) = v := k2
  exact ⟨by simp [keepTmps, underTmps, k1, m1], by simp [keepTmps, normTmps, k2, m2]⟩
def nRows : List (List V) → Option (List (List V)) := @List.rec (List V) (fun _ => Option (List (List V))) (some []) (fun r _ ih => bindK (nCs hp n r) fun x => bindK ih fun xs => some (x :: xs))
theorem nRows_some : ∀ {vs xs : List (List V)}, nRows hp n vs = some xs → underRows n vs = true ∧ (vs.map fun r => r.map (normC (hp.take n))) = xs
 | [], xs, h => by cases h; exact ⟨rfl, rfl⟩
 | v :: vs, xs, h => by
  obtain ⟨x, h1, h⟩ := bindK_some (show bindK (nCs hp n v) _ = some xs from h)
  obtain ⟨ys, h2, h⟩ := bindK_some h
  cases h
  obtain ⟨k1, k2⟩ := nCs_some hp n h1
  obtain ⟨m1, m2⟩ := nRows_some h2
  exact ⟨by simp [underRows, k1, m1], by simp [k2, m2]⟩
def nKvs : List (List D × V) → Option (List (List D × V)) := @List.rec (List D × V) (fun _ => Option (List (List D × V))) (some []) (fun p _ ih => bindK (nV hp n p.2) fun x => bindK ih fun xs => some ((p.1, x) :: xs))
theorem nKvs_some : ∀ {vs xs : List (List D × V)}, nKvs hp n vs = some xs → underKvs n vs = true ∧ (vs.map fun p => (p.1, normV (hp.take n) p.2)) = xs
 | [], xs, h => by cases h; exact ⟨rfl, rfl⟩
 | v :: vs, xs, h => by
  obtain ⟨x, h1, h⟩ := bindK_some (show bindK (nV hp n v.2) _ = some xs from h)
  obtain ⟨ys, h2, h⟩ := bindK_some h
  cases h
  obtain ⟨k1, k2⟩ := nV_some hp n h1
  obtain ⟨m1, m2⟩ := nKvs_some h2
  exact ⟨by obtain ⟨a, b⟩ := v; simp [underKvs, m1]; exact k1, by simp [k2, m2]⟩
def nVs : List V → Option (List V) := @List.rec V (fun _ => Option (List V)) (some []) (fun v _ ih => bindK (nV hp n v) fun x => bindK ih fun xs => some (x :: xs))
theorem nVs_some : ∀ {vs xs : List V}, nVs hp n vs = some xs → V.underAll n vs = true ∧ vs.map (normV (hp.take n)) = xs
 | [], xs, h => by cases h; exact ⟨rfl, rfl⟩
 | v :: vs, xs, h => by
  obtain ⟨x, h1, h⟩ := bindK_some (show bindK (nV hp n v) _ = some xs from h)
  obtain ⟨ys, h2, h⟩ := bindK_some h
  cases h
  obtain ⟨k1, k2⟩ := nV_some hp n h1
  obtain ⟨m1, m2⟩ := nVs_some h2
  exact ⟨by simp [V.underAll, k1, m1], by simp [k2, m2]⟩
def nO : Option Obj → Option (Option Obj) := @Option.rec Obj (fun _ => Option (Option Obj)) (some none) (@Obj.rec (fun _ => Option (Option Obj)) (fun cs => bindK (nCs hp n cs) fun cs => some (some (.box cs))) (fun ds => some (some (.cst ds))) (fun _ sz => some (some (.tok 0 sz))) (fun v sz xs => bindK (nRows hp n xs) fun xs => some (some (.arr v sz xs))) (fun kvs => bindK (nKvs hp n kvs) fun kvs => some (some (.map kvs))) (fun j key caps => bindK (nVs hp n caps) fun caps => some (some (.lp j key caps))))
theorem nO_some {o x : Option Obj} (h : nO hp n o = some x) : Obj.under n o = true ∧ normObj (hp.take n) o = x := by
 cases o with
 | none => cases h; exact ⟨rfl, rfl⟩
 | some o =>
  cases o with
  | box cs =>
   obtain ⟨ds, h2, h⟩ := bindK_some (show bindK (nCs hp n cs) _ = some x from h)
   cases h
   obtain ⟨k1, k2⟩ := nCs_some hp n h2
   exact ⟨k1, by simp [normObj, k2]⟩
  | cst ds => cases h; exact ⟨rfl, rfl⟩
  | tok v sz => cases h; exact ⟨rfl, rfl⟩
  | arr v sz xs =>
   obtain ⟨ds, h2, h⟩ := bindK_some (show bindK (nRows hp n xs) _ = some x from h)
   cases h
   obtain ⟨k1, k2⟩ := nRows_some hp n h2
   exact ⟨k1, by simp [normObj, k2]⟩
  | map kvs =>
   obtain ⟨ds, h2, h⟩ := bindK_some (show bindK (nKvs hp n kvs) _ = some x from h)
   cases h
   obtain ⟨k1, k2⟩ := nKvs_some hp n h2
   exact ⟨k1, by simp [normObj, k2]⟩
  | lp j key caps =>
   obtain ⟨ds, h2, h⟩ := bindK_some (show bindK (nVs hp n caps) _ = some x from h)
   cases h
   obtain ⟨k1, k2⟩ := nVs_some hp n h2
   exact ⟨k1, by simp [normObj, k2]⟩
def nHeap : List (Option Obj) → Nat → Option (List (Option Obj)) := @List.rec (Option Obj) (fun _ => Nat → Option (List (Option Obj))) (fun _ => some []) (fun o _ ih k => @Nat.rec (fun _ => Option (List (Option Obj))) (some []) (fun k' _ => bindK (nO hp n o) fun o' => bindK (ih k') fun l => some (o' :: l)) k)
theorem nHeap_some : ∀ {h : List (Option Obj)} {k : Nat} {l : List (Option Obj)}, nHeap hp n h k = some l → (h.take k).all (Obj.under n) = true ∧ (h.take k).map (normObj (hp.take n)) = l
 | [], k, l, h => by cases h; simp
 | o :: h, 0, l, hh => by cases hh; simp
 | o :: h, k + 1, l, hh => by
  obtain ⟨x, h1, hh⟩ := bindK_some (show bindK (nO hp n o) _ = some l from hh)
  obtain ⟨ys, h2, hh⟩ := bindK_some hh
  cases hh
  obtain ⟨k1, k2⟩ := nO_some hp n h1
  obtain ⟨m1, m2⟩ := nHeap_some h2
  exact ⟨by simp only [List.take_succ_cons, List.all_cons, k1, m1]; rfl, by simp [k2, m2]⟩
end
def backK (ann : Ann) (n : Nat) (s : St) : Option St := ifK ann.tr (ifK (nilK ann.datB) (bindK (datK ann.dat s.tmps) fun tm => bindK (keepN s.heap n tm ann.keep) fun tm' => bindK (nHeap s.heap n s.heap n) fun hp' => some ⟨tm', hp'⟩) none) none
theorem backK_some {ann : Ann} {n : Nat} {s s' : St} (h : backK ann n s = some s') : back ann n s = some s' := by
 obtain ⟨h1, h⟩ := ifK_some h
 obtain ⟨h2, h⟩ := ifK_some h
 obtain ⟨tm, h3, h⟩ := bindK_some h
 obtain ⟨tm', h4, h⟩ := bindK_some h
 obtain ⟨hp', h5, h⟩ := bindK_some h
 cases h
 have hd : dats ann s = ⟨tm, s.heap⟩ := by
  unfold dats
  rw [nilK_eq h2, List.foldl_nil]
  exact datK_some h3
 obtain ⟨k1, k2⟩ := keepN_some s.heap n (s := ⟨tm, s.heap⟩) h4
 obtain ⟨m1, m2⟩ := nHeap_some s.heap n h5
 unfold back
 simp only [hd, h1, if_true, k1, m1, Bool.and_self, k2, m2]
section
variable (call : CallF) (n : Nat)
def kReg (draw : Bool) (ops : List CO) (s : St) : Option (Ex × St) := bindK (regionK call draw ops s) fun s' => some (.normal, s')
def kSeq (f g : St → Option (Ex × St)) (s : St) : Option (Ex × St) := bindK (f s) fun p => @Ex.rec (fun _ => Option (Ex × St)) (g p.2) (fun id => some (.exit id, p.2)) (some (.ret, p.2)) p.1
def kCond (c : A) (f g : St → Option (Ex × St)) (s : St) : Option (Ex × St) := bindK (vB (kev c s.tmps)) fun b => @Bool.rec (fun _ => Option (Ex × St)) (g s) (f s) b
def kBlock (id : Nat) (f : St → Option (Ex × St)) (s : St) : Option (Ex × St) := bindK (f s) fun p => @Ex.rec (fun _ => Option (Ex × St)) (some (.normal, p.2)) (fun id' => ifK (Nat.beq id' id) (some (.normal, p.2)) (some (.exit id', p.2))) (some (.ret, p.2)) p.1
def kLoopN (f : St → Option (Ex × St)) (bk : St → Option St) : Nat → St → Option (Ex × St) :=
 @Nat.rec (fun _ => St → Option (Ex × St)) (fun _ => none) (fun _ ih s => bindK (f s) fun p => @Ex.rec (fun _ => Option (Ex × St)) (bindK (bk p.2) ih) (fun id => some (.exit id, p.2)) (some (.ret, p.2)) p.1)
def kLoop (ann : Ann) (f : St → Option (Ex × St)) (s : St) : Option (Ex × St) :=
 bindK (orK (enterK ann s) (some (enter ann s))) fun s0 => forceK (kLen s0.heap) fun m => kLoopN f (fun s' => orK (backK ann m s') (back ann m s')) n s0
def execK : CCode → St → Option (Ex × St) :=
 @CCode.rec (fun _ => St → Option (Ex × St)) (fun s => some (.normal, s)) (kReg call) (fun _ _ f g => kSeq f g) (fun c _ _ f g => kCond c f g) (fun id _ f => kBlock id f) (fun ann _ f => kLoop n ann f) (fun id s => some (.exit id, s)) (fun s => some (.ret, s)) (fun own f key ks res s => rangeC call f key ks res (own.foldl ownBox s))
theorem kLoopN_some {f g : St → Option (Ex × St)} {bk bk' : St → Option St} (hf : ∀ s r, f s = some r → g s = some r) (hb : ∀ s r, bk s = some r → bk' s = some r) : ∀ {m : Nat} {s : St} {r : Ex × St}, kLoopN f bk m s = some r → loopN g bk' m s = some r
 | 0, s, r, h => by cases h
 | m + 1, s, r, h => by
  obtain ⟨p, h1, h⟩ := bindK_some (show bindK (f s) _ = some r from h)
  obtain ⟨ex, s'⟩ := p
  simp only [loopN, hf _ _ h1]
  cases ex with
  | normal =>
   obtain ⟨s2, h2, h⟩ := bindK_some (show bindK (bk s') (kLoopN f bk m) = some r from h)
   simp only [hb _ _ h2]
   exact kLoopN_some hf hb h
  | exit id => exact h
  | ret => exact h
theorem execK_some : ∀ (c : CCode) {s : St} {r : Ex × St}, execK call n c s = some r → execC call n c s = some r
 | .skip, s, r, h => h
 | .region draw ops, s, r, h => by
  obtain ⟨s', h1, h⟩ := bindK_some (show bindK (regionK call draw ops s) _ = some r from h)
  simp only [execC, regionK_some call h1]
  exact h
 | .seq a b, s, r, h => by
  obtain ⟨p, h1, h⟩ := bindK_some (show bindK (execK call n a s) _ = some r from h)
  obtain ⟨ex, s'⟩ := p
  simp only [execC, execK_some a h1]
  cases ex with
  | normal => exact execK_some b h
  | exit id => exact h
  | ret => exact h
 | .cond c a b, s, r, h => by
  obtain ⟨x, h1, h⟩ := bindK_some (show bindK (vB (kev c s.tmps)) _ = some r from h)
  have h1 := vB_some h1
  rw [kev_eq'] at h1
  simp only [execC, h1]
  cases x with
  | true => exact execK_some a h
  | false => exact execK_some b h
 | .block id a, s, r, h => by
  obtain ⟨p, h1, h⟩ := bindK_some (show bindK (execK call n a s) _ = some r from h)
  obtain ⟨ex, s'⟩ := p
  simp only [execC, execK_some a h1]
  cases ex with
  | normal => exact h
  | exit id' =>
   simp only
   have h : ifK (Nat.beq id' id) (some (Ex.normal, s')) (some (.exit id', s')) = some r := h
   by_cases e : id' = id
   ·subst e; rw [beq_self'] at h; rw [if_pos rfl]; exact h
   ·rw [beq_ne e] at h; rw [if_neg e]; exact h
  | ret => exact h
 | .loop ann a, s, r, h => by
  obtain ⟨s0, h1, h⟩ := bindK_some (show bindK (orK (enterK ann s) (some (enter ann s))) _ = some r from h)
  have h0 : enter ann s = s0 := by
   rcases orK_some h1 with h1 | ⟨_, h1⟩
   ·exact enterK_some h1
   ·cases h1; rfl
  rw [forceK_eq, kLen_eq] at h
  simp only [execC, h0]
  refine kLoopN_some (f := execK call n a) (bk := fun s' => orK (backK ann s0.heap.length s') (back ann s0.heap.length s')) (fun s r h => execK_some a h) (fun s r h => ?_) h
  rcases orK_some h with h | ⟨_, h⟩
  ·exact backK_some h
  ·exact h
 | .exit id, s, r, h => h
 | .ret, s, r, h => h
 | .range own f key ks res, s, r, h => h
end
def entryK : List V → Nat → Option (List (Nat × V)) := @List.rec V (fun _ => Nat → Option (List (Nat × V))) (fun _ => some []) (fun a _ ih i => bindK (ih (Nat.succ i)) fun l => some ((i, a) :: l))
theorem entryK_some : ∀ {args : List V} {i : Nat} {l : List (Nat × V)}, entryK args i = some l → l = (args.zipIdx i).map fun p => (p.2, p.1)
 | [], i, l, h => by cases h; rfl
 | a :: as, i, l, h => by
  obtain ⟨m, h1, h⟩ := bindK_some (show bindK (entryK as (Nat.succ i)) _ = some l from h)
  cases h
  rw [entryK_some h1]; rfl
def runFnK (call : CallF) (n key : Nat) (args : List V) (h : List (Option Obj)) : Fn → Option (V × List (Option Obj)) :=
 @Fn.rec (fun _ => Option (V × List (Option Obj))) (fun f => bindK (entryK args 0) fun tm => bindK (execK call n f.body ⟨tm, h⟩) fun p => @Ex.rec (fun _ => Option (V × List (Option Obj))) (resultK h p.2 f.rets) (fun _ => none) (resultK h p.2 f.rets) p.1) (fun ps ks a c => roundW (execK call n a) (execK call n c) key ps ks args h) (fun impl => impl args h)
def ecallK (E : Nat → Option Fn) : Nat → CallF :=
 @Nat.rec (fun _ => CallF) (fun _ _ _ => none) (fun k ih key args h => bindK (E key) (runFnK ih k key args h))
theorem ecallK_le (E : Nat → Option Fn) : ∀ (k : Nat), Le (ecallK E k) (ecall E k)
 | 0 => fun _ _ _ _ h => by cases h
 | k + 1 => fun key args h r hr => by
  obtain ⟨fn, h1, hr⟩ := bindK_some (show bindK (E key) (runFnK (ecallK E k) k key args h) = some r from hr)
  simp only [ecall, h1]
  cases fn with
  | prim f => exact hr
  | round ps ks a c =>
   simp only [runFn, runRound_eq]
   exact roundW_le (fun s r hs => execC_le (ecallK_le E k) a (Nat.le_refl k) (execK_some (ecallK E k) k a hs)) (fun s r hs => execC_le (ecallK_le E k) c (Nat.le_refl k) (execK_some (ecallK E k) k c hs)) hr
  | code f =>
   obtain ⟨tm, h2, hr⟩ := bindK_some (show bindK (entryK args 0) _ = some r from hr)
   obtain ⟨p, h3, hr⟩ := bindK_some hr
   obtain ⟨ex, s⟩ := p
   have hs := execC_le (ecallK_le E k) f.body (Nat.le_refl k) (execK_some (ecallK E k) k f.body h3)
   rw [entryK_some h2] at hs
   have hs : execC (ecall E k) k f.body (entry args h) = some (ex, s) := hs
   simp only [runFn, hs]
   cases ex with
   | normal => exact resultK_some hr
   | exit id => cases hr
   | ret => exact resultK_some hr
theorem lcall_K {E : Nat → Option Fn} {k key : Nat} {args : List V} {h : List (Option Obj)} {r : V × List (Option Obj)} (hk : ecallK E k key args h = some r) : lcall E key args h = some r :=
 lcall_iff.2 ⟨k, ecallK_le E k _ _ _ _ hk⟩
inductive FTree where
 | leaf (key : Nat) (f : Fn)
 | node (m : Nat) (l r : FTree)
def FTree.get : FTree → Nat → Option Fn := @FTree.rec (fun _ => Nat → Option Fn) (fun key f k => ifK (Nat.beq key k) (some f) none) (fun m _ _ l r k => @Bool.rec (fun _ => Option Fn) (r k) (l k) (Nat.ble k m))
end
open Go
theorem lx_of {E : Nat → Option Fn} : ∀ (c : CCode) {n : Nat} {s : St} {r : Ex × St}, execC (lcall E) n c s = some r → lx E c s = some r
 | .skip, n, s, r, h => by rw [lx_skip]; exact h
 | .exit id, n, s, r, h => by rw [lx_exit]; exact h
 | .ret, n, s, r, h => by rw [lx_ret]; exact h
 | .region d ops, n, s, r, h => by
  rw [lx_region]
  exact h
 | .seq a b, n, s, r, h => by
  rw [lx_seq]
  simp only [execC] at h
  cases ha : execC (lcall E) n a s with
  | none => rw [ha] at h; cases h
  | some p =>
   obtain ⟨ex, s'⟩ := p
   rw [ha] at h
   rw [lx_of a ha]
   cases ex with
   | normal => exact lx_of b h
   | exit id => exact h
   | ret => exact h
 | .cond c a b, n, s, r, h => by
  rw [lx_cond]
  simp only [execC] at h
  split at h
  ·rename_i e; simp only [e]; exact lx_of a h
  ·rename_i e; simp only [e]; exact lx_of b h
  ·cases h
 | .block id a, n, s, r, h => by
  rw [lx_block]
  simp only [execC] at h
  cases ha : execC (lcall E) n a s with
  | none => rw [ha] at h; cases h
  | some p =>
   rw [ha] at h
   rw [lx_of a ha]
   exact h
 | .loop ann c, n, s, r, h => by
  rw [lx_loop]
  simp only [execC] at h
  have key : ∀ (m k : Nat) (s : St), loopN (execC (lcall E) n c) (back ann m) k s = some r → lloop E c ann m s = some r := by
   intro m k
   induction k with
   | zero => intro s h; cases h
   | succ k ih =>
    intro s h
    rw [lloop_eq]
    simp only [loopN] at h
    cases hc : execC (lcall E) n c s with
    | none => rw [hc] at h; cases h
    | some p =>
     obtain ⟨ex, s'⟩ := p
     rw [hc] at h
     rw [lx_of c hc]
     cases ex with
     | normal =>
      simp only at h ⊢
      cases hb : back ann m s' with
      | none => rw [hb] at h; cases h
      | some s'' => rw [hb] at h; exact ih s'' h
     | exit id => exact h
     | ret => exact h
  exact key _ n _ h
 | .range own f key ks res, n, s, r, h => by rw [lx_range]; exact h
noncomputable section
def optB {α : Type} (o : Option α) (f : α → Bool) : Bool := @Option.rec α (fun _ => Bool) false f o
theorem optB_true {α : Type} {o : Option α} {f : α → Bool} (h : optB o f = true) : ∃ a, o = some a ∧ f a = true := by
 cases o with
 | none => cases h
 | some a => exact ⟨a, rfl, h⟩
theorem ifB_true {a b : Bool} (h : ifK a b false = true) : a = true ∧ b = true := by
 cases a with
 | true => exact ⟨rfl, h⟩
 | false => cases h
def sameB (x y : Bool) : Bool := @Bool.rec (fun _ => Bool) (@Bool.rec (fun _ => Bool) true false y) y x
theorem sameB_eq {x y : Bool} (h : sameB x y = true) : x = y := by cases x <;> cases y <;> first | rfl | cases h
def bytesK : List UInt8 → List UInt8 → Bool := @List.rec UInt8 (fun _ => List UInt8 → Bool) nilK (fun a _ ih ys => @List.rec UInt8 (fun _ => Bool) false (fun b bs _ => ifK (Nat.beq a.toNat b.toNat) (ih bs) false) ys)
theorem bytesK_eq : ∀ {x y : List UInt8}, bytesK x y = true → x = y
 | [], y, h => (nilK_eq h).symm
 | a :: x, [], h => by cases h
 | a :: x, b :: y, h => by
  obtain ⟨h1, h2⟩ := ifB_true (show ifK (Nat.beq a.toNat b.toNat) (bytesK x y) false = true from h)
  rw [bytesK_eq h2, UInt8.toNat_inj.1 (Nat.eq_of_beq_eq_true h1)]
def dT : D → Nat := @D.rec (fun _ => Nat) (fun _ => Unit) (fun _ => Unit) (fun _ => 0) (fun _ _ => 0) (fun _ => 0) (fun _ _ _ => 0) (fun _ _ _ => 0) (fun _ _ _ _ _ => 0) 1 2 3 () (fun _ _ _ _ => ()) () (fun _ _ _ _ => ())
def dEqK : D → D → Bool := @D.rec (fun _ => D → Bool) (fun _ => List (List D) → Bool) (fun _ => List D → Bool)
 (fun x y => optB (dB y) fun b => sameB x b)
 (fun k n y => optB (dI y) fun p => ifK (sameK k p.1) (eqK n p.2) false)
 (fun x y => optB (dS y) fun s => bytesK x s)
 (fun sz xs ih y => optB (dL y) fun p => ifK (Nat.beq sz p.1) (ih p.2) false)
 (fun xs off ih y => optB (dQ y) fun p => ifK (Nat.beq off p.2) (ih p.1) false)
 (fun _ _ _ _ _ _ => false)
 (fun y => Nat.beq (dT y) 1) (fun y => Nat.beq (dT y) 2) (fun y => Nat.beq (dT y) 3)
 nilK (fun _ _ ih1 ih2 ys => @List.rec (List D) (fun _ => Bool) false (fun y ys _ => ifK (ih1 y) (ih2 ys) false) ys)
 nilK (fun _ _ ih1 ih2 ys => @List.rec D (fun _ => Bool) false (fun y ys _ => ifK (ih1 y) (ih2 ys) false) ys)
theorem dEqK_eq (x : D) : ∀ y, dEqK x y = true → x = y := by
 refine @D.rec (fun x => ∀ y, dEqK x y = true → x = y)
  (fun xs => ∀ ys, @D.rec_1 (fun _ => D → Bool) (fun _ => List (List D) → Bool) (fun _ => List D → Bool)
 (fun x y => optB (dB y) fun b => sameB x b)
 (fun k n y => optB (dI y) fun p => ifK (sameK k p.1) (eqK n p.2) false)
 (fun x y => optB (dS y) fun s => bytesK x s)
 (fun sz xs ih y => optB (dL y) fun p => ifK (Nat.beq sz p.1) (ih p.2) false)
 (fun xs off ih y => optB (dQ y) fun p => ifK (Nat.beq off p.2) (ih p.1) false)
 (fun _ _ _ _ _ _ => false)
 (fun y => Nat.beq (dT y) 1) (fun y => Nat.beq (dT y) 2) (fun y => Nat.beq (dT y) 3)
 nilK (fun _ _ ih1 ih2 ys => @List.rec (List D) (fun _ => Bool) false (fun y ys _ => ifK (ih1 y) (ih2 ys) false) ys)
 nilK (fun _ _ ih1 ih2 ys => @List.rec D (fun _ => Bool) false (fun y ys _ => ifK (ih1 y) (ih2 ys) false) ys) xs ys = true → xs = ys)
  (fun xs => ∀ ys, @D.rec_2 (fun _ => D → Bool) (fun _ => List (List D) → Bool) (fun _ => List D → Bool)
 (fun x y => optB (dB y) fun b => sameB x b)
 (fun k n y => optB (dI y) fun p => ifK (sameK k p.1) (eqK n p.2) false)
 (fun x y => optB (dS y) fun s => bytesK x s)
 (fun sz xs ih y => optB (dL y) fun p => ifK (Nat.beq sz p.1) (ih p.2) false)
 (fun xs off ih y => optB (dQ y) fun p => ifK (Nat.beq off p.2) (ih p.1) false)
 (fun _ _ _ _ _ _ => false)
 (fun y => Nat.beq (dT y) 1) (fun y => Nat.beq (dT y) 2) (fun y => Nat.beq (dT y) 3)
 nilK (fun _ _ ih1 ih2 ys => @List.rec (List D) (fun _ => Bool) false (fun y ys _ => ifK (ih1 y) (ih2 ys) false) ys)
 nilK (fun _ _ ih1 ih2 ys => @List.rec D (fun _ => Bool) false (fun y ys _ => ifK (ih1 y) (ih2 ys) false) ys) xs ys = true → xs = ys)
  ?_ ?_ ?_ ?_ ?_ ?_ ?_ ?_ ?_ ?_ ?_ ?_ ?_ x
 ·intro x y h
  obtain ⟨b, h1, h2⟩ := optB_true (show optB (dB y) (fun b => sameB x b) = true from h)
  rw [dB_some h1, sameB_eq h2]
 ·intro k n y h
  obtain ⟨p, h1, h2⟩ := optB_true (show optB (dI y) (fun p => ifK (sameK k p.1) (eqK n p.2) false) = true from h)
  obtain ⟨h2, h3⟩ := ifB_true h2
  rw [eqK_eq] at h3
  rw [dI_some h1, sameK_eq h2, eq_of_beq h3]
 ·intro x y h
  obtain ⟨b, h1, h2⟩ := optB_true (show optB (dS y) (fun s => bytesK x s) = true from h)
  rw [dS_some h1, bytesK_eq h2]
 ·intro sz xs ih y h
  obtain ⟨p, h1, h2⟩ := optB_true (o := dL y) h
  obtain ⟨h2, h3⟩ := ifB_true h2
  rw [dL_some h1, Nat.eq_of_beq_eq_true h2, ih _ h3]
 ·intro xs off ih y h
  obtain ⟨p, h1, h2⟩ := optB_true (o := dQ y) h
  obtain ⟨h2, h3⟩ := ifB_true h2
  rw [dQ_some h1, Nat.eq_of_beq_eq_true h2, ih _ h3]
 ·intro _ _ _ _ _ y h; cases h
 ·intro y h; cases y <;> first | rfl | cases h
 ·intro y h; cases y <;> first | rfl | cases h
 ·intro y h; cases y <;> first | rfl | cases h
 ·intro ys h; exact (nilK_eq h).symm
 ·intro a as ih1 ih2 ys h
  cases ys with
  | nil => cases h
  | cons y ys =>
   obtain ⟨h1, h2⟩ := ifB_true h
   rw [ih1 _ h1, ih2 _ h2]
 ·intro ys h; exact (nilK_eq h).symm
 ·intro a as ih1 ih2 ys h
  cases ys with
  | nil => cases h
  | cons y ys =>
   obtain ⟨h1, h2⟩ := ifB_true h
   rw [ih1 _ h1, ih2 _ h2]
def vNl : V → Option Nat := @V.rec (fun _ => Option Nat) (fun _ => Unit) (fun _ => none) some (fun _ _ _ _ => none) (fun _ _ _ _ => none) (fun _ _ => none) (fun _ _ _ _ => none) (fun _ => none) (fun _ _ _ _ _ => none) (fun _ _ => none) (fun _ _ => none) none () (fun _ _ _ _ => ())
theorem vNl_some {v : V} {x : Nat} (h : vNl v = some x) : v = .nil x := by cases v <;> first | cases h; rfl | cases h
def vTp : V → Option (List V) := @V.rec (fun _ => Option (List V)) (fun _ => Unit) (fun _ => none) (fun _ => none) (fun _ _ _ _ => none) (fun _ _ _ _ => none) (fun _ _ => none) (fun _ _ _ _ => none) (fun _ => none) (fun _ _ _ _ _ => none) (fun _ _ => none) (fun vs _ => some vs) none () (fun _ _ _ _ => ())
theorem vTp_some {v : V} {x : List V} (h : vTp v = some x) : v = .tup x := by cases v <;> first | cases h; rfl | cases h
def altB {α : Type} (o : Option α) (f : α → Bool) (b : Bool) : Bool := @Option.rec α (fun _ => Bool) b f o
def rowB (f : V → V → Bool) : List V → List V → Bool := @List.rec V (fun _ => List V → Bool) nilK (fun x _ ih vs => @List.rec V (fun _ => Bool) false (fun v vs _ => ifK (f x v) (ih vs) false) vs)
theorem rowB_eq {f : V → V → Bool} (hf : ∀ x y, f x y = true → x = y) : ∀ {xs vs : List V}, rowB f xs vs = true → xs = vs
 | [], vs, h => (nilK_eq h).symm
 | x :: xs, [], h => by cases h
 | x :: xs, v :: vs, h => by
  obtain ⟨h1, h2⟩ := ifB_true (show ifK (f x v) (rowB f xs vs) false = true from h)
  rw [hf _ _ h1, rowB_eq hf h2]
def vAr : V → Option (Nat × Nat × Nat × Nat) := @V.rec (fun _ => Option (Nat × Nat × Nat × Nat)) (fun _ => Unit) (fun _ => none) (fun _ => none) (fun _ _ _ _ => none) (fun a b c d => some (a, b, c, d)) (fun _ _ => none) (fun _ _ _ _ => none) (fun _ => none) (fun _ _ _ _ _ => none) (fun _ _ => none) (fun _ _ => none) none () (fun _ _ _ _ => ())
theorem vAr_some {v : V} {x : Nat × Nat × Nat × Nat} (h : vAr v = some x) : v = .arr x.1 x.2.1 x.2.2.1 x.2.2.2 := by cases v <;> first | cases h; rfl | cases h
def cEqK (x y : V) : Bool := altB (vD x) (fun a => optB (vD y) fun b => dEqK a b) (altB (vNl x) (fun a => optB (vNl y) fun b => Nat.beq a b)
 (optB (vAr x) fun a => optB (vAr y) fun b => ifK (Nat.beq a.1 b.1) (ifK (Nat.beq a.2.1 b.2.1) (ifK (Nat.beq a.2.2.1 b.2.2.1) (Nat.beq a.2.2.2 b.2.2.2) false) false) false))
theorem cEqK_eq (x y : V) (h : cEqK x y = true) : x = y := by
 unfold cEqK at h
 cases hx : vD x with
 | some a =>
  rw [hx] at h
  obtain ⟨b, h1, h2⟩ := optB_true (show optB (vD y) (fun b => dEqK a b) = true from h)
  rw [vD_some hx, vD_some h1, dEqK_eq _ _ h2]
 | none =>
  rw [hx] at h
  cases hn : vNl x with
  | some a =>
   rw [hn] at h
   obtain ⟨b, h2, h3⟩ := optB_true (show optB (vNl y) (fun b => Nat.beq a b) = true from h)
   rw [vNl_some hn, vNl_some h2, Nat.eq_of_beq_eq_true h3]
  | none =>
   rw [hn] at h
   obtain ⟨a, h1, h⟩ := optB_true (o := vAr x) h
   obtain ⟨b, h2, h⟩ := optB_true h
   obtain ⟨e1, h⟩ := ifB_true h
   obtain ⟨e2, h⟩ := ifB_true h
   obtain ⟨e3, e4⟩ := ifB_true h
   rw [vAr_some h1, vAr_some h2, Nat.eq_of_beq_eq_true e1, Nat.eq_of_beq_eq_true e2, Nat.eq_of_beq_eq_true e3, Nat.eq_of_beq_eq_true e4]
def aEqK (x y : V) : Bool := altB (vAgg x) (fun a => optB (vAgg y) fun b => rowB cEqK a b) (cEqK x y)
theorem aEqK_eq (x y : V) (h : aEqK x y = true) : x = y := by
 unfold aEqK at h
 cases hx : vAgg x with
 | some a =>
  rw [hx] at h
  obtain ⟨b, h1, h2⟩ := optB_true (show optB (vAgg y) (fun b => rowB cEqK a b) = true from h)
  rw [vAgg_some hx, vAgg_some h1, rowB_eq cEqK_eq h2]
 | none => rw [hx] at h; exact cEqK_eq _ _ h
def vEqK (x y : V) : Bool := altB (vTp x) (fun a => optB (vTp y) fun b => rowB aEqK a b) (aEqK x y)
theorem vEqK_eq (x y : V) (h : vEqK x y = true) : x = y := by
 unfold vEqK at h
 cases hx : vTp x with
 | some a =>
  rw [hx] at h
  obtain ⟨b, h1, h2⟩ := optB_true (show optB (vTp y) (fun b => rowB aEqK a b) = true from h)
  rw [vTp_some hx, vTp_some h1, rowB_eq aEqK_eq h2]
 | none => rw [hx] at h; exact aEqK_eq _ _ h
def oAr3 : Option Obj → Option (Nat × Nat × List (List V)) := @Option.rec Obj (fun _ => Option (Nat × Nat × List (List V))) none (@Obj.rec (fun _ => Option (Nat × Nat × List (List V))) (fun _ => none) (fun _ => none) (fun _ _ => none) (fun v s x => some (v, s, x)) (fun _ => none) (fun _ _ _ => none))
theorem oAr3_some {o : Option Obj} {x : Nat × Nat × List (List V)} (h : oAr3 o = some x) : o = some (.arr x.1 x.2.1 x.2.2) := by
 cases o with
 | none => cases h
 | some o => cases o <;> first | cases h; rfl | cases h
def gRow {α : Type} (f : α → α → Bool) : List α → List α → Bool := @List.rec α (fun _ => List α → Bool) nilK (fun x _ ih vs => @List.rec α (fun _ => Bool) false (fun v vs _ => ifK (f x v) (ih vs) false) vs)
theorem gRow_eq {α : Type} {f : α → α → Bool} (hf : ∀ x y, f x y = true → x = y) : ∀ {xs vs : List α}, gRow f xs vs = true → xs = vs
 | [], vs, h => (nilK_eq h).symm
 | x :: xs, [], h => by cases h
 | x :: xs, v :: vs, h => by
  obtain ⟨h1, h2⟩ := ifB_true (show ifK (f x v) (gRow f xs vs) false = true from h)
  rw [hf _ _ h1, gRow_eq hf h2]
def oEqK (x y : Option Obj) : Bool := optB (oAr3 x) fun a => optB (oAr3 y) fun b => ifK (Nat.beq a.1 b.1) (ifK (Nat.beq a.2.1 b.2.1) (gRow (rowB cEqK) a.2.2 b.2.2) false) false
theorem oEqK_eq (x y : Option Obj) (h : oEqK x y = true) : x = y := by
 obtain ⟨a, h1, h⟩ := optB_true h
 obtain ⟨b, h2, h⟩ := optB_true h
 obtain ⟨e1, h⟩ := ifB_true h
 obtain ⟨e2, h⟩ := ifB_true h
 rw [oAr3_some h1, oAr3_some h2, Nat.eq_of_beq_eq_true e1, Nat.eq_of_beq_eq_true e2, gRow_eq (fun x y => rowB_eq cEqK_eq) h]
abbrev Fact := Nat × List V × V × List (Option Obj)
def eqArgsK : List V → List V → Bool := rowB vEqK
theorem eqArgsK_eq {xs vs : List V} (h : eqArgsK xs vs = true) : vs = xs := (rowB_eq vEqK_eq h).symm
def memoK : List Fact → CallF := @List.rec Fact (fun _ => CallF) (fun _ _ _ => none) (fun f _ ih key args h => orK (ifK (Nat.beq key f.1) (ifK (nilK h) (ifK (eqArgsK f.2.1 args) (some (f.2.2.1, f.2.2.2)) none) none) none) (ih key args h))
def factOk (E : Nat → Option Fn) (f : Fact) : Prop := lcall E f.1 f.2.1 [] = some (f.2.2.1, f.2.2.2)
theorem memoK_le {E : Nat → Option Fn} : ∀ {F : List Fact}, (∀ f ∈ F, factOk E f) → Le (memoK F) (lcall E)
 | [], _ => fun _ _ _ _ h => by cases h
 | f :: F, hF => fun key args h r hr => by
  rcases orK_some (show orK (ifK (Nat.beq key f.1) _ none) (memoK F key args h) = some r from hr) with hr | ⟨_, hr⟩
  ·obtain ⟨h1, hr⟩ := ifK_some hr
   obtain ⟨h2, hr⟩ := ifK_some hr
   obtain ⟨h3, hr⟩ := ifK_some hr
   cases hr
   rw [Nat.eq_of_beq_eq_true h1, nilK_eq h2, eqArgsK_eq h3]
   exact hF f List.mem_cons_self
  ·exact memoK_le (fun f hf => hF f (List.mem_cons_of_mem _ hf)) key args h r hr
def ecallM (F : List Fact) (E : Nat → Option Fn) : Nat → CallF :=
 @Nat.rec (fun _ => CallF) (fun _ _ _ => none) (fun k ih key args h => orK (memoK F key args h) (bindK (E key) (runFnK ih k key args h)))
theorem ecallM_le {E : Nat → Option Fn} {F : List Fact} (hF : ∀ f ∈ F, factOk E f) : ∀ (k : Nat), Le (ecallM F E k) (lcall E)
 | 0 => fun _ _ _ _ h => by cases h
 | k + 1 => fun key args h r hr => by
  rcases orK_some (show orK (memoK F key args h) (bindK (E key) (runFnK (ecallM F E k) k key args h)) = some r from hr) with hr | ⟨_, hr⟩
  ·exact memoK_le hF _ _ _ _ hr
  obtain ⟨fn, h1, hr⟩ := bindK_some hr
  cases fn with
  | prim f => rw [lcall_prim h1]; exact hr
  | round ps ks a c =>
   rw [lcall_round h1]
   exact roundW_le (fun s r hs => lx_of a (execC_le (ecallM_le hF k) a (Nat.le_refl k) (execK_some (ecallM F E k) k a hs))) (fun s r hs => lx_of c (execC_le (ecallM_le hF k) c (Nat.le_refl k) (execK_some (ecallM F E k) k c hs))) hr
  | code f =>
   obtain ⟨tm, h2, hr⟩ := bindK_some (show bindK (entryK args 0) _ = some r from hr)
   obtain ⟨p, h3, hr⟩ := bindK_some hr
   obtain ⟨ex, s⟩ := p
   have hs := execC_le (ecallM_le hF k) f.body (Nat.le_refl k) (execK_some (ecallM F E k) k f.body h3)
   rw [entryK_some h2] at hs
   have hs : lx E f.body (entry args h) = some (ex, s) := lx_of _ hs
   rw [lcall_code h1, hs]
   cases ex with
   | normal => exact resultK_some hr
   | exit id => cases hr
   | ret => exact resultK_some hr
def saysK (F : List Fact) (E : Nat → Option Fn) (key : Nat) (args : List V) (d : V) (os : List (Option Obj)) : Bool := optB (ecallM F E 300 key args []) fun r => ifK (gRow oEqK r.2 os) (vEqK r.1 d) false
theorem saysK_ok {F : List Fact} {E : Nat → Option Fn} {key : Nat} {args : List V} {d : V} {os : List (Option Obj)} (hF : ∀ f ∈ F, factOk E f) (h : saysK F E key args d os = true) : factOk E (key, args, d, os) := by
 obtain ⟨r, h1, h2⟩ := optB_true h
 obtain ⟨h2, h3⟩ := ifB_true h2
 have := ecallM_le hF 300 _ _ _ _ h1
 obtain ⟨v, h'⟩ := r
 have e1 : h' = os := gRow_eq oEqK_eq h2
 have e2 : v = d := vEqK_eq _ _ h3
 subst e1 e2
 exact this
theorem facts_nil {E : Nat → Option Fn} : ∀ f ∈ ([] : List Fact), factOk E f := fun f h => by cases h
theorem facts_cons {E : Nat → Option Fn} {f : Fact} {F : List Fact} (h : factOk E f) (hF : ∀ f ∈ F, factOk E f) : ∀ g ∈ f :: F, factOk E g := fun g hg => by
 rcases List.mem_cons.1 hg with rfl | hg
 ·exact h
 ·exact hF g hg
end
open Go
@[reducible] def oo (d : Nat) (op : Cop) : CO := ⟨some d, op, none, 0⟩
@[reducible] def ki (n : Int) : A := .k (.d (.i .i64 n))
@[reducible] def om (d t : Nat) : CO := ⟨some d, .mv (.t t), none, 0⟩
@[reducible] def ol (d : Nat) (b : Bool) (n t : Nat) : CO := ⟨some d, .ld b n (.t t), none, 0⟩
@[reducible] def og (d : Nat) (c : Cop) (g : Nat) : CO := ⟨some d, c, some (g, true), 0⟩
@[reducible] def oh (d : Nat) (c : Cop) (g : Nat) : CO := ⟨some d, c, some (g, false), 0⟩
@[reducible] def ow (d : Nat) (c : Cop) (p : Nat) : CO := ⟨some d, c, none, p⟩
@[reducible] def oz (c : Cop) (p : Nat) : CO := ⟨none, c, none, p⟩
@[reducible] def sq (l : List CO) (c : CCode) : CCode := .seq (.region false l) c
@[reducible] def zE : List V := [.d (.i .i64 0), .d (.i .i64 0), .d (.i .i64 0), .d (.s []), .nil 4, .d (.i .i64 0), .d (.i .i64 0), .nil 8]
@[reducible] def zV : List V := [.d (.i .i64 0), .d (.i .i64 0), .d (.s []), .nil 4]
@[reducible] def kb (b : Bool) : A := .k (.d (.b b))
@[reducible] def fa (n t : Nat) : Cop := .fa n (.t t)
@[reducible] def ct (t : Nat) (a b : CCode) : CCode := .cond (.t t) a b
@[reducible] def ob (d : Nat) (o : BinOp) (x y : A) : CO := ⟨some d, .bin o x y, none, 0⟩
end Ab
