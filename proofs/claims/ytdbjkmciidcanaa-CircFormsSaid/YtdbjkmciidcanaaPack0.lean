/-
 The abstract interpreter: values by content, owned slices by a token, boxes and maps in a small heap of the call's own; no tape, no order, no capacity.
-/
import GoSem.Core.View
import GoSem.Core.Region
import GoSem.Op.Equal
import Derived.ArgAppend
import Derived.Below
import Derived.BigRegion
import Derived.ChangeKeysEq
set_option linter.unusedSimpArgs false
set_option linter.unusedVariables false
set_option linter.unusedSectionVars false
set_option linter.unnecessarySimpa false
namespace Ab
theorem Qa {α : Type _} (a b : α) : (some a = some b) = (a = b) := Option.some.injEq a b
theorem Qb {α β : Type _} {f : α → β} {a : α} {l : List α} : (a :: l).map f = f a :: l.map f := rfl
theorem Qc {α β : Type _} {f : α → β} : ([] : List α).map f = [] := rfl
theorem Qd {α : Type _} {l : List α} {i : Nat} (h : i < l.length) : l[i]? = some l[i] := List.getElem?_eq_getElem h
theorem Qe {α : Type _} {l : List α} {i : Nat} (h : l.length ≤ i) : l[i]? = none := List.getElem?_eq_none h
theorem Qf {α β : Type _} {as : List α} (f : α → β) : (as.map f).length = as.length := List.length_map f
theorem Qg {α : Type _} {as bs : List α} : (as ++ bs).length = as.length + bs.length := List.length_append
theorem Qh {p : Prop} [Decidable p] : (decide p = true) = p := decide_eq_true_eq
theorem Qi (a b : Bool) : ((a && b) = true) = (a = true ∧ b = true) := Bool.and_eq_true a b
theorem Qj {α β : Type _} (a : α) (b : β) (c : α) (d : β) : ((a, b) = (c, d)) = (a = c ∧ b = d) := Prod.mk.injEq a b c d
theorem Qk (n : Nat) : (n : Int).toNat = n := Int.toNat_natCast n
theorem Ql {p : Prop} [i : Decidable p] : p → decide p = true := decide_eq_true
theorem Qm : (false = true) = False := Bool.false_eq_true
theorem Qn (a b : Nat) : a < b ∨ a ≥ b := Nat.lt_or_ge a b
end Ab
namespace Ab
open Go (IntKind BinOp UnOp)
inductive D where
 | b (x : Bool)
 | i (k : IntKind) (n : Int)
 | s (x : List UInt8)
 | l (sz : Nat) (xs : List (List D))
 | q (xs : List D) (off : Nat)
 | f (key : Nat) (first cap : List D)
 | np
 | nf
 | nm
 deriving Inhabited
inductive V where
 | d (x : D)
 | nil (sz : Nat)
 | own (id ver sz : Nat) (xs : List (List D))
 | arr (id ver off len : Nat)
 | ptr (id off : Nat)
 | pm (id ver idx off : Nat)
 | map (id : Nat)
 | fn (key : Nat) (first cap : List V)
 | agg (cs : List V)
 | tup (vs : List V)
 | bad
 deriving Inhabited
def V.undef : V := .tup []
inductive Obj where
 | box (cs : List V)
 | cst (ds : List D)
 | tok (ver sz : Nat)
 | arr (ver sz : Nat) (xs : List (List V))
 | map (kvs : List (List D × V))
 | cmap (kvs : List (List D × V))
 | lp (j key : Nat) (caps : List V)
structure St where
 tmps : List (Nat × V)
 heap : List (Option Obj)
def look : List (Nat × V) → Nat → V
 | [], _ => .bad
 | (i, v) :: l, j => if i = j then v else look l j
def St.get (s : St) (t : Nat) : V := look s.tmps t
def St.set (s : St) (t : Nat) (v : V) : St := { s with tmps := (t, v) :: s.tmps }
def St.put (s : St) (t : Option Nat) (v : V) : St := match t with | some t => s.set t v | none => s
def St.obj (s : St) (id : Nat) : Option Obj := (s.heap[id]?).join
inductive A where
 | t (slot : Nat)
 | k (v : V)
def St.ev (s : St) : A → V
 | .t t => s.get t
 | .k v => v
inductive CK where
 | b | i | s
 deriving DecidableEq
inductive Cop where
 | mv (x : A)
 | pick (c a b : A)
 | zero (z : V)
 | box (x : A)
 | build (zero : List V) (parts : List (Nat × Nat × A))
 | bsl (sz len : Nat) (zero : List D) (parts : List (Nat × A))
 | bsa (sz len : Nat) (zero : List D) (parts : List (Nat × A))
 | ld (agg : Bool) (n : Nat) (a : A)
 | st (n : Nat) (a v : A)
 | nilc (x : A)
 | bin (op : BinOp) (x y : A)
 | eqa (ks : List CK) (neg : Bool) (x y : A)
 | eqb (neg : Bool) (x y : A)
 | un (op : UnOp) (x : A)
 | nils (neg : Bool) (x : A)
 | conv (k : IntKind) (x : A)
 | sid (x : A)
 | mkf (key : Nat) (first cap : List A) (frz : Bool)
 | mkm
 | mks (sz bytes : Nat) (zero : List D) (ow : Bool) (len cap : A)
 | bts (x : A)
 | slc (sz : Nat) (x : A) (lo hi : Option A)
 | sls (x : A) (lo hi : Option A)
 | fa (off : Nat) (x : A)
 | fl (agg : Bool) (off n : Nat) (x : A)
 | ia (sz : Nat) (x i : A)
 | iaa (len sz : Nat) (x i : A)
 | ixs (x i : A)
 | ixa (agg : Bool) (len sz : Nat) (x i : A)
 | len (k : Nat) (x : A)
 | app (sz bytes : Nat) (x y : A)
 | apa (sz bytes : Nat) (x y : A)
 | apz (sz bytes : Nat) (zero : List D) (x n : A)
 | capn (x : A)
 | nilm (neg : Bool) (x : A)
 | mm (max : Bool) (xs : List A)
 | lk (ag : Bool) (ks : List CK) (ok : Bool) (zero : V) (m k : A)
 | mu (ag : Bool) (ks : List CK) (m k v : A)
 | del (ag : Bool) (ks : List CK) (m k : A)
 | frz (x : A)
 | call (key : Nat) (args : List A) (res : Nat) (frz : Bool)
 | callv (f : A) (args : List A) (res : Nat) (frz : Bool)
 | lend (key : Nat) (args : List A)
 | callr (key : Nat) (args : List A) (res : Nat)
 | ext (x : A) (i : Nat)
 | die
structure CO where
 dst : Option Nat
 op : Cop
 guard : Option (Nat × Bool)
 pre : Nat
structure Ann where
 keep : List Nat
 own : List Nat
 ownB : List (Nat × Nat)
 dat : List Nat
 datB : List (Nat × Nat)
 tr : Bool
inductive CCode where
 | skip
 | region (draw : Bool) (ops : List CO)
 | seq (a b : CCode)
 | cond (c : A) (thn els : CCode)
 | block (id : Nat) (body : CCode)
 | loop (ann : Ann) (body : CCode)
 | exit (id : Nat)
 | ret
 | range (own : List (Nat × Nat)) (f : A) (key : Nat) (ks : List Nat) (res : Nat)
 | rangeM (ops : List CO) (ann : Ann) (m : A) (it pr out : Nat) (body : CCode)
inductive Ex where
 | normal
 | exit (id : Nat)
 | ret
 deriving DecidableEq
inductive Ret where
 | raw (t : Nat)
 | slot (t : Nat)
 | cell (t : Nat) (agg : Bool) (n : Nat)
structure CFn where
 body : CCode
 rets : List Ret
mutual
def V.toD : V → Option D
 | .d x => some x
 | .nil sz => some (.l sz [])
 | .own _ _ sz xs => some (.l sz xs)
 | .fn key first cap => match V.toDs first, V.toDs cap with
  | some f, some c => some (.f key f c)
  | _, _ => none
 | _ => none
def V.toDs : List V → Option (List D)
 | [] => some []
 | v :: vs => match V.toD v, V.toDs vs with
  | some x, some xs => some (x :: xs)
  | _, _ => none
end
def V.cells : V → List V
 | .agg cs => cs
 | v => [v]
def V.cel : V → Option (List V)
 | .agg cs => some cs
 | .tup _ => none
 | .bad => none
 | v => some [v]
def ofDs (ds : List D) : List V := ds.map V.d
def V.dem : V → Option V
 | .agg cs => match V.toDs cs with | some ds => some (.agg (ofDs ds)) | none => none
 | .tup _ => none
 | v => match V.toD v with | some x => some (.d x) | none => none
def demAll : List V → Option (List V)
 | [] => some []
 | v :: vs => match v.dem, demAll vs with
  | some d, some ds => some (d :: ds)
  | _, _ => none
mutual
def V.hand : V → Option V
 | .d x => some (.d x)
 | .nil sz => some (.d (.l sz []))
 | .own _ _ sz xs => some (.d (.l sz xs))
 | .fn key a c => match V.toDs a, V.toDs c with
  | some a', some c' => some (.d (.f key a' c'))
  | _, _ => match V.handAll a, V.handAll c with
   | some a', some c' => some (.fn key a' c')
   | _, _ => none
 | .agg cs => match V.handAll cs with | some cs' => some (.agg cs') | none => none
 | .arr id ver off len => some (.arr id ver off len)
 | .ptr id off => some (.ptr id off)
 | .pm id ver idx off => some (.pm id ver idx off)
 | .map id => some (.map id)
 | .tup _ | .bad => none
def V.handAll : List V → Option (List V)
 | [] => some []
 | v :: vs => match V.hand v, V.handAll vs with
  | some x, some xs => some (x :: xs)
  | _, _ => none
end
mutual
def V.refs : V → List Nat
 | .own id _ _ _ | .arr id _ _ _ | .ptr id _ | .pm id _ _ _ | .map id => [id]
 | .fn _ a c => V.refsAll a ++ V.refsAll c
 | .agg cs => V.refsAll cs
 | .tup vs => V.refsAll vs
 | _ => []
def V.refsAll : List V → List Nat
 | [] => []
 | v :: vs => V.refs v ++ V.refsAll vs
end
def refsKvs : List (List D × V) → List Nat
 | [] => []
 | (_, v) :: r => V.refs v ++ refsKvs r
def refsRows : List (List V) → List Nat
 | [] => []
 | r :: rs => V.refsAll r ++ refsRows rs
def Obj.refs : Option Obj → List Nat
 | some (.box cs) => V.refsAll cs
 | some (.arr _ _ xs) => refsRows xs
 | some (.map kvs) => refsKvs kvs
 | some (.cmap kvs) => refsKvs kvs
 | some (.lp _ _ caps) => V.refsAll caps
 | _ => []
def reach (obj : Nat → Option Obj) : Nat → List Nat → List Nat → Option (List Nat)
 | _, [], done => some done
 | 0, _ :: _, _ => none
 | f + 1, i :: r, done => if done.contains i then reach obj f r done else reach obj f (r ++ Obj.refs (obj i)) (done ++ [i])
def far : Nat := 4096
mutual
def V.ren (f sh : Nat → Nat) : V → V
 | .own id ver sz xs => .own (f id) (ver + sh id) sz xs
 | .arr id ver off len => .arr (f id) ver off len
 | .ptr id off => .ptr (f id) off
 | .pm id ver idx off => .pm (f id) ver idx off
 | .map id => .map (f id)
 | .fn key a c => .fn key (V.renAll f sh a) (V.renAll f sh c)
 | .agg cs => .agg (V.renAll f sh cs)
 | .tup vs => .tup (V.renAll f sh vs)
 | v => v
def V.renAll (f sh : Nat → Nat) : List V → List V
 | [] => []
 | v :: vs => V.ren f sh v :: V.renAll f sh vs
end
def renKvs (f sh : Nat → Nat) : List (List D × V) → List (List D × V)
 | [] => []
 | (k, v) :: r => (k, V.ren f sh v) :: renKvs f sh r
def renRows (f sh : Nat → Nat) : List (List V) → List (List V)
 | [] => []
 | r :: rs => V.renAll f sh r :: renRows f sh rs
def Obj.ren (f sh : Nat → Nat) (s : Nat) : Obj → Obj
 | .box cs => .box (V.renAll f sh cs)
 | .cst ds => .cst ds
 | .tok v sz => .tok (v + s) sz
 | .arr v sz xs => .arr v sz (renRows f sh xs)
 | .map kvs => .map (renKvs f sh kvs)
 | .cmap kvs => .cmap (renKvs f sh kvs)
 | .lp j key caps => .lp j key (V.renAll f sh caps)
def placeOf : List Nat → Nat → Nat
 | [], _ => 0
 | x :: r, i => if x = i then 0 else placeOf r i + 1
def noShift : Nat → Nat := fun _ => 0
def wrap (k : IntKind) (n : Int) : Int := k.wrap n
def binInt (op : BinOp) (k : IntKind) (x y : Int) : Option D :=
 match op with
 | .add => some (.i k (k.wrap (x + y)))
 | .sub => some (.i k (k.wrap (x - y)))
 | .mul => some (.i k (k.wrap (x * y)))
 | .quo => if y = 0 then none else some (.i k (k.wrap (x.tdiv y)))
 | .rem => if y = 0 then none else some (.i k (x.tmod y))
 | .and => some (.i k (k.wrap (BitVec.ofInt k.bits x &&& BitVec.ofInt k.bits y).toNat))
 | .or => some (.i k (k.wrap (BitVec.ofInt k.bits x ||| BitVec.ofInt k.bits y).toNat))
 | .xor => some (.i k (k.wrap (BitVec.ofInt k.bits x ^^^ BitVec.ofInt k.bits y).toNat))
 | .andNot => some (.i k (k.wrap (BitVec.ofInt k.bits x &&& ~~~BitVec.ofInt k.bits y).toNat))
 | .eql => some (.b (x == y))
 | .neq => some (.b (x != y))
 | .lss => some (.b (decide (x < y)))
 | .leq => some (.b (decide (x ≤ y)))
 | .gtr => some (.b (decide (x > y)))
 | .geq => some (.b (decide (x ≥ y)))
 | _ => none
def shiftInt (op : BinOp) (k : IntKind) (x y : Int) : Option D :=
 if y < 0 then none else
 match op with
 | .shl => some (.i k (k.wrap (x * 2 ^ (min y.toNat k.bits))))
 | .shr => some (.i k (x.fdiv (2 ^ (min y.toNat k.bits))))
 | _ => none
def bytesLess : List UInt8 → List UInt8 → Bool
 | _, [] => false
 | [], _ :: _ => true
 | a :: x, b :: y => a < b || (a == b && bytesLess x y)
def binStr (op : BinOp) (x y : List UInt8) : Option D :=
 match op with
 | .add => if x.length + y.length ≤ 4611686018427387904 then some (.s (x ++ y)) else none
 | .eql => some (.b (x == y))
 | .neq => some (.b (!(x == y)))
 | .lss => some (.b (bytesLess x y))
 | .leq => some (.b (bytesLess x y || x == y))
 | .gtr => some (.b (!(bytesLess x y || x == y)))
 | .geq => some (.b (!bytesLess x y))
 | _ => none
def isShift : BinOp → Bool
 | .shl | .shr => true
 | _ => false
def binOp (op : BinOp) : V → V → Option D
 | .d (.i k x), .d (.i k' y) => if isShift op then shiftInt op k x y else if k = k' then binInt op k x y else none
 | .d (.s x), .d (.s y) => binStr op x y
 | _, _ => none
def nilSlice : V → Option Bool
 | .nil _ => some true
 | .d (.l _ (_ :: _)) => some false
 | .own _ _ _ (_ :: _) => some false
 | _ => none
def unOp (op : UnOp) : V → Option D
 | .d (.i k n) => match op with
  | .neg => some (.i k (k.wrap (-n)))
  | _ => none
 | .d (.b x) => match op with
  | .not => some (.b (!x))
  | _ => none
 | _ => none
def eqD : CK → D → D → Option Bool
 | .i, .i k x, .i k' y => if k = k' then some (x == y) else none
 | .s, .s x, .s y => some (x == y)
 | .b, .b x, .b y => some (x == y)
 | _, _, _ => none
def eqDs : List CK → List D → List D → Option Bool
 | [], [], [] => some true
 | k :: ks, x :: xs, y :: ys => match eqD k x y, eqDs ks xs ys with
  | some a, some b => some (a && b)
  | _, _ => none
 | _, _, _ => none
def takeD (xs : List D) (off n : Nat) : Option (List D) := if off + n ≤ xs.length then some ((xs.drop off).take n) else none
def takeV (xs : List V) (off n : Nat) : Option (List V) := if off + n ≤ xs.length then some ((xs.drop off).take n) else none
def asVar (agg : Bool) (n : Nat) (cs : List V) : Option V :=
 if agg then (if cs.length = n then some (.agg cs) else none) else
 match n, cs with
 | 1, [v] => some v
 | _, _ => none
def over (cs : List V) (off : Nat) (vs : List V) : Option (List V) :=
 if off + vs.length ≤ cs.length then some (cs.take off ++ vs ++ cs.drop (off + vs.length)) else none
def fillV (cs : List V) : List (Nat × Nat × V) → Option (List V)
 | [] => some cs
 | (off, n, v) :: rest => match v.cel with
  | some c => if c.length = n then match over cs off c with
    | some cs' => fillV cs' rest
    | none => none
   else none
  | none => none
def fillR (sz : Nat) (xs : List (List D)) : List (Nat × V) → Option (List (List D))
 | [] => some xs
 | (i, v) :: rest => match V.toDs v.cells with
  | some ds => if ds.length = sz ∧ i < xs.length then fillR sz (xs.set i ds) rest else none
  | none => none
def roomy (n bytes : Nat) : Bool := decide (n * bytes ≤ 17592186044416)
def bounds (lo hi : Option V) (n : Nat) : Option (Nat × Nat) :=
 let h : Option Int := match hi with | none => some n | some (.d (.i _ x)) => some x | _ => none
 let l : Option Int := match lo with | none => some 0 | some (.d (.i _ x)) => some x | _ => none
 match l, h with
 | some l, some h => if 0 ≤ l ∧ l ≤ h ∧ h ≤ n then some (l.toNat, h.toNat) else none
 | _, _ => none
def mapAt (ks : List CK) (k : List D) : List (List D × V) → Option Nat
 | [] => some 0
 | (k', _) :: r => match eqDs ks k k' with
  | some true => some 0
  | some false => match mapAt ks k r with | some n => some (n + 1) | none => none
  | none => none
def foldI (mx : Bool) (k : IntKind) : Int → List V → Option Int
 | x, [] => some x
 | x, .d (.i k' y) :: r => if k = k' then foldI mx k (if mx then (if y > x then y else x) else (if y < x then y else x)) r else none
 | _, _ => none
def maxInt (mx : Bool) : List V → Option D
 | .d (.i k x) :: r => match foldI mx k x r with | some y => some (.i k y) | none => none
 | _ => none
def zipP : List (Nat × Nat × A) → List V → List (Nat × Nat × V)
 | (a, b, _) :: ps, v :: vs => (a, b, v) :: zipP ps vs
 | _, _ => []
def zipI : List (Nat × A) → List V → List (Nat × V)
 | (a, _) :: ps, v :: vs => (a, v) :: zipI ps vs
 | _, _ => []
def Cop.args : Cop → List A
 | .mv x | .box x | .nilc x | .un _ x | .nils _ x | .nilm _ x | .capn x | .conv _ x | .sid x | .bts x | .frz x | .fa _ x | .fl _ _ _ x | .len _ x | .ext x _ | .ld _ _ x => [x]
 | .pick c a b => [c, a, b]
 | .zero _ | .mkm | .die => []
 | .build _ ps => ps.map (·.2.2)
 | .bsl _ _ _ ps | .bsa _ _ _ ps => ps.map (·.2)
 | .st _ a v => [a, v]
 | .bin _ x y | .eqa _ _ x y | .eqb _ x y | .ia _ x y | .iaa _ _ x y | .ixs x y | .ixa _ _ _ x y | .app _ _ x y | .apa _ _ x y | .apz _ _ _ x y | .mks _ _ _ _ x y => [x, y]
 | .mkf _ f c _ => f ++ c
 | .slc _ x lo hi | .sls x lo hi => [x] ++ lo.toList ++ hi.toList
 | .mm _ xs => xs
 | .lk _ _ _ _ m k | .del _ _ m k => [m, k]
 | .mu _ _ m k v => [m, k, v]
 | .call _ as _ _ => as
 | .lend _ as => as
 | .callr _ as _ => as
 | .callv f as _ _ => f :: as
def ptrIds : List V → List Nat
 | [] => []
 | .ptr id _ :: r => id :: ptrIds r
 | _ :: r => ptrIds r
def nodupB : List Nat → Bool
 | [] => true
 | x :: r => !r.contains x && nodupB r
def Cop.ids : Cop → List V → List Nat
 | .ld .., .ptr id _ :: _ => [id]
 | .ld .., .pm id _ _ _ :: _ => [id]
 | .st .., .ptr id _ :: _ => [id]
 | .st .., .pm id _ _ _ :: _ => [id]
 | .ia .., .arr id _ _ _ :: _ => [id]
 | .frz .., .arr id _ _ _ :: _ => [id]
 | .app .., .own id _ _ _ :: _ => [id]
 | .apa .., [.arr id _ _ _, .arr id' _ _ _] => [id, id']
 | .apa .., [.arr id _ _ _, _] => [id]
 | .apa .., [_, .arr id _ _ _] => [id]
 | .apz .., .arr id _ _ _ :: _ => [id]
 | .slc .., .arr id _ _ _ :: _ => [id]
 | .len .., .map id :: _ => [id]
 | .lk .., .map id :: _ => [id]
 | .mu .., .map id :: _ => [id]
 | .del .., .map id :: _ => [id]
 | .mkf _ _ _ true, vs => ptrIds vs
 | _, _ => []
def Cop.wr : Cop → Bool
 | .st .. | .app .. | .apa .. | .apz .. | .mu .. | .del .. | .frz .. | .mkf _ _ _ true => true
 | _ => false
def Cop.mk : Cop → Bool
 | .zero .. | .box .. | .bsl .. | .bsa .. | .app .. | .apa .. | .apz .. | .mkm | .mks .. => true
 | _ => false
structure Res where
 v : V
 os : List (Option Obj)
 nw : Option Obj := none
def Res.nws (r : Res) : List (Option Obj) := match r.nw with
 | some x => [some x]
 | none => []
def freezeCaps : List V → List (Option Obj) → Option (List D × List (Option Obj))
 | [], os => some ([], os)
 | .ptr _ off :: r, some (.box cs) :: os => match V.toDs cs, freezeCaps r os with
  | some ds, some (c, os') => some (.q ds off :: c, some (.cst ds) :: os')
  | _, _ => none
 | .ptr _ off :: r, some (.cst ds) :: os => match freezeCaps r os with
  | some (c, os') => some (.q ds off :: c, some (.cst ds) :: os')
  | none => none
 | .ptr .. :: _, _ => none
 | v :: r, os => match v.toD, freezeCaps r os with
  | some d, some (c, os') => some (d :: c, os')
  | _, _ => none
def actLd (agg : Bool) (n : Nat) : List V → List (Option Obj) → Option V
 | [.ptr _ off], [some (.box cs)] => match takeV cs off n with | some c => asVar agg n c | none => none
 | [.ptr _ off], [some (.cst ds)] => match takeD ds off n with | some c => asVar agg n (ofDs c) | none => none
 | [.d (.q ds off)], [] => match takeD ds off n with | some c => asVar agg n (ofDs c) | none => none
 | [.pm _ ver idx off], [some (.arr ver' _ xs)] => if ver = ver' then
   match xs[idx]? with
   | some row => match takeV row off n with | some c => asVar agg n c | none => none
   | none => none
  else none
 | _, _ => none
def actSt (n : Nat) : List V → List (Option Obj) → Option (List (Option Obj))
 | [.ptr _ off, v], [some (.box cs)] => match v.cel with
  | some c => if c.length = n then match over cs off c with | some cs' => some [some (.box cs')] | none => none else none
  | none => none
 | [.pm _ ver idx off, v], [some (.arr ver' sz xs)] => if ver = ver' then
   match xs[idx]?, v.cel with
   | some row, some c => if c.length = n then match over row off c with | some row' => some [some (.arr ver' sz (xs.set idx row'))] | none => none else none
   | _, _ => none
  else none
 | _, _ => none
def actIa (sz : Nat) : List V → List (Option Obj) → Option V
 | [.d (.l sz' xs), .d (.i _ i)], [] => if sz' = sz ∧ 0 ≤ i then match xs[i.toNat]? with | some r => some (.d (.q r 0)) | none => none else none
 | [.own _ _ sz' xs, .d (.i _ i)], [] => if sz' = sz ∧ 0 ≤ i then match xs[i.toNat]? with | some r => some (.d (.q r 0)) | none => none else none
 | [.arr id ver off len, .d (.i _ i)], [some (.arr ver' sz' _)] => if ver = ver' ∧ sz' = sz ∧ 0 ≤ i ∧ i < len then some (.pm id ver (off + i.toNat) 0) else none
 | _, _ => none
def moreOf (sz : Nat) : V → Option (List (List D))
 | .d (.l sz' ys) => if sz' = sz then some ys else none
 | .own _ _ sz' ys => if sz' = sz then some ys else none
 | .nil _ => some []
 | _ => none
def actApp (sz bytes fresh : Nat) : List V → List (Option Obj) → Option Res
 | [.nil _, y], [] => match moreOf sz y with
  | some ys => if roomy ys.length bytes then some ⟨.own fresh 0 sz ys, [], some (.tok 0 sz)⟩ else none
  | none => none
 | [.own id ver sz' xs, y], [some (.tok ver' sz'')] => if ver = ver' ∧ sz' = sz ∧ sz'' = sz then
   match moreOf sz y with
   | some ys => if roomy (xs.length + ys.length) bytes then some ⟨.own id (ver + 1) sz (xs ++ ys), [some (.tok (ver + 1) sz)], none⟩ else none
   | none => none
  else none
 | _, _ => none
def arrMore (sz : Nat) : V → List (Option Obj) → Option (List (List V))
 | .arr _ ver off len, [some (.arr ver' sz' xs)] => if ver = ver' ∧ sz' = sz ∧ off + len ≤ xs.length then some ((xs.drop off).take len) else none
 | y, [] => match moreOf sz y with
  | some ys => some (ys.map ofDs)
  | none => none
 | _, _ => none
def V.other (id : Nat) : V → Bool
 | .arr id' _ _ _ => decide (id' ≠ id)
 | _ => true
def apaNil (sz bytes fresh : Nat) (y : V) (os : List (Option Obj)) : Option Res :=
 match arrMore sz y os with
 | some ys => if roomy ys.length bytes then some ⟨.arr fresh 0 0 ys.length, os, some (.arr 0 sz ys)⟩ else none
 | none => none
def apaArr (sz bytes id ver off len : Nat) (y : V) : List (Option Obj) → Option Res
 | some (.arr ver' sz' xs) :: os => if ver = ver' ∧ sz' = sz ∧ off + len ≤ xs.length ∧ y.other id = true then
   match arrMore sz y os with
   | some ys => if roomy (len + ys.length) bytes then some ⟨.arr id (ver + 1) 0 (len + ys.length), some (.arr (ver + 1) sz ((xs.drop off).take len ++ ys)) :: os, none⟩ else none
   | none => none
  else none
 | _ => none
def actApa (sz bytes fresh : Nat) (vs : List V) (os : List (Option Obj)) : Option Res :=
 match vs with
 | [x, y] => match x with
  | .nil _ => apaNil sz bytes fresh y os
  | .arr id ver off len => apaArr sz bytes id ver off len y os
  | _ => none
 | _ => none
def actApz (sz bytes fresh : Nat) (z : List D) : List V → List (Option Obj) → Option Res
 | [.nil _, .d (.i _ n)], [] => if 0 ≤ n ∧ roomy n.toNat bytes then some ⟨.arr fresh 0 0 n.toNat, [], some (.arr 0 sz (List.replicate n.toNat (ofDs z)))⟩ else none
 | _, _ => none
def actSlc (sz : Nat) (x : V) (lo hi : Option V) (os : List (Option Obj)) : Option V :=
 match x with
 | .d (.l sz' xs) => if sz' = sz then match bounds lo hi xs.length with
   | some (l, h) => some (.d (.l sz ((xs.take h).drop l)))
   | none => none
  else none
 | .own id ver sz' xs => if sz' = sz then match bounds lo hi xs.length with
   | some (l, h) => if h = xs.length then some (.own id ver sz (xs.drop l)) else some (.d (.l sz ((xs.take h).drop l)))
   | none => none
  else none
 | .nil sz' => match bounds lo hi 0 with
  | some _ => some (.nil sz')
  | none => none
 | .arr id ver off len => match os with
  | [some (.arr _ sz' _)] => if sz' = sz then match bounds lo hi len with
    | some (l, h) => some (.arr id ver (off + l) (h - l))
    | none => none
   else none
  | _ => none
 | _ => none
def okKey (ag : Bool) : V → Bool
 | .agg _ => ag
 | _ => !ag
def keyD (ag : Bool) (n : Nat) (k : V) : Option (List D) :=
 if okKey ag k then match V.toDs k.cells with
  | some kd => if kd.length = n then some kd else none
  | none => none
 else none
def got (ok : Bool) (zero : V) : Option (List D × V) → V
 | some p => if ok then .tup [p.2, .d (.b true)] else p.2
 | none => if ok then .tup [zero, .d (.b false)] else zero
def actLk (ag : Bool) (ks : List CK) (ok : Bool) (zero : V) : List V → List (Option Obj) → Option V
 | [.map _, k], [some (.map kvs)] => match keyD ag ks.length k with
  | some kd => match mapAt ks kd kvs with
   | some n => some (got ok zero kvs[n]?)
   | none => none
  | none => none
 | [.map _, k], [some (.cmap kvs)] => match keyD ag ks.length k with
  | some kd => match mapAt ks kd kvs with
   | some n => some (got ok zero kvs[n]?)
   | none => none
  | none => none
 | [.d .nm, k], [] => match keyD ag ks.length k with
  | some _ => some (got ok zero none)
  | none => none
 | _, _ => none
def actMu (ag : Bool) (ks : List CK) : List V → List (Option Obj) → Option (List (Option Obj))
 | [.map _, k, v], [some (.map kvs)] => match keyD ag ks.length k with
  | some kd => match mapAt ks kd kvs with
   | some n => some [some (.map (if n < kvs.length then kvs.set n (kd, v) else kvs ++ [(kd, v)]))]
   | none => none
  | none => none
 | _, _ => none
def actDel (ag : Bool) (ks : List CK) : List V → List (Option Obj) → Option (List (Option Obj))
 | [.map _, k], [some (.map kvs)] => match keyD ag ks.length k with
  | some kd => match mapAt ks kd kvs with
   | some n => some [some (.map (kvs.eraseIdx n))]
   | none => none
  | none => none
 | _, _ => none
def rowsD : List (List V) → Option (List (List D))
 | [] => some []
 | r :: rs => match V.toDs r, rowsD rs with
  | some d, some ds => some (d :: ds)
  | _, _ => none
def actFrz : List V → List (Option Obj) → Option Res
 | [.arr _ ver off len], [some (.arr ver' sz xs)] => if ver = ver' ∧ off + len ≤ xs.length then match rowsD xs with
   | some ds => some ⟨.d (.l sz ((ds.drop off).take len)), [some (.arr (ver + 1) sz [])], none⟩
   | none => none
  else none
 | [.arr ..], _ => none
 | [v], [] => some ⟨v, [], none⟩
 | _, _ => none
def bytesR : List (List D) → Option (List UInt8)
 | [] => some []
 | [.i .u8 n] :: r => match bytesR r with
  | some b => some (UInt8.ofNat n.toNat :: b)
  | none => none
 | _ :: _ => none
def bytesV : V → Option (List UInt8)
 | .d (.l 1 xs) => bytesR xs
 | .own _ _ 1 xs => bytesR xs
 | .nil _ => some []
 | _ => none
def fillA (sz : Nat) (xs : List (List V)) : List (Nat × V) → Option (List (List V))
 | [] => some xs
 | (i, v) :: rest => match v.cel with
  | some c => if c.length = sz ∧ i < xs.length then fillA sz (xs.set i c) rest else none
  | none => none
def nilMap : V → Option Bool
 | .d .nm => some true
 | .map _ => some false
 | _ => none
def optV (v : Option V) (os : List (Option Obj)) : Option Res := match v with | some v => some ⟨v, os, none⟩ | none => none
def optD (v : Option D) (os : List (Option Obj)) : Option Res := match v with | some v => some ⟨.d v, os, none⟩ | none => none
def act (op : Cop) (vs : List V) (os : List (Option Obj)) (fresh : Nat) : Option Res :=
 match op with
 | .mv _ => match vs with | [v] => some ⟨v, os, none⟩ | _ => none
 | .pick .. => match vs with
  | [.d (.b c), a, b] => some ⟨if c then a else b, os, none⟩
  | _ => none
 | .zero z => some ⟨.ptr fresh 0, os, some (.box z.cells)⟩
 | .box _ => match vs with
  | [v] => match v.cel with | some c => some ⟨.ptr fresh 0, os, some (.box c)⟩ | none => none
  | _ => none
 | .build z ps => match fillV z (zipP ps vs) with | some cs => some ⟨.agg cs, os, none⟩ | none => none
 | .bsl sz len z ps => match fillR sz (List.replicate len z) (zipI ps vs) with
  | some xs => some ⟨.own fresh 0 sz xs, os, some (.tok 0 sz)⟩
  | none => none
 | .bsa sz len z ps => match fillA sz (List.replicate len (ofDs z)) (zipI ps vs) with
  | some xs => some ⟨.arr fresh 0 0 len, os, some (.arr 0 sz xs)⟩
  | none => none
 | .apa sz bytes _ _ => actApa sz bytes fresh vs os
 | .apz sz bytes z _ _ => actApz sz bytes fresh z vs os
 | .capn _ => match vs with | [.nil _] => some ⟨.d (.i .i64 0), os, none⟩ | _ => none
 | .nilm neg _ => match vs with
  | [x] => match nilMap x with | some r => some ⟨.d (.b (if neg then !r else r)), os, none⟩ | none => none
  | _ => none
 | .ld agg n _ => optV (actLd agg n vs os) os
 | .st n _ _ => match actSt n vs os with | some os' => some ⟨.undef, os', none⟩ | none => none
 | .nilc _ => match vs with
  | [.ptr id off] => some ⟨.ptr id off, os, none⟩
  | [.pm id ver idx off] => some ⟨.pm id ver idx off, os, none⟩
  | [.d (.q ds off)] => some ⟨.d (.q ds off), os, none⟩
  | [.d (.f k a c)] => some ⟨.d (.f k a c), os, none⟩
  | [.fn k a c] => some ⟨.fn k a c, os, none⟩
  | _ => none
 | .bin op _ _ => match vs with | [x, y] => optD (binOp op x y) os | _ => none
 | .eqa ks neg _ _ => match vs with
  | [.agg x, .agg y] => match V.toDs x, V.toDs y with
   | some x, some y => match eqDs ks x y with | some r => some ⟨.d (.b (if neg then !r else r)), os, none⟩ | none => none
   | _, _ => none
  | _ => none
 | .eqb neg _ _ => match vs with
  | [.d (.b x), .d (.b y)] => some ⟨.d (.b (if neg then x != y else x == y)), os, none⟩
  | _ => none
 | .un op _ => match vs with | [x] => optD (unOp op x) os | _ => none
 | .nils neg _ => match vs with
  | [x] => match nilSlice x with | some r => some ⟨.d (.b (if neg then !r else r)), os, none⟩ | none => none
  | _ => none
 | .conv k _ => match vs with | [.d (.i _ n)] => some ⟨.d (.i k (k.wrap n)), os, none⟩ | _ => none
 | .sid _ => match vs with | [.d (.s x)] => some ⟨.d (.s x), os, none⟩ | _ => none
 | .frz _ => actFrz vs os
 | .mkf key f _ frz =>
  if frz then match nodupB (ptrIds vs), freezeCaps vs os with
   | true, some (c, os') => some ⟨.d (.f key (c.take f.length) (c.drop f.length)), os', none⟩
   | true, none => match os.all Option.isSome with
    | true => some ⟨.fn key (vs.take f.length) (vs.drop f.length), os, none⟩
    | false => none
   | _, _ => none
  else some ⟨.fn key (vs.take f.length) (vs.drop f.length), os, none⟩
 | .mkm => some ⟨.map fresh, os, some (.map [])⟩
 | .bts _ => match vs with
  | [v] => match bytesV v with | some b => some ⟨.d (.s b), os, none⟩ | none => none
  | _ => none
 | .mks sz bytes z ow _ _ => match vs with
  | [.d (.i _ l), .d (.i _ c)] => if 0 ≤ l ∧ l ≤ c ∧ roomy c.toNat bytes then
    if l = 0 ∨ ow = true then some ⟨.own fresh 0 sz (List.replicate l.toNat z), os, some (.tok 0 sz)⟩
    else if l = c then some ⟨.arr fresh 0 0 l.toNat, os, some (.arr 0 sz (List.replicate l.toNat (ofDs z)))⟩ else none
   else none
  | _ => none
 | .slc sz _ lo hi => match vs, lo, hi with
  | [x], none, none => optV (actSlc sz x none none os) os
  | [x, l], some _, none => optV (actSlc sz x (some l) none os) os
  | [x, h], none, some _ => optV (actSlc sz x none (some h) os) os
  | [x, l, h], some _, some _ => optV (actSlc sz x (some l) (some h) os) os
  | _, _, _ => none
 | .sls _ lo hi => match vs, lo, hi with
  | [.d (.s x)], none, none => some ⟨.d (.s x), os, none⟩
  | [.d (.s x), l], some _, none => match bounds (some l) none x.length with | some (l, h) => some ⟨.d (.s ((x.take h).drop l)), os, none⟩ | none => none
  | [.d (.s x), h], none, some _ => match bounds none (some h) x.length with | some (l, h) => some ⟨.d (.s ((x.take h).drop l)), os, none⟩ | none => none
  | [.d (.s x), l, h], some _, some _ => match bounds (some l) (some h) x.length with | some (l, h) => some ⟨.d (.s ((x.take h).drop l)), os, none⟩ | none => none
  | _, _, _ => none
 | .fa off _ => match vs with
  | [.ptr id o] => some ⟨.ptr id (o + off), os, none⟩
  | [.pm id ver idx o] => some ⟨.pm id ver idx (o + off), os, none⟩
  | [.d (.q ds o)] => some ⟨.d (.q ds (o + off)), os, none⟩
  | _ => none
 | .fl agg off n _ => match vs with
  | [.agg cs] => match takeV cs off n with | some c => optV (asVar agg n c) os | none => none
  | _ => none
 | .ia sz _ _ => optV (actIa sz vs os) os
 | .iaa len sz _ _ => match vs with
  | [.ptr id o, .d (.i _ i)] => if 0 ≤ i ∧ i < len then some ⟨.ptr id (o + i.toNat * sz), os, none⟩ else none
  | [.d (.q ds o), .d (.i _ i)] => if 0 ≤ i ∧ i < len then some ⟨.d (.q ds (o + i.toNat * sz)), os, none⟩ else none
  | _ => none
 | .ixs _ _ => match vs with
  | [.d (.s x), .d (.i _ i)] => if 0 ≤ i then match x[i.toNat]? with | some c => some ⟨.d (.i .u8 c.toNat), os, none⟩ | none => none else none
  | _ => none
 | .ixa agg len sz _ _ => match vs with
  | [.agg cs, .d (.i _ i)] => if 0 ≤ i ∧ i < len then match takeV cs (i.toNat * sz) sz with | some c => optV (asVar agg sz c) os | none => none else none
  | _ => none
 | .len k _ => match k, vs, os with
  | 1, [.d (.s x)], os => some ⟨.d (.i .i64 x.length), os, none⟩
  | 0, [.d (.l _ xs)], os => some ⟨.d (.i .i64 xs.length), os, none⟩
  | 0, [.own _ _ _ xs], os => some ⟨.d (.i .i64 xs.length), os, none⟩
  | 0, [.nil _], os => some ⟨.d (.i .i64 0), os, none⟩
  | 0, [.arr _ _ _ n], os => some ⟨.d (.i .i64 n), os, none⟩
  | 2, [.map _], [some (.map kvs)] => some ⟨.d (.i .i64 kvs.length), [some (.map kvs)], none⟩
  | 2, [.map _], [some (.cmap kvs)] => some ⟨.d (.i .i64 kvs.length), [some (.cmap kvs)], none⟩
  | _, _, _ => none
 | .app sz bytes _ _ => actApp sz bytes fresh vs os
 | .mm mx _ => optD (maxInt mx vs) os
 | .lk ag ks ok zero _ _ => optV (actLk ag ks ok zero vs os) os
 | .mu ag ks _ _ _ => match actMu ag ks vs os with | some os' => some ⟨.undef, os', none⟩ | none => none
 | .del ag ks _ _ => match actDel ag ks vs os with | some os' => some ⟨.undef, os', none⟩ | none => none
 | .call .. | .callv .. | .lend .. | .callr .. | .die => none
 | .ext _ i => match vs with
  | [.tup ws] => match ws[i]? with | some w => some ⟨w, os, none⟩ | none => none
  | _ => none
inductive Md where
 | keep | frz | lend | raw
def mdOf : Bool → Md
 | true => .frz
 | false => .keep
def callee : Cop → List V → Option (Nat × List V × Nat × Md)
 | .call key _ res fz, vs => some (key, vs, res, mdOf fz)
 | .lend key _, vs => some (key, vs, 0, .lend)
 | .callr key _ res, vs => some (key, vs, res, .raw)
 | .callv _ _ res fz, .d (.f key first cap) :: as => some (key, ofDs first ++ as ++ ofDs cap, res, mdOf fz)
 | .callv _ _ res fz, .fn key [.map id] [] :: as => some (key, .fn key [.map id] [] :: as, res, mdOf fz)
 | .callv _ _ res fz, .fn key first cap :: as => some (key, first ++ as ++ cap, res, mdOf fz)
 | _, _ => none
def Cop.isCall : Cop → Bool
 | .call .. | .callv .. | .lend .. | .callr .. => true
 | _ => false
def Cop.nmk : Cop → Nat
 | .call _ _ res _ | .callv _ _ res _ | .callr _ _ res => res
 | op => if op.mk then 1 else 0
def renObjs (f sh : Nat → Nat) : Nat → List (Option Obj) → Option (List (Option Obj))
 | _, [] => some []
 | i, some o :: r => match renObjs f sh (i + 1) r with
  | some r' => some (some (Obj.ren f sh (sh i) o) :: r')
  | none => none
 | _, none :: _ => none
def verOf : Option Obj → Nat
 | some (.tok v _) => v + 1
 | _ => 0
abbrev CallF := Nat → List V → List (Option Obj) → Option (V × List (Option Obj))
mutual
def V.lend (obj : Nat → Option Obj) : Nat → V → Option D
 | 0, _ => none
 | f + 1, .arr id ver off len => match obj id with
  | some (.arr ver' sz xs) => if ver = ver' ∧ off + len ≤ xs.length then match lendRows obj f xs with
    | some ds => some (.l sz ((ds.drop off).take len))
    | none => none
   else none
  | _ => none
 | f + 1, .ptr id off => match obj id with
  | some (.box cs) => match lendAll obj f cs with
   | some ds => some (.q ds off)
   | none => none
  | some (.cst ds) => some (.q ds off)
  | _ => none
 | _ + 1, v => v.toD
def lendAll (obj : Nat → Option Obj) : Nat → List V → Option (List D)
 | 0, _ => none
 | _ + 1, [] => some []
 | f + 1, v :: vs => match V.lend obj f v, lendAll obj f vs with
  | some x, some xs => some (x :: xs)
  | _, _ => none
def lendRows (obj : Nat → Option Obj) : Nat → List (List V) → Option (List (List D))
 | 0, _ => none
 | _ + 1, [] => some []
 | f + 1, r :: rs => match lendAll obj f r, lendRows obj f rs with
  | some x, some xs => some (x :: xs)
  | _, _ => none
end
def V.arrIds (m : Nat) : V → List Nat
 | .arr id _ _ _ => if m ≤ id then [id] else []
 | _ => []
def arrIdsAll (m : Nat) : List V → List Nat
 | [] => []
 | v :: vs => v.arrIds m ++ arrIdsAll m vs
def valIds (m : Nat) : V → List Nat
 | .agg cs => arrIdsAll m cs
 | v => v.arrIds m
def valIdsAll (m : Nat) : List V → List Nat
 | [] => []
 | v :: vs => valIds m v ++ valIdsAll m vs
def ansIds (m : Nat) : V → List Nat
 | .tup vs => valIdsAll m vs
 | v => valIds m v
def frz1 (m : Nat) (obj : Nat → Option Obj) : V → Option V
 | .arr id ver off len => if m ≤ id then match V.lend obj far (.arr id ver off len) with
   | some d => some (.d d)
   | none => none
  else some (.arr id ver off len)
 | v => some v
def frzAll (m : Nat) (obj : Nat → Option Obj) : List V → Option (List V)
 | [] => some []
 | v :: vs => match frz1 m obj v, frzAll m obj vs with
  | some x, some xs => some (x :: xs)
  | _, _ => none
def frzV (m : Nat) (obj : Nat → Option Obj) : V → Option V
 | .agg cs => match frzAll m obj cs with | some cs => some (.agg cs) | none => none
 | v => frz1 m obj v
def frzVs (m : Nat) (obj : Nat → Option Obj) : List V → Option (List V)
 | [] => some []
 | v :: vs => match frzV m obj v, frzVs m obj vs with
  | some x, some xs => some (x :: xs)
  | _, _ => none
def frzA (m : Nat) (obj : Nat → Option Obj) : V → Option V
 | .tup vs => match frzVs m obj vs with | some vs => some (.tup vs) | none => none
 | v => frzV m obj v
def settle (m : Nat) (r : V) (h : List (Option Obj)) : Option (V × List (Option Obj)) :=
 match ansIds m r with
 | [] => some (r, h)
 | i :: is => match frzA m (fun i => (h[i]?).join) r, reach (fun i => (h[i]?).join) far (i :: is) [] with
  | some r', some F => match reach (fun i => (h[i]?).join) far (List.range m ++ V.refs r') [] with
   | none => none
   | some L => if F.any L.contains then none else match renObjs (placeOf L) noShift 0 (L.map fun i => (h[i]?).join) with
    | none => none
    | some h' => some (V.ren (placeOf L) noShift r', h')
  | _, _ => none
def lendArgs (obj : Nat → Option Obj) : List V → Option (List V)
 | [] => some []
 | .agg cs :: vs => match lendAll obj far cs, lendArgs obj vs with
  | some ds, some r => some (.agg (ofDs ds) :: r)
  | _, _ => none
 | v :: vs => match V.lend obj far v, lendArgs obj vs with
  | some d, some r => some (.d d :: r)
  | _, _ => none
def V.scal : V → Bool
 | .d (.b _) => true
 | .d (.i _ _) => true
 | .d (.s _) => true
 | _ => false
def frzCall (md : Md) (call : CallF) : CallF := fun key args h =>
 match md with
 | .keep => call key args h
 | .raw => call key args h
 | .frz => match call key args h with
  | some (r, h') => settle h.length r h'
  | none => none
 | .lend => match lendArgs (fun i => (h[i]?).join) args with
  | none => none
  | some ds => match call key ds [] with
   | some (r, []) => if r.scal then some (r, h) else none
   | _ => none
def V.rawH : V → Option V
 | .nil sz => some (.nil sz)
 | v => v.hand
def V.rawAll : List V → Option (List V)
 | [] => some []
 | v :: vs => match V.rawH v, V.rawAll vs with
  | some x, some xs => some (x :: xs)
  | _, _ => none
def Md.hands : Md → List V → Option (List V)
 | .raw, vs => V.rawAll vs
 | _, vs => V.handAll vs
def enterCall (call : CallF) (md : Md) (obj : Nat → Option Obj) (key : Nat) (vs : List V) (res fresh : Nat) : Option (V × List Nat × List (Option Obj) × List (Option Obj)) :=
 match md.hands vs with
 | none => none
 | some hs => match reach obj far (V.refsAll hs) [] with
  | none => none
  | some L => match renObjs (placeOf L) noShift 0 (L.map obj) with
   | none => none
   | some h => match call key (V.renAll (placeOf L) noShift hs) h with
    | none => none
    | some (r, h') =>
     let m := L.length
     let back := fun i => if i < m then L.getD i 0 else fresh + (i - m)
     let sh := fun i => if i < m then verOf (h.getD i none) else 0
     match renObjs back sh 0 h' with
     | none => none
     | some os => if m ≤ os.length ∧ os.length ≤ m + res then some (V.ren back sh r, L, os.take m, os.drop m) else none
def setObjs (heap : List (Option Obj)) : List Nat → List (Option Obj) → List (Option Obj)
 | i :: is, o :: os => setObjs (heap.set i o) is os
 | _, _ => heap
structure Eff where
 dst : Option Nat
 v : V
 ids : List Nat
 wr : Bool
 os : List (Option Obj)
 fresh : Nat
 nws : List (Option Obj)
def Eff.on (e : Eff) (s : St) : St :=
 let h := if e.wr then setObjs s.heap e.ids e.os else s.heap
 let h := setObjs h (List.range' e.fresh e.nws.length) e.nws
 ({ s with heap := h } : St).put e.dst e.v
def wanted (s : St) : Option (Nat × Bool) → Option Bool
 | none => some true
 | some (t, want) => match s.get t with
  | .d (.b x) => some (x == want)
  | .tup [] => some false
  | _ => none
section
variable (call : CallF)
def opEff (s : St) (o : CO) (fresh : Nat) : Option Eff :=
 match wanted s o.guard with
 | none => none
 | some false => some ⟨o.dst, .undef, [], false, [], fresh, []⟩
 | some true =>
  if o.op.isCall then match callee o.op (o.op.args.map s.ev) with
   | none => none
   | some (key, vs, res, fz) => match enterCall (frzCall fz call) fz s.obj key vs res fresh with
    | none => none
    | some (r, is, os, ns) => some ⟨o.dst, r, is, true, os, fresh, ns⟩
  else match act o.op (o.op.args.map s.ev) ((o.op.ids (o.op.args.map s.ev)).map s.obj) fresh with
   | none => none
   | some r => some ⟨o.dst, r.v, o.op.ids (o.op.args.map s.ev), o.op.wr, r.os, fresh, r.nws⟩
def runOps (base : Nat) : List CO → Nat → St → Option (St × List Eff)
 | [], _, s => some (s, [])
 | o :: r, j, s => match opEff call s o (base + j) with
  | none => none
  | some e => match runOps base r (j + o.op.nmk) (e.on s) with
   | some (s', es) => some (s', e :: es)
   | none => none
def Eff.new (e : Eff) (i : Nat) : Bool := decide (e.fresh ≤ i ∧ i < e.fresh + e.nws.length)
def clash (a b : Eff) : Bool := (a.wr || b.wr) && a.ids.any (fun i => b.ids.contains i) || a.ids.any b.new || b.ids.any a.new
def raceFrom (e : Eff) (k : Nat) : List CO → List Eff → Bool
 | o :: os, e' :: es => (o.pre.testBit k || !clash e e') && raceFrom e k os es
 | _, _ => true
def noRace : List CO → List Eff → Nat → Bool
 | _ :: os, e :: es, k => raceFrom e k os es && noRace os es (k + 1)
 | _, _, _ => true
def countMk : List CO → Nat
 | [] => 0
 | o :: r => o.op.nmk + countMk r
def runRegion (draw : Bool) (ops : List CO) (s : St) : Option St :=
 let s0 : St := { s with heap := s.heap ++ List.replicate (countMk ops) none }
 match runOps call s.heap.length ops 0 s0 with
 | some (s', es) => if draw then (if noRace ops es 0 then some s' else none) else some s'
 | none => none
end
def ownSlot (s : St) (t : Nat) : St :=
 match s.get t with
 | .nil sz => { tmps := (t, .own s.heap.length 0 sz []) :: s.tmps, heap := s.heap ++ [some (.tok 0 sz)] }
 | _ => s
def ownBox (s : St) (t : Nat × Nat) : St :=
 match s.get t.1 with
 | .ptr id off => match s.obj id with
  | some (.box cs) => match cs[off + t.2]? with
   | some (.nil sz) => { s with heap := (s.heap.set id (some (.box (cs.set (off + t.2) (.own s.heap.length 0 sz []))))) ++ [some (.tok 0 sz)] }
   | _ => s
  | _ => s
 | .nil sz => { tmps := (t.1, .arr s.heap.length 0 0 0) :: s.tmps, heap := s.heap ++ [some (.arr 0 sz [])] }
 | _ => s
def keepTmps (s : St) : List Nat → List (Nat × V)
 | [] => []
 | t :: r => (t, s.get t) :: keepTmps s r
def datC : V → V
 | .nil sz => .d (.l sz [])
 | .own _ _ sz xs => .d (.l sz xs)
 | v => v
def datV : V → V
 | .agg cs => .agg (cs.map datC)
 | v => datC v
def datSlot (s : St) (t : Nat) : St := s.set t (datV (s.get t))
def datBox (s : St) (t : Nat × Nat) : St :=
 match s.get t.1 with
 | .ptr id off => match s.obj id with
  | some (.box cs) => match cs[off + t.2]? with
   | some v => { s with heap := s.heap.set id (some (.box (cs.set (off + t.2) (datC v)))) }
   | none => s
  | _ => s
 | _ => s
def dats (ann : Ann) (s : St) : St := ann.datB.foldl datBox (ann.dat.foldl datSlot s)
def enter (ann : Ann) (s : St) : St :=
 let s := ann.own.foldl ownSlot s
 let s := ann.ownB.foldl ownBox s
 let s := dats ann s
 { s with tmps := keepTmps s ann.keep }
mutual
def V.under (n : Nat) : V → Bool
 | .own id _ _ _ | .arr id _ _ _ | .ptr id _ | .pm id _ _ _ | .map id => decide (id < n)
 | .fn _ a c => V.underAll n a && V.underAll n c
 | .agg cs => V.underAll n cs
 | .tup cs => V.underAll n cs
 | _ => true
def V.underAll (n : Nat) : List V → Bool
 | [] => true
 | v :: vs => V.under n v && V.underAll n vs
end
def underKvs (n : Nat) : List (List D × V) → Bool
 | [] => true
 | (_, v) :: r => V.under n v && underKvs n r
def underRows (n : Nat) : List (List V) → Bool
 | [] => true
 | r :: rs => V.underAll n r && underRows n rs
def Obj.under (n : Nat) : Option Obj → Bool
 | some (.arr _ _ xs) => underRows n xs
 | some (.box cs) => V.underAll n cs
 | some (.map kvs) => underKvs n kvs
 | some (.cmap kvs) => underKvs n kvs
 | some (.lp _ _ caps) => V.underAll n caps
 | _ => true
def underTmps (n : Nat) : List (Nat × V) → Bool
 | [] => true
 | (_, v) :: r => V.under n v && underTmps n r
mutual
def V.fine : V → Bool
 | .own .. | .arr .. | .pm .. | .agg _ | .tup _ => false
 | .fn _ a c => V.fineAll a && V.fineAll c
 | _ => true
def V.fineAll : List V → Bool
 | [] => true
 | v :: vs => V.fine v && V.fineAll vs
end
def normC (h : List (Option Obj)) : V → V
 | .own id ver sz xs => match (h[id]?).join with
  | some (.tok ver' _) => if ver = ver' then .own id 0 sz xs else .d (.l sz xs)
  | _ => .d (.l sz xs)
 | .arr id ver off len => match (h[id]?).join with
  | some (.arr ver' _ _) => if ver = ver' then .arr id ver off len else .bad
  | _ => .bad
 | v => if v.fine then v else .bad
def normV (h : List (Option Obj)) : V → V
 | .agg cs => .agg (cs.map (normC h))
 | .tup [] => .tup []
 | v => normC h v
def normObj (h : List (Option Obj)) : Option Obj → Option Obj
 | some (.box cs) => some (.box (cs.map (normC h)))
 | some (.tok _ sz) => some (.tok 0 sz)
 | some (.arr v sz xs) => some (.arr v sz (xs.map fun r => r.map (normC h)))
 | some (.map kvs) => some (.map (kvs.map fun p => (p.1, normV h p.2)))
 | some (.cmap kvs) => some (.cmap (kvs.map fun p => (p.1, normV h p.2)))
 | some (.lp j key caps) => some (.lp j key (caps.map (normV h)))
 | o => o
def normTmps (h : List (Option Obj)) : List (Nat × V) → List (Nat × V)
 | [] => []
 | (i, v) :: r => (i, normV h v) :: normTmps h r
def back (ann : Ann) (n : Nat) (s : St) : Option St :=
 let s := dats ann s
 let tm := keepTmps s ann.keep
 if ann.tr then
  let h := s.heap.take n
  if underTmps n tm && h.all (Obj.under n) then some { tmps := normTmps h tm, heap := h.map (normObj h) } else none
 else some { tmps := tm, heap := s.heap }
def loopN (f : St → Option (Ex × St)) (bk : St → Option St) : Nat → St → Option (Ex × St)
 | 0, _ => none
 | n + 1, s => match f s with
  | some (.normal, s') => match bk s' with
   | some s'' => loopN f bk n s''
   | none => none
  | r => r
def exLp : Nat → Option Ex
 | 0 => some .normal
 | 1 => none
 | 2 => some .ret
 | j + 3 => some (.exit j)
def lpEx : Ex → Nat
 | .normal => 0
 | .ret => 2
 | .exit id => id + 3
def rangeArgs : V → V → Option (Nat × List V)
 | .d (.f key first cap), y => some (key, ofDs first ++ [y] ++ ofDs cap)
 | .fn _ [.map _] _, _ => none
 | .fn key first cap, y => some (key, first ++ [y] ++ cap)
 | _, _ => none
def rangeC (call : CallF) (f : A) (key : Nat) (ks : List Nat) (res : Nat) (s : St) : Option (Ex × St) :=
 let l := s.heap.length
 let s0 : St := { s with heap := s.heap ++ some (.lp 0 key (ks.map s.get)) :: List.replicate res none }
 match rangeArgs (s.ev f) (.fn key [.map l] []) with
 | none => none
 | some (k, vs) => match enterCall call .keep s0.obj k vs res (l + 1) with
  | none => none
  | some (r, is, os, ns) =>
   let s1 := (⟨none, r, is, true, os, l + 1, ns⟩ : Eff).on s0
   match s1.obj l with
   | some (.lp j key' caps) => match exLp j with
    | some ex => some (ex, { s1 with heap := s1.heap.set l (some (.lp 1 key' caps)) })
    | none => none
   | _ => none
mutual
def D.same : D → D → Bool
 | .b x, .b y => x == y
 | .i k n, .i k' m => decide (k = k') && decide (n = m)
 | .s x, .s y => decide (x = y)
 | .l sz xs, .l sz' ys => decide (sz = sz') && D.sameR xs ys
 | .q xs o, .q ys o' => D.sameL xs ys && decide (o = o')
 | .f k a c, .f k' a' c' => decide (k = k') && D.sameL a a' && D.sameL c c'
 | .np, .np => true
 | .nf, .nf => true
 | .nm, .nm => true
 | _, _ => false
def D.sameL : List D → List D → Bool
 | [], [] => true
 | x :: xs, y :: ys => D.same x y && D.sameL xs ys
 | _, _ => false
def D.sameR : List (List D) → List (List D) → Bool
 | [], [] => true
 | x :: xs, y :: ys => D.sameL x y && D.sameR xs ys
 | _, _ => false
end
mutual
def V.same : V → V → Bool
 | .d x, .d y => D.same x y
 | .nil a, .nil b => decide (a = b)
 | .own a b c xs, .own a' b' c' ys => decide (a = a' ∧ b = b' ∧ c = c') && D.sameR xs ys
 | .arr a b c e, .arr a' b' c' e' => decide (a = a' ∧ b = b' ∧ c = c' ∧ e = e')
 | .ptr a b, .ptr a' b' => decide (a = a' ∧ b = b')
 | .pm a b c e, .pm a' b' c' e' => decide (a = a' ∧ b = b' ∧ c = c' ∧ e = e')
 | .map a, .map b => decide (a = b)
 | .fn k a c, .fn k' a' c' => decide (k = k') && V.sameL a a' && V.sameL c c'
 | .agg xs, .agg ys => V.sameL xs ys
 | .tup xs, .tup ys => V.sameL xs ys
 | .bad, .bad => true
 | _, _ => false
def V.sameL : List V → List V → Bool
 | [], [] => true
 | x :: xs, y :: ys => V.same x y && V.sameL xs ys
 | _, _ => false
end
def sameRows : List (List V) → List (List V) → Bool
 | [], [] => true
 | x :: xs, y :: ys => V.sameL x y && sameRows xs ys
 | _, _ => false
def sameKvs : List (List D × V) → List (List D × V) → Bool
 | [], [] => true
 | (k, x) :: xs, (k', y) :: ys => D.sameL k k' && V.same x y && sameKvs xs ys
 | _, _ => false
def Obj.same : Obj → Obj → Bool
 | .box a, .box b => V.sameL a b
 | .cst a, .cst b => D.sameL a b
 | .tok a b, .tok a' b' => decide (a = a' ∧ b = b')
 | .arr a b xs, .arr a' b' ys => decide (a = a' ∧ b = b') && sameRows xs ys
 | .map a, .map b => sameKvs a b
 | .cmap a, .cmap b => sameKvs a b
 | .lp j k a, .lp j' k' b => decide (j = j' ∧ k = k') && V.sameL a b
 | _, _ => false
def sameHeap : List (Option Obj) → List (Option Obj) → Bool
 | [], [] => true
 | none :: xs, none :: ys => sameHeap xs ys
 | some x :: xs, some y :: ys => Obj.same x y && sameHeap xs ys
 | _, _ => false
def sameTmps : List (Nat × V) → List (Nat × V) → Bool
 | [], [] => true
 | (i, x) :: xs, (j, y) :: ys => decide (i = j) && V.same x y && sameTmps xs ys
 | _, _ => false
def St.same (s t : St) : Bool := sameTmps s.tmps t.tmps && sameHeap s.heap t.heap
def exSame : Ex → Ex → Bool
 | .normal, .normal => true
 | .ret, .ret => true
 | .exit a, .exit b => decide (a = b)
 | _, _ => false
def outSame (x y : Ex × St) : Bool := exSame x.1 y.1 && x.2.same y.2
def keyV : List D → V
 | [d] => .d d
 | ds => .agg (ofDs ds)
abbrev RoundF := St → List D × V → Option (Ex × St)
def actsM (f : RoundF) (s : St) : List (List D × V) → Option (List (Ex × St))
 | [] => some []
 | p :: r => match f s p, actsM f s r with
  | some o, some os => some (if outSame o (.normal, s) then os else o :: os)
  | _, _ => none
def restM (f : RoundF) (s s' : St) : List (List D × V) → Bool
 | [] => true
 | p :: r => (match f s p with
  | some o => if outSame o (.normal, s) then (match f s' p with | some o' => outSame o' (.normal, s') | none => false) else true
  | none => false) && restM f s s' r
def leaveM (out : Nat) : Ex × St → Ex × St
 | (.exit id, s) => if id = out then (.normal, s) else (.exit id, s)
 | o => o
def decideM (rest : St → Bool) (s : St) : List (Ex × St) → Option (Ex × St)
 | [] => some (.normal, s)
 | [(.normal, s')] => if rest s' then some (.normal, s') else none
 | (.normal, _) :: _ :: _ => none
 | o :: r => if r.all (outSame · o) then some o else none
def roundsM (f : RoundF) (s : St) (kvs : List (List D × V)) : Option (Ex × St) :=
 match actsM f s kvs with
 | none => none
 | some l => decideM (fun s' => restM f s s' kvs) s l
def headOk (it l id : Nat) (kvs : List (List D × V)) (s : St) : Bool := V.same (s.get it) (.ptr l 0) && (match s.obj id with
 | some (.cmap k) => sameKvs k kvs
 | _ => false)
def oneM (f : St → Option (Ex × St)) (ann : Ann) (it l id : Nat) (kvs : List (List D × V)) (pr : Nat) : RoundF := fun s p =>
 match f (s.set pr (.tup [keyV p.1, p.2])) with
 | some (ex, s') => match back ann (l + 1) s' with
  | some s'' => if headOk it l id kvs s'' then some (ex, s'') else none
  | none => none
 | none => none
def iterM (it : Nat) (s : St) : St := { tmps := (it, .ptr s.heap.length 0) :: s.tmps, heap := s.heap ++ [some (.cst [])] }
def rangeKvs (f : St → Option (Ex × St)) (ann : Ann) (it pr out id : Nat) (s : St) : Option (Ex × St) :=
 match back ann (s.heap.length + 1) (iterM it s) with
 | none => none
 | some s1 => match s1.obj id with
  | some (.cmap kvs) => if headOk it s.heap.length id kvs s1 then match roundsM (oneM f ann it s.heap.length id kvs pr) s1 kvs with
    | some o => some (leaveM out o)
    | none => none
   else none
  | _ => none
def freezeO : Option Obj → Option Obj
 | some (.map kvs) => some (.cmap kvs)
 | o => o
def isMapK : Option Obj → Bool
 | some (.map _) => true
 | some (.cmap _) => true
 | _ => false
def rangeMC (f : St → Option (Ex × St)) (ann : Ann) (m : A) (it pr out : Nat) (s : St) : Option (Ex × St) :=
 match s.ev m with
 | .d .nm => match back ann (s.heap.length + 1) (iterM it s) with
  | some s1 => if V.same (s1.get it) (.ptr s.heap.length 0) then some (.normal, s1) else none
  | none => none
 | .map id => if isMapK (s.obj id) then rangeKvs f ann it pr out id { s with heap := s.heap.map freezeO } else none
 | _ => none
section
variable (call : CallF) (n : Nat)
def execC : CCode → St → Option (Ex × St)
 | .skip, s => some (.normal, s)
 | .region draw ops, s => match runRegion call draw ops s with | some s' => some (.normal, s') | none => none
 | .seq a b, s => match execC a s with
  | some (.normal, s') => execC b s'
  | r => r
 | .cond c a b, s => match s.ev c with
  | .d (.b true) => execC a s
  | .d (.b false) => execC b s
  | _ => none
 | .block id c, s => match execC c s with
  | some (.exit id', s') => if id' = id then some (.normal, s') else some (.exit id', s')
  | r => r
 | .loop ann c, s => loopN (execC c) (back ann (enter ann s).heap.length) n (enter ann s)
 | .exit id, s => some (.exit id, s)
 | .ret, s => some (.ret, s)
 | .range own f key ks res, s => rangeC call f key ks res (own.foldl ownBox s)
 | .rangeM ops ann m it pr out body, s => match runRegion call false ops s with
  | some s1 => rangeMC (execC body) ann m it pr out s1
  | none => none
end
def entry (args : List V) (h : List (Option Obj)) : St := { tmps := args.zipIdx.map fun p => (p.2, p.1), heap := h }
def retV (s : St) : Ret → Option V
 | .raw t => (s.get t).rawH
 | .slot t => (s.get t).hand
 | .cell t agg n => match s.get t with
  | .ptr id off => match s.obj id with
   | some (.box cs) => match takeV cs off n with
    | some c => match asVar agg n c with | some v => v.hand | none => none
    | none => none
   | _ => none
  | _ => none
def retAll (s : St) : List Ret → Option (List V)
 | [] => some []
 | r :: rs => match retV s r, retAll s rs with
  | some v, some vs => some (v :: vs)
  | _, _ => none
def answer : List V → V
 | [v] => v
 | vs => .tup vs
def resultV (m : Nat) (s : St) (vs : List V) : Option (V × List (Option Obj)) :=
 match reach s.obj far (List.range m ++ V.refsAll vs) [] with
 | none => none
 | some L => match renObjs (placeOf L) noShift 0 (L.map s.obj) with
  | none => none
  | some h => some (V.ren (placeOf L) noShift (answer vs), h)
def result (m : Nat) (s : St) (rets : List Ret) : Option (V × List (Option Obj)) :=
 match retAll s rets with
 | none => none
 | some vs => resultV m s vs
def zipT : List Nat → List V → List (Nat × V)
 | t :: ts, v :: vs => (t, v) :: zipT ts vs
 | _, _ => []
def runRound (call : CallF) (n : Nat) (key : Nat) (ps ks : List Nat) (a c : CCode) (args : List V) (h : List (Option Obj)) : Option (V × List (Option Obj)) :=
 match args with
 | .fn _ [.map id] [] :: as => match (h[id]?).join with
  | some (.lp 0 key' caps) => if key' = key ∧ as.length = ps.length ∧ caps.length = ks.length then match execC call n a ⟨zipT ps as ++ zipT ks caps, h⟩ with
    | some (.normal, s) => match s.obj id with
     | some (.lp 0 k1 c1) => match execC call n c { s with heap := s.heap.set id (some (.lp 1 k1 c1)) } with
      | some (ex, s) => match s.obj id with
       | some (.lp 1 k2 c2) => resultV h.length { s with heap := s.heap.set id (some (.lp (lpEx ex) k2 c2)) } [.d (.b (decide (ex = .normal)))]
       | _ => none
      | none => none
     | _ => none
    | _ => none
   else none
  | _ => none
 | _ => none
inductive Fn where
 | code (f : CFn)
 | round (ps ks : List Nat) (a c : CCode)
 | prim (impl : List V → List (Option Obj) → Option (V × List (Option Obj)))
def runFn (call : CallF) (n key : Nat) (fn : Fn) (args : List V) (h : List (Option Obj)) : Option (V × List (Option Obj)) :=
 match fn with
 | .prim impl => impl args h
 | .round ps ks a c => runRound call n key ps ks a c args h
 | .code f => match execC call n f.body (entry args h) with
  | some (.normal, s) => result h.length s f.rets
  | some (.ret, s) => result h.length s f.rets
  | _ => none
def ecall (E : Nat → Option Fn) : Nat → CallF
 | 0, _, _, _ => none
 | k + 1, key, args, h => match E key with
  | some fn => runFn (ecall E k) k key fn args h
  | none => none
open Go
def isAggT (P : Program) (t : TypeId) : Bool :=
 match P.underlying t with
 | some (.struct _) | some (.array _ _) => true
 | _ => false
def concatOpt : List (Option (List V)) → Option (List V)
 | [] => some []
 | some x :: r => match concatOpt r with | some y => some (x ++ y) | none => none
 | none :: _ => none
def zeroC (P : Program) : Nat → TypeId → Option (List V)
 | 0, _ => none
 | f + 1, t => match P.underlying t with
  | some .bool => some [.d (.b false)]
  | some (.int k) => some [.d (.i k 0)]
  | some .string => some [.d (.s [])]
  | some (.pointer _) => some [.d .np]
  | some (.slice e) => some [.nil (P.cellsOf e)]
  | some (.func ..) => some [.d .nf]
  | some (.map ..) => some [.d .nm]
  | some (.struct fs) => concatOpt (fs.toList.map fun x => zeroC P f x.type)
  | some (.array n e) => match zeroC P f e with
   | some z => some (List.replicate n z).flatten
   | none => none
  | _ => none
def fitC : V → Value → Bool
 | .d (.b x), .bool y => x == y
 | .d (.i k n), .int k' m => decide (k = k') && decide (n = m)
 | .d (.s x), .string s => decide (s.data.toList = x)
 | .nil _, .slice none 0 0 => true
 | .d .np, .pointer none => true
 | .d .nf, .nilFunc => true
 | .d .nm, .map none => true
 | _, _ => false
def fitCs : List V → List Value → Bool
 | [], [] => true
 | c :: cs, v :: vs => fitC c v && fitCs cs vs
 | _, _ => false
def fitV : V → Value → Bool
 | .agg cs, .agg vs => fitCs cs vs.toList
 | .agg _, _ => false
 | c, v => fitC c v
def constC (sz : Nat) : Value → V
 | .bool b => .d (.b b)
 | .int k n => .d (.i k n)
 | .string s => .d (.s s.data.toList)
 | .slice none 0 0 => .nil sz
 | .pointer none => .d .np
 | .nilFunc => .d .nf
 | .map none => .d .nm
 | _ => .bad
def elemSz (P : Program) (t : TypeId) : Nat := match P.underlying t with | some (.slice e) => P.cellsOf e | _ => 0
def constV (P : Program) (t : Option TypeId) : Value → V
 | .agg vs => match t with
  | some t => match zeroC P 20 t with
   | some z => if fitCs z vs.toList then .agg z else .agg (vs.toList.map (constC 0))
   | none => .agg (vs.toList.map (constC 0))
  | none => .agg (vs.toList.map (constC 0))
 | v => constC (match t with | some t => elemSz P t | none => 0) v
structure Round where
 fn : Nat
 ps : Array Nat
 assign : Code
 body : Code
 ks : List Nat
 nt : Nat
structure Tab where
 fns : List (Nat × Nat)
 rnds : List (Nat × Round) := []
def keyOf (tab : Tab) (f : FuncId) : Option Nat := (tab.fns.find? fun p => p.1 == f).map (·.2)
def rndOf (tab : Tab) (k : Nat) : Option Round := (tab.rnds.find? fun p => p.1 == k).map (·.2)
def compA (P : Program) (tab : Tab) (t : Option TypeId) : Operand → Option A
 | .tmp i => some (.t i)
 | .const v => if fitV (constV P t v) v then some (.k (constV P t v)) else none
 | .func f => match keyOf tab f with | some k => some (.k (.d (.f k [] []))) | none => none
 | .global _ => none
def compAs (P : Program) (tab : Tab) : List (Option TypeId) → List Operand → Option (List A)
 | _, [] => some []
 | ts, x :: xs => match compA P tab (ts.head?.join) x, compAs P tab ts.tail xs with
  | some a, some as => some (a :: as)
  | _, _ => none
def compOpt (P : Program) (tab : Tab) (t : Option TypeId) : Option Operand → Option (Option A)
 | none => some none
 | some x => match compA P tab t x with | some a => some (some a) | none => none
def structParts (P : Program) (tab : Tab) (fs : Array Field) : List (Nat × Operand) → Option (List (Nat × Nat × A))
 | [] => some []
 | (i, x) :: r => match fs[i]? with
  | some f => match compA P tab (some f.type) x, structParts P tab fs r with
   | some a, some as => some ((f.offset, P.cellsOf f.type, a) :: as)
   | _, _ => none
  | none => none
def arrayParts (P : Program) (tab : Tab) (e : TypeId) : List (Nat × Operand) → Option (List (Nat × Nat × A))
 | [] => some []
 | (i, x) :: r => match compA P tab (some e) x, arrayParts P tab e r with
   | some a, some as => some ((i * P.cellsOf e, P.cellsOf e, a) :: as)
   | _, _ => none
def sliceParts (P : Program) (tab : Tab) (e : TypeId) : List (Nat × Operand) → Option (List (Nat × A))
 | [] => some []
 | (i, x) :: r => match compA P tab (some e) x, sliceParts P tab e r with
   | some a, some as => some ((i, a) :: as)
   | _, _ => none
def zeroOf (P : Program) (t : TypeId) : Option V :=
 match zeroC P 20 t, (P.info? t).bind (·.zero) with
 | some cs, some z =>
  if isAggT P t then (if fitV (.agg cs) z && decide (cs.length = P.cellsOf t) then some (.agg cs) else none)
  else match cs with
   | [c] => if fitC c z && decide (P.cellsOf t = 1) then some c else none
   | _ => none
 | _, _ => none
def flatFs (P : Program) (g : TypeId → Option (List CK)) : List Field → Nat → Option (List CK)
 | [], _ => some []
 | x :: r, off => if x.offset = off ∧ x.name ≠ "_" then match g x.type, flatFs P g r (off + P.cellsOf x.type) with
   | some k, some ks => if k.length = P.cellsOf x.type then some (k ++ ks) else none
   | _, _ => none
  else none
def flatK (P : Program) : Nat → TypeId → Option (List CK)
 | 0, _ => none
 | f + 1, t => match P.underlying t with
  | some .bool => if P.cellsOf t = 1 then some [.b] else none
  | some (.int _) => if P.cellsOf t = 1 then some [.i] else none
  | some .string => if P.cellsOf t = 1 then some [.s] else none
  | some (.struct fs) => if P.stoodInHeld t then none else match flatFs P (flatK P f) fs.toList 0 with
   | some ks => if ks.length = P.cellsOf t ∧ P.cellsOf t ≠ 0 then some ks else none
   | none => none
  | some (.array n e) => match flatK P f e with
   | some ks => if ks.length = P.cellsOf e ∧ P.cellsOf t = n * P.cellsOf e ∧ P.cellsOf t ≠ 0 then some (List.replicate n ks).flatten else none
   | none => none
  | _ => none
def keyK (P : Program) (t : TypeId) : Option (List CK) := if isAggT P t ∧ P.cellsOf t = 1 then none else flatK P 20 t
def isK (P : Program) (t : TypeId) : Bool := match P.underlying t with | some (.int _) | some .string | some .bool => true | _ => false
def isIntT (P : Program) (t : TypeId) : Bool := match P.underlying t with | some (.int _) => true | _ => false
def isStrT (P : Program) (t : TypeId) : Bool := match P.underlying t with | some .string => true | _ => false
def isSliceT (P : Program) (t : TypeId) : Bool := match P.underlying t with | some (.slice _) => true | _ => false
def isBytesT (P : Program) (t : TypeId) : Bool := match P.underlying t with | some (.slice e) => (match P.underlying e with | some (.int .u8) => decide (P.cellsOf e = 1) | _ => false) | _ => false
def isBoolT (P : Program) (t : TypeId) : Bool := match P.underlying t with | some .bool => true | _ => false
def isEqOp : BinOp → Bool | .eql | .neq => true | _ => false
def un1 (P : Program) (tab : Tab) (t : Option TypeId) (x : Operand) (f : A → Cop) : Option Cop :=
 match compA P tab t x with | some a => some (f a) | none => none
def bi2 (P : Program) (tab : Tab) (t u : Option TypeId) (x y : Operand) (f : A → A → Cop) : Option Cop :=
 match compA P tab t x, compA P tab u y with | some a, some b => some (f a b) | _, _ => none
def isNilConst : Operand → Bool
 | .const (.slice none 0 0) => true
 | _ => false
def isNilMap : Operand → Bool
 | .const (.map none) => true
 | _ => false
def isMapT (P : Program) (t : TypeId) : Bool := match P.underlying t with | some (.map ..) => true | _ => false
def compBuiltin (P : Program) (tab : Tab) (frz : Bool) (b : Builtin) (args : List Operand) (ts : List TypeId) : Option Cop :=
 match b, args, ts with
 | .len, [x], [t] => match P.underlying t with
  | some (.slice _) => un1 P tab (some t) x (.len 0)
  | some .string => un1 P tab (some t) x (.len 1)
  | some (.map ..) => un1 P tab (some t) x (.len 2)
  | _ => none
 | .append, [x, y], [t, u] => match P.underlying t with
  | some (.slice e) => if isSliceT P u && decide (P.cellsOf e ≠ 0) && decide (P.bytesOf e ≠ 0) && (zeroOf P e).isSome then bi2 P tab (some t) (some u) x y (if frz then .apa (P.cellsOf e) (P.bytesOf e) else .app (P.cellsOf e) (P.bytesOf e)) else
   if isIntT P u && decide (P.cellsOf e ≠ 0) && decide (P.bytesOf e ≠ 0) then match zeroOf P e with
    | some z => match V.toDs z.cells with
     | some zd => if zd.length = P.cellsOf e then bi2 P tab (some t) none x y (.apz (P.cellsOf e) (P.bytesOf e) zd) else none
     | none => none
    | none => none
   else none
  | _ => none
 | .cap, [x], [t] => match P.underlying t with
  | some (.slice _) => un1 P tab (some t) x .capn
  | _ => none
 | .max, xs, ts => if ts.all (isIntT P) then match compAs P tab (ts.map some) xs with | some as => some (.mm true as) | none => none else none
 | .min, xs, ts => if ts.all (isIntT P) then match compAs P tab (ts.map some) xs with | some as => some (.mm false as) | none => none else none
 | .delete, [m, k], [t, u] => match P.underlying t with
  | some (.map kt _) => match keyK P kt with | some ks => bi2 P tab (some t) (some kt) m k (.del (isAggT P kt) ks) | none => none
  | _ => none
 | _, _, _ => none
def refT (P : Program) (t : TypeId) : Bool := match P.underlying t with | some (.pointer _) | some (.map ..) | some (.func ..) => true | _ => false
def resOf (P : Program) (ts : List TypeId) (t : TypeId) : Nat := if ts.any (refT P) || refT P t then 4 else 0
def compOp0 (P : Program) (tab : Tab) (frz : Bool) (fl : Nat) (o : Oper) : Option Cop :=
 match o.op with
 | .move x | .assign x => un1 P tab (some o.type) x (if frz then .frz else .mv)
 | .pick c a b => match compA P tab none c, compA P tab (some o.type) a, compA P tab (some o.type) b with
  | some c, some a, some b => some (.pick c a b)
  | _, _, _ => none
 | .alloc t => match zeroOf P t with | some z => some (.zero z) | none => none
 | .box t x => un1 P tab (some t) x .box
 | .build t ps => match P.underlying t, zeroOf P t with
  | some (.struct fs), some (.agg z) => if !fs.toList.all (fun f => (P.info? f.type).isSome) then none else match structParts P tab fs ps.toList with | some as => some (.build z as) | none => none
  | some (.array _ e), some (.agg z) => if !(P.info? e).isSome then none else match arrayParts P tab e ps.toList with | some as => some (.build z as) | none => none
  | _, _ => none
 | .buildSlice t n ps => match P.underlying t with
  | some (.slice e) => match zeroOf P e with
   | some z => match V.toDs z.cells, sliceParts P tab e ps.toList with
    | some zd, some as => if P.cellsOf e ≠ 0 ∧ zd.length = P.cellsOf e ∧ n * P.cellsOf e ≤ 16777216 then some (if frz then .bsa (P.cellsOf e) n zd as else .bsl (P.cellsOf e) n zd as) else none
    | _, _ => none
   | none => none
  | _ => none
 | .load t a => if P.cellsOf t ≠ 0 ∧ (isAggT P t ∨ P.cellsOf t = 1) ∧ (P.underlying t).isSome then un1 P tab none a (.ld (isAggT P t) (P.cellsOf t)) else none
 | .store t a v => if P.cellsOf t ≠ 0 then bi2 P tab none (some t) a v (.st (P.cellsOf t)) else none
 | .nilCheck x => un1 P tab (some o.type) x .nilc
 | .binOp op t x y u =>
  if isBoolT P t && isEqOp op then bi2 P tab (some t) (some u) x y (.eqb (op == .neq))
  else if isK P t then bi2 P tab (some t) (some u) x y (.bin op)
  else if isEqOp op && isAggT P t && !P.eqGuardType P.depth t then match flatK P 20 t with | some ks => bi2 P tab (some t) (some t) x y (.eqa ks (op == .neq)) | none => none
  else if isEqOp op && isSliceT P t && isNilConst y then un1 P tab (some t) x (.nils (op == .neq))
  else if isEqOp op && isMapT P t && isNilMap y then un1 P tab (some t) x (.nilm (op == .neq))
  else none
 | .unOp op t x => if isK P t then un1 P tab (some t) x (.un op) else none
 | .convert s t x => match P.underlying t with
  | some (.int k) => if isIntT P s then un1 P tab (some s) x (.conv k) else none
  | some .string => if isStrT P s then un1 P tab (some s) x .sid else if isBytesT P s then un1 P tab (some s) x .bts else none
  | _ => none
 | .makeFunc (.func f) first cap => match keyOf tab f, compAs P tab [] first.toList, compAs P tab [] cap.toList with
  | some k, some [], some c => some (.mkf k [] c frz)
  | _, _, _ => none
 | .makeMap t r => match P.underlying t, r with
  | some (.map ..), none => some .mkm
  | _, _ => none
 | .makeSlice t l c => match P.underlying t with
  | some (.slice e) => match zeroOf P e with
   | some z => match V.toDs z.cells with
    | some zd => if P.cellsOf e ≠ 0 ∧ P.bytesOf e ≠ 0 ∧ zd.length = P.cellsOf e then bi2 P tab none none l c (.mks (P.cellsOf e) (P.bytesOf e) zd frz) else none
    | none => none
   | none => none
  | _ => none
 | .slice t x lo hi none => match compA P tab (some t) x, compOpt P tab none lo, compOpt P tab none hi with
  | some a, some l, some h => match P.underlying t with
   | some .string => some (.sls a l h)
   | some (.slice e) => if P.cellsOf e ≠ 0 then some (.slc (P.cellsOf e) a l h) else none
   | _ => none
  | _, _, _ => none
 | .fieldAddr t x f => match P.underlying t with
  | some (.struct fs) => match fs[f]? with
   | some f => if P.cellsOf f.type ≠ 0 ∧ (P.info? f.type).isSome then un1 P tab none x (.fa f.offset) else none
   | none => none
  | _ => none
 | .field t x f => match P.underlying t with
  | some (.struct fs) => match fs[f]? with
   | some f => if P.cellsOf f.type ≠ 0 ∧ (isAggT P f.type ∨ P.cellsOf f.type = 1) ∧ (P.underlying f.type).isSome then un1 P tab (some t) x (.fl (isAggT P f.type) f.offset (P.cellsOf f.type)) else none
   | none => none
  | _ => none
 | .indexAddr t x i => match P.underlying t with
  | some (.slice e) => if P.cellsOf e ≠ 0 then bi2 P tab (some t) none x i (.ia (P.cellsOf e)) else none
  | some (.array n e) => if P.cellsOf e ≠ 0 then bi2 P tab none none x i (.iaa n (P.cellsOf e)) else none
  | _ => none
 | .index t x i => match P.underlying t with
  | some .string => bi2 P tab (some t) none x i .ixs
  | some (.array n e) => if P.cellsOf e ≠ 0 ∧ (isAggT P e ∨ P.cellsOf e = 1) ∧ (P.underlying e).isSome then bi2 P tab (some t) none x i (.ixa (isAggT P e) n (P.cellsOf e)) else none
  | _ => none
 | .lookup t m k ok => match P.underlying t with
  | some (.map kt et) => match zeroOf P et with
   | some z => match keyK P kt with | some ks => bi2 P tab (some t) (some kt) m k (.lk (isAggT P kt) ks ok z) | none => none
   | none => none
  | _ => none
 | .mapUpdate t m k x | .insert t m k x => match P.underlying t with
  | some (.map kt et) => match keyK P kt, compA P tab (some t) m, compA P tab (some kt) k, compA P tab (some et) x with
    | some ks, some m, some k, some x => some (.mu (isAggT P kt) ks m k x)
    | _, _, _, _ => none
  | _ => none
 | .extract x i => un1 P tab none x (.ext · i)
 | .call c => match c.callee with
  | .builtin b => compBuiltin P tab frz b c.args.toList c.argTypes.toList
  | .value (.func f) => match keyOf tab f, compAs P tab (c.argTypes.toList.map some) c.args.toList with
   | some k, some as => if frz && isK P o.type then some (.lend k as) else if fl = 3 then some (.callr k as (resOf P c.argTypes.toList o.type + 4)) else some (.call k as (resOf P c.argTypes.toList o.type + (if frz then (if fl ≤ 4 then 4 else fl) else 0)) (!frz))
   | _, _ => none
  | .value x => match compA P tab none x, compAs P tab (c.argTypes.toList.map some) c.args.toList with
   | some f, some as => some (.callv f as (if fl ≤ 4 then 4 else fl) (!frz))
   | _, _ => none
  | _ => none
 | _ => none
def compOp (P : Program) (tab : Tab) (fl : Nat) (o : Oper) : Option Cop :=
 match compOp0 P tab (decide (fl ≠ 0)) fl o with
 | some c => some c
 | none => some .die
def compGuard (ops : Array Oper) : Option (Nat × Bool) → Option (Option (Nat × Bool))
 | none => some none
 | some (j, want) => match (ops[j]?).bind (·.dst) with
  | some t => some (some (t, want))
  | none => none
structure Notes where
 anns : List Ann
 frz : List Nat
 rgs : List (Nat × List Nat × Nat × List (Nat × Nat)) := []
 outs : List (Nat × Array Nat × Code × Code × List Nat) := []
 raw : Bool := false
def dstOk (nt : Nat) (o : Oper) : Bool := match o.dst with | some d => decide (d < nt) | none => true
def compOps (P : Program) (tab : Tab) (nt : Nat) (ops : Array Oper) (draw : Bool) : List Oper → List Nat → List Nat → Option (List CO × List Nat)
 | [], _, fz => some ([], fz)
 | o :: r, pre, fz =>
  match compOp P tab (fz.headD 0) o, compGuard ops o.guard, compOps P tab nt ops draw r pre.tail fz.tail with
  | some c, some g, some (cs, fz'') => if dstOk nt o then some (⟨o.dst, c, g, if draw then pre.headD 0 else 0⟩ :: cs, fz'') else none
  | _, _, _ => none
def maskOf (o : Oper) (acc : List Nat) : Nat := o.after.toList.foldl (fun s e => if Region.binds .any e then s ||| 2 ^ e.on ||| acc.getD e.on 0 else s) 0
def presOf : List Oper → List Nat → List Nat
 | [], acc => acc
 | o :: r, acc => presOf r (acc ++ [maskOf o acc])
def edgesOk : List Oper → Nat → Bool
 | [], _ => true
 | o :: r, k => o.after.toList.all (fun e => !Region.binds .any e || decide (e.on < k)) && edgesOk r (k + 1)
def aSlots : A → List Nat
 | .t t => [t]
 | .k _ => []
def CO.looks (c : CO) : List Nat := c.op.args.flatMap aSlots ++ (match c.guard with | some (t, _) => [t] | none => [])
def apartC (a b : CO) : Bool :=
 (match a.dst with | some d => !b.looks.contains d && !(b.dst == some d) | none => true) && (match b.dst with | some d => !a.looks.contains d | none => true)
def apartFrom (a : CO) (k : Nat) : List CO → Bool
 | [] => true
 | b :: r => (b.pre.testBit k || apartC a b) && apartFrom a k r
def slotsOk : List CO → Nat → Bool
 | [], _ => true
 | a :: r, k => apartFrom a k r && slotsOk r (k + 1)
def plainOp (o : Oper) : Bool := o.guard.isNone
def lastRange (P : Program) (tab : Tab) (ops : Array Oper) : Option (Nat × A) :=
 match ops.toList.getLast? with
 | some o => match o.dst, o.op with
  | some it, .range t x => if isMapT P t && plainOp o then (match compA P tab (some t) x with | some m => some (it, m) | none => none) else none
  | _, _ => none
 | none => none
def isSkip : Code → Bool
 | .skip => true
 | _ => false
def stepOps (it : Nat) : List Oper → Option (Nat × Nat)
 | [o, o'] => match o.dst, o.op, o'.dst, o'.op with
  | some nx, .next (.tmp i) false, some mr, .extract (.tmp j) 0 => if plainOp o && plainOp o' && decide (i = it ∧ j = nx ∧ nx ≠ it ∧ mr ≠ it ∧ mr ≠ nx) then some (nx, mr) else none
  | _, _, _, _ => none
 | _ => none
def entryOp (it : Nat) : List Oper → Option Nat
 | o :: _ => match o.dst, o.op with
  | some pr, .entry (.tmp i) => if plainOp o && decide (i = it ∧ pr ≠ it) then some pr else none
  | _, _ => none
 | [] => none
def loopM (it : Nat) : Code → Option (Nat × Nat × Nat × Nat)
 | .block out (.loop (.seq (.region _ ops false) (.seq (.cond (.tmp mr') sk (.exit out')) (.block _ (.seq (.region _ ops' false) _))))) =>
  match stepOps it ops.toList, entryOp it ops'.toList with
  | some (nx, mr), some pr => if isSkip sk && decide (mr' = mr ∧ out' = out ∧ pr ≠ nx ∧ pr ≠ mr) then some (nx, mr, pr, out) else none
  | _, _ => none
 | _ => none
def roundM : CCode → Option (Ann × CCode)
 | .block _ (.loop ann (.seq _ (.seq _ (.block k (.seq (.region d (_ :: cs)) body))))) => some (ann, .block k (.seq (.region d cs) body))
 | _ => none
def fuseM (P : Program) (tab : Tab) (a b : Code) (a' b' : CCode) : CCode :=
 match a, a' with
 | .region _ ops false, .region _ cs => match lastRange P tab ops with
  | some (it, m) => match loopM it b, roundM b' with
   | some (nx, mr, pr, out), some (ann, c) => if ann.keep.contains nx || ann.keep.contains mr then .seq a' b' else .rangeM cs.dropLast ann m it pr out c
   | _, _ => .seq a' b'
  | none => .seq a' b'
 | _, _ => .seq a' b'
def comp (P : Program) (tab : Tab) (nt : Nat) : Code → Notes → Option (CCode × Notes)
 | .skip, n => some (.skip, n)
 | .label _, n => some (.skip, n)
 | .region _ ops draw, n =>
  match compOps P tab nt ops draw ops.toList (if draw then presOf ops.toList [] else []) n.frz with
  | some (cs, fz) => if !draw || (slotsOk cs 0 && edgesOk ops.toList 0) then some (.region draw cs, { n with frz := fz }) else none
  | none => none
 | .seq a b, n => match comp P tab nt a n with
  | some (a', n) => match comp P tab nt b n with
   | some (b', n) => some (fuseM P tab a b a' b', n)
   | none => none
  | none => none
 | .cond c a b, n => match compA P tab none c with
  | some c' => match comp P tab nt a n with
   | some (a', n) => match comp P tab nt b n with
    | some (b', n) => some (.cond c' a' b', n)
    | none => none
   | none => none
  | none => none
 | .block id c, n => match comp P tab nt c n with
  | some (c', n) => some (.block id c', n)
  | none => none
 | .loop c, n => match n.anns with
  | a :: as => match comp P tab nt c { n with anns := as } with
   | some (c', n) => some (.loop a c', n)
   | none => none
  | [] => none
 | .exit id, n => some (.exit id, n)
 | .ret, n => some (.ret, n)
 | .scope c, n => comp P tab nt c n
 | .rangeFunc f ps assign body, n => match n.rgs, compA P tab none f with
  | (key, ks, res, own) :: rest, some f' => some (.range own f' key ks res, { n with rgs := rest, outs := (key, ps, assign, body, ks) :: n.outs })
  | _, _ => none
 | _, _ => none
def compRets (P : Program) (raw : Bool) : List ResultVar → Option (List Ret)
 | [] => some []
 | .tmp t :: r => match compRets P raw r with | some rs => some ((if raw then .raw t else .slot t) :: rs) | none => none
 | .cell a t :: r => match compRets P raw r with
  | some rs => if P.cellsOf t ≠ 0 ∧ (isAggT P t ∨ P.cellsOf t = 1) ∧ (P.underlying t).isSome then some (.cell a (isAggT P t) (P.cellsOf t) :: rs) else none
  | none => none
def compFn (P : Program) (tab : Tab) (f : Func) (n : Notes) : Option (CFn × List (Nat × Array Nat × Code × Code × List Nat)) :=
 match f.body with
 | some b => match comp P tab f.ntmps b { n with outs := [] }, compRets P n.raw f.results.toList with
  | some (c, n'), some rs => some (⟨c, rs⟩, n'.outs)
  | _, _ => none
 | none => none
def compRnd (P : Program) (tab : Tab) (R : Round) (n : Notes) : Option (CCode × CCode × List (Nat × Array Nat × Code × Code × List Nat)) :=
 match comp P tab R.nt R.assign { n with outs := [] } with
 | some (a, n) => match comp P tab R.nt R.body n with
  | some (c, n) => some (a, c, n.outs)
  | none => none
 | none => none
open Go
open Go.RowKit (Below)
structure Place where
 blk : Nat
 lo : Nat
 cnt : Nat
structure Gh where
 at_ : Nat → Place
 im : Nat → Nat → Prop
abbrev cellAt (b o : Nat) : Addr := ⟨b, o, none⟩
section
variable (tab : Tab)
mutual
def DRel (im : Nat → Nat → Prop) (w : World) : D → Value → Prop
 | .b x, v => v = .bool x
 | .i k n, v => v = .int k n
 | .s x, v => ∃ s : ByteArray, v = .string s ∧ s.data.toList = x
 | .l sz xs, v => ∃ A c, v = .slice A xs.length c ∧ xs.length ≤ c ∧ (∀ r ∈ xs, r.length = sz) ∧ (xs = [] ∨ ∃ b o, A = some (cellAt b o) ∧ DRows im w b o xs)
 | .q xs off, v => ∃ b o, v = .pointer (some (cellAt b (o + off))) ∧ DCells im w b o xs
 | .f key first cap, v => ∃ fid fs cs, keyOf tab fid = some key ∧ v = .func (.func fid) (List.toArray fs) (List.toArray cs) ∧ DList im w first fs ∧ DList im w cap cs
 | .np, v => v = .pointer none
 | .nf, v => v = .nilFunc
 | .nm, v => v = .map none
def DCells (im : Nat → Nat → Prop) (w : World) (b o : Nat) : List D → Prop
 | [] => True
 | x :: xs => im b o ∧ (∃ u, w.cell? (cellAt b o) = some u ∧ DRel im w x u) ∧ DCells im w b (o + 1) xs
def DRows (im : Nat → Nat → Prop) (w : World) (b o : Nat) : List (List D) → Prop
 | [] => True
 | r :: rs => DCells im w b o r ∧ DRows im w b (o + r.length) rs
def DList (im : Nat → Nat → Prop) (w : World) : List D → List Value → Prop
 | [], [] => True
 | x :: xs, v :: vs => DRel im w x v ∧ DList im w xs vs
 | _, _ => False
end
def isBox (o : Option Obj) : Prop := (∃ cs, o = some (.box cs)) ∨ (∃ ds, o = some (.cst ds))
def isMapO (o : Option Obj) : Prop := (∃ kvs, o = some (.map kvs)) ∨ (∃ kvs, o = some (.cmap kvs))
mutual
def VRel (g : Gh) (obj : Nat → Option Obj) (w : World) : V → Value → Prop
 | .d x, v => DRel tab g.im w x v
 | .nil _, v => v = .slice none 0 0
 | .own id ver sz xs, v => DRel tab g.im w (.l sz xs) v ∧ ∃ ver' sz', obj id = some (.tok ver' sz') ∧ ver ≤ ver' ∧ (ver = ver' → sz' = sz ∧ ∃ A c, v = .slice A xs.length c ∧
   (c = xs.length ∨ ∃ b o, A = some (cellAt b o) ∧ g.at_ id = ⟨b, o + xs.length * sz, (c - xs.length) * sz⟩))
 | .arr id ver off len, v => (∃ A c, v = .slice A len c ∧ len ≤ c) ∧ ∃ ver' sz xs, obj id = some (.arr ver' sz xs) ∧ ver ≤ ver' ∧ (ver = ver' → off + len ≤ xs.length ∧
   ∃ A c, v = .slice A len c ∧ (c = 0 ∨ (A = some (cellAt (g.at_ id).blk ((g.at_ id).lo + off * sz)) ∧ (off + c) * sz ≤ (g.at_ id).cnt)))
 | .ptr id off, v => isBox (obj id) ∧ v = .pointer (some (cellAt (g.at_ id).blk ((g.at_ id).lo + off)))
 | .pm id ver idx off, v => (∃ a, v = .pointer (some a)) ∧ ∃ ver' sz xs, obj id = some (.arr ver' sz xs) ∧ ver ≤ ver' ∧ (ver = ver' → v = .pointer (some (cellAt (g.at_ id).blk ((g.at_ id).lo + idx * sz + off))))
 | .map id, v => isMapO (obj id) ∧ v = .map (some (g.at_ id).blk)
 | .fn key first cap, v => (∃ fid fs cs, keyOf tab fid = some key ∧ v = .func (.func fid) (List.toArray fs) (List.toArray cs) ∧ VList g obj w first fs ∧ VList g obj w cap cs ∧ ∀ id, first ≠ [.map id]) ∨
   (∃ id, first = [.map id] ∧ cap = [] ∧ v = .func (.yield (g.at_ id).blk) #[] #[] ∧ ∃ j caps, obj id = some (.lp j key caps))
 | .agg cs, v => ∃ vs, v = .agg (List.toArray vs) ∧ CList g obj w cs vs
 | .tup ws, v => ∃ vs, v = .tuple (List.toArray vs) ∧ VList g obj w ws vs
 | .bad, _ => True
def VList (g : Gh) (obj : Nat → Option Obj) (w : World) : List V → List Value → Prop
 | [], [] => True
 | x :: xs, v :: vs => VRel g obj w x v ∧ VList g obj w xs vs
 | _, _ => False
def CList (g : Gh) (obj : Nat → Option Obj) (w : World) : List V → List Value → Prop
 | [], [] => True
 | x :: xs, v :: vs => VRel g obj w x v ∧ v.oneCell' = true ∧ CList g obj w xs vs
 | _, _ => False
end
end
def Obj.isMap : Obj → Bool
 | .map _ => true
 | _ => false
def Obj.isLp : Obj → Bool
 | .lp .. => true
 | _ => false
def lpState : Nat → Loop → Prop
 | 0, r => r.state = .ready ∧ r.pending = none
 | 1, _ => True
 | 2, r => r.state = .done ∧ r.pending = some .ret
 | j + 3, r => r.state = .done ∧ r.pending = some (.exit j)
def owns (g : Gh) (obj : Nat → Option Obj) (id b o : Nat) : Prop :=
 match obj id with
 | none => False
 | some (.cst _) => False
 | some (.cmap _) => False
 | some (.map _) => b = (g.at_ id).blk
 | some (.lp ..) => b = (g.at_ id).blk
 | some _ => b = (g.at_ id).blk ∧ (g.at_ id).lo ≤ o ∧ o < (g.at_ id).lo + (g.at_ id).cnt
section
variable (tab : Tab)
def EList (g : Gh) (obj : Nat → Option Obj) (w : World) : List (List D × V) → List MapEntry → Prop
 | [], [] => True
 | (k, x) :: r, e :: es => (∃ ks, DList tab g.im w k ks ∧ e.key.cells.toList = ks ∧ (∀ c, k = [c] → ks = [e.key])) ∧ VRel tab g obj w x e.val ∧ EList g obj w r es
 | _, _ => False
def Keys (l : List (List D)) : Prop := l.Pairwise fun x y => ∃ ks, eqDs ks x y = some false
def MRel (g : Gh) (obj : Nat → Option Obj) (w : World) (kvs : List (List D × V)) (es : List MapEntry) (clock : Nat) : Prop :=
 ∃ kv : List (List D × V), kv.Perm kvs ∧ Keys (kv.map (·.1)) ∧ (∀ e ∈ es, e.born < clock) ∧ (es.map (·.born)).Nodup ∧ EList tab g obj w kv es
def ORel (g : Gh) (obj : Nat → Option Obj) (w : World) (p : Place) : Obj → Prop
 | .box cs => p.cnt = cs.length ∧ ∃ us, CList tab g obj w cs us ∧ ∀ q u, us[q]? = some u → w.cell? (cellAt p.blk (p.lo + q)) = some u
 | .cst ds => DCells tab g.im w p.blk p.lo ds
 | .tok _ _ => ∀ q, q < p.cnt → (w.cell? (cellAt p.blk (p.lo + q))).isSome = true
 | .arr _ sz xs => (∀ r ∈ xs, r.length = sz) ∧ xs.length * sz ≤ p.cnt ∧ (∀ q, q < p.cnt → (w.cell? (cellAt p.blk (p.lo + q))).isSome = true) ∧
   ∀ i r q x, xs[i]? = some r → r[q]? = some x → ∃ u, w.cell? (cellAt p.blk (p.lo + i * sz + q)) = some u ∧ VRel tab g obj w x u ∧ u.oneCell' = true
 | .map kvs => ∃ es clock, w.heap[p.blk]? = some (.map es clock) ∧ MRel tab g obj w kvs es.toList clock
 | .cmap kvs => g.im p.blk 0 ∧ ∃ es clock, w.heap[p.blk]? = some (.map es clock) ∧ MRel tab g obj w kvs es.toList clock
 | .lp j key caps => ∃ r R, w.heap[p.blk]? = some (.loop r) ∧ lpState j r ∧ rndOf tab key = some R ∧ r.fn = r.fn ∧ r.params = R.ps ∧ r.assign = R.assign ∧ r.body = R.body ∧ R.nt ≤ r.tmps.size ∧
   VList tab g obj w caps (R.ks.map fun t => r.tmps.getD t undef)
structure HRel (g : Gh) (obj : Nat → Option Obj) (w : World) : Prop where
 ob : ∀ id o, obj id = some o → ORel tab g obj w (g.at_ id) o
 imm : ∀ id b o, owns g obj id b o → ¬ g.im b o
 one : ∀ id id' b o, owns g obj id b o → owns g obj id' b o → id = id'
 old : ∀ id b o, owns g obj id b o → b < w.heap.size
 frz : ∀ id b o, owns g obj id b o → (∀ kvs, obj id ≠ some (.map kvs)) → ∀ q, w.frozen? (cellAt b q) = false
 imOld : ∀ b o, g.im b o → b < w.heap.size
structure Rel (nt : Nat) (g : Gh) (get : Nat → V) (obj : Nat → Option Obj) (a : Act) (w : World) : Prop where
 tmp : ∀ t, VRel tab g obj w (get t) (a.tmps.getD t undef)
 size : nt ≤ a.tmps.size
 heap : HRel tab g obj w
end
theorem HRel.map {tab : Tab} {g : Gh} {obj : Nat → Option Obj} {w : World} (h : HRel tab g obj w) {id : Nat} {kvs : List (List D × V)} (ho : obj id = some (.map kvs) ∨ obj id = some (.cmap kvs)) : ∃ es clock, w.heap[(g.at_ id).blk]? = some (.map es clock) ∧ MRel tab g obj w kvs es.toList clock := by
 rcases ho with ho | ho
 ·exact h.ob id _ ho
 ·exact (h.ob id _ ho).2
def owned (g : Gh) (obj : Nat → Option Obj) (b o : Nat) : Prop := ∃ id, owns g obj id b o
def BlockEvo (own : Nat → Prop) (x y : Option Go.Obj) : Prop :=
 y = x ∨ (∃ c c' t fr, x = some (.cells c t fr) ∧ y = some (.cells c' t fr) ∧ c'.size = c.size ∧ ∀ o, ¬ own o → c'[o]? = c[o]?) ∨ (∃ es cl es' cl', x = some (.map es cl) ∧ y = some (.map es' cl') ∧ ∀ o, own o) ∨
  (∃ r st pe, x = some (.loop r) ∧ y = some (.loop { r with state := st, pending := pe }) ∧ ∀ o, own o)
def KEvo (g : Gh) (obj : Nat → Option Obj) (g' : Gh) (obj' : Nat → Option Obj) : Prop :=
 ∀ id, match obj id with
  | none => True
  | some (.box _) => isBox (obj' id) ∧ g'.at_ id = g.at_ id
  | some (.cst _) => isBox (obj' id) ∧ g'.at_ id = g.at_ id
  | some (.tok _ _) => ∃ v sz, obj' id = some (.tok v sz)
  | some (.arr v sz xs) => ∃ v' xs', obj' id = some (.arr v' sz xs') ∧ v ≤ v' ∧ (v = v' → xs'.length = xs.length ∧ g'.at_ id = g.at_ id)
  | some (.map _) => isMapO (obj' id) ∧ g'.at_ id = g.at_ id
  | some (.cmap _) => isMapO (obj' id) ∧ g'.at_ id = g.at_ id
  | some (.lp _ key _) => (∃ j caps, obj' id = some (.lp j key caps)) ∧ g'.at_ id = g.at_ id
theorem KEvo.trans {g g' g'' : Gh} {obj obj' obj'' : Nat → Option Obj} (h : KEvo g obj g' obj') (k : KEvo g' obj' g'' obj'') : KEvo g obj g'' obj'' := by
 have box : ∀ id, isBox (obj' id) → isBox (obj'' id) ∧ g''.at_ id = g'.at_ id := fun id hb => by
  have := k id
  rcases hb with ⟨cs, hb⟩ | ⟨ds, hb⟩ <;> rw [hb] at this <;> exact this
 have mp : ∀ id, isMapO (obj' id) → isMapO (obj'' id) ∧ g''.at_ id = g'.at_ id := fun id hb => by
  have := k id
  rcases hb with ⟨cs, hb⟩ | ⟨ds, hb⟩ <;> rw [hb] at this <;> exact this
 intro id
 have h1 := h id
 have k1 := k id
 cases ho : obj id with
 | none => trivial
 | some o =>
  rw [ho] at h1
  cases o with
  | box cs => obtain ⟨a, b⟩ := box id h1.1; exact ⟨a, b.trans h1.2⟩
  | cst ds => obtain ⟨a, b⟩ := box id h1.1; exact ⟨a, b.trans h1.2⟩
  | tok v sz => obtain ⟨v', sz', e⟩ := h1; rw [e] at k1; exact k1
  | arr v sz xs =>
   obtain ⟨v', xs', e, e1, e2⟩ := h1
   rw [e] at k1
   obtain ⟨v2, xs2, f, f1, f2⟩ := k1
   exact ⟨v2, xs2, f, by omega, fun q => ⟨(f2 (by omega)).1.trans (e2 (by omega)).1, (f2 (by omega)).2.trans (e2 (by omega)).2⟩⟩
  | map kvs => obtain ⟨a, b⟩ := mp id h1.1; exact ⟨a, b.trans h1.2⟩
  | cmap kvs => obtain ⟨a, b⟩ := mp id h1.1; exact ⟨a, b.trans h1.2⟩
  | lp j key caps =>
   obtain ⟨⟨j', caps', e⟩, e1⟩ := h1
   rw [e] at k1
   exact ⟨k1.1, k1.2.trans e1⟩
theorem KEvo.refl (g : Gh) (obj : Nat → Option Obj) : KEvo g obj g obj := by
 intro id
 cases h : obj id with
 | none => trivial
 | some o =>
  cases o with
  | box cs => exact ⟨.inl ⟨cs, rfl⟩, rfl⟩
  | cst ds => exact ⟨.inr ⟨ds, rfl⟩, rfl⟩
  | tok v sz => exact ⟨v, sz, rfl⟩
  | arr v sz xs => exact ⟨v, xs, rfl, Nat.le_refl _, fun _ => ⟨rfl, rfl⟩⟩
  | map kvs => exact ⟨.inl ⟨kvs, rfl⟩, rfl⟩
  | cmap kvs => exact ⟨.inr ⟨kvs, rfl⟩, rfl⟩
  | lp j key caps => exact ⟨⟨j, caps, rfl⟩, rfl⟩
structure Evo (g : Gh) (obj : Nat → Option Obj) (w : World) (g' : Gh) (obj' : Nat → Option Obj) (w' : World) : Prop where
 os : w'.os = w.os
 tape : w'.tape = w.tape
 output : w'.output = w.output
 size : w.heap.size ≤ w'.heap.size
 blk : ∀ b, b < w.heap.size → BlockEvo (owned g obj b) w.heap[b]? w'.heap[b]?
 im : ∀ b o, g.im b o → g'.im b o
 imNew : ∀ b o, g'.im b o → g.im b o ∨ owned g obj b o ∨ w.heap.size ≤ b
 ownNew : ∀ b o, owned g' obj' b o → owned g obj b o ∨ w.heap.size ≤ b
 kevo : KEvo g obj g' obj'
theorem BlockEvo.refl {own : Nat → Prop} (x : Option Go.Obj) : BlockEvo own x x := .inl rfl
theorem BlockEvo.mono {own own' : Nat → Prop} {x y : Option Go.Obj} (h : BlockEvo own x y) (ho : ∀ o, own o → own' o) : BlockEvo own' x y := by
 rcases h with h | ⟨c, c', t, fr, h1, h2, h3, h4⟩ | ⟨es, cl, es', cl', h1, h2, h3⟩ | ⟨r, st, pe, h1, h2, h3⟩
 ·exact .inl h
 ·exact .inr (.inl ⟨c, c', t, fr, h1, h2, h3, fun o hn => h4 o (fun h => hn (ho o h))⟩)
 ·exact .inr (.inr (.inl ⟨es, cl, es', cl', h1, h2, fun o => ho o (h3 o)⟩))
 ·exact .inr (.inr (.inr ⟨r, st, pe, h1, h2, fun o => ho o (h3 o)⟩))
theorem BlockEvo.trans {own : Nat → Prop} {x y z : Option Go.Obj} (h : BlockEvo own x y) (k : BlockEvo own y z) : BlockEvo own x z := by
 rcases h with h | ⟨c, c', t, fr, h1, h2, h3, h4⟩ | ⟨es, cl, es', cl', h1, h2, h3⟩ | ⟨r, st, pe, h1, h2, h3⟩
 ·rw [h] at k; exact k
 ·rcases k with k | ⟨d, d', t', fr', k1, k2, k3, k4⟩ | ⟨es, cl, es', cl', k1, k2, k3⟩ | ⟨r, st, pe, k1, k2, k3⟩
  ·rw [k]; exact .inr (.inl ⟨c, c', t, fr, h1, h2, h3, h4⟩)
  ·rw [h2] at k1
   cases k1
   exact .inr (.inl ⟨c, d', t, fr, h1, k2, k3.trans h3, fun o hn => (k4 o hn).trans (h4 o hn)⟩)
  ·rw [h2] at k1; cases k1
  ·rw [h2] at k1; cases k1
 ·rcases k with k | ⟨d, d', t', fr', k1, k2, k3, k4⟩ | ⟨es2, cl2, es2', cl2', k1, k2, k3⟩ | ⟨r, st, pe, k1, k2, k3⟩
  ·rw [k]; exact .inr (.inr (.inl ⟨es, cl, es', cl', h1, h2, h3⟩))
  ·rw [h2] at k1; cases k1
  ·rw [h2] at k1
   cases k1
   exact .inr (.inr (.inl ⟨es, cl, es2', cl2', h1, k2, h3⟩))
  ·rw [h2] at k1; cases k1
 ·rcases k with k | ⟨d, d', t', fr', k1, k2, k3, k4⟩ | ⟨es2, cl2, es2', cl2', k1, k2, k3⟩ | ⟨r', st', pe', k1, k2, k3⟩
  ·rw [k]; exact .inr (.inr (.inr ⟨r, st, pe, h1, h2, h3⟩))
  ·rw [h2] at k1; cases k1
  ·rw [h2] at k1; cases k1
  ·rw [h2] at k1
   cases k1
   exact .inr (.inr (.inr ⟨r, st', pe', h1, k2, h3⟩))
theorem Evo.refl (g : Gh) (obj : Nat → Option Obj) (w : World) : Evo g obj w g obj w :=
 ⟨rfl, rfl, rfl, Nat.le_refl _, fun _ _ => .refl _, fun _ _ h => h, fun _ _ h => .inl h, fun _ _ h => .inl h, .refl _ _⟩
theorem Evo.drew {g : Gh} {obj : Nat → Option Obj} {w : World} {g' : Gh} {obj' : Nat → Option Obj} {w' : World} (h : Evo g obj w.drew g' obj' w') : Evo g obj w g' obj' w' :=
 ⟨h.os, h.tape, h.output, h.size, h.blk, h.im, h.imNew, h.ownNew, h.kevo⟩
theorem Evo.trans {g g' g'' : Gh} {obj obj' obj'' : Nat → Option Obj} {w w' w'' : World} (h : Evo g obj w g' obj' w') (k : Evo g' obj' w' g'' obj'' w'') : Evo g obj w g'' obj'' w'' where
 os := k.os.trans h.os
 tape := k.tape.trans h.tape
 output := k.output.trans h.output
 size := Nat.le_trans h.size k.size
 blk b hb := by
  have h1 := h.blk b hb
  have k1 := k.blk b (Nat.lt_of_lt_of_le hb h.size)
  refine h1.trans (k1.mono fun o ho => ?_)
  rcases h.ownNew b o ho with h2 | h2
  ·exact h2
  ·omega
 im b o hi := k.im b o (h.im b o hi)
 imNew b o hi := by
  rcases k.imNew b o hi with h1 | h1 | h1
  ·exact h.imNew b o h1
  ·exact .inr (h.ownNew b o h1)
  ·exact .inr (.inr (Nat.le_trans h.size h1))
 ownNew b o ho := by
  rcases k.ownNew b o ho with h1 | h1
  ·exact h.ownNew b o h1
  ·exact .inr (Nat.le_trans h.size h1)
 kevo := h.kevo.trans k.kevo
theorem BlockEvo.cell {own : Nat → Prop} {w w' : World} {b o : Nat} (h : BlockEvo own w.heap[b]? w'.heap[b]?) (ho : ¬ own o) : w'.cell? (cellAt b o) = w.cell? (cellAt b o) := by
 unfold World.cell?
 rcases h with h | ⟨c, c', t, fr, h1, h2, h3, h4⟩ | ⟨es, cl, es', cl', h1, h2, h3⟩ | ⟨r, st, pe, h1, h2, h3⟩
 ·simp only [cellAt, h]
 ·simp only [cellAt, h1, h2, Option.isSome_none, Qm, if_false]; exact h4 o ho
 ·exact absurd (h3 o) ho
 ·exact absurd (h3 o) ho
theorem BlockEvo.frozen {own : Nat → Prop} {w w' : World} {b o : Nat} (h : BlockEvo own w.heap[b]? w'.heap[b]?) : w'.frozen? (cellAt b o) = w.frozen? (cellAt b o) := by
 unfold World.frozen?
 rcases h with h | ⟨c, c', t, fr, h1, h2, h3, h4⟩ | ⟨es, cl, es', cl', h1, h2, h3⟩ | ⟨r, st, pe, h1, h2, h3⟩
 ·simp only [cellAt, h]
 ·simp only [cellAt, h1, h2]
 ·simp only [cellAt, h1, h2]
 ·simp only [cellAt, h1, h2]
theorem BlockEvo.isSome {own : Nat → Prop} {w w' : World} {b o : Nat} (h : BlockEvo own w.heap[b]? w'.heap[b]?) (hs : (w.cell? (cellAt b o)).isSome = true) : (w'.cell? (cellAt b o)).isSome = true := by
 unfold World.cell? at *
 rcases h with h | ⟨c, c', t, fr, h1, h2, h3, h4⟩ | ⟨es, cl, es', cl', h1, h2, h3⟩ | ⟨r, st, pe, h1, h2, h3⟩
 ·simp only [cellAt, h] at *; exact hs
 ·simp only [cellAt, h1, h2, Option.isSome_none, Qm, if_false] at *
  rw [Array.getElem?_eq_getElem]
  ·rfl
  ·rw [h3]
   rcases Qn o c.size with hl | hl
   ·exact hl
   ·rw [Array.getElem?_eq_none hl] at hs; cases hs
 ·simp only [cellAt, h1] at hs; cases hs
 ·simp only [cellAt, h1] at hs; cases hs
theorem BlockEvo.still {own : Nat → Prop} {x y : Option Go.Obj} (h : BlockEvo own x y) {es : Array MapEntry} {cl o : Nat} (hx : x = some (.map es cl)) (ho : ¬ own o) : y = some (.map es cl) := by
 subst hx
 rcases h with h | ⟨c, c', t, fr, h1, h2, h3, h4⟩ | ⟨es, cl, es', cl', h1, h2, h3⟩ | ⟨r, st, pe, h1, h2, h3⟩
 ·exact h
 ·cases h1
 ·exact absurd (h3 o) ho
 ·cases h1
theorem heap_lt {w : World} {b : Nat} {x : Go.Obj} (h : w.heap[b]? = some x) : b < w.heap.size := (Array.getElem?_eq_some_iff.1 h).1
section
variable {tab : Tab} {im im' : Nat → Nat → Prop} {w w' : World}
mutual
theorem DRel.mono (hi : ∀ b o, im b o → im' b o) (hw : ∀ b o, im b o → w'.cell? (cellAt b o) = w.cell? (cellAt b o)) : ∀ (x : D) (v : Value), DRel tab im w x v → DRel tab im' w' x v
 | .b x, v, h => by simp only [DRel] at *; exact h
 | .i k n, v, h => by simp only [DRel] at *; exact h
 | .s x, v, h => by simp only [DRel] at *; exact h
 | .l sz xs, v, h => by
  simp only [DRel] at *
  obtain ⟨A, c, h1, h2, h3, h4⟩ := h
  refine ⟨A, c, h1, h2, h3, h4.imp id fun ⟨b, o, h5, h6⟩ => ⟨b, o, h5, DRows.mono hi hw xs b o h6⟩⟩
 | .q xs off, v, h => by
  simp only [DRel] at *
  obtain ⟨b, o, h1, h2⟩ := h
  exact ⟨b, o, h1, DCells.mono hi hw xs b o h2⟩
 | .f key a c, v, h => by
  simp only [DRel] at *
  obtain ⟨fid, fs, cs, h1, h2, h3, h4⟩ := h
  exact ⟨fid, fs, cs, h1, h2, DList.mono hi hw a fs h3, DList.mono hi hw c cs h4⟩
 | .np, v, h => by simp only [DRel] at *; exact h
 | .nf, v, h => by simp only [DRel] at *; exact h
 | .nm, v, h => by simp only [DRel] at *; exact h
theorem DCells.mono (hi : ∀ b o, im b o → im' b o) (hw : ∀ b o, im b o → w'.cell? (cellAt b o) = w.cell? (cellAt b o)) : ∀ (xs : List D) (b o : Nat), DCells tab im w b o xs → DCells tab im' w' b o xs
 | [], _, _, _ => by simp only [DCells]
 | x :: xs, b, o, h => by
  simp only [DCells] at *
  obtain ⟨h1, ⟨u, h2, h3⟩, h4⟩ := h
  exact ⟨hi b o h1, ⟨u, by rw [hw b o h1, h2], DRel.mono hi hw x u h3⟩, DCells.mono hi hw xs b (o + 1) h4⟩
theorem DRows.mono (hi : ∀ b o, im b o → im' b o) (hw : ∀ b o, im b o → w'.cell? (cellAt b o) = w.cell? (cellAt b o)) : ∀ (xs : List (List D)) (b o : Nat), DRows tab im w b o xs → DRows tab im' w' b o xs
 | [], _, _, _ => by simp only [DRows]
 | r :: rs, b, o, h => by
  simp only [DRows] at *
  exact ⟨DCells.mono hi hw r b o h.1, DRows.mono hi hw rs b (o + r.length) h.2⟩
theorem DList.mono (hi : ∀ b o, im b o → im' b o) (hw : ∀ b o, im b o → w'.cell? (cellAt b o) = w.cell? (cellAt b o)) : ∀ (xs : List D) (vs : List Value), DList tab im w xs vs → DList tab im' w' xs vs
 | [], [], _ => by simp only [DList]
 | x :: xs, v :: vs, h => by
  simp only [DList] at *
  exact ⟨DRel.mono hi hw x v h.1, DList.mono hi hw xs vs h.2⟩
 | [], _ :: _, h => by simp only [DList] at h
 | _ :: _, [], h => by simp only [DList] at h
end
end
def OEvo (g : Gh) (obj : Nat → Option Obj) (g' : Gh) (obj' : Nat → Option Obj) : Prop :=
 ∀ id, match obj id with
  | none => True
  | some (.box _) => isBox (obj' id) ∧ g'.at_ id = g.at_ id
  | some (.cst _) => isBox (obj' id) ∧ g'.at_ id = g.at_ id
  | some (.tok v sz) => ∃ v' sz', obj' id = some (.tok v' sz') ∧ v ≤ v' ∧ (v = v' → sz' = sz ∧ g'.at_ id = g.at_ id)
  | some (.arr v sz xs) => ∃ v' xs', obj' id = some (.arr v' sz xs') ∧ v ≤ v' ∧ (v = v' → xs'.length = xs.length ∧ g'.at_ id = g.at_ id)
  | some (.map _) => isMapO (obj' id) ∧ g'.at_ id = g.at_ id
  | some (.cmap _) => isMapO (obj' id) ∧ g'.at_ id = g.at_ id
  | some (.lp _ key _) => (∃ j caps, obj' id = some (.lp j key caps)) ∧ g'.at_ id = g.at_ id
theorem OEvo.refl (g : Gh) (obj : Nat → Option Obj) : OEvo g obj g obj := by
 intro id
 cases h : obj id with
 | none => trivial
 | some o =>
  cases o with
  | box cs => exact ⟨.inl ⟨cs, rfl⟩, rfl⟩
  | cst ds => exact ⟨.inr ⟨ds, rfl⟩, rfl⟩
  | tok v sz => exact ⟨v, sz, rfl, Nat.le_refl _, fun _ => ⟨rfl, rfl⟩⟩
  | arr v sz xs => exact ⟨v, xs, rfl, Nat.le_refl _, fun _ => ⟨rfl, rfl⟩⟩
  | map kvs => exact ⟨.inl ⟨kvs, rfl⟩, rfl⟩
  | cmap kvs => exact ⟨.inr ⟨kvs, rfl⟩, rfl⟩
  | lp j key caps => exact ⟨⟨j, caps, rfl⟩, rfl⟩
theorem OEvo.kevo {g g' : Gh} {obj obj' : Nat → Option Obj} (h : OEvo g obj g' obj') : KEvo g obj g' obj' := by
 intro id
 have := h id
 cases ho : obj id with
 | none => trivial
 | some o =>
  rw [ho] at this
  cases o with
  | box cs => exact this
  | cst ds => exact this
  | tok v sz => obtain ⟨v', sz', k, _⟩ := this; exact ⟨v', sz', k⟩
  | arr v sz xs => exact this
  | map kvs => exact this
  | cmap kvs => exact this
  | lp j key caps => exact this
section
variable {tab : Tab} {g g' : Gh} {obj obj' : Nat → Option Obj} {w w' : World}
mutual
theorem VRel.mono (ho : OEvo g obj g' obj') (hi : ∀ b o, g.im b o → g'.im b o) (hw : ∀ b o, g.im b o → w'.cell? (cellAt b o) = w.cell? (cellAt b o)) :
  ∀ (x : V) (v : Value), VRel tab g obj w x v → VRel tab g' obj' w' x v
 | .d x, v, h => by simp only [VRel] at *; exact DRel.mono hi hw x v h
 | .nil _, v, h => by simp only [VRel] at *; exact h
 | .own id ver sz xs, v, h => by
  simp only [VRel] at *
  obtain ⟨h1, v1, s1, h2, h3, h4⟩ := h
  have := ho id
  rw [h2] at this
  obtain ⟨v2, s2, k1, k2, k3⟩ := this
  refine ⟨DRel.mono hi hw _ v h1, v2, s2, k1, Nat.le_trans h3 k2, fun e => ?_⟩
  have e1 : ver = v1 := by omega
  have e2 : v1 = v2 := by omega
  obtain ⟨k4, k5⟩ := k3 e2
  rw [k4, k5]
  exact h4 e1
 | .arr id ver off len, v, h => by
  simp only [VRel] at *
  obtain ⟨h0, v1, s1, xs, h2, h3, h4⟩ := h
  have := ho id
  rw [h2] at this
  obtain ⟨v2, xs2, k1, k2, k3⟩ := this
  refine ⟨h0, v2, s1, xs2, k1, Nat.le_trans h3 k2, fun e => ?_⟩
  obtain ⟨k4, k5⟩ := k3 (by omega)
  rw [k4, k5]
  exact h4 (by omega)
 | .ptr id off, v, h => by
  simp only [VRel] at *
  obtain ⟨h1, h2⟩ := h
  have := ho id
  rcases h1 with ⟨cs, h1⟩ | ⟨ds, h1⟩
  ·rw [h1] at this; exact ⟨this.1, by rw [this.2]; exact h2⟩
  ·rw [h1] at this; exact ⟨this.1, by rw [this.2]; exact h2⟩
 | .pm id ver idx off, v, h => by
  simp only [VRel] at *
  obtain ⟨h0, v1, s1, xs, h2, h3, h4⟩ := h
  have := ho id
  rw [h2] at this
  obtain ⟨v2, xs2, k1, k2, k3⟩ := this
  refine ⟨h0, v2, s1, xs2, k1, Nat.le_trans h3 k2, fun e => ?_⟩
  obtain ⟨k4, k5⟩ := k3 (by omega)
  rw [k5]
  exact h4 (by omega)
 | .map id, v, h => by
  simp only [VRel] at *
  obtain ⟨h1, h2⟩ := h
  have := ho id
  rcases h1 with ⟨kvs, h1⟩ | ⟨kvs, h1⟩
  ·rw [h1] at this; exact ⟨this.1, by rw [this.2]; exact h2⟩
  ·rw [h1] at this; exact ⟨this.1, by rw [this.2]; exact h2⟩
 | .fn key a c, v, h => by
  simp only [VRel] at *
  rcases h with ⟨fid, fs, cs, h1, h2, h3, h4, h5⟩ | ⟨id, h1, h2, h3, j, caps, h4⟩
  ·exact .inl ⟨fid, fs, cs, h1, h2, VList.mono ho hi hw a fs h3, VList.mono ho hi hw c cs h4, h5⟩
  ·have := ho id
   rw [h4] at this
   exact .inr ⟨id, h1, h2, by rw [this.2]; exact h3, this.1⟩
 | .agg cs, v, h => by
  simp only [VRel] at *
  obtain ⟨vs, h1, h2⟩ := h
  exact ⟨vs, h1, CList.mono ho hi hw cs vs h2⟩
 | .tup cs, v, h => by
  simp only [VRel] at *
  obtain ⟨vs, h1, h2⟩ := h
  exact ⟨vs, h1, VList.mono ho hi hw cs vs h2⟩
 | .bad, v, h => by simp only [VRel]
theorem VList.mono (ho : OEvo g obj g' obj') (hi : ∀ b o, g.im b o → g'.im b o) (hw : ∀ b o, g.im b o → w'.cell? (cellAt b o) = w.cell? (cellAt b o)) :
  ∀ (xs : List V) (vs : List Value), VList tab g obj w xs vs → VList tab g' obj' w' xs vs
 | [], [], _ => by simp only [VList]
 | x :: xs, v :: vs, h => by
  simp only [VList] at *
  exact ⟨VRel.mono ho hi hw x v h.1, VList.mono ho hi hw xs vs h.2⟩
 | [], _ :: _, h => by simp only [VList] at h
 | _ :: _, [], h => by simp only [VList] at h
theorem CList.mono (ho : OEvo g obj g' obj') (hi : ∀ b o, g.im b o → g'.im b o) (hw : ∀ b o, g.im b o → w'.cell? (cellAt b o) = w.cell? (cellAt b o)) :
  ∀ (xs : List V) (vs : List Value), CList tab g obj w xs vs → CList tab g' obj' w' xs vs
 | [], [], _ => by simp only [CList]
 | x :: xs, v :: vs, h => by
  simp only [CList] at *
  exact ⟨VRel.mono ho hi hw x v h.1, h.2.1, CList.mono ho hi hw xs vs h.2.2⟩
 | [], _ :: _, h => by simp only [CList] at h
 | _ :: _, [], h => by simp only [CList] at h
end
theorem EList.mono (ho : OEvo g obj g' obj') (hi : ∀ b o, g.im b o → g'.im b o) (hw : ∀ b o, g.im b o → w'.cell? (cellAt b o) = w.cell? (cellAt b o)) :
  ∀ (xs : List (List D × V)) (vs : List MapEntry), EList tab g obj w xs vs → EList tab g' obj' w' xs vs
 | [], [], _ => by simp only [EList]
 | (k, x) :: xs, v :: vs, h => by
  simp only [EList] at *
  obtain ⟨⟨ks, h1, h2⟩, h3, h4⟩ := h
  exact ⟨⟨ks, DList.mono hi hw k ks h1, h2⟩, VRel.mono ho hi hw x v.val h3, EList.mono ho hi hw xs vs h4⟩
 | [], _ :: _, h => by simp only [EList] at h
 | _ :: _, [], h => by simp only [EList] at h
theorem MRel.mono (ho : OEvo g obj g' obj') (hi : ∀ b o, g.im b o → g'.im b o) (hw : ∀ b o, g.im b o → w'.cell? (cellAt b o) = w.cell? (cellAt b o))
  (kvs : List (List D × V)) (es : List MapEntry) (clock : Nat) (h : MRel tab g obj w kvs es clock) : MRel tab g' obj' w' kvs es clock := by
 obtain ⟨kv, h1, h2, h3, h4, h5⟩ := h
 exact ⟨kv, h1, h2, h3, h4, EList.mono ho hi hw kv es h5⟩
theorem MRel.perm {kvs kvs' : List (List D × V)} {es : List MapEntry} {clock : Nat} (hp : kvs.Perm kvs') (h : MRel tab g obj w kvs es clock) : MRel tab g obj w kvs' es clock := by
 obtain ⟨kv, h1, h2⟩ := h
 exact ⟨kv, h1.trans hp, h2⟩
end
def updO (obj : Nat → Option Obj) (id : Nat) (o : Option Obj) : Nat → Option Obj := fun j => if j = id then o else obj j
def updP (at_ : Nat → Place) (id : Nat) (p : Place) : Nat → Place := fun j => if j = id then p else at_ j
theorem updO_same (obj : Nat → Option Obj) (id : Nat) (o : Option Obj) : updO obj id o id = o := by simp [updO]
theorem updO_ne (obj : Nat → Option Obj) {id j : Nat} (o : Option Obj) (h : j ≠ id) : updO obj id o j = obj j := by simp [updO, h]
theorem updP_same (a : Nat → Place) (id : Nat) (p : Place) : updP a id p id = p := by simp [updP]
theorem updP_ne (a : Nat → Place) {id j : Nat} (p : Place) (h : j ≠ id) : updP a id p j = a j := by simp [updP, h]
section
variable {tab : Tab} {g : Gh} {obj : Nat → Option Obj} {w w' : World}
theorem owns_ne {g : Gh} {obj : Nat → Option Obj} {im' : Nat → Nat → Prop} {id j : Nat} {o' : Option Obj} {p' : Place} (h : j ≠ id) (b o : Nat) :
  owns ⟨updP g.at_ id p', im'⟩ (updO obj id o') j b o ↔ owns g obj j b o := by
 unfold owns
 simp only [updO_ne _ _ h, updP_ne _ _ h]
theorem step1 (hH : HRel tab g obj w) (id : Nat) (o' : Obj) (p' : Place) (im' : Nat → Nat → Prop)
  (os : w'.os = w.os) (tape : w'.tape = w.tape) (output : w'.output = w.output) (size : w.heap.size ≤ w'.heap.size)
  (blk : ∀ b, b < w.heap.size → BlockEvo (owns g obj id b) w.heap[b]? w'.heap[b]?)
  (im1 : ∀ b o, g.im b o → im' b o)
  (im2 : ∀ b o, im' b o → g.im b o ∨ owns g obj id b o ∨ (w.heap.size ≤ b ∧ b < w'.heap.size))
  (own : ∀ b o, owns ⟨updP g.at_ id p', im'⟩ (updO obj id (some o')) id b o → (owns g obj id b o ∨ (w.heap.size ≤ b ∧ b < w'.heap.size)) ∧ ¬ im' b o)
  (frz : ∀ b o, owns ⟨updP g.at_ id p', im'⟩ (updO obj id (some o')) id b o → o'.isMap = false → ∀ q, w'.frozen? (cellAt b q) = false)
  (kind : OEvo g obj ⟨updP g.at_ id p', im'⟩ (updO obj id (some o')))
  (hO : (∀ x v, VRel tab g obj w x v → VRel tab ⟨updP g.at_ id p', im'⟩ (updO obj id (some o')) w' x v) → ORel tab ⟨updP g.at_ id p', im'⟩ (updO obj id (some o')) w' p' o') :
  HRel tab ⟨updP g.at_ id p', im'⟩ (updO obj id (some o')) w' ∧ Evo g obj w ⟨updP g.at_ id p', im'⟩ (updO obj id (some o')) w' ∧
   (∀ x v, VRel tab g obj w x v → VRel tab ⟨updP g.at_ id p', im'⟩ (updO obj id (some o')) w' x v) := by
 have cellI : ∀ b o, g.im b o → w'.cell? (cellAt b o) = w.cell? (cellAt b o) := fun b o h =>
  (blk b (hH.imOld b o h)).cell fun h2 => hH.imm id b o h2 h
 have hv : ∀ x v, VRel tab g obj w x v → VRel tab ⟨updP g.at_ id p', im'⟩ (updO obj id (some o')) w' x v := fun x v h => VRel.mono kind im1 cellI x v h
 have cellO : ∀ j b o, j ≠ id → owns g obj j b o → w'.cell? (cellAt b o) = w.cell? (cellAt b o) := fun j b o hj h =>
  (blk b (hH.old j b o h)).cell fun h2 => hj (hH.one j id b o h h2)
 refine ⟨⟨?_, ?_, ?_, ?_, ?_, ?_⟩, ⟨os, tape, output, size, fun b hb => (blk b hb).mono fun o h => ⟨id, h⟩, im1, ?_, ?_, kind.kevo⟩, hv⟩
 ·intro j o hj
  by_cases e : j = id
  ·subst e
   rw [updO_same] at hj
   cases hj
   show ORel _ _ _ _ (updP g.at_ j p' j) _
   rw [updP_same]
   exact hO hv
  ·rw [updO_ne _ _ e] at hj
   show ORel _ _ _ _ (updP g.at_ id p' j) _
   rw [updP_ne _ _ e]
   have h0 := hH.ob j o hj
   cases o with
   | box cs =>
    obtain ⟨h1, us, h2, h3⟩ := h0
    have hlen : ∀ (cs : List V) (us : List Value), CList tab g obj w cs us → us.length = cs.length := by
     intro cs
     induction cs with
     | nil => intro us h; cases us with | nil => rfl | cons => simp only [CList] at h
     | cons c cs ih => intro us h; cases us with | nil => simp only [CList] at h | cons u us => simp only [CList] at h; simp [ih us h.2.2]
    refine ⟨h1, us, CList.mono kind im1 cellI cs us h2, fun q u hq => ?_⟩
    rw [cellO j _ _ e ?_]
    ·exact h3 q u hq
    ·have hl := hlen cs us h2
     have hq' : q < us.length := by
      rcases Qn q us.length with h | h
      ·exact h
      ·rw [Qe h] at hq; cases hq
     unfold owns
     rw [hj]
     exact ⟨rfl, by omega, by omega⟩
   | cst ds => exact DCells.mono im1 cellI ds _ _ h0
   | tok v sz =>
    intro q hq
    have hown : owns g obj j (g.at_ j).blk ((g.at_ j).lo + q) := by unfold owns; rw [hj]; exact ⟨rfl, by omega, by omega⟩
    rw [cellO j _ _ e hown]
    exact h0 q hq
   | arr v sz xs =>
    obtain ⟨h1, h2, h4, h5⟩ := h0
    have cell : ∀ q, q < (g.at_ j).cnt → w'.cell? (cellAt (g.at_ j).blk ((g.at_ j).lo + q)) = w.cell? (cellAt (g.at_ j).blk ((g.at_ j).lo + q)) := fun q hq =>
     cellO j _ _ e (by unfold owns; rw [hj]; exact ⟨rfl, by omega, by omega⟩)
    refine ⟨h1, h2, fun q hq => by rw [cell q hq]; exact h4 q hq, fun i r q d hi hq => ?_⟩
    obtain ⟨u, h6, h7, h8⟩ := h5 i r q d hi hq
    refine ⟨u, ?_, VRel.mono kind im1 cellI d u h7, h8⟩
    have hr : r.length = sz := h1 r (List.mem_of_getElem? hi)
    have hi' : i < xs.length := by
     rcases Qn i xs.length with h | h
     ·exact h
     ·rw [Qe h] at hi; cases hi
    have hq' : q < r.length := by
     rcases Qn q r.length with h | h
     ·exact h
     ·rw [Qe h] at hq; cases hq
    have hle : (i + 1) * sz ≤ xs.length * sz := Nat.mul_le_mul_right _ hi'
    rw [Nat.add_mul] at hle
    rw [Nat.add_assoc, cell (i * sz + q) (by omega), ← Nat.add_assoc]
    exact h6
   | map kvs =>
    obtain ⟨es, clock, h1, h2⟩ := h0
    have hown : ∀ o, owns g obj j (g.at_ j).blk o := fun o => by unfold owns; rw [hj]
    have hb := blk (g.at_ j).blk (hH.old j _ 0 (hown 0))
    refine ⟨es, clock, ?_, MRel.mono kind im1 cellI kvs es.toList clock h2⟩
    rcases hb with hb | ⟨c, c', t, fr, k1, k2, k3, k4⟩ | ⟨es1, cl, es', cl', k1, k2, k3⟩ | ⟨r, st, pe, k1, k2, k3⟩
    ·rw [hb, h1]
    ·rw [h1] at k1; cases k1
    ·exact absurd (hH.one j id _ 0 (hown 0) (k3 0)) e
    ·rw [h1] at k1; cases k1
   | cmap kvs =>
    obtain ⟨hi, es, clock, h1, h2⟩ := h0
    exact ⟨im1 _ _ hi, es, clock, (blk _ (heap_lt h1)).still h1 (fun ho => hH.imm id _ _ ho hi), MRel.mono kind im1 cellI kvs es.toList clock h2⟩
   | lp st key caps =>
    obtain ⟨r, R, h1, h2, h3, h4, h5, h6, h7, h8, h9⟩ := h0
    have hown : ∀ o, owns g obj j (g.at_ j).blk o := fun o => by unfold owns; rw [hj]
    have hb := blk (g.at_ j).blk (hH.old j _ 0 (hown 0))
    refine ⟨r, R, ?_, h2, h3, h4, h5, h6, h7, h8, VList.mono kind im1 cellI caps _ h9⟩
    rcases hb with hb | ⟨c, c', t, fr, k1, k2, k3, k4⟩ | ⟨es1, cl, es', cl', k1, k2, k3⟩ | ⟨r, st, pe, k1, k2, k3⟩
    ·rw [hb, h1]
    ·rw [h1] at k1; cases k1
    ·rw [h1] at k1; cases k1
    ·exact absurd (hH.one j id _ 0 (hown 0) (k3 0)) e
 ·intro j b o h hi
  by_cases e : j = id
  ·subst e; exact (own b o h).2 hi
  ·rw [owns_ne e] at h
   rcases im2 b o hi with h1 | h1 | h1
   ·exact hH.imm j b o h h1
   ·exact e (hH.one j id b o h h1)
   ·have := hH.old j b o h; omega
 ·intro j j' b o h h'
  by_cases e : j = id
  ·by_cases e' : j' = id
   ·rw [e, e']
   ·subst e
    rw [owns_ne e'] at h'
    rcases (own b o h).1 with h1 | h1
    ·exact hH.one _ _ b o h1 h'
    ·have := hH.old j' b o h'; omega
  ·rw [owns_ne e] at h
   by_cases e' : j' = id
   ·subst e'
    rcases (own b o h').1 with h1 | h1
    ·exact hH.one _ _ b o h h1
    ·have := hH.old j b o h; omega
   ·rw [owns_ne e'] at h'
    exact hH.one j j' b o h h'
 ·intro j b o h
  by_cases e : j = id
  ·subst e
   rcases (own b o h).1 with h1 | h1
   ·exact Nat.lt_of_lt_of_le (hH.old j b o h1) size
   ·exact h1.2
  ·rw [owns_ne e] at h
   exact Nat.lt_of_lt_of_le (hH.old j b o h) size
 ·intro j b o h hm
  by_cases e : j = id
  ·subst e
   refine frz b o h ?_
   cases o' with
   | map kvs => exact absurd (updO_same _ _ _) (hm kvs)
   | _ => rfl
  ·rw [owns_ne e] at h
   rw [updO_ne _ _ e] at hm
   intro q
   rw [(blk b (hH.old j b o h)).frozen]
   exact hH.frz j b o h hm q
 ·intro b o h
  rcases im2 b o h with h1 | h1 | h1
  ·exact Nat.lt_of_lt_of_le (hH.imOld b o h1) size
  ·exact Nat.lt_of_lt_of_le (hH.old id b o h1) size
  ·exact h1.2
 ·intro b o h
  rcases im2 b o h with h1 | h1 | h1
  ·exact .inl h1
  ·exact .inr (.inl ⟨id, h1⟩)
  ·exact .inr (.inr h1.1)
 ·rintro b o ⟨j, h⟩
  by_cases e : j = id
  ·subst e
   rcases (own b o h).1 with h1 | h1
   ·exact .inl ⟨j, h1⟩
   ·exact .inr h1.1
  ·rw [owns_ne e] at h
   exact .inl ⟨j, h⟩
end
open Go
def Holds (w : World) (b o : Nat) (us : List Value) : Prop := ∀ q u, us[q]? = some u → w.cell? (cellAt b (o + q)) = some u
theorem Holds.nil' (w : World) (b o : Nat) : Holds w b o [] := fun q u h => by simp at h
theorem Holds.drop {w : World} {b o : Nat} {us : List Value} (h : Holds w b o us) (n : Nat) : Holds w b (o + n) (us.drop n) := fun q u hq => by
 rw [List.getElem?_drop] at hq
 have := h (n + q) u hq
 rwa [← Nat.add_assoc] at this
theorem Holds.take {w : World} {b o : Nat} {us : List Value} (h : Holds w b o us) (n : Nat) : Holds w b o (us.take n) := fun q u hq => by
 rw [List.getElem?_take] at hq
 split at hq
 ·exact h q u hq
 ·cases hq
theorem Holds.cons {w : World} {b o : Nat} {u : Value} {us : List Value} (h : w.cell? (cellAt b o) = some u) (k : Holds w b (o + 1) us) : Holds w b o (u :: us) := fun q v hq => by
 cases q with
 | zero => simp at hq; subst hq; simpa using h
 | succ q => have := k q v (by simpa using hq); rwa [show o + 1 + q = o + (q + 1) by omega] at this
theorem Holds.append {w : World} {b o : Nat} {us vs : List Value} (h : Holds w b o us) (k : Holds w b (o + us.length) vs) : Holds w b o (us ++ vs) := fun q v hq => by
 rcases Qn q us.length with hl | hl
 ·rw [List.getElem?_append_left hl] at hq; exact h q v hq
 ·rw [List.getElem?_append_right hl] at hq
  have := k _ v hq
  rwa [show o + us.length + (q - us.length) = o + q by omega] at this
theorem add_at (b o n : Nat) : (cellAt b o).add n = cellAt b (o + n) := by
 unfold Addr.add cellAt
 split
 ·simp_all
 ·rfl
section
variable {tab : Tab} {im : Nat → Nat → Prop} {w : World}
theorem DRel.one {x : D} {v : Value} (h : DRel tab im w x v) : v.oneCell' = true := by
 cases x <;> simp only [DRel] at h
 ·subst h; rfl
 ·subst h; rfl
 ·obtain ⟨s, rfl, _⟩ := h; rfl
 ·obtain ⟨A, c, rfl, _⟩ := h; rfl
 ·obtain ⟨b, o, rfl, _⟩ := h; rfl
 ·obtain ⟨_, _, _, _, rfl, _⟩ := h; rfl
 ·subst h; rfl
 ·subst h; rfl
 ·subst h; rfl
theorem DCells.get : ∀ {xs : List D} {b o : Nat}, DCells tab im w b o xs → ∃ us, DList tab im w xs us ∧ us.length = xs.length ∧ Holds w b o us
 | [], b, o, _ => ⟨[], by simp only [DList], rfl, Holds.nil' w b o⟩
 | x :: xs, b, o, h => by
  simp only [DCells] at h
  obtain ⟨_, ⟨u, h2, h3⟩, h4⟩ := h
  obtain ⟨us, k1, k2, k3⟩ := DCells.get h4
  exact ⟨u :: us, by simp only [DList]; exact ⟨h3, k1⟩, by simp [k2], .cons h2 k3⟩
theorem DCells.imm : ∀ {xs : List D} {b o : Nat}, DCells tab im w b o xs → ∀ q, q < xs.length → im b (o + q)
 | x :: xs, b, o, h, 0, _ => by simp only [DCells] at h; exact h.1
 | x :: xs, b, o, h, q + 1, hq => by
  simp only [DCells] at h
  have := DCells.imm h.2.2 q (by simpa using hq)
  rwa [show o + 1 + q = o + (q + 1) by omega] at this
theorem DCells.mk : ∀ {xs : List D} {us : List Value} {b o : Nat}, DList tab im w xs us → Holds w b o us → (∀ q, q < xs.length → im b (o + q)) → DCells tab im w b o xs
 | [], _, _, _, _, _, _ => by simp only [DCells]
 | x :: xs, [], _, _, h, _, _ => by simp only [DList] at h
 | x :: xs, u :: us, b, o, h, hh, hi => by
  simp only [DList] at h
  simp only [DCells]
  refine ⟨hi 0 (by simp), ⟨u, by simpa using hh 0 u rfl, h.1⟩, DCells.mk h.2 (fun q v hq => ?_) (fun q hq => ?_)⟩
  ·have := hh (q + 1) v (by simpa using hq)
   rwa [show o + (q + 1) = o + 1 + q by omega] at this
  ·have := hi (q + 1) (by simpa using hq)
   rwa [show o + (q + 1) = o + 1 + q by omega] at this
theorem DCells.drop : ∀ {xs : List D} {b o : Nat} (n : Nat), DCells tab im w b o xs → DCells tab im w b (o + n) (xs.drop n)
 | xs, b, o, 0, h => by simpa using h
 | [], b, o, n + 1, h => by simp [DCells]
 | x :: xs, b, o, n + 1, h => by
  simp only [DCells] at h
  have := DCells.drop n h.2.2
  rw [show o + 1 + n = o + (n + 1) by omega] at this
  simpa using this
theorem DCells.take : ∀ {xs : List D} {b o : Nat} (n : Nat), DCells tab im w b o xs → DCells tab im w b o (xs.take n)
 | xs, b, o, 0, h => by simp [DCells]
 | [], b, o, n + 1, h => by simp [DCells]
 | x :: xs, b, o, n + 1, h => by
  simp only [DCells] at h
  simp only [List.take_succ_cons, DCells]
  exact ⟨h.1, h.2.1, DCells.take n h.2.2⟩
theorem DCells.append : ∀ {xs ys : List D} {b o : Nat}, DCells tab im w b o xs → DCells tab im w b (o + xs.length) ys → DCells tab im w b o (xs ++ ys)
 | [], ys, b, o, _, k => by simpa using k
 | x :: xs, ys, b, o, h, k => by
  simp only [DCells] at h
  simp only [List.cons_append, DCells]
  refine ⟨h.1, h.2.1, DCells.append h.2.2 ?_⟩
  rwa [show o + 1 + xs.length = o + (x :: xs).length by simp; omega]
theorem DRows.get : ∀ {xs : List (List D)} {b o sz : Nat}, DRows tab im w b o xs → (∀ r ∈ xs, r.length = sz) → ∀ {i : Nat} {r : List D}, xs[i]? = some r → DCells tab im w b (o + i * sz) r
 | x :: xs, b, o, sz, h, hs, 0, r, hr => by
  simp only [DRows] at h
  simp at hr
  subst hr
  simpa using h.1
 | x :: xs, b, o, sz, h, hs, i + 1, r, hr => by
  simp only [DRows] at h
  have hx : x.length = sz := hs x (by simp)
  have := DRows.get h.2 (fun r hr => hs r (by simp [hr])) (i := i) (r := r) (by simpa using hr)
  rwa [hx, show o + sz + i * sz = o + (i + 1) * sz by rw [Nat.add_mul]; omega] at this
theorem DRows.drop : ∀ {xs : List (List D)} {b o sz : Nat} (n : Nat), DRows tab im w b o xs → (∀ r ∈ xs, r.length = sz) → DRows tab im w b (o + n * sz) (xs.drop n)
 | xs, b, o, sz, 0, h, _ => by simpa using h
 | [], b, o, sz, n + 1, h, _ => by simp [DRows]
 | x :: xs, b, o, sz, n + 1, h, hs => by
  simp only [DRows] at h
  have hx : x.length = sz := hs x (by simp)
  have := DRows.drop n h.2 (fun r hr => hs r (by simp [hr]))
  rw [hx, show o + sz + n * sz = o + (n + 1) * sz by rw [Nat.add_mul]; omega] at this
  simpa using this
theorem DRows.take : ∀ {xs : List (List D)} {b o : Nat} (n : Nat), DRows tab im w b o xs → DRows tab im w b o (xs.take n)
 | xs, b, o, 0, h => by simp [DRows]
 | [], b, o, n + 1, h => by simp [DRows]
 | x :: xs, b, o, n + 1, h => by
  simp only [DRows] at h
  simp only [List.take_succ_cons, DRows]
  exact ⟨h.1, DRows.take n h.2⟩
theorem DRows.append : ∀ {xs ys : List (List D)} {b o sz : Nat}, DRows tab im w b o xs → (∀ r ∈ xs, r.length = sz) → DRows tab im w b (o + xs.length * sz) ys → DRows tab im w b o (xs ++ ys)
 | [], ys, b, o, sz, _, _, k => by simpa using k
 | x :: xs, ys, b, o, sz, h, hs, k => by
  simp only [DRows] at h
  simp only [List.cons_append, DRows]
  have hx : x.length = sz := hs x (by simp)
  refine ⟨h.1, DRows.append (sz := sz) h.2 (fun r hr => hs r (by simp [hr])) ?_⟩
  rwa [hx, show o + sz + xs.length * sz = o + (x :: xs).length * sz by simp [Nat.add_mul]; omega]
theorem DRows.cells : ∀ {xs : List (List D)} {b o : Nat}, DRows tab im w b o xs → DCells tab im w b o xs.flatten
 | [], b, o, _ => by simp [DCells]
 | x :: xs, b, o, h => by
  simp only [DRows] at h
  simp only [List.flatten_cons]
  exact DCells.append h.1 (DRows.cells h.2)
theorem DRows.mk : ∀ {xs : List (List D)} {b o : Nat}, DCells tab im w b o xs.flatten → DRows tab im w b o xs
 | [], b, o, _ => by simp [DRows]
 | x :: xs, b, o, h => by
  simp only [List.flatten_cons] at h
  simp only [DRows]
  refine ⟨by simpa using DCells.take x.length h, DRows.mk ?_⟩
  have := DCells.drop x.length h
  simpa using this
theorem flatten_length {α : Type} : ∀ {xs : List (List α)} {sz : Nat}, (∀ r ∈ xs, r.length = sz) → xs.flatten.length = xs.length * sz
 | [], sz, _ => by simp
 | x :: xs, sz, h => by
  have := flatten_length (xs := xs) (sz := sz) (fun r hr => h r (by simp [hr]))
  have hx := h x (by simp)
  simp only [List.flatten_cons, Qg, List.length_cons, Nat.add_mul, this, hx]
  omega
theorem DList.length : ∀ {xs : List D} {us : List Value}, DList tab im w xs us → us.length = xs.length
 | [], [], _ => rfl
 | x :: xs, u :: us, h => by simp only [DList] at h; simp [DList.length h.2]
 | [], _ :: _, h => by simp only [DList] at h
 | _ :: _, [], h => by simp only [DList] at h
theorem DList.append : ∀ {xs ys : List D} {us vs : List Value}, DList tab im w xs us → DList tab im w ys vs → DList tab im w (xs ++ ys) (us ++ vs)
 | [], ys, [], vs, _, k => by simpa using k
 | x :: xs, ys, u :: us, vs, h, k => by
  simp only [DList] at h
  simp only [List.cons_append, DList]
  exact ⟨h.1, DList.append h.2 k⟩
 | [], _, _ :: _, _, h, _ => by simp only [DList] at h
 | _ :: _, _, [], _, h, _ => by simp only [DList] at h
theorem DList.drop : ∀ {xs : List D} {us : List Value} (n : Nat), DList tab im w xs us → DList tab im w (xs.drop n) (us.drop n)
 | xs, us, 0, h => by simpa using h
 | [], [], n + 1, h => by simp [DList]
 | x :: xs, u :: us, n + 1, h => by simp only [DList] at h; simpa using DList.drop n h.2
 | [], _ :: _, _, h => by simp only [DList] at h
 | _ :: _, [], _, h => by simp only [DList] at h
theorem DList.take : ∀ {xs : List D} {us : List Value} (n : Nat), DList tab im w xs us → DList tab im w (xs.take n) (us.take n)
 | xs, us, 0, h => by simp [DList]
 | [], [], n + 1, h => by simp [DList]
 | x :: xs, u :: us, n + 1, h => by simp only [DList] at h; simp only [List.take_succ_cons, DList]; exact ⟨h.1, DList.take n h.2⟩
 | [], _ :: _, _, h => by simp only [DList] at h
 | _ :: _, [], _, h => by simp only [DList] at h
theorem DList.ones : ∀ {xs : List D} {us : List Value}, DList tab im w xs us → ∀ u ∈ us, u.oneCell' = true
 | [], [], _, u, hu => by simp at hu
 | x :: xs, u :: us, h, v, hv => by
  simp only [DList] at h
  rcases List.mem_cons.1 hv with rfl | hv
  ·exact h.1.one
  ·exact DList.ones h.2 v hv
 | [], _ :: _, h, _, _ => by simp only [DList] at h
 | _ :: _, [], h, _, _ => by simp only [DList] at h
end
section
variable {tab : Tab} {g : Gh} {obj : Nat → Option Obj} {w : World}
theorem CList.length : ∀ {xs : List V} {us : List Value}, CList tab g obj w xs us → us.length = xs.length
 | [], [], _ => rfl
 | x :: xs, u :: us, h => by simp only [CList] at h; simp [CList.length h.2.2]
 | [], _ :: _, h => by simp only [CList] at h
 | _ :: _, [], h => by simp only [CList] at h
theorem VList.length : ∀ {xs : List V} {us : List Value}, VList tab g obj w xs us → us.length = xs.length
 | [], [], _ => rfl
 | x :: xs, u :: us, h => by simp only [VList] at h; simp [VList.length h.2]
 | [], _ :: _, h => by simp only [VList] at h
 | _ :: _, [], h => by simp only [VList] at h
theorem VList.append : ∀ {xs ys : List V} {us vs : List Value}, VList tab g obj w xs us → VList tab g obj w ys vs → VList tab g obj w (xs ++ ys) (us ++ vs)
 | [], ys, [], vs, _, k => by simpa using k
 | x :: xs, ys, u :: us, vs, h, k => by
  simp only [VList] at h
  simp only [List.cons_append, VList]
  exact ⟨h.1, VList.append h.2 k⟩
 | [], _, _ :: _, _, h, _ => by simp only [VList] at h
 | _ :: _, _, [], _, h, _ => by simp only [VList] at h
theorem VList.take : ∀ {xs : List V} {us : List Value} (n : Nat), VList tab g obj w xs us → VList tab g obj w (xs.take n) (us.take n)
 | xs, us, 0, h => by simp [VList]
 | [], [], n + 1, h => by simp [VList]
 | x :: xs, u :: us, n + 1, h => by simp only [VList] at h; simp only [List.take_succ_cons, VList]; exact ⟨h.1, VList.take n h.2⟩
 | [], _ :: _, _, h => by simp only [VList] at h
 | _ :: _, [], _, h => by simp only [VList] at h
theorem VList.drop : ∀ {xs : List V} {us : List Value} (n : Nat), VList tab g obj w xs us → VList tab g obj w (xs.drop n) (us.drop n)
 | xs, us, 0, h => by simpa using h
 | [], [], n + 1, h => by simp [VList]
 | x :: xs, u :: us, n + 1, h => by simp only [VList] at h; simpa using VList.drop n h.2
 | [], _ :: _, _, h => by simp only [VList] at h
 | _ :: _, [], _, h => by simp only [VList] at h
theorem CList.append : ∀ {xs ys : List V} {us vs : List Value}, CList tab g obj w xs us → CList tab g obj w ys vs → CList tab g obj w (xs ++ ys) (us ++ vs)
 | [], ys, [], vs, _, k => by simpa using k
 | x :: xs, ys, u :: us, vs, h, k => by
  simp only [CList] at h
  simp only [List.cons_append, CList]
  exact ⟨h.1, h.2.1, CList.append h.2.2 k⟩
 | [], _, _ :: _, _, h, _ => by simp only [CList] at h
 | _ :: _, _, [], _, h, _ => by simp only [CList] at h
theorem CList.drop : ∀ {xs : List V} {us : List Value} (n : Nat), CList tab g obj w xs us → CList tab g obj w (xs.drop n) (us.drop n)
 | xs, us, 0, h => by simpa using h
 | [], [], n + 1, h => by simp [CList]
 | x :: xs, u :: us, n + 1, h => by simp only [CList] at h; simpa using CList.drop n h.2.2
 | [], _ :: _, _, h => by simp only [CList] at h
 | _ :: _, [], _, h => by simp only [CList] at h
theorem CList.take : ∀ {xs : List V} {us : List Value} (n : Nat), CList tab g obj w xs us → CList tab g obj w (xs.take n) (us.take n)
 | xs, us, 0, h => by simp [CList]
 | [], [], n + 1, h => by simp [CList]
 | x :: xs, u :: us, n + 1, h => by simp only [CList] at h; simp only [List.take_succ_cons, CList]; exact ⟨h.1, h.2.1, CList.take n h.2.2⟩
 | [], _ :: _, _, h => by simp only [CList] at h
 | _ :: _, [], _, h => by simp only [CList] at h
theorem CList.ones : ∀ {xs : List V} {us : List Value}, CList tab g obj w xs us → ∀ u ∈ us, u.oneCell' = true
 | [], [], _, u, hu => by simp at hu
 | x :: xs, u :: us, h, v, hv => by
  simp only [CList] at h
  rcases List.mem_cons.1 hv with rfl | hv
  ·exact h.2.1
  ·exact CList.ones h.2.2 v hv
 | [], _ :: _, h, _, _ => by simp only [CList] at h
 | _ :: _, [], h, _, _ => by simp only [CList] at h
theorem CList.get : ∀ {xs : List V} {us : List Value}, CList tab g obj w xs us → ∀ {i : Nat} {x : V}, xs[i]? = some x → ∃ u, us[i]? = some u ∧ VRel tab g obj w x u ∧ u.oneCell' = true
 | x :: xs, u :: us, h, 0, y, hy => by simp only [CList] at h; simp at hy; subst hy; exact ⟨u, rfl, h.1, h.2.1⟩
 | x :: xs, u :: us, h, i + 1, y, hy => by simp only [CList] at h; simpa using CList.get h.2.2 (i := i) (by simpa using hy)
 | [], _ :: _, h, _, _, _ => by simp only [CList] at h
 | _ :: _, [], h, _, _, _ => by simp only [CList] at h
 | [], [], _, _, _, hy => by simp at hy
theorem VList.get : ∀ {xs : List V} {us : List Value}, VList tab g obj w xs us → ∀ {i : Nat} {x : V}, xs[i]? = some x → ∃ u, us[i]? = some u ∧ VRel tab g obj w x u
 | x :: xs, u :: us, h, 0, y, hy => by simp only [VList] at h; simp at hy; subst hy; exact ⟨u, rfl, h.1⟩
 | x :: xs, u :: us, h, i + 1, y, hy => by simp only [VList] at h; simpa using VList.get h.2 (i := i) (by simpa using hy)
 | [], _ :: _, h, _, _, _ => by simp only [VList] at h
 | _ :: _, [], h, _, _, _ => by simp only [VList] at h
 | [], [], _, _, _, hy => by simp at hy
theorem CList.ofDs : ∀ {xs : List D} {us : List Value}, DList tab g.im w xs us → CList tab g obj w (ofDs xs) us
 | [], [], _ => by simp [Ab.ofDs, CList]
 | x :: xs, u :: us, h => by
  simp only [DList] at h
  have := CList.ofDs h.2
  simp only [Ab.ofDs, Qb, CList, VRel]
  exact ⟨h.1, h.1.one, this⟩
 | [], _ :: _, h => by simp only [DList] at h
 | _ :: _, [], h => by simp only [DList] at h
theorem VList.ofDs : ∀ {xs : List D} {us : List Value}, DList tab g.im w xs us → VList tab g obj w (ofDs xs) us
 | [], [], _ => by simp [Ab.ofDs, VList]
 | x :: xs, u :: us, h => by
  simp only [DList] at h
  have := VList.ofDs h.2
  simp only [Ab.ofDs, Qb, VList, VRel]
  exact ⟨h.1, this⟩
 | [], _ :: _, h => by simp only [DList] at h
 | _ :: _, [], h => by simp only [DList] at h
theorem VRel.scalar {x : V} {v : Value} (h : VRel tab g obj w x v) (h1 : ∀ cs, x ≠ .agg cs) (h2 : ∀ cs, x ≠ .tup cs) (h3 : x ≠ .bad) : v.oneCell' = true := by
 cases x <;> simp only [VRel] at h
 ·exact h.one
 ·subst h; rfl
 ·exact h.1.one
 ·obtain ⟨⟨_, _, rfl, _⟩, _⟩ := h; rfl
 ·obtain ⟨_, rfl⟩ := h; rfl
 ·obtain ⟨⟨_, rfl⟩, _⟩ := h; rfl
 ·obtain ⟨_, rfl⟩ := h; rfl
 ·rcases h with ⟨_, _, _, _, rfl, _⟩ | ⟨_, _, _, rfl, _⟩ <;> rfl
 ·exact absurd rfl (h1 _)
 ·exact absurd rfl (h2 _)
 ·exact absurd rfl h3
end
open Go
open Go.RowKit (Below)
section
variable {P : Program} {tab : Tab} {g : Gh} {obj : Nat → Option Obj} {w : World}
theorem fitC_rel {c : V} {v : Value} (h : fitC c v = true) : VRel tab g obj w c v ∧ v.oneCell' = true := by
 unfold fitC at h
 split at h <;> simp_all [VRel, DRel, Value.oneCell']
theorem fitCs_rel : ∀ {cs : List V} {vs : List Value}, fitCs cs vs = true → CList tab g obj w cs vs
 | [], [], _ => by simp only [CList]
 | c :: cs, v :: vs, h => by
  simp only [fitCs, Qi] at h
  simp only [CList]
  have k := fitC_rel (tab := tab) (g := g) (obj := obj) (w := w) h.1
  exact ⟨k.1, k.2, fitCs_rel h.2⟩
 | [], _ :: _, h => by simp [fitCs] at h
 | _ :: _, [], h => by simp [fitCs] at h
theorem fitV_rel {x : V} {v : Value} (h : fitV x v = true) : VRel tab g obj w x v := by
 unfold fitV at h
 split at h
 ·simp only [VRel]
  rename_i cs vs
  exact ⟨vs.toList, by simp, fitCs_rel h⟩
 ·cases h
 ·exact (fitC_rel h).1
def evA (get : Nat → V) : A → V
 | .t t => get t
 | .k v => v
theorem compA_rel {t : Option TypeId} {x : Operand} {a : A} (h : compA P tab t x = some a) {get : Nat → V} {act : Act} (hT : ∀ t, VRel tab g obj w (get t) (act.tmps.getD t undef)) :
  VRel tab g obj w (evA get a) (act.eval x) := by
 cases x with
 | tmp i => simp [compA] at h; subst h; exact hT i
 | const v =>
  simp only [compA] at h
  split at h
  ·rename_i hf; cases h; exact fitV_rel hf
  ·cases h
 | global g => simp [compA] at h
 | func f =>
  simp only [compA] at h
  split at h
  ·rename_i k hk
   cases h
   simp only [evA, VRel, DRel, Act.eval]
   exact ⟨f, [], [], hk, rfl, by simp only [DList], by simp only [DList]⟩
  ·cases h
theorem compAs_rel : ∀ {xs : List Operand} {ts : List (Option TypeId)} {as : List A}, compAs P tab ts xs = some as → ∀ {get : Nat → V} {act : Act}, (∀ t, VRel tab g obj w (get t) (act.tmps.getD t undef)) →
  VList tab g obj w (as.map (evA get)) (xs.map act.eval)
 | [], ts, as, h, get, act, hT => by simp [compAs] at h; subst h; simp [VList]
 | x :: xs, ts, as, h, get, act, hT => by
  simp only [compAs] at h
  split at h
  ·rename_i a as' h1 h2
   cases h
   simp only [Qb, VList]
   exact ⟨compA_rel h1 hT, compAs_rel h2 hT⟩
  ·cases h
theorem un1_rel {t : Option TypeId} {x : Operand} {f : A → Cop} {c : Cop} (h : un1 P tab t x f = some c) : ∃ a, compA P tab t x = some a ∧ c = f a := by
 unfold un1 at h
 split at h
 ·rename_i a ha; cases h; exact ⟨a, ha, rfl⟩
 ·cases h
theorem bi2_rel {t u : Option TypeId} {x y : Operand} {f : A → A → Cop} {c : Cop} (h : bi2 P tab t u x y f = some c) : ∃ a b, compA P tab t x = some a ∧ compA P tab u y = some b ∧ c = f a b := by
 unfold bi2 at h
 split at h
 ·rename_i a b ha hb; cases h; exact ⟨a, b, ha, hb, rfl⟩
 ·cases h
theorem info_of {t : TypeId} (h : P.cellsOf t ≠ 0) : ∃ i, P.info? t = some i ∧ i.size = P.cellsOf t := by
 unfold Program.cellsOf at *
 cases hi : P.info? t with
 | none => simp [hi] at h
 | some i => exact ⟨i, rfl, by simp⟩
theorem run_size {t : TypeId} (h : P.cellsOf t ≠ 0) (w : World) : (Go.sizeOf t).run P w = .ok (P.cellsOf t) w := by
 obtain ⟨i, hi, _⟩ := info_of h
 exact run_sizeOf w hi
theorem run_isAgg {t : TypeId} (h : (P.underlying t).isSome = true) (w : World) : (isAgg t).run P w = .ok (isAggT P t) w := by
 obtain ⟨d, hd⟩ := Option.isSome_iff_exists.1 h
 unfold isAgg isAggT
 simp only [Sem.run_bind, run_underlying hd, hd, Result.andThen_ok]
 cases d <;> rfl
def okVar (P : Program) (t : TypeId) : Prop := P.cellsOf t ≠ 0 ∧ (isAggT P t = true ∨ P.cellsOf t = 1) ∧ (P.underlying t).isSome = true
def varOf (agg : Bool) (us : List Value) : Value := if agg then .agg us.toArray else us.headD undef
theorem run_loadVar {t : TypeId} (h : okVar P t) {b o : Nat} {us : List Value} (hl : us.length = P.cellsOf t) (hh : Holds w b o us) :
  (loadVar t (cellAt b o)).run P w = .ok (varOf (isAggT P t) us) w := by
 obtain ⟨h1, h2, h3⟩ := h
 unfold loadVar varOf
 simp only [Sem.run_bind, run_isAgg h3, Result.andThen_ok]
 cases ha : isAggT P t with
 | true =>
  simp only [if_true, Sem.run_bind, run_size h1, Result.andThen_ok, Sem.run_pure]
  rw [← hl, run_loadCells_list w (cellAt b o) us (fun j v hj => by rw [add_at]; exact hh j v hj)]
  rfl
 | false =>
  have h1 : P.cellsOf t = 1 := by simpa [ha] using h2
  match us, hl, hh with
  | [u], _, hh =>
   have := hh 0 u rfl
   simp only [Qm, if_false, run_load, Nat.add_zero] at *
   rw [this]
   rfl
  | [], hl, _ => simp [h1] at hl
  | _ :: _ :: _, hl, _ => simp [h1] at hl
theorem asVar_rel {agg : Bool} {n : Nat} {cs : List V} {v : V} (h : asVar agg n cs = some v) {us : List Value} (hc : CList tab g obj w cs us) : us.length = n ∧ VRel tab g obj w v (varOf agg us) := by
 unfold asVar at h
 have hl := hc.length
 split at h
 ·rename_i ha
  split at h
  ·rename_i hn
   cases h
   refine ⟨by omega, ?_⟩
   simp only [varOf, ha, if_true, VRel]
   exact ⟨us, rfl, hc⟩
  ·cases h
 ·rename_i ha
  split at h
  ·rename_i c
   cases h
   match us, hc with
   | [u], hc =>
    simp only [CList] at hc
    exact ⟨rfl, by simpa [varOf, ha] using hc.1⟩
   | [], hc => simp only [CList] at hc
   | _ :: _ :: _, hc => simp only [CList] at hc; exact hc.2.2.elim
  ·cases h
structure Post (tab : Tab) (g : Gh) (obj : Nat → Option Obj) (w : World) (g' : Gh) (obj' : Nat → Option Obj) (w' : World) : Prop where
 heap : HRel tab g' obj' w'
 evo : Evo g obj w g' obj' w'
 vals : ∀ x v, VRel tab g obj w x v → VRel tab g' obj' w' x v
theorem Post.refl (h : HRel tab g obj w) : Post tab g obj w g obj w := ⟨h, .refl .., fun _ _ h => h⟩
theorem Post.trans {g' g'' : Gh} {obj' obj'' : Nat → Option Obj} {w' w'' : World} (h : Post tab g obj w g' obj' w') (k : Post tab g' obj' w' g'' obj'' w'') : Post tab g obj w g'' obj'' w'' :=
 ⟨k.heap, h.evo.trans k.evo, fun x v hx => k.vals x v (h.vals x v hx)⟩
theorem CList.of_vals {g' : Gh} {obj' : Nat → Option Obj} {w' : World} (h : ∀ x v, VRel tab g obj w x v → VRel tab g' obj' w' x v) : ∀ {xs : List V} {vs : List Value}, CList tab g obj w xs vs → CList tab g' obj' w' xs vs
 | [], [], _ => by simp only [CList]
 | x :: xs, v :: vs, k => by
  simp only [CList] at *
  exact ⟨h x v k.1, k.2.1, CList.of_vals h k.2.2⟩
 | [], _ :: _, k => by simp only [CList] at k
 | _ :: _, [], k => by simp only [CList] at k
theorem VList.of_vals {g' : Gh} {obj' : Nat → Option Obj} {w' : World} (h : ∀ x v, VRel tab g obj w x v → VRel tab g' obj' w' x v) : ∀ {xs : List V} {vs : List Value}, VList tab g obj w xs vs → VList tab g' obj' w' xs vs
 | [], [], _ => by simp only [VList]
 | x :: xs, v :: vs, k => by
  simp only [VList] at *
  exact ⟨h x v k.1, VList.of_vals h k.2⟩
 | [], _ :: _, k => by simp only [VList] at k
 | _ :: _, [], k => by simp only [VList] at k
theorem VRel.drew {x : V} {v : Value} (h : VRel tab g obj w x v) : VRel tab g obj w.drew x v := VRel.mono (w := w) (w' := w.drew) (.refl _ _) (fun _ _ h => h) (fun _ _ _ => rfl) x v h
theorem CList.drew {xs : List V} {vs : List Value} (h : CList tab g obj w xs vs) : CList tab g obj w.drew xs vs := CList.mono (w := w) (w' := w.drew) (.refl _ _) (fun _ _ h => h) (fun _ _ _ => rfl) xs vs h
theorem DRel.drew {im : Nat → Nat → Prop} {x : D} {v : Value} (h : DRel tab im w x v) : DRel tab im w.drew x v := DRel.mono (w := w) (w' := w.drew) (fun _ _ h => h) (fun _ _ _ => rfl) x v h
theorem HRel.drew (h : HRel tab g obj w) : HRel tab g obj w.drew := by
 refine ⟨fun id o ho => ?_, h.imm, h.one, h.old, h.frz, h.imOld⟩
 have := h.ob id o ho
 cases o with
 | box cs => obtain ⟨h1, us, h2, h3⟩ := this; exact ⟨h1, us, h2.drew, h3⟩
 | cst ds => exact DCells.mono (w := w) (w' := w.drew) (fun _ _ h => h) (fun _ _ _ => rfl) ds _ _ this
 | tok v sz => exact this
 | arr v sz xs => obtain ⟨h1, h2, h4, h5⟩ := this; exact ⟨h1, h2, h4, fun i r q d a b => let ⟨u, k1, k2, k3⟩ := h5 i r q d a b; ⟨u, k1, k2.drew, k3⟩⟩
 | map kvs => obtain ⟨es, cl, h1, h2⟩ := this; exact ⟨es, cl, h1, MRel.mono (w := w) (w' := w.drew) (.refl _ _) (fun _ _ h => h) (fun _ _ _ => rfl) kvs _ _ h2⟩
 | cmap kvs => obtain ⟨hi, es, cl, h1, h2⟩ := this; exact ⟨hi, es, cl, h1, MRel.mono (w := w) (w' := w.drew) (.refl _ _) (fun _ _ h => h) (fun _ _ _ => rfl) kvs _ _ h2⟩
 | lp j key caps => obtain ⟨r, R, h1, h2, h3, h4, h5, h6, h7, h8, h9⟩ := this; exact ⟨r, R, h1, h2, h3, h4, h5, h6, h7, h8, VList.mono (w := w) (w' := w.drew) (.refl _ _) (fun _ _ h => h) (fun _ _ _ => rfl) caps _ h9⟩
theorem Post.drew (h : HRel tab g obj w) : Post tab g obj w g obj w.drew :=
 ⟨h.drew, ⟨rfl, rfl, rfl, Nat.le_refl _, fun _ _ => .refl _, fun _ _ h => h, fun _ _ h => .inl h, fun _ _ h => .inl h, .refl _ _⟩, fun _ _ h => h.drew⟩
theorem OEvo.fresh {id : Nat} (h : obj id = none) (p : Place) (im' : Nat → Nat → Prop) (o : Obj) : OEvo g obj ⟨updP g.at_ id p, im'⟩ (updO obj id (some o)) := by
 intro j
 by_cases e : j = id
 ·subst e; rw [h]; trivial
 ·have := OEvo.refl g obj j
  rw [updO_ne _ _ e, show (⟨updP g.at_ id p, im'⟩ : Gh).at_ j = g.at_ j from updP_ne _ _ e]
  exact this
theorem post_alloc (hH : HRel tab g obj w) {id : Nat} (hf : obj id = none) (cells : Array Value) (t : TypeId) (o : Obj) (lo cnt : Nat) (imc : Nat → Prop)
  (hm : o.isMap = false)
  (hown : ∀ q, lo ≤ q → q < lo + cnt → (∀ ds, o ≠ .cst ds) → ¬ imc q)
  (hO : ∀ g' : Gh, g' = ⟨updP g.at_ id ⟨w.heap.size, lo, cnt⟩, fun b q => g.im b q ∨ (b = w.heap.size ∧ imc q)⟩ → (∀ x v, VRel tab g obj w x v → VRel tab g' (updO obj id (some o)) (w.alloc (.cells cells t)) x v) →
   ORel tab g' (updO obj id (some o)) (w.alloc (.cells cells t)) ⟨w.heap.size, lo, cnt⟩ o)
  (hlp : o.isLp = false := by rfl) :
  Post tab g obj w ⟨updP g.at_ id ⟨w.heap.size, lo, cnt⟩, fun b q => g.im b q ∨ (b = w.heap.size ∧ imc q)⟩ (updO obj id (some o)) (w.alloc (.cells cells t)) := by
 have hsz : (w.alloc (.cells cells t)).heap.size = w.heap.size + 1 := Array.size_push ..
 have hownN : ∀ b q, ¬ owns g obj id b q := fun b q h => by unfold owns at h; rw [hf] at h; exact h
 obtain ⟨h1, h2, h3⟩ := step1 (w' := w.alloc (.cells cells t)) hH id o ⟨w.heap.size, lo, cnt⟩ (fun b q => g.im b q ∨ (b = w.heap.size ∧ imc q)) rfl rfl rfl (by omega)
  (fun b hb => .inl (by show (w.heap.push _)[b]? = _; rw [Array.getElem?_push, if_neg (by omega)]))
  (fun b q h => .inl h)
  (fun b q h => by
   rcases h with h | ⟨e, _⟩
   ·exact .inl h
   ·exact .inr (.inr ⟨by omega, by omega⟩))
  (fun b q h => by
   unfold owns at h
   simp only [updO_same, updP_same] at h
   have key : b = w.heap.size ∧ lo ≤ q ∧ q < lo + cnt ∧ ∀ ds, o ≠ .cst ds := by
    cases o with
    | cst ds => exact h.elim
    | cmap ds => exact h.elim
    | map kvs => simp [Obj.isMap] at hm
    | box cs => exact ⟨h.1, h.2.1, h.2.2, by simp⟩
    | tok v sz => exact ⟨h.1, h.2.1, h.2.2, by simp⟩
    | arr v sz xs => exact ⟨h.1, h.2.1, h.2.2, by simp⟩
    | lp j key caps => simp [Obj.isLp] at hlp
   obtain ⟨rfl, k1, k2, k3⟩ := key
   refine ⟨.inr ⟨Nat.le_refl _, by omega⟩, fun h => ?_⟩
   rcases h with h | h
   ·have := hH.imOld _ _ h; omega
   ·exact hown q k1 k2 k3 h.2)
  (fun b q h _ => by
   have hb : b = w.heap.size := by
    unfold owns at h
    simp only [updO_same, updP_same] at h
    cases o with
    | cst ds => exact h.elim
    | cmap ds => exact h.elim
    | map kvs => simp [Obj.isMap] at hm
    | box cs => exact h.1
    | tok v sz => exact h.1
    | arr v sz xs => exact h.1
    | lp j key caps => simp [Obj.isLp] at hlp
   subst hb
   simp)
  (.fresh hf _ _ _)
  (fun hv => hO _ rfl hv)
 exact ⟨h1, h2, h3⟩
theorem holds_alloc (w : World) (cells : List Value) (t : TypeId) : Holds (w.alloc (.cells cells.toArray t)) w.heap.size 0 cells := fun q u hq => by
 simp only [Nat.zero_add, cellAt]
 rw [World.cell?_alloc_new]
 simpa using hq
theorem post_box (hH : HRel tab g obj w) {id : Nat} (hf : obj id = none) (t : TypeId) {cs : List V} {us : List Value} (hc : CList tab g obj w cs us) :
  ∃ g', Post tab g obj w g' (updO obj id (some (.box cs))) (w.alloc (.cells us.toArray t)) ∧ VRel tab g' (updO obj id (some (.box cs))) (w.alloc (.cells us.toArray t)) (.ptr id 0) (.pointer (some (cellAt w.heap.size 0))) := by
 refine ⟨_, post_alloc hH hf us.toArray t (.box cs) 0 cs.length (fun _ => False) rfl (fun _ _ _ _ h => h) (fun g' hg' hv => ?_), ?_⟩
 ·exact ⟨rfl, us, hc.of_vals hv, holds_alloc w us t⟩
 ·simp only [VRel, updO_same, updP_same]
  exact ⟨.inl ⟨cs, rfl⟩, by simp⟩
end
open Go
open Go.RowKit (Below)
section
variable {P : Program} {tab : Tab} {g : Gh} {obj : Nat → Option Obj} {w : World}
theorem cel_rel {x : V} {c : List V} (h : x.cel = some c) {v : Value} (hx : VRel tab g obj w x v) : CList tab g obj w c v.cells.toList := by
 have scalar : ∀ {x : V}, VRel tab g obj w x v → (∀ cs, x ≠ .agg cs) → (∀ cs, x ≠ .tup cs) → x ≠ .bad → CList tab g obj w [x] v.cells.toList := by
  intro x hx h1 h2 h3
  have ho := hx.scalar h1 h2 h3
  have : v.cells.toList = [v] := by cases v <;> simp_all [Value.cells, Value.oneCell']
  rw [this]
  simp only [CList]
  exact ⟨hx, ho, trivial⟩
 cases x with
 | agg cs =>
  simp only [V.cel, Qa] at h
  subst h
  simp only [VRel] at hx
  obtain ⟨vs, rfl, hc⟩ := hx
  simpa [Value.cells] using hc
 | tup cs => simp [V.cel] at h
 | bad => simp [V.cel] at h
 | d x => simp only [V.cel, Qa] at h; subst h; exact scalar hx (by simp) (by simp) (by simp)
 | nil n => simp only [V.cel, Qa] at h; subst h; exact scalar hx (by simp) (by simp) (by simp)
 | own a b c d => simp only [V.cel, Qa] at h; subst h; exact scalar hx (by simp) (by simp) (by simp)
 | arr a b c d => simp only [V.cel, Qa] at h; subst h; exact scalar hx (by simp) (by simp) (by simp)
 | ptr a b => simp only [V.cel, Qa] at h; subst h; exact scalar hx (by simp) (by simp) (by simp)
 | pm a b c d => simp only [V.cel, Qa] at h; subst h; exact scalar hx (by simp) (by simp) (by simp)
 | map a => simp only [V.cel, Qa] at h; subst h; exact scalar hx (by simp) (by simp) (by simp)
 | fn a b c => simp only [V.cel, Qa] at h; subst h; exact scalar hx (by simp) (by simp) (by simp)
mutual
theorem toD_rel : ∀ {x : V} {d : D}, x.toD = some d → ∀ {v : Value}, VRel tab g obj w x v → DRel tab g.im w d v
 | .d y, d, h, v, hx => by simp only [V.toD, Qa] at h; subst h; simpa only [VRel] using hx
 | .nil sz, d, h, v, hx => by
  simp only [V.toD, Qa] at h; subst h
  simp only [VRel] at hx
  subst hx
  simp only [DRel]
  exact ⟨none, 0, rfl, Nat.le_refl _, by simp, by simp⟩
 | .own _ _ sz xs, d, h, v, hx => by
  simp only [V.toD, Qa] at h; subst h
  simp only [VRel] at hx
  exact hx.1
 | .fn key a c, d, h, v, hx => by
  simp only [V.toD] at h
  split at h
  ·rename_i f c' h1 h2
   cases h
   simp only [VRel] at hx
   rcases hx with ⟨fid, fs, cs, k1, k2, k3, k4, _⟩ | ⟨id, k1, _⟩
   ·simp only [DRel]
    exact ⟨fid, fs, cs, k1, k2, toDs_rel h1 k3, toDs_rel h2 k4⟩
   ·subst k1
    simp [V.toDs, V.toD] at h1
  ·cases h
 | .arr .., d, h, v, hx => by simp [V.toD] at h
 | .ptr .., d, h, v, hx => by simp [V.toD] at h
 | .pm .., d, h, v, hx => by simp [V.toD] at h
 | .map .., d, h, v, hx => by simp [V.toD] at h
 | .agg .., d, h, v, hx => by simp [V.toD] at h
 | .tup .., d, h, v, hx => by simp [V.toD] at h
 | .bad, d, h, v, hx => by simp [V.toD] at h
theorem toDs_rel : ∀ {xs : List V} {ds : List D}, V.toDs xs = some ds → ∀ {vs : List Value}, VList tab g obj w xs vs → DList tab g.im w ds vs
 | [], ds, h, vs, hx => by
  simp only [V.toDs, Qa] at h; subst h
  cases vs with
  | nil => simp only [DList]
  | cons => simp only [VList] at hx
 | x :: xs, ds, h, vs, hx => by
  simp only [V.toDs] at h
  split at h
  ·rename_i d ds' h1 h2
   cases h
   cases vs with
   | nil => simp only [VList] at hx
   | cons v vs =>
    simp only [VList] at hx
    simp only [DList]
    exact ⟨toD_rel h1 hx.1, toDs_rel h2 hx.2⟩
  ·cases h
end
theorem CList.toV : ∀ {xs : List V} {vs : List Value}, CList tab g obj w xs vs → VList tab g obj w xs vs
 | [], [], _ => by simp only [VList]
 | x :: xs, v :: vs, h => by simp only [CList] at h; simp only [VList]; exact ⟨h.1, CList.toV h.2.2⟩
 | [], _ :: _, h => by simp only [CList] at h
 | _ :: _, [], h => by simp only [CList] at h
theorem toDs_length : ∀ {xs : List V} {ds : List D}, V.toDs xs = some ds → ds.length = xs.length
 | [], ds, h => by simp only [V.toDs, Qa] at h; subst h; rfl
 | x :: xs, ds, h => by
  simp only [V.toDs] at h
  split at h
  ·rename_i d ds' h1 h2; cases h; simp [toDs_length h2]
  ·cases h
theorem toDs_cel {x : V} {ds : List D} (h : V.toDs x.cells = some ds) : x.cel = some x.cells := by
 cases x <;> simp [V.cel, V.cells] at * <;> simp [V.toDs, V.toD] at h
theorem takeD_some {xs c : List D} {off n : Nat} (h : takeD xs off n = some c) : off + n ≤ xs.length ∧ c = (xs.drop off).take n := by
 unfold takeD at h; split at h
 ·cases h; exact ⟨by assumption, rfl⟩
 ·cases h
theorem takeV_some {xs c : List V} {off n : Nat} (h : takeV xs off n = some c) : off + n ≤ xs.length ∧ c = (xs.drop off).take n := by
 unfold takeV at h; split at h
 ·cases h; exact ⟨by assumption, rfl⟩
 ·cases h
theorem ld_cells {agg : Bool} {n : Nat} {ds c : List D} {off : Nat} {v : V} (h1 : takeD ds off n = some c) (h2 : asVar agg n (ofDs c) = some v) {b o : Nat} (hd : DCells tab g.im w b o ds) :
  ∃ us, us.length = n ∧ Holds w b (o + off) us ∧ VRel tab g obj w v (varOf agg us) := by
 obtain ⟨us, k1, k2, k3⟩ := hd.get
 obtain ⟨h1, rfl⟩ := takeD_some h1
 have hc := CList.ofDs (obj := obj) ((k1.drop off).take n)
 obtain ⟨hl, hr⟩ := asVar_rel h2 hc
 exact ⟨_, hl, (k3.drop off).take n, hr⟩
theorem arr_row {b lo sz : Nat} {xs : List (List V)} (h : ∀ i r q x, xs[i]? = some r → r[q]? = some x → ∃ u, w.cell? (cellAt b (lo + i * sz + q)) = some u ∧ VRel tab g obj w x u ∧ u.oneCell' = true) {idx : Nat} {row : List V} (hrow : xs[idx]? = some row) :
  ∃ us, CList tab g obj w row us ∧ Holds w b (lo + idx * sz) us := by
 have : ∀ (r : List V) (q0 : Nat), (∀ q x, r[q]? = some x → ∃ u, w.cell? (cellAt b (lo + idx * sz + (q0 + q))) = some u ∧ VRel tab g obj w x u ∧ u.oneCell' = true) →
   ∃ us, CList tab g obj w r us ∧ Holds w b (lo + idx * sz + q0) us := by
  intro r
  induction r with
  | nil => intro q0 _; exact ⟨[], by simp only [CList], Holds.nil' _ _ _⟩
  | cons d r ih =>
   intro q0 hq
   obtain ⟨u, m1, m2, m3⟩ := hq 0 d rfl
   obtain ⟨us, n1, n3⟩ := ih (q0 + 1) (fun q d hd => by
    obtain ⟨u, m1, m2⟩ := hq (q + 1) d (by simpa using hd)
    exact ⟨u, by rwa [show q0 + (q + 1) = q0 + 1 + q by omega] at m1, m2⟩)
   refine ⟨u :: us, by simp only [CList]; exact ⟨m2, m3, n1⟩, Holds.cons ?_ ?_⟩
   ·simpa using m1
   ·rwa [← Nat.add_assoc] at n3
 simpa using this row 0 (fun q d hd => by simpa using h idx row q d hrow hd)
theorem ld_sound (hH : HRel tab g obj w) {agg : Bool} {n : Nat} {a : A} {x v : V} (h : actLd agg n [x] ((Cop.ids (.ld agg n a) [x]).map obj) = some v) {xv : Value} (hx : VRel tab g obj w x xv) :
  ∃ b o us, xv = .pointer (some (cellAt b o)) ∧ us.length = n ∧ Holds w b o us ∧ VRel tab g obj w v (varOf agg us) := by
 cases x with
 | ptr id off =>
  simp only [Cop.ids, Qb, Qc] at h
  simp only [VRel] at hx
  obtain ⟨_, rfl⟩ := hx
  cases ho : obj id with
  | none => simp [actLd, ho] at h
  | some ob =>
   have hr := hH.ob id ob ho
   cases ob with
   | box cs =>
    simp only [actLd, ho] at h
    split at h
    ·rename_i c hc
     obtain ⟨h1, rfl⟩ := takeV_some hc
     obtain ⟨k1, us, k2, k3⟩ := hr
     obtain ⟨hl, hv⟩ := asVar_rel h ((k2.drop off).take n)
     exact ⟨_, _, _, rfl, hl, (Holds.drop k3 off).take n, hv⟩
    ·cases h
   | cst ds =>
    simp only [actLd, ho] at h
    split at h
    ·rename_i c hc
     obtain ⟨us, k1, k2, k3⟩ := ld_cells (obj := obj) hc h hr
     exact ⟨_, _, _, rfl, k1, k2, k3⟩
    ·cases h
   | tok => simp [actLd, ho] at h
   | arr => simp [actLd, ho] at h
   | map => simp [actLd, ho] at h
   | cmap => simp [actLd, ho] at h
   | lp => simp [actLd, ho] at h
 | pm id ver idx off =>
  simp only [Cop.ids, Qb, Qc] at h
  simp only [VRel] at hx
  obtain ⟨_, ver', sz, xs, ho, hle, hx⟩ := hx
  simp only [actLd, ho] at h
  split at h
  ·rename_i he
   have hx := hx he
   subst hx
   split at h
   ·rename_i row hrow
    split at h
    ·rename_i c hc
     obtain ⟨h1, rfl⟩ := takeV_some hc
     obtain ⟨us, m1, m3⟩ := arr_row (hH.ob id _ ho).2.2.2 hrow
     obtain ⟨hl, hr⟩ := asVar_rel h ((m1.drop off).take n)
     exact ⟨_, _, _, rfl, hl, (m3.drop off).take n, hr⟩
    ·cases h
   ·cases h
  ·cases h
 | d x =>
  cases x with
  | q ds off =>
   simp only [Cop.ids, Qc, actLd] at h
   simp only [VRel, DRel] at hx
   obtain ⟨b, o, rfl, hd⟩ := hx
   split at h
   ·rename_i c hc
    obtain ⟨us, k1, k2, k3⟩ := ld_cells (obj := obj) hc h hd
    exact ⟨_, _, _, rfl, k1, k2, k3⟩
   ·cases h
  | _ => simp [Cop.ids, actLd] at h
 | _ => simp [Cop.ids, actLd] at h
theorem blockEvo_setCell (w : World) (b o : Nat) (v : Value) (b' : Nat) : BlockEvo (fun q => b' = b ∧ q = o) w.heap[b']? (w.setCell (cellAt b o) v).heap[b']? := by
 have hh : (w.setCell (cellAt b o) v).heap[b']? = if b = b' then (w.heap[b']?).map (fun
   | .cells c elem frozen => .cells (if (cellAt b o).spot.isSome then c else c.setIfInBounds (cellAt b o).off v) elem frozen
   | o => o) else w.heap[b']? := by
  simp only [World.setCell, Array.getElem?_modify]
  rfl
 rw [hh]
 by_cases e : b = b'
 ·subst e
  simp only [if_true]
  cases hb : w.heap[b]? with
  | none => exact .inl rfl
  | some x =>
   cases x with
   | cells c t fr =>
    refine Or.inr (Or.inl ⟨c, c.setIfInBounds o v, t, fr, by simp, by simp [cellAt], by simp, fun q hq => ?_⟩)
    rw [Array.getElem?_setIfInBounds_ne (by intro e; exact hq ⟨by trivial, e.symm⟩)]
   | _ => exact .inl rfl
 ·rw [if_neg e]; exact .inl rfl
theorem blockEvo_setCells (b b' : Nat) : ∀ (vs : List Value) (o : Nat) (w : World), BlockEvo (fun q => b' = b ∧ o ≤ q ∧ q < o + vs.length) w.heap[b']? (w.setCells b o vs).heap[b']?
 | [], o, w => .inl rfl
 | v :: r, o, w => by
  rw [World.setCells]
  refine ((blockEvo_setCell w b o v b').mono fun q ⟨h1, h2⟩ => ⟨h1, by omega, by simp; omega⟩).trans
   ((blockEvo_setCells b b' r (o + 1) (w.setCell (cellAt b o) v)).mono fun q ⟨h1, h2, h3⟩ => ⟨h1, by omega, by simp; omega⟩)
theorem setCells_os (b : Nat) : ∀ (vs : List Value) (o : Nat) (w : World), (w.setCells b o vs).os = w.os ∧ (w.setCells b o vs).tape = w.tape ∧ (w.setCells b o vs).output = w.output ∧ (w.setCells b o vs).heap.size = w.heap.size
 | [], o, w => ⟨rfl, rfl, rfl, rfl⟩
 | v :: r, o, w => by
  rw [World.setCells]
  obtain ⟨h1, h2, h3, h4⟩ := setCells_os b r (o + 1) (w.setCell (cellAt b o) v)
  exact ⟨h1, h2, h3, by rw [h4]; simp [World.setCell]⟩
theorem holds_setCells {b o : Nat} {vs : List Value} {w : World} (h : ∀ j, j < vs.length → (w.cell? (cellAt b (o + j))).isSome = true) : Holds (w.setCells b o vs) b o vs := fun q u hq => by
 have hl : q < vs.length := by
  rcases Qn q vs.length with h | h
  ·exact h
  ·rw [Qe h] at hq; cases hq
 have := World.cell?_setCells_in b vs o w h q hl
 rw [Qd hl] at hq
 cases hq
 exact this
theorem run_storeVar {t : TypeId} (h : P.cellsOf t ≠ 0) {b o : Nat} {v : Value} (hl : v.cells.toList.length = P.cellsOf t) (hc : ∀ j, j < v.cells.toList.length → (w.cell? (cellAt b (o + j))).isSome = true)
  (hf : ∀ j, j < v.cells.toList.length → w.frozen? (cellAt b (o + j)) = false) (h1 : ∀ u ∈ v.cells.toList, u.oneCell' = true) :
  (storeVar t (cellAt b o) v).run P w = .ok () (w.setCells b o v.cells.toList) := by
 have hs : v.cells.size = P.cellsOf t := by simpa using hl
 unfold storeVar
 simp only [Sem.run_bind, run_size h, Result.andThen_ok, hs, ne_eq, not_true_eq_false, if_false]
 have := run_storeCells_cells (P := P) b o v.cells.toList 0 w (by simpa using hc) (by simpa using hf) h1
 simpa using this
theorem over_some {cs c cs' : List V} {off : Nat} (h : over cs off c = some cs') : off + c.length ≤ cs.length ∧ cs' = cs.take off ++ c ++ cs.drop (off + c.length) := by
 unfold over at h; split at h
 ·cases h; exact ⟨by assumption, rfl⟩
 ·cases h
theorem OEvo.box {id : Nat} (h : isBox (obj id)) {o : Obj} (ho : (∃ cs, o = .box cs) ∨ (∃ ds, o = .cst ds)) (im' : Nat → Nat → Prop) : OEvo g obj ⟨updP g.at_ id (g.at_ id), im'⟩ (updO obj id (some o)) := by
 intro j
 by_cases e : j = id
 ·subst e
  rw [updO_same, show (⟨updP g.at_ j (g.at_ j), im'⟩ : Gh).at_ j = g.at_ j from updP_same ..]
  have hb : isBox (some o) := by
   rcases ho with ⟨cs, rfl⟩ | ⟨ds, rfl⟩
   ·exact .inl ⟨cs, rfl⟩
   ·exact .inr ⟨ds, rfl⟩
  rcases h with ⟨cs, h⟩ | ⟨ds, h⟩
  ·rw [h]; exact ⟨hb, rfl⟩
  ·rw [h]; exact ⟨hb, rfl⟩
 ·have := OEvo.refl g obj j
  rw [updO_ne _ _ e, show (⟨updP g.at_ id (g.at_ id), im'⟩ : Gh).at_ j = g.at_ j from updP_ne _ _ e]
  exact this
theorem st_box (hH : HRel tab g obj w) {id off : Nat} {cs c cs' : List V} (ho : obj id = some (.box cs)) (hov : over cs off c = some cs') {us : List Value} (hc : CList tab g obj w c us) :
  (∀ j, j < us.length → (w.cell? (cellAt (g.at_ id).blk ((g.at_ id).lo + off + j))).isSome = true) ∧ (∀ j, j < us.length → w.frozen? (cellAt (g.at_ id).blk ((g.at_ id).lo + off + j)) = false) ∧
  ∃ g', Post tab g obj w g' (updO obj id (some (.box cs'))) (w.setCells (g.at_ id).blk ((g.at_ id).lo + off) us) := by
 obtain ⟨hle, rfl⟩ := over_some hov
 have hlen := hc.length
 obtain ⟨k1, us0, k2, k3⟩ := hH.ob id _ ho
 have hl0 := k2.length
 have hown : ∀ j, j < us.length → owns g obj id (g.at_ id).blk ((g.at_ id).lo + off + j) := fun j hj => by
  unfold owns; rw [ho]; exact ⟨rfl, by omega, by omega⟩
 have hcell : ∀ j, j < us.length → (w.cell? (cellAt (g.at_ id).blk ((g.at_ id).lo + off + j))).isSome = true := fun j hj => by
  have := k3 (off + j) us0[off + j] (Qd (by omega))
  rw [← Nat.add_assoc] at this
  rw [this]; rfl
 have hfr : ∀ j, j < us.length → w.frozen? (cellAt (g.at_ id).blk ((g.at_ id).lo + off + j)) = false := fun j hj => hH.frz id _ _ (hown j hj) (fun kvs => by rw [ho]; simp) _
 refine ⟨hcell, hfr, ⟨updP g.at_ id (g.at_ id), g.im⟩, ?_⟩
 obtain ⟨e1, e2, e3, e4⟩ := setCells_os (g.at_ id).blk us ((g.at_ id).lo + off) w
 have hat : updP g.at_ id (g.at_ id) = g.at_ := by funext j; unfold updP; split <;> simp_all
 have howns : ∀ b o, owns ⟨updP g.at_ id (g.at_ id), g.im⟩ (updO obj id (some (.box (cs.take off ++ c ++ cs.drop (off + c.length))))) id b o → owns g obj id b o := fun b o h => by
  unfold owns at *
  simp only [updO_same, updP_same] at h
  rw [ho]; exact h
 obtain ⟨h1, h2, h3⟩ := step1 (w' := w.setCells (g.at_ id).blk ((g.at_ id).lo + off) us) hH id (.box (cs.take off ++ c ++ cs.drop (off + c.length))) (g.at_ id) g.im e1 e2 e3 (by omega)
  (fun b hb => (blockEvo_setCells (g.at_ id).blk b us ((g.at_ id).lo + off) w).mono fun q ⟨m1, m2, m3⟩ => by
   subst m1; unfold owns; rw [ho]; exact ⟨rfl, by omega, by omega⟩)
  (fun b o h => h) (fun b o h => .inl h)
  (fun b o h => ⟨.inl (howns b o h), hH.imm id b o (howns b o h)⟩)
  (fun b o h _ q => by rw [World.frozen?_setCells]; exact hH.frz id b o (howns b o h) (fun kvs => by rw [ho]; simp) q)
  (.box (.inl ⟨cs, ho⟩) (.inl ⟨_, rfl⟩) _)
  (fun hv => by
   refine ⟨by simp; omega, us0.take off ++ us ++ us0.drop (off + c.length), ?_, ?_⟩
   ·exact (((k2.of_vals hv).take off).append (hc.of_vals hv)).append ((k2.of_vals hv).drop (off + c.length))
   ·have hin := holds_setCells (w := w) (vs := us) hcell
    have hold : ∀ (q : Nat), (q < off ∨ off + us.length ≤ q) → ∀ u, us0[q]? = some u → (w.setCells (g.at_ id).blk ((g.at_ id).lo + off) us).cell? (cellAt (g.at_ id).blk ((g.at_ id).lo + q)) = some u := fun q hq u hu => by
     rw [World.cell?_setCells_out _ _ _ _ _ (fun _ _ => by show (g.at_ id).lo + q < (g.at_ id).lo + off ∨ (g.at_ id).lo + off + us.length ≤ (g.at_ id).lo + q; omega)]
     exact k3 q u hu
    have A1 : Holds (w.setCells (g.at_ id).blk ((g.at_ id).lo + off) us) (g.at_ id).blk (g.at_ id).lo (us0.take off) := fun q u hq => by
     rw [List.getElem?_take] at hq
     split at hq
     ·exact hold q (.inl (by assumption)) u hq
     ·cases hq
    have A3 : Holds (w.setCells (g.at_ id).blk ((g.at_ id).lo + off) us) (g.at_ id).blk ((g.at_ id).lo + (off + c.length)) (us0.drop (off + c.length)) := fun q u hq => by
     rw [List.getElem?_drop] at hq
     have := hold (off + c.length + q) (.inr (by omega)) u hq
     rwa [← Nat.add_assoc] at this
    have hl1 : (us0.take off).length = off := by simp; omega
    refine Holds.append (Holds.append A1 ?_) ?_
    ·rw [hl1]; exact hin
    ·rw [Qg, hl1, hlen]; exact A3)
 exact ⟨h1, h2, h3⟩
end
open Go
open Go.RowKit (Below)
section
variable {P : Program} {tab : Tab} {g : Gh} {obj : Nat → Option Obj} {w : World}
theorem run_append_none {t u ty e : TypeId} (ht : P.underlying t = some (.slice e)) (hu : isSliceT P u = true) (hs : P.cellsOf e ≠ 0) (base A : Option Addr) (sLen sCap c : Nat) (hle : sLen ≤ sCap) :
  (Builtin.append_ #[t, u] ty #[.slice base sLen sCap, .slice A 0 c]).run P w = .ok (.slice base sLen sCap) w := by
 obtain ⟨d, hd⟩ : ∃ d, P.underlying u = some (.slice d) := by
  unfold isSliceT at hu
  split at hu
  ·exact ⟨_, by assumption⟩
  ·cases hu
 have hf : (Builtin.firstCells (P.cellsOf e) 0 (.slice A 0 c)).run P w = .ok #[] w := by
  cases A with
  | none => simp [Builtin.firstCells]
  | some a => simp [Builtin.firstCells, loadCells, loadCellsFrom]
 have hst : ∀ a : Addr, (storeCells a [] 0).run P w = .ok () w := fun a => rfl
 cases base with
 | none => simp [Builtin.append_, run_underlying ht, run_underlying hd, run_size hs, Builtin.lenOf, hle, hf]
 | some a => simp [Builtin.append_, run_underlying ht, run_underlying hd, run_size hs, Builtin.lenOf, hle, hf, hst]
theorem run_append_more {t u ty e : TypeId} {i : TypeInfo} {z : Value} (ht : P.underlying t = some (.slice e)) (hu : isSliceT P u = true) (hi : P.info? e = some i) (hz : i.zero = some z)
  (base A : Option Addr) (sLen sCap n c : Nat) (olds news : List Value)
  (hf1 : ∀ w', (∀ b o, w'.cell? (cellAt b o) = w.cell? (cellAt b o)) → (Builtin.firstCells i.size sLen (.slice base sLen sCap)).run P w' = .ok olds.toArray w')
  (hf2 : ∀ w', (∀ b o, w'.cell? (cellAt b o) = w.cell? (cellAt b o)) → (Builtin.firstCells i.size n (.slice A n c)).run P w' = .ok news.toArray w')
  (hg : sCap < sLen + n) (h63 : sLen + n ≤ 9223372036854775807) (hfit : Builtin.nextslicecap (sLen + n) sCap * i.bytes ≤ 281474976710656) :
  (Builtin.append_ #[t, u] ty #[.slice base sLen sCap, .slice A n c]).run P w =
   .ok (.slice (some ⟨w.heap.size, 0, none⟩) (sLen + n) (grownCap w (sLen + n) sCap e))
    (w.drew.alloc (.cells (olds ++ news ++ (Builtin.zeroCells z.cells (grownCap w (sLen + n) sCap e - (sLen + n))).toList).toArray e)) := by
 obtain ⟨d, hd⟩ : ∃ d, P.underlying u = some (.slice d) := by
  unfold isSliceT at hu
  split at hu
  ·exact ⟨_, by assumption⟩
  ·cases hu
 have hn : ¬ (sLen + n ≤ sCap) := by omega
 have h63' : ¬ (9223372036854775807 < ((sLen : Int) + (n : Int))) := by omega
 have h48' : ¬ (281474976710656 < Builtin.nextslicecap (sLen + n) sCap * i.bytes) := by omega
 have k1 := hf1 w.drew (fun _ _ => rfl)
 have k2 := hf2 w.drew (fun _ _ => rfl)
 simp [Builtin.append_, run_underlying ht, run_underlying hd, Go.sizeOf, typeInfo, zeroValue, hi, hz, Builtin.lenOf, hn, h63', h48', Question.forced, k1, k2, newRow, grownCap]
 congr 2
 apply Array.ext'
 simp
theorem firstCells_of {sz : Nat} {xs : List (List D)} {A : Option Addr} {c : Nat} (hs : ∀ r ∈ xs, r.length = sz) (h : xs = [] ∨ ∃ b o, A = some (cellAt b o) ∧ DRows tab g.im w b o xs) :
  ∃ us, DList tab g.im w xs.flatten us ∧ us.length = xs.length * sz ∧ (∀ w', (∀ b o, w'.cell? (cellAt b o) = w.cell? (cellAt b o)) → (Builtin.firstCells sz xs.length (.slice A xs.length c)).run P w' = .ok us.toArray w') ∧
   (∀ b o, A = some (cellAt b o) → xs = [] ∨ Holds w b o us) := by
 have nilcase : xs = [] → ∃ us, DList tab g.im w xs.flatten us ∧ us.length = xs.length * sz ∧ (∀ w', (∀ b o, w'.cell? (cellAt b o) = w.cell? (cellAt b o)) → (Builtin.firstCells sz xs.length (.slice A xs.length c)).run P w' = .ok us.toArray w') ∧
   (∀ b o, A = some (cellAt b o) → xs = [] ∨ Holds w b o us) := by
  rintro rfl
  refine ⟨[], by simp [DList], by simp, fun w' _ => ?_, fun _ _ _ => .inl rfl⟩
  cases A with
  | none => simp [Builtin.firstCells]
  | some a => simp [Builtin.firstCells, loadCells, loadCellsFrom]
 rcases h with h | ⟨b, o, rfl, h⟩
 ·exact nilcase h
 ·obtain ⟨us, k1, k2, k3⟩ := h.cells.get
  have hl : us.length = xs.length * sz := by rw [k2, flatten_length hs]
  refine ⟨us, k1, hl, fun w' hw => ?_, fun b' o' e => .inr ?_⟩
  ·show (loadCells (cellAt b o) (xs.length * sz)).run P w' = _
   rw [← hl]
   exact run_loadCells_list w' (cellAt b o) us (fun j v hj => by rw [add_at, hw]; exact k3 j v hj)
  ·injection e with e
   injection e with e1 e2
   subst e1; subst e2
   exact k3
theorem moreOf_rel {sz : Nat} {y : V} {ys : List (List D)} (h : moreOf sz y = some ys) {yv : Value} (hy : VRel tab g obj w y yv) :
  ∃ A c, yv = .slice A ys.length c ∧ (∀ r ∈ ys, r.length = sz) ∧ (ys = [] ∨ ∃ b o, A = some (cellAt b o) ∧ DRows tab g.im w b o ys) := by
 unfold moreOf at h
 split at h
 ·rename_i sz' ys'
  split at h
  ·rename_i e; subst e; cases h
   simp only [VRel, DRel] at hy
   obtain ⟨A, c, k1, k2, k3, k4⟩ := hy
   exact ⟨A, c, k1, k3, k4⟩
  ·cases h
 ·rename_i a b sz' ys'
  split at h
  ·rename_i e; subst e; cases h
   simp only [VRel, DRel] at hy
   obtain ⟨⟨A, c, k1, k2, k3, k4⟩, _⟩ := hy
   exact ⟨A, c, k1, k3, k4⟩
  ·cases h
 ·cases h
  simp only [VRel] at hy
  exact ⟨none, 0, hy, by simp, .inl rfl⟩
 ·cases h
def okTok (obj : Nat → Option Obj) (id ver sz : Nat) : Prop := obj id = none ∨ ∃ v, v < ver ∧ obj id = some (.tok v sz)
theorem OEvo.tok {id ver sz : Nat} (h : okTok obj id ver sz) (p : Place) (im' : Nat → Nat → Prop) : OEvo g obj ⟨updP g.at_ id p, im'⟩ (updO obj id (some (.tok ver sz))) := by
 rcases h with h | ⟨v, hv, h⟩
 ·exact .fresh h _ _ _
 ·intro j
  by_cases e : j = id
  ·subst e; rw [h]
   exact ⟨ver, sz, updO_same _ _ _, by omega, fun e => by omega⟩
  ·have := OEvo.refl g obj j
   rw [updO_ne _ _ e, show (⟨updP g.at_ id p, im'⟩ : Gh).at_ j = g.at_ j from updP_ne _ _ e]
   exact this
theorem VRel_own {id ver sz : Nat} {zs : List (List D)} {v : Value} (h1 : DRel tab g.im w (.l sz zs) v) (h2 : obj id = some (.tok ver sz))
  (h3 : ∃ A c, v = .slice A zs.length c ∧ (c = zs.length ∨ ∃ b o, A = some (cellAt b o) ∧ g.at_ id = ⟨b, o + zs.length * sz, (c - zs.length) * sz⟩)) : VRel tab g obj w (.own id ver sz zs) v := by
 simp only [VRel]
 exact ⟨h1, ver, sz, h2, Nat.le_refl _, fun _ => ⟨rfl, h3⟩⟩
theorem app_same (hH : HRel tab g obj w) {id ver sz : Nat} (ht : okTok obj id ver sz) (b lo cnt : Nat) (hp : (∃ v, obj id = some (.tok v sz)) ∧ g.at_ id = ⟨b, lo, cnt⟩ ∨ cnt = 0) :
  Post tab g obj w ⟨updP g.at_ id ⟨b, lo, cnt⟩, g.im⟩ (updO obj id (some (.tok ver sz))) w := by
 have howns : ∀ b' o, owns ⟨updP g.at_ id ⟨b, lo, cnt⟩, g.im⟩ (updO obj id (some (.tok ver sz))) id b' o → owns g obj id b' o := fun b' o h => by
  unfold owns at *
  simp only [updO_same, updP_same] at h
  rcases hp with ⟨⟨v, hv⟩, hp⟩ | hp
  ·rw [hv, hp]; exact h
  ·subst hp; omega
 obtain ⟨h1, h2, h3⟩ := step1 (w' := w) hH id (.tok ver sz) ⟨b, lo, cnt⟩ g.im rfl rfl rfl (Nat.le_refl _) (fun _ _ => .refl _) (fun _ _ h => h) (fun _ _ h => .inl h)
  (fun b' o h => ⟨.inl (howns b' o h), hH.imm id b' o (howns b' o h)⟩)
  (fun b' o h _ => hH.frz id b' o (howns b' o h) (fun kvs e => by rcases ht with ht | ⟨v, _, ht⟩ <;> rw [ht] at e <;> cases e))
  (.tok ht _ _)
  (fun _ q hq => by
   rcases hp with ⟨⟨v, hv⟩, hp⟩ | hp
   ·have := hH.ob id _ hv q (by rw [hp]; exact hq)
    rw [hp] at this; exact this
   ·subst hp; exact absurd hq (Nat.not_lt_zero _))
 exact ⟨h1, h2, h3⟩
def wd (w : World) (d : Nat) : World := { w with drawn := d }
theorem app_new (hH : HRel tab g obj w) (dr : Nat) {id ver sz : Nat} (ht : okTok obj id ver sz) {zs : List (List D)} {us rest : List Value} {e : TypeId} {cap : Nat} (hz : DList tab g.im w zs.flatten us) (hs : ∀ r ∈ zs, r.length = sz)
  (hcap : zs.length ≤ cap) (hrest : rest.length = (cap - zs.length) * sz) :
  ∃ g', Post tab g obj w g' (updO obj id (some (.tok ver sz))) ((wd w dr).alloc (.cells (us ++ rest).toArray e)) ∧
   VRel tab g' (updO obj id (some (.tok ver sz))) ((wd w dr).alloc (.cells (us ++ rest).toArray e)) (.own id ver sz zs) (.slice (some ⟨w.heap.size, 0, none⟩) zs.length cap) := by
 have hl : us.length = zs.length * sz := by rw [hz.length, flatten_length hs]
 have hmul : cap * sz = zs.length * sz + (cap - zs.length) * sz := by rw [← Nat.add_mul]; congr 1; omega
 have hsz : ((wd w dr).alloc (.cells (us ++ rest).toArray e)).heap.size = w.heap.size + 1 := Array.size_push ..
 have hblk : ∀ b, b < w.heap.size → ((wd w dr).alloc (.cells (us ++ rest).toArray e)).heap[b]? = w.heap[b]? := fun b hb => by
  show (w.heap.push _)[b]? = _; rw [Array.getElem?_push, if_neg (by omega)]
 let im' : Nat → Nat → Prop := fun b q => g.im b q ∨ (b = w.heap.size ∧ q < zs.length * sz)
 have hold : Holds ((wd w dr).alloc (.cells (us ++ rest).toArray e)) w.heap.size 0 (us ++ rest) := holds_alloc (wd w dr) (us ++ rest) e
 have hlen : (us ++ rest).length = cap * sz := by rw [Qg, hl, hrest, hmul]
 have howns : ∀ b q, owns ⟨updP g.at_ id ⟨w.heap.size, zs.length * sz, (cap - zs.length) * sz⟩, im'⟩ (updO obj id (some (.tok ver sz))) id b q → b = w.heap.size ∧ zs.length * sz ≤ q ∧ q < cap * sz := fun b q h => by
  unfold owns at h
  simp only [updO_same, updP_same] at h
  exact ⟨h.1, h.2.1, by omega⟩
 obtain ⟨h1, h2, h3⟩ := step1 (w' := (wd w dr).alloc (.cells (us ++ rest).toArray e)) hH id (.tok ver sz) ⟨w.heap.size, zs.length * sz, (cap - zs.length) * sz⟩ im' rfl rfl rfl (by omega)
  (fun b hb => .inl (hblk b hb)) (fun _ _ h => .inl h)
  (fun b q h => by
   rcases h with h | ⟨e, _⟩
   ·exact .inl h
   ·exact .inr (.inr ⟨by omega, by omega⟩))
  (fun b q h => by
   obtain ⟨rfl, k2, k3⟩ := howns b q h
   refine ⟨.inr ⟨Nat.le_refl _, by omega⟩, fun h => ?_⟩
   rcases h with h | h
   ·have := hH.imOld _ _ h; omega
   ·omega)
  (fun b q h _ q' => by
   obtain ⟨rfl, k2, k3⟩ := howns b q h
   show ((wd w dr).alloc _).frozen? ⟨(wd w dr).heap.size, q', none⟩ = false
   exact World.frozen?_alloc_new ..)
  (.tok ht _ _)
  (fun _ q hq => by
   have hq' : q < (cap - zs.length) * sz := hq
   have := hold (zs.length * sz + q) (us ++ rest)[zs.length * sz + q] (Qd (by omega))
   rw [Nat.zero_add] at this
   show (((wd w dr).alloc (.cells (us ++ rest).toArray e)).cell? (cellAt w.heap.size (zs.length * sz + q))).isSome = true
   rw [this]; rfl)
 refine ⟨_, ⟨h1, h2, h3⟩, VRel_own ?_ (updO_same _ _ _) ⟨_, _, rfl, .inr ⟨w.heap.size, 0, rfl, ?_⟩⟩⟩
 ·simp only [DRel]
  refine ⟨_, _, rfl, hcap, hs, .inr ⟨w.heap.size, 0, rfl, DRows.mk (DCells.mk (us := us) ?_ ?_ ?_)⟩⟩
  ·exact DList.mono (w := w) (fun _ _ h => .inl h) (fun b o h => (h2.blk b (hH.imOld b o h)).cell fun ⟨j, hj⟩ => hH.imm j b o hj h) _ _ hz
  ·exact fun q u hq => hold q u (by
    have hlt : q < us.length := by
     rcases Qn q us.length with h | h
     ·exact h
     ·rw [Qe h] at hq; cases hq
    rw [List.getElem?_append_left hlt]; exact hq)
  ·intro q hq
   rw [flatten_length hs] at hq
   exact .inr ⟨rfl, by omega⟩
 ·show updP g.at_ id _ id = _
  rw [updP_same, Nat.zero_add]
theorem app_room (hH : HRel tab g obj w) {id v0 ver sz : Nat} (ho : obj id = some (.tok v0 sz)) (hv : v0 < ver) {xs ys : List (List D)} {us : List Value} {b o c : Nat}
  (hx : DRows tab g.im w b o xs) (hxs : ∀ r ∈ xs, r.length = sz) (hat : g.at_ id = ⟨b, o + xs.length * sz, (c - xs.length) * sz⟩) (hroom : xs.length + ys.length ≤ c)
  (hy : DList tab g.im w ys.flatten us) (hys : ∀ r ∈ ys, r.length = sz) :
  (∀ j, j < us.length → (w.cell? (cellAt b (o + xs.length * sz + j))).isSome = true) ∧ (∀ j, j < us.length → w.frozen? (cellAt b (o + xs.length * sz + j)) = false) ∧
  ∃ g', Post tab g obj w g' (updO obj id (some (.tok ver sz))) (w.setCells b (o + xs.length * sz) us) ∧
   VRel tab g' (updO obj id (some (.tok ver sz))) (w.setCells b (o + xs.length * sz) us) (.own id ver sz (xs ++ ys)) (.slice (some (cellAt b o)) (xs.length + ys.length) c) := by
 have hl : us.length = ys.length * sz := by rw [hy.length, flatten_length hys]
 have hmul : (c - xs.length) * sz = ys.length * sz + (c - (xs.length + ys.length)) * sz := by rw [← Nat.add_mul]; congr 1; omega
 have hown : ∀ j, j < (c - xs.length) * sz → owns g obj id b (o + xs.length * sz + j) := fun j hj => by
  unfold owns; rw [ho, hat]; exact ⟨rfl, by show o + xs.length * sz ≤ _; omega, by show _ < o + xs.length * sz + (c - xs.length) * sz; omega⟩
 have hcell : ∀ j, j < (c - xs.length) * sz → (w.cell? (cellAt b (o + xs.length * sz + j))).isSome = true := fun j hj => by
  have := hH.ob id _ ho j (by rw [hat]; exact hj)
  rw [hat] at this; exact this
 have hcell' : ∀ j, j < us.length → (w.cell? (cellAt b (o + xs.length * sz + j))).isSome = true := fun j hj => hcell j (by omega)
 have hfr : ∀ j, j < us.length → w.frozen? (cellAt b (o + xs.length * sz + j)) = false := fun j hj => hH.frz id _ _ (hown j (by omega)) (fun kvs => by rw [ho]; simp) _
 refine ⟨hcell', hfr, ?_⟩
 obtain ⟨e1, e2, e3, e4⟩ := setCells_os b us (o + xs.length * sz) w
 have hadd : (xs.length + ys.length) * sz = xs.length * sz + ys.length * sz := Nat.add_mul ..
 let p' : Place := ⟨b, o + (xs.length + ys.length) * sz, (c - (xs.length + ys.length)) * sz⟩
 let im' : Nat → Nat → Prop := fun b' q => g.im b' q ∨ (b' = b ∧ o + xs.length * sz ≤ q ∧ q < o + xs.length * sz + ys.length * sz)
 have howns : ∀ b' q, owns ⟨updP g.at_ id p', im'⟩ (updO obj id (some (.tok ver sz))) id b' q → b' = b ∧ o + xs.length * sz + ys.length * sz ≤ q ∧ q < o + xs.length * sz + (c - xs.length) * sz := fun b' q h => by
  unfold owns at h
  simp only [updO_same, updP_same] at h
  obtain ⟨h1, h2, h3⟩ := h
  have h2' : o + (xs.length + ys.length) * sz ≤ q := h2
  have h3' : q < o + (xs.length + ys.length) * sz + (c - (xs.length + ys.length)) * sz := h3
  exact ⟨h1, by omega, by omega⟩
 have hown0 : ∀ b' q, b' = b → o + xs.length * sz ≤ q → q < o + xs.length * sz + (c - xs.length) * sz → owns g obj id b' q := fun b' q h1 h2 h3 => by
  subst h1
  have := hown (q - (o + xs.length * sz)) (by omega)
  rwa [show o + xs.length * sz + (q - (o + xs.length * sz)) = q by omega] at this
 obtain ⟨h1, h2, h3⟩ := step1 (w' := w.setCells b (o + xs.length * sz) us) hH id (.tok ver sz) p' im' e1 e2 e3 (by omega)
  (fun b' hb => (blockEvo_setCells b b' us (o + xs.length * sz) w).mono fun q ⟨m1, m2, m3⟩ => hown0 b' q m1 m2 (by omega))
  (fun _ _ h => .inl h)
  (fun b' q h => by
   rcases h with h | ⟨k1, k2, k3⟩
   ·exact .inl h
   ·exact .inr (.inl (hown0 b' q k1 k2 (by omega))))
  (fun b' q h => by
   obtain ⟨k1, k2, k3⟩ := howns b' q h
   have hw := hown0 b' q k1 (by omega) k3
   refine ⟨.inl hw, fun h => ?_⟩
   rcases h with h | h
   ·exact hH.imm id _ _ hw h
   ·omega)
  (fun b' q h _ q' => by
   obtain ⟨k1, k2, k3⟩ := howns b' q h
   rw [World.frozen?_setCells]
   exact hH.frz id _ _ (hown0 b' q k1 (by omega) k3) (fun kvs => by rw [ho]; simp) q')
  (.tok (.inr ⟨v0, hv, ho⟩) _ _)
  (fun _ q hq => by
   have hq' : q < (c - (xs.length + ys.length)) * sz := hq
   show ((w.setCells b (o + xs.length * sz) us).cell? (cellAt b (o + (xs.length + ys.length) * sz + q))).isSome = true
   rw [World.cell?_setCells_out _ _ _ _ _ (fun _ _ => by show o + (xs.length + ys.length) * sz + q < o + xs.length * sz ∨ o + xs.length * sz + us.length ≤ o + (xs.length + ys.length) * sz + q; omega)]
   have := hcell (ys.length * sz + q) (by omega)
   rwa [show o + xs.length * sz + (ys.length * sz + q) = o + (xs.length + ys.length) * sz + q by omega] at this)
 have hcI : ∀ b' q, g.im b' q → (w.setCells b (o + xs.length * sz) us).cell? (cellAt b' q) = w.cell? (cellAt b' q) := fun b' q h => (h2.blk b' (hH.imOld b' q h)).cell fun ⟨j, hj⟩ => hH.imm j b' q hj h
 refine ⟨_, ⟨h1, h2, h3⟩, VRel_own ?_ (updO_same _ _ _) ⟨_, _, by rw [Qg], .inr ⟨b, o, rfl, ?_⟩⟩⟩
 ·simp only [DRel, Qg]
  refine ⟨_, _, rfl, hroom, fun r hr => (List.mem_append.1 hr).elim (hxs r) (hys r), .inr ⟨b, o, rfl, ?_⟩⟩
  refine DRows.append (sz := sz) (DRows.mono (w := w) (fun _ _ h => .inl h) hcI _ _ _ hx) hxs (DRows.mk (DCells.mk (us := us) ?_ (holds_setCells hcell') ?_))
  ·exact DList.mono (w := w) (fun _ _ h => .inl h) hcI _ _ hy
  ·intro q hq
   rw [flatten_length hys] at hq
   exact .inr ⟨rfl, by omega, by omega⟩
 ·show updP g.at_ id p' id = _
  rw [updP_same, Qg]
theorem roomy_le {n b : Nat} (h : roomy n b = true) (hb : b ≠ 0) : n ≤ 17592186044416 ∧ n * b ≤ 17592186044416 := by
 unfold roomy at h
 have h := of_decide_eq_true h
 refine ⟨?_, h⟩
 have : n * 1 ≤ n * b := Nat.mul_le_mul_left _ (by omega)
 omega
theorem app_sound (hH : HRel tab g obj w) {t u ty e : TypeId} (ht : P.underlying t = some (.slice e)) (hu : isSliceT P u = true) (hc : P.cellsOf e ≠ 0) (hb : P.bytesOf e ≠ 0) (hz : (zeroOf P e).isSome = true)
  {a b : A} {x y : V} {fresh : Nat} (hf : obj fresh = none) {r : Res} (h : actApp (P.cellsOf e) (P.bytesOf e) fresh [x, y] ((Cop.ids (.app (P.cellsOf e) (P.bytesOf e) a b) [x, y]).map obj) = some r)
  {xv yv : Value} (hx : VRel tab g obj w x xv) (hy : VRel tab g obj w y yv) :
  ∃ id ver zs, r.v = .own id ver (P.cellsOf e) zs ∧ ((∃ v sz', x = .own id v sz' zs ∨ True) ∧
   ((r.os = [] ∧ r.nw = some (.tok ver (P.cellsOf e)) ∧ id = fresh ∧ Cop.ids (.app (P.cellsOf e) (P.bytesOf e) a b) [x, y] = []) ∨
    (r.os = [some (.tok ver (P.cellsOf e))] ∧ r.nw = none ∧ Cop.ids (.app (P.cellsOf e) (P.bytesOf e) a b) [x, y] = [id]))) ∧
  ∃ g' v w', (Builtin.append_ #[t, u] ty #[xv, yv]).run P w = .ok v w' ∧ Post tab g obj w g' (updO obj id (some (.tok ver (P.cellsOf e)))) w' ∧ VRel tab g' (updO obj id (some (.tok ver (P.cellsOf e)))) w' r.v v := by
 obtain ⟨i, hi, his⟩ := info_of hc
 have hib : i.bytes = P.bytesOf e := by unfold Program.bytesOf; simp [hi]
 obtain ⟨z, hiz, hzs⟩ : ∃ z, i.zero = some z ∧ z.cells.size = P.cellsOf e := by
  obtain ⟨zv, hzv⟩ := Option.isSome_iff_exists.1 hz
  unfold zeroOf at hzv
  rw [hi] at hzv
  simp only [Option.bind_some] at hzv
  split at hzv
  ·rename_i cs z hcs hz0
   refine ⟨z, hz0, ?_⟩
   split at hzv
   ·split at hzv
    ·rename_i hcond
     simp only [Qi, Qh] at hcond
     have := fitV_rel (tab := tab) (g := g) (obj := obj) (w := w) hcond.1
     simp only [VRel] at this
     obtain ⟨vs, rfl, hcl⟩ := this
     have := hcl.length
     simp [Value.cells, this, hcond.2]
    ·cases hzv
   ·split at hzv
    ·rename_i c
     split at hzv
     ·rename_i hcond
      simp only [Qi, Qh] at hcond
      have h1 := (fitC_rel (tab := tab) (g := g) (obj := obj) (w := w) hcond.1).2
      cases z <;> simp_all [Value.cells, Value.oneCell']
     ·cases hzv
    ·cases hzv
  ·cases hzv
 have grow : ∀ (id ver : Nat) (xs ys : List (List D)) (base A : Option Addr) (sCap c : Nat), okTok obj id ver (P.cellsOf e) → (∀ r ∈ xs, r.length = P.cellsOf e) → (∀ r ∈ ys, r.length = P.cellsOf e) →
   (xs = [] ∨ ∃ b o, base = some (cellAt b o) ∧ DRows tab g.im w b o xs) → (ys = [] ∨ ∃ b o, A = some (cellAt b o) ∧ DRows tab g.im w b o ys) → roomy (xs.length + ys.length) (P.bytesOf e) = true → sCap < xs.length + ys.length →
   ∃ g' v w', (Builtin.append_ #[t, u] ty #[.slice base xs.length sCap, .slice A ys.length c]).run P w = .ok v w' ∧ Post tab g obj w g' (updO obj id (some (.tok ver (P.cellsOf e)))) w' ∧
    VRel tab g' (updO obj id (some (.tok ver (P.cellsOf e)))) w' (.own id ver (P.cellsOf e) (xs ++ ys)) v := by
  intro id ver xs ys base A sCap c hT hxs hys hX hY hr hg
  obtain ⟨r1, r2⟩ := roomy_le hr hb
  obtain ⟨us, k1, k2, k3, _⟩ := firstCells_of (P := P) (c := sCap) hxs hX
  obtain ⟨vs, m1, m2, m3, _⟩ := firstCells_of (P := P) (c := c) hys hY
  rw [← his] at k3 m3
  have hrun := run_append_more (w := w) (ty := ty) ht hu hi hiz base A xs.length sCap ys.length c us vs k3 m3 hg (by omega) (growslice_fits hg (by rw [hib]; omega))
  have hge := grownCap_ge w (xs.length + ys.length) sCap e
  have hfl : (xs ++ ys).flatten = xs.flatten ++ ys.flatten := List.flatten_append ..
  obtain ⟨g', h1, h2⟩ := app_new (dr := w.drawn + 1) (e := e) (cap := grownCap w (xs.length + ys.length) sCap e) (zs := xs ++ ys) (us := us ++ vs) (rest := (Builtin.zeroCells z.cells (grownCap w (xs.length + ys.length) sCap e - (xs.length + ys.length))).toList) hH hT
   (by rw [hfl]; exact k1.append m1) (fun r hr => (List.mem_append.1 hr).elim (hxs r) (hys r)) (by rw [Qg]; exact hge)
   (by rw [Array.length_toList, size_zeroCells, hzs, Qg])
  rw [Qg] at h2
  exact ⟨g', _, _, hrun, h1, h2⟩
 have hids : ∀ x, (Cop.ids (.app (P.cellsOf e) (P.bytesOf e) a b) [x, y]) = (match x with | .own id _ _ _ => [id] | _ => []) := by
  intro x; cases x <;> rfl
 cases x with
 | nil n =>
  simp only [Cop.ids, Qc, actApp] at h
  split at h
  ·rename_i ys hys
   split at h
   ·rename_i hr
    cases h
    obtain ⟨A, c, rfl, hs, hY⟩ := moreOf_rel hys hy
    simp only [VRel] at hx
    subst hx
    refine ⟨fresh, 0, ys, rfl, ⟨⟨0, 0, .inr trivial⟩, .inl ⟨rfl, rfl, rfl, rfl⟩⟩, ?_⟩
    by_cases hn : ys = []
    ·subst hn
     refine ⟨_, _, _, run_append_none ht hu hc none A 0 0 c (Nat.le_refl _), app_same hH (.inl hf) 0 0 0 (.inr rfl), VRel_own ?_ (updO_same _ _ _) ⟨none, 0, rfl, .inl rfl⟩⟩
     simp only [DRel]; exact ⟨none, 0, rfl, Nat.le_refl _, by simp, .inl trivial⟩
    ·have hpos : 0 < ys.length := List.length_pos_iff.2 hn
     have := grow fresh 0 [] ys none A 0 c (.inl hf) (by simp) hs (.inl rfl) hY (by simpa using hr) (by simpa using hpos)
     simpa using this
   ·cases h
  ·cases h
 | own id ver sz xs =>
  simp only [Cop.ids, Qb, Qc] at h
  have hx0 := hx
  simp only [VRel] at hx
  obtain ⟨hd, ver', sz', ho, hle, hx⟩ := hx
  simp only [actApp, ho] at h
  split at h
  ·rename_i he
   obtain ⟨he1, he2, he3⟩ := he
   subst he1; subst he2; subst he3
   obtain ⟨_, A0, c0, hxv, hsp⟩ := hx rfl
   split at h
   ·rename_i ys hys
    split at h
    ·rename_i hr
     cases h
     obtain ⟨A, c, rfl, hs, hY⟩ := moreOf_rel hys hy
     simp only [DRel] at hd
     obtain ⟨A1, c1, hxv1, hlc, hxs, hX⟩ := hd
     rw [hxv1] at hxv
     injection hxv with q1 q2 q3
     subst q1; subst q3; subst hxv1
     refine ⟨id, ver + 1, xs ++ ys, rfl, ⟨⟨0, 0, .inr trivial⟩, .inr ⟨rfl, rfl, rfl⟩⟩, ?_⟩
     by_cases hn : ys = []
     ·subst hn
      have hrun := run_append_none (w := w) (ty := ty) ht hu hc A1 A xs.length c1 c hlc
      simp only [List.append_nil, List.length_nil]
      refine ⟨_, _, _, hrun, app_same hH (.inr ⟨ver, by omega, ho⟩) (g.at_ id).blk (g.at_ id).lo (g.at_ id).cnt (.inl ⟨⟨ver, ho⟩, rfl⟩), VRel_own ?_ (updO_same _ _ _) ⟨A1, c1, rfl, ?_⟩⟩
      ·simp only [DRel]; exact ⟨A1, c1, rfl, hlc, hxs, hX⟩
      ·refine hsp.imp (fun h => h) fun ⟨b, o, k1, k2⟩ => ⟨b, o, k1, ?_⟩
       show updP g.at_ id _ id = _
       rw [updP_same, k2]
     ·by_cases hroom : xs.length + ys.length ≤ c1
      ·have hpos : 0 < ys.length := List.length_pos_iff.2 hn
       rcases hsp with hsp | ⟨b, o, k1, k2⟩
       ·omega
       ·subst k1
        obtain ⟨vs, m1, m2, m3, m4⟩ := firstCells_of (P := P) (c := c) hs hY
        rcases hY with hY | ⟨b', o', rfl, hY⟩
        ·exact absurd hY hn
        ·have hXr : DRows tab g.im w b o xs := by
          rcases hX with hX | ⟨b2, o2, q, hX⟩
          ·subst hX; simp [DRows]
          ·injection q with q; injection q with q1 q2; subst q1; subst q2; exact hX
         obtain ⟨c1', c2', g', h1, h2⟩ := app_room hH ho (Nat.lt_succ_self ver) hXr hxs k2 hroom m1 hs
         obtain ⟨d, hd⟩ : ∃ d, P.underlying u = some (.slice d) := by
          unfold isSliceT at hu
          split at hu
          ·exact ⟨_, by assumption⟩
          ·cases hu
         have hst := run_storeCells_cells (P := P) b (o + xs.length * P.cellsOf e) vs 0 w (by simpa using c1') (by simpa using c2') m1.ones
         simp only [Nat.add_zero] at hst
         have hfc := m3 w (fun _ _ => rfl)
         have hadd : (cellAt b o).add (xs.length * P.cellsOf e) = cellAt b (o + xs.length * P.cellsOf e) := add_at _ _ _
         refine ⟨g', _, _, ?_, h1, h2⟩
         simp [Builtin.append_, run_underlying ht, run_underlying hd, run_size hc, Builtin.lenOf, hroom, hfc, hadd, hst]
      ·exact grow id (ver + 1) xs ys A1 A c1 c (.inr ⟨ver, by omega, ho⟩) hxs hs hX hY hr (by omega)
    ·cases h
   ·cases h
  ·cases h
 | _ => simp [Cop.ids, actApp] at h
end
end Ab
