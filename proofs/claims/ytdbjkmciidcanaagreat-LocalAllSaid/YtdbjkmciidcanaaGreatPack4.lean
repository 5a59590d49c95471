/-
 The interpreter again, told by recursors: the kernel reckons it quickly. It is the same one.
-/
import Derived.Test.YtdbjkmciidcanaaGreatPack3
set_option linter.unusedSimpArgs false
set_option linter.unusedVariables false
set_option linter.unusedSectionVars false
set_option linter.unnecessarySimpa false
namespace Ab
open Go
noncomputable section
def aMv (_:A)(vs:List V)(os:List (Option Obj))(fresh:Nat):Option Res :=
 match vs with | [v]=>some ⟨v,os,none⟩ | _=>none
def Zjw (_:A)(_:A)(_:A)(vs:List V)(os:List (Option Obj))(fresh:Nat):Option Res :=
 match vs with
  | [.d (.b c),a,b]=>some ⟨if c then a else b,os,none⟩
  | _=>none
def Zjx (z:V)(vs:List V)(os:List (Option Obj))(fresh:Nat):Option Res :=
 some ⟨.ptr fresh 0,os,some (.box z.cells)⟩
def Znx (_:A)(vs:List V)(os:List (Option Obj))(fresh:Nat):Option Res :=
 match vs with
  | [v]=>match v.cel with | some c=>some ⟨.ptr fresh 0,os,some (.box c)⟩ | none=>none
  | _=>none
def Za9 (z:List V)(ps:List (Nat × Nat × A))(vs:List V)(os:List (Option Obj))(fresh:Nat):Option Res :=
 match ziw z (z54 ps vs) with | some cs=>some ⟨.agg cs,os,none⟩ | none=>none
def Zny (sz:Nat)(len:Nat)(z:List D)(ps:List (Nat × A))(vs:List V)(os:List (Option Obj))(fresh:Nat):Option Res :=
 match zix sz (List.replicate len z) (zy6 ps vs) with
  | some xs=>some ⟨.own fresh 0 sz xs,os,some (.tok 0 sz)⟩
  | none=>none
def Znz (sz:Nat)(len:Nat)(z:List D)(ps:List (Nat × A))(vs:List V)(os:List (Option Obj))(fresh:Nat):Option Res :=
 match ziz sz (List.replicate len (ofDs z)) (zy6 ps vs) with
  | some xs=>some ⟨.arr fresh 0 0 len,os,some (.arr 0 sz xs)⟩
  | none=>none
def aLd (agg:Bool)(n:Nat)(_:A)(vs:List V)(os:List (Option Obj))(fresh:Nat):Option Res :=
 zia (zfg agg n vs os) os
def aSt (n:Nat)(_:A)(_:A)(vs:List V)(os:List (Option Obj))(fresh:Nat):Option Res :=
 match zga n vs os with | some os'=>some ⟨.undef,os',none⟩ | none=>none
def Zjy (_:A)(vs:List V)(os:List (Option Obj))(fresh:Nat):Option Res :=
 match vs with
  | [.ptr id off]=>some ⟨.ptr id off,os,none⟩
  | [.pm id ver idx off]=>some ⟨.pm id ver idx off,os,none⟩
  | [.d (.q ds off)]=>some ⟨.d (.q ds off),os,none⟩
  | [.d (.f k a c)]=>some ⟨.d (.f k a c),os,none⟩
  | [.fn k a c]=>some ⟨.fn k a c,os,none⟩
  | _=>none
def Zn0 (op:BinOp)(_:A)(_:A)(vs:List V)(os:List (Option Obj))(fresh:Nat):Option Res :=
 match vs with | [x,y]=>z1v (binOp op x y) os | _=>none
def Zn1 (ks:List CK)(neg:Bool)(_:A)(_:A)(vs:List V)(os:List (Option Obj))(fresh:Nat):Option Res :=
 match vs with
  | [.agg x,.agg y]=>match V.toDs x,V.toDs y with
   | some x,some y=>match zb8 ks x y with | some r=>some ⟨.d (.b (if neg then !r else r)),os,none⟩ | none=>none
   | _,_=>none
  | _=>none
def Zn2 (neg:Bool)(_:A)(_:A)(vs:List V)(os:List (Option Obj))(fresh:Nat):Option Res :=
 match vs with
  | [.d (.b x),.d (.b y)]=>some ⟨.d (.b (if neg then x != y else x == y)),os,none⟩
  | _=>none
def aUn (op:UnOp)(_:A)(vs:List V)(os:List (Option Obj))(fresh:Nat):Option Res :=
 match vs with | [x]=>z1v (unOp op x) os | _=>none
def Zjz (neg:Bool)(_:A)(vs:List V)(os:List (Option Obj))(fresh:Nat):Option Res :=
 match vs with
  | [x]=>match zj5 x with | some r=>some ⟨.d (.b (if neg then !r else r)),os,none⟩ | none=>none
  | _=>none
def Zj0 (k:IntKind)(_:A)(vs:List V)(os:List (Option Obj))(fresh:Nat):Option Res :=
 match vs with | [.d (.i _ n)]=>some ⟨.d (.i k (k.wrap n)),os,none⟩ | _=>none
def Zn3 (_:A)(vs:List V)(os:List (Option Obj))(fresh:Nat):Option Res :=
 match vs with | [.d (.s x)]=>some ⟨.d (.s x),os,none⟩ | _=>none
def Zn4 (key:Nat)(f:List A)(_:List A)(frz:Bool)(vs:List V)(os:List (Option Obj))(fresh:Nat):Option Res :=
  if frz then match zg9 (za5 vs),zav vs os with
   | true,some (c,os')=>some ⟨.d (.f key (c.take f.length) (c.drop f.length)),os',none⟩
   | true,none=>match os.all Option.isSome with
    | true=>some ⟨.fn key (vs.take f.length) (vs.drop f.length),os,none⟩
    | false=>none
   | _,_=>none
  else some ⟨.fn key (vs.take f.length) (vs.drop f.length),os,none⟩
def Zn5  (vs:List V) (os:List (Option Obj)) (fresh:Nat):Option Res :=
 some ⟨.map fresh,os,some (.map [])⟩
def Zn6 (sz:Nat)(bytes:Nat)(z:List D)(ow:Bool)(_:A)(_:A)(vs:List V)(os:List (Option Obj))(fresh:Nat):Option Res :=
 match vs with
  | [.d (.i _ l),.d (.i _ c)]=>if 0 ≤ l∧l ≤ c∧za4 c.toNat bytes then
    if l=0 ∨ ow=true then some ⟨.own fresh 0 sz (List.replicate l.toNat z),os,some (.tok 0 sz)⟩
    else if l=c then some ⟨.arr fresh 0 0 l.toNat,os,some (.arr 0 sz (List.replicate l.toNat (ofDs z)))⟩ else none
   else none
  | _=>none
def Zn7 (_:A)(vs:List V)(os:List (Option Obj))(fresh:Nat):Option Res :=
 match vs with
  | [v]=>match zh9 v with | some b=>some ⟨.d (.s b),os,none⟩ | none=>none
  | _=>none
def Zn8 (sz:Nat)(_:A)(lo:Option A)(hi:Option A)(vs:List V)(os:List (Option Obj))(fresh:Nat):Option Res :=
 match vs,lo,hi with
  | [x],none,none=>zia (zcr sz x none none os) os
  | [x,l],some _,none=>zia (zcr sz x (some l) none os) os
  | [x,h],none,some _=>zia (zcr sz x none (some h) os) os
  | [x,l,h],some _,some _=>zia (zcr sz x (some l) (some h) os) os
  | _,_,_=>none
def Zn9 (_:A)(lo:Option A)(hi:Option A)(vs:List V)(os:List (Option Obj))(fresh:Nat):Option Res :=
 match vs,lo,hi with
  | [.d (.s x)],none,none=>some ⟨.d (.s x),os,none⟩
  | [.d (.s x),l],some _,none=>match zbi (some l) none x.length with | some (l,h)=>some ⟨.d (.s ((x.take h).drop l)),os,none⟩ | none=>none
  | [.d (.s x),h],none,some _=>match zbi none (some h) x.length with | some (l,h)=>some ⟨.d (.s ((x.take h).drop l)),os,none⟩ | none=>none
  | [.d (.s x),l,h],some _,some _=>match zbi (some l) (some h) x.length with | some (l,h)=>some ⟨.d (.s ((x.take h).drop l)),os,none⟩ | none=>none
  | _,_,_=>none
def aFa (off:Nat)(_:A)(vs:List V)(os:List (Option Obj))(fresh:Nat):Option Res :=
 match vs with
  | [.ptr id o]=>some ⟨.ptr id (o + off),os,none⟩
  | [.pm id ver idx o]=>some ⟨.pm id ver idx (o + off),os,none⟩
  | [.d (.q ds o)]=>some ⟨.d (.q ds (o + off)),os,none⟩
  | _=>none
def aFl (agg:Bool)(off:Nat)(n:Nat)(_:A)(vs:List V)(os:List (Option Obj))(fresh:Nat):Option Res :=
 match vs with
  | [.agg cs]=>match zbn cs off n with | some c=>zia (ze7 agg n c) os | none=>none
  | _=>none
def aIa (sz:Nat)(_:A)(_:A)(vs:List V)(os:List (Option Obj))(fresh:Nat):Option Res :=
 zia (zss sz vs os) os
def Zoa (len:Nat)(sz:Nat)(_:A)(_:A)(vs:List V)(os:List (Option Obj))(fresh:Nat):Option Res :=
 match vs with
  | [.ptr id o,.d (.i _ i)]=>if 0 ≤ i∧i < len then some ⟨.ptr id (o + i.toNat * sz),os,none⟩ else none
  | [.d (.q ds o),.d (.i _ i)]=>if 0 ≤ i∧i < len then some ⟨.d (.q ds (o + i.toNat * sz)),os,none⟩ else none
  | _=>none
def Zob (_:A)(_:A)(vs:List V)(os:List (Option Obj))(fresh:Nat):Option Res :=
 match vs with
  | [.d (.s x),.d (.i _ i)]=>if 0 ≤ i then match x[i.toNat]? with | some c=>some ⟨.d (.i .u8 c.toNat),os,none⟩ | none=>none else none
  | _=>none
def Zoc (agg:Bool)(len:Nat)(sz:Nat)(_:A)(_:A)(vs:List V)(os:List (Option Obj))(fresh:Nat):Option Res :=
 match vs with
  | [.agg cs,.d (.i _ i)]=>if 0 ≤ i∧i < len then match zbn cs (i.toNat * sz) sz with | some c=>zia (ze7 agg sz c) os | none=>none else none
  | _=>none
def Zod (k:Nat)(_:A)(vs:List V)(os:List (Option Obj))(fresh:Nat):Option Res :=
 match k,vs,os with
  | 1,[.d (.s x)],os=>some ⟨.d (.i .i64 x.length),os,none⟩
  | 0,[.d (.l _ xs)],os=>some ⟨.d (.i .i64 xs.length),os,none⟩
  | 0,[.own _ _ _ xs],os=>some ⟨.d (.i .i64 xs.length),os,none⟩
  | 0,[.nil _],os=>some ⟨.d (.i .i64 0),os,none⟩
  | 0,[.arr _ _ _ n],os=>some ⟨.d (.i .i64 n),os,none⟩
  | 2,[.map _],[some (.map kvs)]=>some ⟨.d (.i .i64 kvs.length),[some (.map kvs)],none⟩
  | _,_,_=>none
def Zoe (sz:Nat)(bytes:Nat)(_:A)(_:A)(vs:List V)(os:List (Option Obj))(fresh:Nat):Option Res :=
 zdw sz bytes fresh vs os
def Zof (sz:Nat)(bytes:Nat)(_:A)(_:A)(vs:List V)(os:List (Option Obj))(fresh:Nat):Option Res :=
 zfn sz bytes fresh vs os
def Zog (sz:Nat)(bytes:Nat)(z:List D)(_:A)(_:A)(vs:List V)(os:List (Option Obj))(fresh:Nat):Option Res :=
 zni sz bytes fresh z vs os
def Zj1 (_:A)(vs:List V)(os:List (Option Obj))(fresh:Nat):Option Res :=
 match vs with | [.nil _]=>some ⟨.d (.i .i64 0),os,none⟩ | _=>none
def Zj2 (neg:Bool)(_:A)(vs:List V)(os:List (Option Obj))(fresh:Nat):Option Res :=
 match vs with
  | [x]=>match zsu x with | some r=>some ⟨.d (.b (if neg then !r else r)),os,none⟩ | none=>none
  | _=>none
def aMm (mx:Bool)(_:List A)(vs:List V)(os:List (Option Obj))(fresh:Nat):Option Res :=
 z1v (zh8 mx vs) os
def aLk (ag:Bool)(ks:List CK)(ok:Bool)(zero:V)(_:A)(_:A)(vs:List V)(os:List (Option Obj))(fresh:Nat):Option Res :=
 zia (zoe ag ks ok zero vs os) os
def aMu (ag:Bool)(ks:List CK)(_:A)(_:A)(_:A)(vs:List V)(os:List (Option Obj))(fresh:Nat):Option Res :=
 match zj6 ag ks vs os with | some os'=>some ⟨.undef,os',none⟩ | none=>none
def Zoh (ag:Bool)(ks:List CK)(_:A)(_:A)(vs:List V)(os:List (Option Obj))(fresh:Nat):Option Res :=
 match zf2 ag ks vs os with | some os'=>some ⟨.undef,os',none⟩ | none=>none
def Zoi (_:A)(vs:List V)(os:List (Option Obj))(fresh:Nat):Option Res :=
 zha vs os
def Zj3 (_:Nat)(_:List A)(_:Nat)(_:Bool)(vs:List V)(os:List (Option Obj))(fresh:Nat):Option Res :=
 none
def Zba (_:A)(_:List A)(_:Nat)(_:Bool)(vs:List V)(os:List (Option Obj))(fresh:Nat):Option Res :=
 none
def Zj4 (_:Nat)(_:List A)(vs:List V)(os:List (Option Obj))(fresh:Nat):Option Res :=
 none
def Zbb (_:Nat)(_:List A)(_:Nat)(vs:List V)(os:List (Option Obj))(fresh:Nat):Option Res :=
 none
def Zoj (_:A)(i:Nat)(vs:List V)(os:List (Option Obj))(fresh:Nat):Option Res :=
 match vs with
  | [.tup ws]=>match ws[i]? with | some w=>some ⟨w,os,none⟩ | none=>none
  | _=>none
def Zok  (vs:List V) (os:List (Option Obj)) (fresh:Nat):Option Res :=
 none
def Zm1:Cop→List V→List (Option Obj)→Nat→Option Res :=
 @Cop.rec (fun _=>List V→List (Option Obj)→Nat→Option Res) aMv Zjw Zjx Znx Za9 Zny Znz aLd aSt Zjy Zn0 Zn1 Zn2 aUn Zjz Zj0 Zn3 Zn4 Zn5 Zn6 Zn7 Zn8 Zn9 aFa aFl aIa Zoa Zob Zoc Zod Zoe Zof Zog Zj1 Zj2 aMm aLk aMu Zoh Zoi Zj3 Zba Zj4 Zbb Zoj Zok
theorem z7s (op:Cop):Zm1 op=act op:=by cases op <;> rfl
def vD:V→Option D:=@V.rec (fun _=>Option D) (fun _=>Unit) some (fun _=>none) (fun _ _ _ _=>none) (fun _ _ _ _=>none) (fun _ _=>none) (fun _ _ _ _=>none) (fun _=>none) (fun _ _ _ _ _=>none) (fun _ _=>none) (fun _ _=>none) none () (fun _ _ _ _=>())
def z26:V→Option (Nat × Nat):=@V.rec (fun _=>Option (Nat × Nat)) (fun _=>Unit) (fun _=>none) (fun _=>none) (fun _ _ _ _=>none) (fun _ _ _ _=>none) (fun a b=>some (a,b)) (fun _ _ _ _=>none) (fun _=>none) (fun _ _ _ _ _=>none) (fun _ _=>none) (fun _ _=>none) none () (fun _ _ _ _=>())
def z7t:V→Option (List V):=@V.rec (fun _=>Option (List V)) (fun _=>Unit) (fun _=>none) (fun _=>none) (fun _ _ _ _=>none) (fun _ _ _ _=>none) (fun _ _=>none) (fun _ _ _ _=>none) (fun _=>none) (fun _ _ _ _ _=>none) (fun cs _=>some cs) (fun _ _=>none) none () (fun _ _ _ _=>())
def Zj5:V→Option (List V):=@V.rec (fun _=>Option (List V)) (fun _=>Unit) (fun _=>none) (fun _=>none) (fun _ _ _ _=>none) (fun _ _ _ _=>none) (fun _ _=>none) (fun _ _ _ _=>none) (fun _=>none) (fun _ _ _ _ _=>none) (fun _ _=>none) (fun cs _=>some cs) none () (fun _ _ _ _=>())
def Zj6:V→Option (List (List D)):=@V.rec (fun _=>Option (List (List D))) (fun _=>Unit)
 (@D.rec (fun _=>Option (List (List D))) (fun _=>Unit) (fun _=>Unit) (fun _=>none) (fun _ _=>none) (fun _=>none) (fun _ xs _=>some xs) (fun _ _ _=>none) (fun _ _ _ _ _=>none) none none none () (fun _ _ _ _=>()) () (fun _ _ _ _=>()))
 (fun _=>some []) (fun _ _ _ xs=>some xs) (fun _ _ _ _=>none) (fun _ _=>none) (fun _ _ _ _=>none) (fun _=>none) (fun _ _ _ _ _=>none) (fun _ _=>none) (fun _ _=>none) none () (fun _ _ _ _=>())
def dI:D→Option (IntKind × Int):=@D.rec (fun _=>Option (IntKind × Int)) (fun _=>Unit) (fun _=>Unit) (fun _=>none) (fun k n=>some (k,n)) (fun _=>none) (fun _ _ _=>none) (fun _ _ _=>none) (fun _ _ _ _ _=>none) none none none () (fun _ _ _ _=>()) () (fun _ _ _ _=>())
def dB:D→Option Bool:=@D.rec (fun _=>Option Bool) (fun _=>Unit) (fun _=>Unit) some (fun _ _=>none) (fun _=>none) (fun _ _ _=>none) (fun _ _ _=>none) (fun _ _ _ _ _=>none) none none none () (fun _ _ _ _=>()) () (fun _ _ _ _=>())
def dS:D→Option (List UInt8):=@D.rec (fun _=>Option (List UInt8)) (fun _=>Unit) (fun _=>Unit) (fun _=>none) (fun _ _=>none) some (fun _ _ _=>none) (fun _ _ _=>none) (fun _ _ _ _ _=>none) none none none () (fun _ _ _ _=>()) () (fun _ _ _ _=>())
def dQ:D→Option (List D × Nat):=@D.rec (fun _=>Option (List D × Nat)) (fun _=>Unit) (fun _=>Unit) (fun _=>none) (fun _ _=>none) (fun _=>none) (fun _ _ _=>none) (fun xs off _=>some (xs,off)) (fun _ _ _ _ _=>none) none none none () (fun _ _ _ _=>()) () (fun _ _ _ _=>())
theorem zgr {v:V}{x:D}(h:vD v=some x):v = .d x:=by
 cases v <;> first | (injection h with h; rw [h]) | cases h
theorem zf0 {v:V}{p:Nat × Nat}(h:z26 v=some p):v = .ptr p.1 p.2:=by
 cases v <;> first | (injection h with h; rw [← h]) | cases h
theorem zjb {v:V}{x:List V}(h:z7t v=some x):v = .agg x:=by
 cases v <;> first | (injection h with h; rw [h]) | cases h
theorem zrh {v:V}{x:List V}(h:Zj5 v=some x):v = .tup x:=by
 cases v <;> first | (injection h with h; rw [h]) | cases h
theorem zy9 {v:D}{x:IntKind × Int}(h:dI v=some x):v = .i x.1 x.2:=by
 cases v <;> first | (injection h with h; rw [← h]) | cases h
theorem zza {v:D}{x:Bool}(h:dB v=some x):v = .b x:=by
 cases v <;> first | (injection h with h; rw [h]) | cases h
theorem zzb {v:D}{x:List UInt8}(h:dS v=some x):v = .s x:=by
 cases v <;> first | (injection h with h; rw [h]) | cases h
theorem zzc {v:D}{x:List D × Nat}(h:dQ v=some x):v = .q x.1 x.2:=by
 cases v <;> first | (injection h with h; rw [← h]) | cases h
def zam {α β:Type}(x:Option α)(f:α→Option β):Option β:=@Option.rec α (fun _=>Option β) none f x
theorem zac {α β:Type}{x:Option α}{f:α→Option β}{b:β}(h:zam x f=some b):∃ a,x=some a∧f a=some b:=by
 cases x with
 | none=>cases h
 | some a=>exact ⟨a,rfl,h⟩
def vI (v:V):Option (IntKind × Int):=zam (vD v) dI
def vS (v:V):Option (List UInt8):=zam (vD v) dS
def vB (v:V):Option Bool:=zam (vD v) dB
def vQ (v:V):Option (List D × Nat):=zam (vD v) dQ
theorem zp1 {v:V}{x:IntKind × Int}(h:vI v=some x):v = .d (.i x.1 x.2):=by
 obtain ⟨a,h1,h2⟩:=zac h
 rw [zgr h1,zy9 h2]
theorem zzd {v:V}{x:List UInt8}(h:vS v=some x):v = .d (.s x):=by
 obtain ⟨a,h1,h2⟩:=zac h
 rw [zgr h1,zzb h2]
theorem zto {v:V}{x:Bool}(h:vB v=some x):v = .d (.b x):=by
 obtain ⟨a,h1,h2⟩:=zac h
 rw [zgr h1,zza h2]
theorem ztp {v:V}{x:List D × Nat}(h:vQ v=some x):v = .d (.q x.1 x.2):=by
 obtain ⟨a,h1,h2⟩:=zac h
 rw [zgr h1,zzc h2]
def ifK {α:Type}(b:Bool)(x y:α):α:=@Bool.rec (fun _=>α) y x b
def ztq {α:Type}:List α→Nat→Option α:=@List.rec α (fun _=>Nat→Option α) (fun _=>none) (fun a _ ih i=>@Nat.rec (fun _=>Option α) (some a) (fun j _=>ih j) i)
theorem ze4 {α:Type}:∀ (l:List α) (i:Nat),ztq l i=l[i]?
 | [],_=>rfl
 | a :: l,0=>rfl
 | a :: l,i + 1=>by
  show ztq l i=_
  rw [ze4 l i]; rfl
def zy0 {α:Type}:List α→Nat:=@List.rec α (fun _=>Nat) 0 (fun _ _ ih=>Nat.succ ih)
theorem zig {α:Type}:∀ (l:List α),zy0 l=l.length
 | []=>rfl
 | a :: l=>by show Nat.succ (zy0 l)=_; rw [zig l]; rfl
def ztr:List (Nat × V)→Nat→V :=
 @List.rec (Nat × V) (fun _=>Nat→V) (fun _=>.bad) (fun p _ ih j=>@Bool.rec (fun _=>V) (ih j) p.2 (Nat.beq p.1 j))
theorem zu7 {i j:Nat}(h:i ≠ j):Nat.beq i j=false:=by
 cases hb:Nat.beq i j with
 | false=>rfl
 | true=>exact absurd (Nat.eq_of_beq_eq_true hb) h
theorem zjc (i:Nat):Nat.beq i i=true:=by simp
theorem zih (tm:List (Nat × V))(j:Nat):ztr tm j=za1 tm j:=by
 induction tm with
 | nil=>rfl
 | cons p tm ih =>
  obtain ⟨i,v⟩:=p
  show @Bool.rec (fun _=>V) (ztr tm j) v (Nat.beq i j)=_
  simp only [za1,ih]
  by_cases h:i=j
  ·subst h; rw [zjc,if_pos rfl]
  ·rw [if_neg h,zu7 h]
def kev:A→List (Nat × V)→V:=@A.rec (fun _=>List (Nat × V)→V) (fun t tm=>ztr tm t) (fun v _=>v)
theorem zch (s:St)(a:A):kev a s.tmps=s.ev a:=by
 cases a with
 | t t=>exact zih s.tmps t
 | k v=>rfl
def zjd:List A→List (Nat × V)→List V:=@List.rec A (fun _=>List (Nat × V)→List V) (fun _=>[]) (fun a _ ih tm=>kev a tm :: ih tm)
theorem zex (s:St):∀ (as:List A),zjd as s.tmps=as.map s.ev
 | []=>rfl
 | a :: r=>by
  show kev a s.tmps :: zjd r s.tmps=_
  rw [zex s r,Qb,zch]
def ltK:Int→Int→Bool:=@Int.rec (fun _=>Int→Bool) (fun a=>@Int.rec (fun _=>Bool) (fun b=>Nat.ble (Nat.succ a) b) (fun _=>false)) (fun a=>@Int.rec (fun _=>Bool) (fun _=>true) (fun b=>Nat.ble (Nat.succ b) a))
def eqK:Int→Int→Bool:=@Int.rec (fun _=>Int→Bool) (fun a=>@Int.rec (fun _=>Bool) (fun b=>Nat.beq a b) (fun _=>false)) (fun a=>@Int.rec (fun _=>Bool) (fun _=>false) (fun b=>Nat.beq a b))
def z6w (b:Bool):Bool:=@Bool.rec (fun _=>Bool) true false b
theorem zze (a b:Int):ltK a b=decide (a < b):=by
 cases a with
 | ofNat a=>cases b with
  | ofNat b =>
   show Nat.ble (Nat.succ a) b=_
   rw [Bool.eq_iff_iff]
   simp only [Qh]
   constructor
   ·intro h; have:=Nat.le_of_ble_eq_true h; simp only [Int.ofNat_eq_natCast]; omega
   ·intro h; simp only [Int.ofNat_eq_natCast] at h; exact Nat.ble_eq_true_of_le (by omega)
  | negSucc b=>show false=_; simp; omega
 | negSucc a=>cases b with
  | ofNat b=>show true=_; simp; omega
  | negSucc b =>
   show Nat.ble (Nat.succ b) a=_
   rw [Bool.eq_iff_iff]
   simp only [Qh]
   constructor
   ·intro h; have:=Nat.le_of_ble_eq_true h; omega
   ·intro h; exact Nat.ble_eq_true_of_le (by omega)
theorem zzf (a b:Int):eqK a b=(a == b):=by
 rw [Bool.eq_iff_iff]
 simp only [beq_iff_eq]
 cases a with
 | ofNat a=>cases b with
  | ofNat b=>show Nat.beq a b=true ↔ _; rw [Nat.beq_eq]; simp only [Int.ofNat_eq_natCast]; constructor <;> (intro h; omega)
  | negSucc b=>show false=true ↔ _; constructor <;> (intro h; first | cases h | omega)
 | negSucc a=>cases b with
  | ofNat b=>show false=true ↔ _; constructor <;> (intro h; first | cases h | omega)
  | negSucc b=>show Nat.beq a b=true ↔ _; rw [Nat.beq_eq]; constructor <;> (intro h; omega)
theorem zmb (b:Bool):z6w b = !b:=by cases b <;> rfl
def zje {α:Type}(n:Nat)(f:Nat→α):α:=@Nat.rec (fun _=>α) (f 0) (fun m _=>f (Nat.succ m)) n
theorem ze5 {α:Type}(n:Nat)(f:Nat→α):zje n f=f n:=by cases n <;> rfl
def zp2:IntKind→Nat:=@IntKind.rec (fun _=>Nat) 2 2 2 0 1 2 2 2
theorem Zj7 {k:IntKind}(h:Nat.beq (zp2 k) 0=true):k = .i64:=by cases k <;> first | rfl | cases h
theorem Zj8 {k:IntKind}(h:Nat.beq (zp2 k) 1=true):k = .u8:=by cases k <;> first | rfl | cases h
def zu8 (k:IntKind)(c:Nat):Bool:=ifK (Nat.beq (zp2 k) 0) (Nat.ble c 9223372036854775807) (ifK (Nat.beq (zp2 k) 1) (Nat.ble c 255) false)
theorem zts {k:IntKind}{c:Nat}(h:zu8 k c=true):k.wrap (c:Int)=c:=by
 unfold zu8 ifK at h
 cases h0:Nat.beq (zp2 k) 0 with
 | true =>
  rw [h0] at h
  have:=Zj7 h0
  subst this
  have:=Nat.le_of_ble_eq_true h
  exact Go.IntWalk.i64_in c ⟨by omega,by omega⟩
 | false =>
  rw [h0] at h
  cases h1:Nat.beq (zp2 k) 1 with
  | false=>rw [h1] at h; cases h
  | true =>
   rw [h1] at h
   have:=Zj8 h1
   subst this
   have:=Nat.le_of_ble_eq_true h
   simp only [IntKind.wrap,IntKind.bits,IntKind.signed,Bool.false_and,Qm,if_false]
   omega
def mkK (k:IntKind)(c:Nat):Option D:=ifK (zu8 k c) (zje c fun c=>some (.i k (.ofNat c))) none
theorem zlw {k:IntKind}{c:Nat}{d:D}(h:mkK k c=some d):d = .i k (k.wrap (c:Int)):=by
 unfold mkK ifK at h
 cases hs:zu8 k c with
 | false=>rw [hs] at h; cases h
 | true =>
  rw [hs] at h
  simp only [ze5,Qa] at h
  rw [zts hs,← h]
  rfl
def Zm2 (k:IntKind):Int→Int→Option D:=@Int.rec (fun _=>Int→Option D) (fun a=>@Int.rec (fun _=>Option D) (fun b=>mkK k (Nat.add a b)) (fun b=>ifK (Nat.ble (Nat.succ b) a) (mkK k (Nat.sub a (Nat.succ b))) none)) (fun _ _=>none)
def Zm3 (k:IntKind):Int→Int→Option D:=@Int.rec (fun _=>Int→Option D) (fun a=>@Int.rec (fun _=>Option D) (fun b=>ifK (Nat.ble b a) (mkK k (Nat.sub a b)) none) (fun b=>mkK k (Nat.add a (Nat.succ b)))) (fun _ _=>none)
theorem zzg {k:IntKind}{a b:Int}{d:D}(h:Zm2 k a b=some d):d = .i k (k.wrap (a + b)):=by
 cases a with
 | negSucc a=>cases h
 | ofNat a=>cases b with
  | ofNat b=>exact zlw (c:=a + b) h
  | negSucc b =>
   have h:ifK (Nat.ble (Nat.succ b) a) (mkK k (Nat.sub a (Nat.succ b))) none=some d:=h
   unfold ifK at h
   cases hb:Nat.ble (Nat.succ b) a with
   | false=>rw [hb] at h; cases h
   | true =>
    rw [hb] at h
    have hle:=Nat.le_of_ble_eq_true hb
    rw [zlw h]
    congr 2
    show ((a - (b + 1):Nat):Int)=_
    simp only [Int.ofNat_eq_natCast]
    omega
theorem zzh {k:IntKind}{a b:Int}{d:D}(h:Zm3 k a b=some d):d = .i k (k.wrap (a - b)):=by
 cases a with
 | negSucc a=>cases h
 | ofNat a=>cases b with
  | ofNat b =>
   have h:ifK (Nat.ble b a) (mkK k (Nat.sub a b)) none=some d:=h
   unfold ifK at h
   cases hb:Nat.ble b a with
   | false=>rw [hb] at h; cases h
   | true =>
    rw [hb] at h
    have hle:=Nat.le_of_ble_eq_true hb
    rw [zlw h]
    congr 2
    show ((a - b:Nat):Int)=_
    simp only [Int.ofNat_eq_natCast]
    omega
  | negSucc b =>
   rw [zlw (c:=a + (b + 1)) h]
   congr 2
def Zbc:BinOp→IntKind→Int→Int→Option D:=@BinOp.rec (fun _=>IntKind→Int→Int→Option D) Zm2 Zm3 (fun _ _ _=>none) (fun _ _ _=>none) (fun _ _ _=>none) (fun _ _ _=>none) (fun _ _ _=>none) (fun _ _ _=>none) (fun _ _ _=>none) (fun _ _ _=>none) (fun _ _ _=>none)
 (fun _ a b=>some (.b (eqK a b))) (fun _ a b=>some (.b (z6w (eqK a b)))) (fun _ a b=>some (.b (ltK a b))) (fun _ a b=>some (.b (z6w (ltK b a)))) (fun _ a b=>some (.b (ltK b a))) (fun _ a b=>some (.b (z6w (ltK a b))))
def ztt (k k':IntKind):Bool:=ifK (Nat.beq (zp2 k) 2) false (Nat.beq (zp2 k) (zp2 k'))
theorem zu9 {k k':IntKind}(h:ztt k k'=true):k=k':=by cases k <;> cases k' <;> first | rfl | cases h
theorem Zbd (a b:Int):z6w (ltK b a)=decide (a ≤ b):=by
 rw [zmb,zze]
 by_cases h:b < a
 ·simp [h]
 ·simp [h,Int.not_lt.1 h]
theorem zxa {op:BinOp}{k k':IntKind}{a b:Int}{d:D}(hk:ztt k k'=true)(h:Zbc op k a b=some d):binOp op (.d (.i k a)) (.d (.i k' b))=some d:=by
 have hk:=zu9 hk
 subst hk
 cases op <;> first
  | (have:=zzg h; subst this; simp [binOp,zb5,zdv]; done)
  | (have:=zzh h; subst this; simp [binOp,zb5,zdv]; done)
  | (cases h; simp [binOp,zb5,zdv,zzf,zze,zmb]; done)
  | (cases h; simp [binOp,zb5,zdv,zzf,zze,zmb,bne]; done)
  | (cases h; simp [binOp,zb5,zdv,Zbd]; done)
  | cases h
def Zj9 (op:BinOp)(x y:V):Option V:=zam (vI x) fun p=>zam (vI y) fun q=>ifK (ztt p.1 q.1) (zam (Zbc op p.1 p.2 q.2) fun d=>some (.d d)) none
theorem zbd {α:Type}{b:Bool}{x:Option α}{r:α}(h:ifK b x none=some r):b=true∧x=some r:=by
 cases b with
 | true=>exact ⟨rfl,h⟩
 | false=>cases h
theorem zzi {op:BinOp}{x y v:V}(h:Zj9 op x y=some v):∃ d,v = .d d∧binOp op x y=some d:=by
 obtain ⟨p,h1,h⟩:=zac h
 obtain ⟨q,h2,h⟩:=zac h
 obtain ⟨hs,h⟩:=zbd h
 obtain ⟨d,h3,h⟩:=zac h
 cases h
 rw [zp1 h1,zp1 h2]
 exact ⟨d,rfl,zxa hs h3⟩
def kun (op:UnOp)(x:V):Option V:=zam (vB x) fun b=>@UnOp.rec (fun _=>Option V) none none (some (.d (.b (z6w b)))) none op
def Zif:Option Obj→Option (List V):=@Option.rec Obj (fun _=>Option (List V)) none (@Obj.rec (fun _=>Option (List V)) some (fun _=>none) (fun _ _=>none) (fun _ _ _=>none) (fun _=>none) (fun _ _ _=>none))
theorem zmc {o:Option Obj}{cs:List V}(h:Zif o=some cs):o=some (.box cs):=by
 cases o with
 | none=>cases h
 | some o=>cases o <;> first | (injection h with h; rw [h]) | cases h
def kld (agg:Bool)(n:Nat)(x:V)(hp:List (Option Obj)):Option V :=
 ifK agg none (ifK (Nat.beq n 1) (@Option.rec (Nat × Nat) (fun _=>Option V)
  (zam (vQ x) fun q=>zam (ztq q.1 q.2) fun d=>some (.d d))
  (fun p=>zam (ztq hp p.1) fun o=>zam (Zif o) fun cs=>ztq cs p.2) (z26 x)) none)
def kfa (off:Nat)(x:V):Option V:=@Option.rec (Nat × Nat) (fun _=>Option V)
  (zam (vQ x) fun q=>some (.d (.q q.1 (q.2 + off))))
  (fun p=>some (.ptr p.1 (p.2 + off))) (z26 x)
def kfl (agg:Bool)(off n:Nat)(x:V):Option V:=ifK agg none (ifK (Nat.beq n 1) (zam (z7t x) fun cs=>ztq cs off) none)
def Zka (k:Nat)(x:V):Option V:=@Nat.rec (fun _=>Option V) (zam (Zj6 x) fun xs=>zje (zy0 xs) fun n=>some (.d (.i .i64 (.ofNat n)))) (fun k _=>ifK (Nat.beq k 0) (zam (vS x) fun xs=>zje (zy0 xs) fun n=>some (.d (.i .i64 (.ofNat n)))) none) k
def Zkb:Int→Option Nat:=@Int.rec (fun _=>Option Nat) some (fun _=>none)
theorem zri {i:Int}{n:Nat}(h:Zkb i=some n):i=(n:Int):=by
 cases i with
 | ofNat a=>injection h with h; rw [h]; rfl
 | negSucc a=>cases h
def Zkc (x i:V):Option V:=zam (vS x) fun s=>zam (vI i) fun p=>zam (Zkb p.2) fun n=>zam (ztq s n) fun c=>zje c.toNat fun m=>some (.d (.i .u8 (.ofNat m)))
def Zkd (x:V)(i:Nat):Option V:=zam (Zj5 x) fun ws=>ztq ws i
def dL:D→Option (Nat × List (List D)):=@D.rec (fun _=>Option (Nat × List (List D))) (fun _=>Unit) (fun _=>Unit) (fun _=>none) (fun _ _=>none) (fun _=>none) (fun sz xs _=>some (sz,xs)) (fun _ _ _=>none) (fun _ _ _ _ _=>none) none none none () (fun _ _ _ _=>()) () (fun _ _ _ _=>())
theorem zzj {v:D}{x:Nat × List (List D)}(h:dL v=some x):v = .l x.1 x.2:=by
 cases v <;> first | (injection h with h; rw [← h]) | cases h
def kia (sz:Nat)(x i:V):Option V:=zam (vD x) fun d=>zam (dL d) fun l=>ifK (Nat.beq l.1 sz) (zam (vI i) fun p=>zam (Zkb p.2) fun n=>zam (ztq l.2 n) fun r=>some (.d (.q r 0))) none
def z3c (x:V):Option V:=@Option.rec (Nat × Nat) (fun _=>Option V) (zam (vQ x) fun q=>some (.d (.q q.1 q.2))) (fun p=>some (.ptr p.1 p.2)) (z26 x)
def Zbe:Cop→List (Nat × V)→List (Option Obj)→Option V:=@Cop.rec (fun _=>List (Nat × V)→List (Option Obj)→Option V)
 (fun x tm _=>some (kev x tm)) (fun _ _ _ _ _=>none) (fun _ _ _=>none) (fun _ _ _=>none) (fun _ _ _ _=>none) (fun _ _ _ _ _ _=>none) (fun _ _ _ _ _ _=>none) (fun agg n a tm hp=>kld agg n (kev a tm) hp) (fun _ _ _ _ _=>none) (fun x tm _=>z3c (kev x tm)) (fun op x y tm _=>Zj9 op (kev x tm) (kev y tm))
 (fun _ _ _ _ _ _=>none) (fun _ _ _ _ _=>none) (fun op x tm _=>kun op (kev x tm)) (fun _ _ _ _=>none) (fun _ _ _ _=>none) (fun _ _ _=>none) (fun _ _ _ _ _ _=>none) (fun _ _=>none) (fun _ _ _ _ _ _ _ _=>none) (fun _ _ _=>none) (fun _ _ _ _ _ _=>none) (fun _ _ _ _ _=>none)
 (fun off x tm _=>kfa off (kev x tm)) (fun agg off n x tm _=>kfl agg off n (kev x tm)) (fun sz x i tm _=>kia sz (kev x tm) (kev i tm)) (fun _ _ _ _ _ _=>none) (fun x i tm _=>Zkc (kev x tm) (kev i tm)) (fun _ _ _ _ _ _ _=>none) (fun k x tm _=>Zka k (kev x tm)) (fun _ _ _ _ _ _=>none) (fun _ _ _ _ _ _=>none) (fun _ _ _ _ _ _ _=>none) (fun _ _ _=>none) (fun _ _ _ _=>none)
 (fun _ _ _ _=>none) (fun _ _ _ _ _ _ _ _=>none) (fun _ _ _ _ _ _ _=>none) (fun _ _ _ _ _ _=>none) (fun _ _ _=>none) (fun _ _ _ _ _ _=>none) (fun _ _ _ _ _ _=>none) (fun _ _ _ _=>none) (fun _ _ _ _ _=>none) (fun x i tm _=>Zkd (kev x tm) i) (fun _ _=>none)
theorem zdr (call:za0){op:Cop}{s:St}{v:V}{os:List (Option Obj)}{fresh:Nat}(h1:op.isCall=false)(h2:op.wr=false)(h:act op (op.args.map s.ev) ((op.ids (op.args.map s.ev)).map s.obj) fresh=some ⟨v,os,none⟩)(dst:Option Nat)(pre:Nat) :
  ∃ e,zck call s ⟨dst,op,none,pre⟩ fresh=some e∧e.on s=s.put dst v:=by
 refine ⟨⟨dst,v,op.ids (op.args.map s.ev),op.wr,os,fresh,[]⟩, ?_, ?_⟩
 ·simp only [zck,wanted,h1,Qm,if_false,h]
  rfl
 ·simp only [Eff.on,h2,Qm,if_false,List.length_nil,List.range'_zero,zar]
theorem ztu (s:St)(id:Nat):s.obj id=(ztq s.heap id).join:=by rw [ze4]; rfl
theorem zva {α:Type}{xs:List α}{off:Nat}{d:α}(h:xs[off]?=some d):off + 1 ≤ xs.length∧(xs.drop off).take 1=[d]:=by
 have hlt:off < xs.length:=by
  rcases Qn off xs.length with h' | h'
  ·exact h'
  ·rw [Qe h'] at h; cases h
 refine ⟨hlt, ?_⟩
 rw [Qd hlt] at h
 cases h
 rw [List.drop_eq_getElem_cons hlt]; rfl
theorem zzk {xs:List D}{off:Nat}{d:D}(h:xs[off]?=some d):znh xs off 1=some [d]:=by
 obtain ⟨h1,h2⟩:=zva h
 unfold znh
 rw [if_pos h1,h2]
theorem zmd {xs:List V}{off:Nat}{d:V}(h:xs[off]?=some d):zbn xs off 1=some [d]:=by
 obtain ⟨h1,h2⟩:=zva h
 unfold zbn
 rw [if_pos h1,h2]
theorem z3d {agg:Bool}{n:Nat}{x v:V}{s:St}(h:kld agg n x s.heap=some v)(a:A):∃ os,act (.ld agg n a) [x] ((Cop.ids (.ld agg n a) [x]).map s.obj) 0=some ⟨v,os,none⟩:=by
 unfold kld at h
 cases agg with
 | true=>cases h
 | false =>
  obtain ⟨hn,h⟩:=zbd (show ifK (Nat.beq n 1) _ none=some v from h)
  have hn:=Nat.eq_of_beq_eq_true hn
  subst hn
  cases hp:z26 x with
  | none =>
   rw [hp] at h
   obtain ⟨q,h1,h⟩:=zac h
   obtain ⟨d,h2,h⟩:=zac h
   cases h
   rw [ztp h1]
   rw [ze4] at h2
   exact ⟨[],by simp [act,Cop.ids,zfg,zia,zzk h2,ofDs,ze7]⟩
  | some p =>
   rw [hp] at h
   obtain ⟨o,h1,h⟩:=zac h
   obtain ⟨cs,h2,h⟩:=zac h
   rw [zf0 hp]
   rw [ze4] at h
   have ho:s.obj p.1=some (.box cs):=by rw [ztu,h1]; exact zmc h2
   exact ⟨[some (.box cs)],by simp [act,Cop.ids,zfg,zia,zmd h,ho,ze7]⟩
theorem z3e {off:Nat}{x v:V}(h:kfa off x=some v)(a:A)(f:Nat):act (.fa off a) [x] [] f=some ⟨v,[],none⟩:=by
 unfold kfa at h
 cases hp:z26 x with
 | none =>
  rw [hp] at h
  obtain ⟨q,h1,h⟩:=zac h
  cases h
  rw [ztp h1]; rfl
 | some p =>
  rw [hp] at h
  cases h
  rw [zf0 hp]; rfl
theorem zxb {x v:V}(h:z3c x=some v)(a:A)(f:Nat):act (.nilc a) [x] [] f=some ⟨v,[],none⟩:=by
 unfold z3c at h
 cases hp:z26 x with
 | none =>
  rw [hp] at h
  obtain ⟨q,h1,h⟩:=zac h
  cases h
  rw [ztp h1]; rfl
 | some p =>
  rw [hp] at h
  cases h
  rw [zf0 hp]; rfl
theorem z3f {agg:Bool}{off n:Nat}{x v:V}(h:kfl agg off n x=some v)(a:A)(f:Nat):act (.fl agg off n a) [x] [] f=some ⟨v,[],none⟩:=by
 unfold kfl at h
 cases agg with
 | true=>cases h
 | false =>
  obtain ⟨hn,h⟩:=zbd (show ifK (Nat.beq n 1) _ none=some v from h)
  have hn:=Nat.eq_of_beq_eq_true hn
  subst hn
  obtain ⟨cs,h1,h⟩:=zac h
  rw [zjb h1]
  rw [ze4] at h
  simp [act,zia,zmd h,ze7]
theorem zzl {x:V}{xs:List (List D)}(h:Zj6 x=some xs):(∃ sz,x = .d (.l sz xs)) ∨ (∃ sz,x = .nil sz∧xs=[]) ∨ ∃ id ver sz,x = .own id ver sz xs:=by
 cases x with
 | d d=>cases d <;> first | (injection h with h; rw [h]; exact .inl ⟨_,rfl⟩) | cases h
 | nil sz=>injection h with h; exact .inr (.inl ⟨sz,rfl,h.symm⟩)
 | own id ver sz ys=>injection h with h; rw [h]; exact .inr (.inr ⟨_,_,_,rfl⟩)
 | _=>cases h
theorem zzm {k:Nat}{x v:V}(h:Zka k x=some v)(a:A)(f:Nat):Cop.ids (.len k a) [x]=[]∧act (.len k a) [x] [] f=some ⟨v,[],none⟩:=by
 cases k with
 | zero =>
  obtain ⟨xs,h1,h⟩:=zac (show zam (Zj6 x) _=some v from h)
  simp only [ze5,zig,Qa] at h
  subst h
  rcases zzl h1 with ⟨sz,rfl⟩ | ⟨sz,rfl,rfl⟩ | ⟨id,ver,sz,rfl⟩ <;> exact ⟨rfl,rfl⟩
 | succ k =>
  obtain ⟨hn,h⟩:=zbd (show ifK (Nat.beq k 0) _ none=some v from h)
  have hn:=Nat.eq_of_beq_eq_true hn
  subst hn
  obtain ⟨xs,h1,h⟩:=zac h
  simp only [ze5,zig,Qa] at h
  subst h
  rw [zzd h1]
  exact ⟨rfl,rfl⟩
theorem zzn {x i v:V}(h:Zkc x i=some v)(a b:A)(f:Nat):act (.ixs a b) [x,i] [] f=some ⟨v,[],none⟩:=by
 obtain ⟨s,h1,h⟩:=zac h
 obtain ⟨p,h2,h⟩:=zac h
 obtain ⟨n,h3,h⟩:=zac h
 obtain ⟨c,h4,h⟩:=zac h
 simp only [ze5,Qa] at h
 subst h
 rw [zzd h1,zp1 h2,zri h3]
 rw [ze4] at h4
 simp [act,h4]
theorem z3g {sz:Nat}{x i v:V}(h:kia sz x i=some v)(a b:A)(f:Nat):Cop.ids (.ia sz a b) [x,i]=[]∧act (.ia sz a b) [x,i] [] f=some ⟨v,[],none⟩:=by
 obtain ⟨d,h1,h⟩:=zac h
 obtain ⟨l,h2,h⟩:=zac h
 obtain ⟨hz,h⟩:=zbd h
 obtain ⟨p,h3,h⟩:=zac h
 obtain ⟨n,h4,h⟩:=zac h
 obtain ⟨r,h5,h⟩:=zac h
 cases h
 have hz:=Nat.eq_of_beq_eq_true hz
 rw [zgr h1,zzj h2,zp1 h3,zri h4]
 rw [ze4] at h5
 exact ⟨rfl,by simp [act,zss,hz,h5,zia]⟩
theorem zzo {x v:V}{i:Nat}(h:Zkd x i=some v)(a:A)(f:Nat):act (.ext a i) [x] [] f=some ⟨v,[],none⟩:=by
 obtain ⟨ws,h1,h⟩:=zac h
 rw [zrh h1]
 rw [ze4] at h
 simp [act,h]
theorem z3h {op:UnOp}{x v:V}(h:kun op x=some v)(a:A)(f:Nat):act (.un op a) [x] [] f=some ⟨v,[],none⟩:=by
 obtain ⟨b,h1,h⟩:=zac h
 rw [zto h1]
 cases op <;> first | (cases h; simp [act,z1v,unOp,zmb]; done) | cases h
theorem zxc (call:za0){op:Cop}{s:St}{v:V}(h:Zbe op s.tmps s.heap=some v)(dst:Option Nat)(pre fresh:Nat):∃ e,zck call s ⟨dst,op,none,pre⟩ fresh=some e∧e.on s=s.put dst v:=by
 cases op
 case mv x =>
  have h:some (kev x s.tmps)=some v:=h
  rw [zch] at h
  cases h
  exact zdr call (os:=[]) rfl rfl rfl dst pre
 case ld agg n a =>
  have h:kld agg n (kev a s.tmps) s.heap=some v:=h
  rw [zch] at h
  obtain ⟨os,h⟩:=z3d h a
  exact zdr call (os:=os) rfl rfl (by rw [← h]; rfl) dst pre
 case nilc x =>
  have h:z3c (kev x s.tmps)=some v:=h
  rw [zch] at h
  exact zdr call (os:=[]) rfl rfl (zxb h x fresh) dst pre
 case bin op x y =>
  have h:Zj9 op (kev x s.tmps) (kev y s.tmps)=some v:=h
  rw [zch,zch] at h
  obtain ⟨d,rfl,hb⟩:=zzi h
  exact zdr call (os:=[]) rfl rfl (by
   have h':act (.bin op x y) [s.ev x,s.ev y] [] fresh=some ⟨.d d,[],none⟩:=by simp only [act]; rw [hb]; rfl
   exact h') dst pre
 case un op x =>
  have h:kun op (kev x s.tmps)=some v:=h
  rw [zch] at h
  exact zdr call (os:=[]) rfl rfl (z3h h x fresh) dst pre
 case fa off x =>
  have h:kfa off (kev x s.tmps)=some v:=h
  rw [zch] at h
  exact zdr call (os:=[]) rfl rfl (z3e h x fresh) dst pre
 case fl agg off n x =>
  have h:kfl agg off n (kev x s.tmps)=some v:=h
  rw [zch] at h
  exact zdr call (os:=[]) rfl rfl (z3f h x fresh) dst pre
 case ia sz x i =>
  have h:kia sz (kev x s.tmps) (kev i s.tmps)=some v:=h
  rw [zch,zch] at h
  obtain ⟨h1,h2⟩:=z3g h x i fresh
  exact zdr call (os:=[]) rfl rfl (by simp only [Cop.args,Qb,Qc,h1,h2]) dst pre
 case ixs x i =>
  have h:Zkc (kev x s.tmps) (kev i s.tmps)=some v:=h
  rw [zch,zch] at h
  exact zdr call (os:=[]) rfl rfl (zzn h x i fresh) dst pre
 case len k x =>
  have h:Zka k (kev x s.tmps)=some v:=h
  rw [zch] at h
  obtain ⟨h1,h2⟩:=zzm h x fresh
  exact zdr call (os:=[]) rfl rfl (by simp only [Cop.args,Qb,Qc,h1,h2]) dst pre
 case ext x i =>
  have h:Zkd (kev x s.tmps) i=some v:=h
  rw [zch] at h
  exact zdr call (os:=[]) rfl rfl (zzo h x fresh) dst pre
 all_goals cases h
def zol {α:Type}(p:α→Bool):List α→Bool:=@List.rec α (fun _=>Bool) true (fun a _ ih=>ifK (p a) ih false)
theorem zfk {α:Type}{p:α→Bool}:∀ {l:List α},zol p l=true→∀ a ∈ l,p a=true
 | x :: l,h,a,ha=>by
  have h:ifK (p x) (zol p l) false=true:=h
  cases hp:p x with
  | false=>rw [hp] at h; cases h
  | true =>
   rw [hp] at h
   rcases List.mem_cons.1 ha with rfl | ha
   ·exact hp
   ·exact zfk h a ha
def isD:V→Bool:=@V.rec (fun _=>Bool) (fun _=>Unit) (fun _=>true) (fun _=>false) (fun _ _ _ _=>false) (fun _ _ _ _=>false) (fun _ _=>false) (fun _ _ _ _=>false) (fun _=>false) (fun _ _ _ _ _=>false) (fun _ _=>false) (fun _ _=>false) false () (fun _ _ _ _=>())
def isP:V→Bool:=@V.rec (fun _=>Bool) (fun _=>Unit) (fun _=>true) (fun _=>false) (fun _ _ _ _=>false) (fun _ _ _ _=>false) (fun _ _=>false) (fun _ _ _ _=>false) (fun _=>false) (fun _ _ _ _ _=>false) (fun cs _=>zol isD cs) (fun _ _=>false) false () (fun _ _ _ _=>())
def Zar:V→Bool:=@V.rec (fun _=>Bool) (fun _=>Unit) (fun _=>true) (fun _=>false) (fun _ _ _ _=>false) (fun _ _ _ _=>false) (fun _ _=>false) (fun _ _ _ _=>false) (fun _=>false) (fun _ _ _ _ _=>false) (fun cs _=>zol isD cs) (fun vs _=>zol isP vs) false () (fun _ _ _ _=>())
theorem z3i {v:V}(h:isD v=true):∃ d,v = .d d:=by cases v <;> first | exact ⟨_,rfl⟩ | cases h
theorem zgs {v:V}(h:isP v=true):(∃ d,v = .d d) ∨ ∃ cs,v = .agg cs∧∀ c ∈ cs,isD c=true:=by
 cases v <;> first | exact .inl ⟨_,rfl⟩ | exact .inr ⟨_,rfl,zfk h⟩ | cases h
theorem zom {v:V}(h:Zar v=true):isP v=true ∨ ∃ vs,v = .tup vs∧∀ c ∈ vs,isP c=true:=by
 cases v <;> first | exact .inr ⟨_,rfl,zfk h⟩ | exact .inl h | cases h
section
variable (f sh:Nat→Nat)
theorem zrj:∀ {cs:List V},(∀ c ∈ cs,isD c=true)→V.renAll f sh cs=cs∧V.refsAll cs=[]∧V.handAll cs=some cs
 | [],_=>⟨rfl,rfl,rfl⟩
 | c :: cs,h=>by
  obtain ⟨d,rfl⟩:=z3i (h c (by simp))
  obtain ⟨h1,h2,h3⟩:=zrj (fun c hc=>h c (List.mem_cons_of_mem _ hc))
  simp [V.renAll,V.ren,h1,V.refsAll,V.refs,h2,V.handAll,V.hand,h3]
theorem zlx {v:V}(h:isP v=true):V.ren f sh v=v∧V.refs v=[]∧V.hand v=some v:=by
 rcases zgs h with ⟨d,rfl⟩ | ⟨cs,rfl,hc⟩
 ·simp [V.ren,V.refs,V.hand]
 ·obtain ⟨h1,h2,h3⟩:=zrj f sh hc
  simp [V.ren,h1,V.refs,h2,V.hand,h3]
theorem zjf:∀ {vs:List V},(∀ c ∈ vs,isP c=true)→V.renAll f sh vs=vs∧V.refsAll vs=[]∧V.handAll vs=some vs
 | [],_=>⟨rfl,rfl,rfl⟩
 | c :: cs,h=>by
  obtain ⟨h1,h2,h3⟩:=zlx f sh (h c (by simp))
  obtain ⟨k1,k2,k3⟩:=zjf (fun c hc=>h c (List.mem_cons_of_mem _ hc))
  simp [V.renAll,h1,k1,V.refsAll,h2,k2,V.handAll,h3,k3]
theorem zrk {v:V}(h:Zar v=true):V.ren f sh v=v∧V.refs v=[]:=by
 rcases zom h with h | ⟨vs,rfl,hc⟩
 ·exact ⟨(zlx f sh h).1,(zlx f sh h).2.1⟩
 ·obtain ⟨h1,h2,_⟩:=zjf f sh hc
  simp [V.ren,h1,V.refs,h2]
end
theorem zgt (m:Nat):∀ {cs:List V},(∀ c ∈ cs,isD c=true)→zc1 m cs=[]
 | [],_=>rfl
 | c :: cs,h=>by
  obtain ⟨d,rfl⟩:=z3i (h c (by simp))
  simp [zc1,V.arrIds,zgt m (fun c hc=>h c (List.mem_cons_of_mem _ hc))]
theorem ztv (m:Nat){v:V}(h:isP v=true):zhb m v=[]:=by
 rcases zgs h with ⟨d,rfl⟩ | ⟨cs,rfl,hc⟩
 ·rfl
 ·exact zgt m hc
theorem zk6 (m:Nat):∀ {vs:List V},(∀ c ∈ vs,isP c=true)→zdd m vs=[]
 | [],_=>rfl
 | c :: cs,h=>by simp [zdd,ztv m (h c (by simp)),zk6 m (fun c hc=>h c (List.mem_cons_of_mem _ hc))]
theorem ztw (m:Nat){v:V}(h:Zar v=true):zeu m v=[]:=by
 rcases zom h with h | ⟨vs,rfl,hc⟩
 ·rcases zgs h with ⟨d,rfl⟩ | ⟨cs,rfl,hc⟩
  ·rfl
  ·exact zgt m hc
 ·exact zk6 m hc
theorem zme:∀ {vs:List V},(∀ c ∈ vs,isP c=true)→V.rawAll vs=some vs
 | [],_=>rfl
 | c :: cs,h=>by
  have hc:=h c (by simp)
  have:=(zlx id id hc).2.2
  have h2:V.rawH c=some c:=by cases c <;> first | exact this | rfl
  simp [V.rawAll,h2,zme (fun c hc=>h c (List.mem_cons_of_mem _ hc))]
theorem zjg (obj:Nat→Option Obj):∀ {cs:List V} (f:Nat),(∀ c ∈ cs,isD c=true)→cs.length < f→∃ ds,zeo obj f cs=some ds∧ofDs ds=cs
 | [],f + 1,_,_=>⟨[],rfl,rfl⟩
 | c :: cs,f + 1,h,hl=>by
  obtain ⟨d,rfl⟩:=z3i (h c (by simp))
  have hf:cs.length < f:=by simpa using hl
  obtain ⟨ds,k1,k2⟩:=zjg obj f (fun c hc=>h c (List.mem_cons_of_mem _ hc)) hf
  obtain ⟨f,rfl⟩:∃ g,f=g + 1:=⟨f - 1,by omega⟩
  exact ⟨d :: ds,by simp [zeo,V.lend,V.toD,k1],by simp [ofDs] at k2 ⊢; exact k2⟩
 | _,0,_,hl=>by omega
def Zke:V→Bool:=@V.rec (fun _=>Bool) (fun _=>Unit) (fun _=>true) (fun _=>false) (fun _ _ _ _=>false) (fun _ _ _ _=>false) (fun _ _=>false) (fun _ _ _ _=>false) (fun _=>false) (fun _ _ _ _ _=>false) (fun cs _=>Nat.ble (zy0 cs) 1000) (fun _ _=>false) false () (fun _ _ _ _=>())
theorem zjh (obj:Nat→Option Obj):∀ {vs:List V},(∀ c ∈ vs,isP c=true)→(∀ c ∈ vs,Zke c=true)→zb1 obj vs=some vs
 | [],_,_=>rfl
 | c :: cs,h,hf=>by
  have k:=zjh obj (fun c hc=>h c (List.mem_cons_of_mem _ hc)) (fun c hc=>hf c (List.mem_cons_of_mem _ hc))
  rcases zgs (h c (by simp)) with ⟨d,rfl⟩ | ⟨ds,rfl,hc⟩
  ·simp [zb1,V.lend,far,V.toD,k]
  ·have hl:Nat.ble (zy0 ds) 1000=true:=hf (.agg ds) (by simp)
   rw [zig] at hl
   have hl:=Nat.le_of_ble_eq_true hl
   obtain ⟨es,k1,k2⟩:=zjg obj far hc (by unfold far; omega)
   simp [zb1,k1,k2,k]
structure Ent where
 key:Nat
 args:List V
 lent:Bool
def z7u:V→Option V:=@V.rec (fun _=>Option V) (fun _=>Unit) (fun d=>some (.d d)) (fun sz=>some (.d (.l sz []))) (fun _ _ sz xs=>some (.d (.l sz xs))) (fun _ _ _ _=>none) (fun _ _=>none) (fun _ _ _ _=>none) (fun _=>none) (fun _ _ _ _ _=>none) (fun _ _=>none) (fun _ _=>none) none () (fun _ _ _ _=>())
def zvb:List V→Option (List V):=@List.rec V (fun _=>Option (List V)) (some []) (fun v _ ih=>zam (z7u v) fun x=>zam ih fun xs=>some (x :: xs))
def z3j:V→Option V:=@V.rec (fun _=>Option V) (fun _=>Unit) (fun d=>some (.d d)) (fun sz=>some (.d (.l sz []))) (fun _ _ sz xs=>some (.d (.l sz xs))) (fun _ _ _ _=>none) (fun _ _=>none) (fun _ _ _ _=>none) (fun _=>none) (fun _ _ _ _ _=>none) (fun cs _=>zam (zvb cs) fun cs=>some (.agg cs)) (fun _ _=>none) none () (fun _ _ _ _=>())
def zon:List V→Option (List V):=@List.rec V (fun _=>Option (List V)) (some []) (fun v _ ih=>zam (z3j v) fun x=>zam ih fun xs=>some (x :: xs))
theorem zoo {v x:V}(h:z7u v=some x):V.hand v=some x∧isD x=true:=by
 cases v <;> first | (cases h; exact ⟨by simp [V.hand],rfl⟩) | cases h
theorem zii:∀ {vs xs:List V},zvb vs=some xs→V.handAll vs=some xs∧∀ c ∈ xs,isD c=true
 | [],xs,h=>by cases h; exact ⟨rfl,by simp⟩
 | v :: vs,xs,h=>by
  obtain ⟨x,h1,h⟩:=zac h
  obtain ⟨ys,h2,h⟩:=zac h
  cases h
  obtain ⟨k1,k2⟩:=zoo h1
  obtain ⟨m1,m2⟩:=zii h2
  exact ⟨by simp [V.handAll,k1,m1],by simp [k2]; exact m2⟩
theorem zgu {α:Type}{p:α→Bool}:∀ {l:List α},(∀ a ∈ l,p a=true)→zol p l=true
 | [],_=>rfl
 | x :: l,h=>by
  show ifK (p x) (zol p l) false=true
  rw [h x (by simp),zgu (fun a ha=>h a (List.mem_cons_of_mem _ ha))]; rfl
theorem zop {v x:V}(h:z3j v=some x):V.hand v=some x∧isP x=true:=by
 cases v with
 | agg cs =>
  obtain ⟨ys,h1,h⟩:=zac (show zam (zvb cs) _=some x from h)
  cases h
  obtain ⟨m1,m2⟩:=zii h1
  exact ⟨by simp [V.hand,m1],zgu m2⟩
 | _=>first | (cases h; exact ⟨by simp [V.hand],rfl⟩) | cases h
theorem zf7:∀ {vs xs:List V},zon vs=some xs→V.handAll vs=some xs∧∀ c ∈ xs,isP c=true
 | [],xs,h=>by cases h; exact ⟨rfl,by simp⟩
 | v :: vs,xs,h=>by
  obtain ⟨x,h1,h⟩:=zac h
  obtain ⟨ys,h2,h⟩:=zac h
  cases h
  obtain ⟨k1,k2⟩:=zop h1
  obtain ⟨m1,m2⟩:=zf7 h2
  exact ⟨by simp [V.handAll,k1,m1],by simp [k2]; exact m2⟩
theorem zxd (call:za0)(md:Md)(obj:Nat→Option Obj){key res fresh:Nat}{vs hs:List V}{r:V}(hv:md.hands vs=some hs)(hp:∀ c ∈ hs,isP c=true)(hc:za9 md call key hs []=some (r,[]))(hr:Zar r=true) :
  zba (za9 md call) md obj key vs res fresh=some (r,[],[],[]):=by
 obtain ⟨h1,h2,h3⟩:=zjf (zau []) zbh hp
 have hreach:zbt obj far (V.refsAll hs) []=some []:=by rw [h2]; rfl
 unfold zba
 simp only [hv,hreach,Qc,zbj,h1,hc,List.length_nil,Nat.not_lt_zero,if_false,Nat.le_refl,Nat.zero_le,true_and,if_true,List.take_nil,List.drop_nil]
 rw [(zrk _ _ hr).1]
def Zbf:List V→List Nat
 | .ptr id _ :: _=>[id]
 | .pm id _ _ _ :: _=>[id]
 | _=>[]
def z3k:List V→List Nat
 | .arr id _ _ _ :: _=>[id]
 | _=>[]
def Zkf:List V→List Nat
 | .own id _ _ _ :: _=>[id]
 | _=>[]
def z3l:List V→List Nat
 | .map id :: _=>[id]
 | _=>[]
def Zkg:Cop→List V→List Nat:=@Cop.rec (fun _=>List V→List Nat) (fun _=>fun _=>[]) (fun _ _ _=>fun _=>[]) (fun _=>fun _=>[]) (fun _=>fun _=>[]) (fun _ _=>fun _=>[]) (fun _ _ _ _=>fun _=>[]) (fun _ _ _ _=>fun _=>[]) (fun _ _ _=>Zbf) (fun _ _ _=>Zbf) (fun _=>fun _=>[]) (fun _ _ _=>fun _=>[]) (fun _ _ _ _=>fun _=>[]) (fun _ _ _=>fun _=>[]) (fun _ _=>fun _=>[]) (fun _ _=>fun _=>[]) (fun _ _=>fun _=>[]) (fun _=>fun _=>[]) (fun _ _ _ z vs=>ifK z (za5 vs) []) (fun _=>[]) (fun _ _ _ _ _ _=>fun _=>[]) (fun _=>fun _=>[]) (fun _ _ _ _=>z3k) (fun _ _ _=>fun _=>[]) (fun _ _=>fun _=>[]) (fun _ _ _ _=>fun _=>[]) (fun _ _ _=>z3k) (fun _ _ _ _=>fun _=>[]) (fun _ _=>fun _=>[]) (fun _ _ _ _ _=>fun _=>[]) (fun _ _=>z3l) (fun _ _ _ _=>Zkf) (fun sz b x y vs=>Cop.ids (.apa sz b x y) vs) (fun _ _ _ _ _=>z3k) (fun _=>fun _=>[]) (fun _ _=>fun _=>[]) (fun _ _=>fun _=>[]) (fun _ _ _ _ _ _=>z3l) (fun _ _ _ _ _=>z3l) (fun _ _ _ _=>z3l) (fun _=>z3k) (fun _ _ _ _=>fun _=>[]) (fun _ _ _ _=>fun _=>[]) (fun _ _=>fun _=>[]) (fun _ _ _=>fun _=>[]) (fun _ _=>fun _=>[]) (fun _=>[])
theorem zzp (op:Cop)(vs:List V):Zkg op vs=op.ids vs:=by
 cases op <;> first
  | rfl
  | (cases vs with | nil=>rfl | cons v vs=>cases v <;> rfl)
  | (rename_i z; cases z <;> rfl)
def wrK:Cop→Bool:=@Cop.rec (fun _=>Bool) (fun _=>false) (fun _ _ _=>false) (fun _=>false) (fun _=>false) (fun _ _=>false) (fun _ _ _ _=>false) (fun _ _ _ _=>false) (fun _ _ _=>false) (fun _ _ _=>true) (fun _=>false) (fun _ _ _=>false) (fun _ _ _ _=>false) (fun _ _ _=>false) (fun _ _=>false) (fun _ _=>false) (fun _ _=>false) (fun _=>false) (fun _ _ _ z=>z) (false) (fun _ _ _ _ _ _=>false) (fun _=>false) (fun _ _ _ _=>false) (fun _ _ _=>false) (fun _ _=>false) (fun _ _ _ _=>false) (fun _ _ _=>false) (fun _ _ _ _=>false) (fun _ _=>false) (fun _ _ _ _ _=>false) (fun _ _=>false) (fun _ _ _ _=>true) (fun _ _ _ _=>true) (fun _ _ _ _ _=>true) (fun _=>false) (fun _ _=>false) (fun _ _=>false) (fun _ _ _ _ _ _=>false) (fun _ _ _ _ _=>true) (fun _ _ _ _=>true) (fun _=>true) (fun _ _ _ _=>false) (fun _ _ _ _=>false) (fun _ _=>false) (fun _ _ _=>false) (fun _ _=>false) (false)
theorem Zbg (op:Cop):wrK op=op.wr:=by cases op <;> first | rfl | (rename_i z; cases z <;> rfl)
def Zas:Cop→Nat:=@Cop.rec (fun _=>Nat) (fun _=>0) (fun _ _ _=>0) (fun _=>1) (fun _=>1) (fun _ _=>0) (fun _ _ _ _=>1) (fun _ _ _ _=>1) (fun _ _ _=>0) (fun _ _ _=>0) (fun _=>0) (fun _ _ _=>0) (fun _ _ _ _=>0) (fun _ _ _=>0) (fun _ _=>0) (fun _ _=>0) (fun _ _=>0) (fun _=>0) (fun _ _ _ _=>0) (1) (fun _ _ _ _ _ _=>1) (fun _=>0) (fun _ _ _ _=>0) (fun _ _ _=>0) (fun _ _=>0) (fun _ _ _ _=>0) (fun _ _ _=>0) (fun _ _ _ _=>0) (fun _ _=>0) (fun _ _ _ _ _=>0) (fun _ _=>0) (fun _ _ _ _=>1) (fun _ _ _ _=>1) (fun _ _ _ _ _=>1) (fun _=>0) (fun _ _=>0) (fun _ _=>0) (fun _ _ _ _ _ _=>0) (fun _ _ _ _ _=>0) (fun _ _ _ _=>0) (fun _=>0) (fun _ _ r _=>r) (fun _ _ r _=>r) (fun _ _=>0) (fun _ _ r=>r) (fun _ _=>0) (0)
theorem ztx (op:Cop):Zas op=op.nmk:=by cases op <;> rfl
def Zbh:Cop→Bool:=@Cop.rec (fun _=>Bool) (fun _=>false) (fun _ _ _=>false) (fun _=>false) (fun _=>false) (fun _ _=>false) (fun _ _ _ _=>false) (fun _ _ _ _=>false) (fun _ _ _=>false) (fun _ _ _=>false) (fun _=>false) (fun _ _ _=>false) (fun _ _ _ _=>false) (fun _ _ _=>false) (fun _ _=>false) (fun _ _=>false) (fun _ _=>false) (fun _=>false) (fun _ _ _ _=>false) (false) (fun _ _ _ _ _ _=>false) (fun _=>false) (fun _ _ _ _=>false) (fun _ _ _=>false) (fun _ _=>false) (fun _ _ _ _=>false) (fun _ _ _=>false) (fun _ _ _ _=>false) (fun _ _=>false) (fun _ _ _ _ _=>false) (fun _ _=>false) (fun _ _ _ _=>false) (fun _ _ _ _=>false) (fun _ _ _ _ _=>false) (fun _=>false) (fun _ _=>false) (fun _ _=>false) (fun _ _ _ _ _ _=>false) (fun _ _ _ _ _=>false) (fun _ _ _ _=>false) (fun _=>false) (fun _ _ _ _=>true) (fun _ _ _ _=>true) (fun _ _=>true) (fun _ _ _=>true) (fun _ _=>false) (false)
theorem z3m (op:Cop):Zbh op=op.isCall:=by cases op <;> rfl
def zk7:Cop→Bool:=@Cop.rec (fun _=>Bool) (fun _=>true) (fun _ _ _=>true) (fun _=>false) (fun _=>false) (fun _ _=>true) (fun _ _ _ _=>false) (fun _ _ _ _=>false) (fun _ _ _=>false) (fun _ _ _=>false) (fun _=>true) (fun _ _ _=>true) (fun _ _ _ _=>true) (fun _ _ _=>true) (fun _ _=>true) (fun _ _=>true) (fun _ _=>true) (fun _=>true) (fun _ _ _ _=>false) (false) (fun _ _ _ _ _ _=>false) (fun _=>true) (fun _ _ _ _=>false) (fun _ _ _=>true) (fun _ _=>true) (fun _ _ _ _=>true) (fun _ _ _=>false) (fun _ _ _ _=>true) (fun _ _=>true) (fun _ _ _ _ _=>true) (fun _ _=>false) (fun _ _ _ _=>false) (fun _ _ _ _=>false) (fun _ _ _ _ _=>false) (fun _=>true) (fun _ _=>true) (fun _ _=>true) (fun _ _ _ _ _ _=>false) (fun _ _ _ _ _=>false) (fun _ _ _ _=>false) (fun _=>false) (fun _ _ _ _=>false) (fun _ _ _ _=>false) (fun _ _=>false) (fun _ _ _=>false) (fun _ _=>true) (false)
def zzq:Cop→List A:=@Cop.rec (fun _=>List A) (fun x=>[x]) (fun c a b=>[c,a,b]) (fun _=>[]) (fun x=>[x]) (fun _ ps=>ps.map (·.2.2)) (fun _ _ _ ps=>ps.map (·.2)) (fun _ _ _ ps=>ps.map (·.2)) (fun _ _ a=>[a]) (fun _ a v=>[a,v]) (fun x=>[x]) (fun _ x y=>[x,y]) (fun _ _ x y=>[x,y]) (fun _ x y=>[x,y]) (fun _ x=>[x]) (fun _ x=>[x]) (fun _ x=>[x]) (fun x=>[x]) (fun _ f c _=>f++c) ([]) (fun _ _ _ _ x y=>[x,y]) (fun x=>[x]) (fun _ x lo hi=>[x]++lo.toList++hi.toList) (fun x lo hi=>[x]++lo.toList++hi.toList) (fun _ x=>[x]) (fun _ _ _ x=>[x]) (fun _ x i=>[x,i]) (fun _ _ x i=>[x,i]) (fun x i=>[x,i]) (fun _ _ _ x i=>[x,i]) (fun _ x=>[x]) (fun _ _ x y=>[x,y]) (fun _ _ x y=>[x,y]) (fun _ _ _ x n=>[x,n]) (fun x=>[x]) (fun _ x=>[x]) (fun _ xs=>xs) (fun _ _ _ _ m k=>[m,k]) (fun _ _ m k v=>[m,k,v]) (fun _ _ m k=>[m,k]) (fun x=>[x]) (fun _ as _ _=>as) (fun f as _ _=>f :: as) (fun _ as=>as) (fun _ as _=>as) (fun x _=>[x]) ([])
theorem zvc (op:Cop):zzq op=op.args:=by cases op <;> rfl
def dF:D→Option (Nat × List D × List D):=@D.rec (fun _=>Option (Nat × List D × List D)) (fun _=>Unit) (fun _=>Unit) (fun _=>none) (fun _ _=>none) (fun _=>none) (fun _ _ _=>none) (fun _ _ _=>none) (fun k a c _ _=>some (k,a,c)) none none none () (fun _ _ _ _=>()) () (fun _ _ _ _=>())
theorem z7v {v:D}{x:Nat × List D × List D}(h:dF v=some x):v = .f x.1 x.2.1 x.2.2:=by
 cases v <;> first | (injection h with h; rw [← h]) | cases h
def Zkh:Cop→List (Nat × V)→Option Ent:=@Cop.rec (fun _=>List (Nat × V)→Option Ent) (fun _=>fun _=>none) (fun _ _ _=>fun _=>none) (fun _=>fun _=>none) (fun _=>fun _=>none) (fun _ _=>fun _=>none) (fun _ _ _ _=>fun _=>none) (fun _ _ _ _=>fun _=>none) (fun _ _ _=>fun _=>none) (fun _ _ _=>fun _=>none) (fun _=>fun _=>none) (fun _ _ _=>fun _=>none) (fun _ _ _ _=>fun _=>none) (fun _ _ _=>fun _=>none) (fun _ _=>fun _=>none) (fun _ _=>fun _=>none) (fun _ _=>fun _=>none) (fun _=>fun _=>none) (fun _ _ _ _=>fun _=>none) (fun _=>none) (fun _ _ _ _ _ _=>fun _=>none) (fun _=>fun _=>none) (fun _ _ _ _=>fun _=>none) (fun _ _ _=>fun _=>none) (fun _ _=>fun _=>none) (fun _ _ _ _=>fun _=>none) (fun _ _ _=>fun _=>none) (fun _ _ _ _=>fun _=>none) (fun _ _=>fun _=>none) (fun _ _ _ _ _=>fun _=>none) (fun _ _=>fun _=>none) (fun _ _ _ _=>fun _=>none) (fun _ _ _ _=>fun _=>none) (fun _ _ _ _ _=>fun _=>none) (fun _=>fun _=>none) (fun _ _=>fun _=>none) (fun _ _=>fun _=>none) (fun _ _ _ _ _ _=>fun _=>none) (fun _ _ _ _ _=>fun _=>none) (fun _ _ _ _=>fun _=>none) (fun _=>fun _=>none) (fun key as _ _ tm=>zam (zon (zjd as tm)) fun hs=>some ⟨key,hs,false⟩) (fun f as _ _ tm=>zam (vD (kev f tm)) fun d=>zam (dF d) fun p=>zam (zon (ofDs p.2.1++zjd as tm++ofDs p.2.2)) fun hs=>some ⟨p.1,hs,false⟩) (fun key as tm=>zam (zon (zjd as tm)) fun hs=>ifK (zol Zke hs) (some ⟨key,hs,true⟩) none) (fun key as _ tm=>ifK (zol isP (zjd as tm)) (some ⟨key,zjd as tm,false⟩) none) (fun _ _=>fun _=>none) (fun _=>none)
theorem zzr {op:Cop}{s:St}{e:Ent}(h:Zkh op s.tmps=some e):op.isCall=true∧∃ vs res md,callee op (op.args.map s.ev)=some (e.key,vs,res,md)∧md.hands vs=some e.args∧(∀ c ∈ e.args,isP c=true)∧(e.lent=false→md = .keep ∨ md = .frz ∨ md = .raw)∧(e.lent=true→md = .lend∧∀ c ∈ e.args,Zke c=true):=by
 cases op
 case call key as res fz =>
  obtain ⟨hs,h1,h⟩:=zac (show zam (zon (zjd as s.tmps)) _=some e from h)
  cases h
  rw [zex] at h1
  obtain ⟨k1,k2⟩:=zf7 h1
  refine ⟨rfl,as.map s.ev,res,zqs fz,rfl, ?_,k2,fun _=>?_,fun h=>by cases h⟩
  ·cases fz <;> exact k1
  ·cases fz
   ·exact .inl rfl
   ·exact .inr (.inl rfl)
 case lend key as =>
  obtain ⟨hs,h1,h⟩:=zac (show zam (zon (zjd as s.tmps)) _=some e from h)
  obtain ⟨hf,h⟩:=zbd h
  cases h
  rw [zex] at h1
  obtain ⟨k1,k2⟩:=zf7 h1
  exact ⟨rfl,as.map s.ev,0,.lend,rfl,k1,k2,(fun h=>by cases h),fun _=>⟨rfl,zfk hf⟩⟩
 case callr key as res =>
  obtain ⟨hp,h⟩:=zbd (show ifK (zol isP (zjd as s.tmps)) _ none=some e from h)
  cases h
  rw [zex] at hp
  refine ⟨rfl,as.map s.ev,res,.raw,rfl, ?_, ?_,fun _=>.inr (.inr rfl),fun h=>by cases h⟩
  ·simp only [zex]; exact zme (zfk hp)
  ·simp only [zex]; exact zfk hp
 case callv f as res fz =>
  obtain ⟨d,h1,h⟩:=zac (show zam (vD (kev f s.tmps)) _=some e from h)
  obtain ⟨p,h2,h⟩:=zac h
  obtain ⟨hs,h3,h⟩:=zac h
  cases h
  rw [zch] at h1
  rw [zex] at h3
  obtain ⟨k1,k2⟩:=zf7 h3
  refine ⟨rfl,ofDs p.2.1++as.map s.ev++ofDs p.2.2,res,zqs fz, ?_, ?_,k2,fun _=>?_,fun h=>by cases h⟩
  ·simp only [Cop.args,Qb,zgr h1,z7v h2,callee]
  ·cases fz <;> exact k1
  ·cases fz
   ·exact .inl rfl
   ·exact .inr (.inl rfl)
 all_goals cases h
def zh1 {α:Type}:List α→Bool:=@List.rec α (fun _=>Bool) true (fun _ _ _=>false)
theorem zcv {α:Type}{l:List α}(h:zh1 l=true):l=[]:=by cases l <;> first | rfl | cases h
def Zki:D→Bool:=@D.rec (fun _=>Bool) (fun _=>Unit) (fun _=>Unit) (fun _=>true) (fun _ _=>true) (fun _=>true) (fun _ _ _=>false) (fun _ _ _=>false) (fun _ _ _ _ _=>false) false false false () (fun _ _ _ _=>()) () (fun _ _ _ _=>())
def z7w:V→Bool:=@V.rec (fun _=>Bool) (fun _=>Unit) Zki (fun _=>false) (fun _ _ _ _=>false) (fun _ _ _ _=>false) (fun _ _=>false) (fun _ _ _ _=>false) (fun _=>false) (fun _ _ _ _ _=>false) (fun _ _=>false) (fun _ _=>false) false () (fun _ _ _ _=>())
theorem z3n {v:V}(h:z7w v=true):v.scal=true:=by
 cases v with
 | d d=>cases d <;> first | rfl | cases h
 | _=>cases h
def Zm4:V→Option V:=@V.rec (fun _=>Option V) (fun _=>Unit) (fun d=>some (.d d)) (fun _=>none) (fun _ _ _ _=>none) (fun _ _ _ _=>none) (fun _ _=>none) (fun _ _ _ _=>none) (fun _=>none) (fun _ _ _ _ _=>none) (fun _ _=>none) (fun _ _=>none) none () (fun _ _ _ _=>())
def zzs:List V→Option (List V):=@List.rec V (fun _=>Option (List V)) (some []) (fun v _ ih=>zam (Zm4 v) fun x=>zam ih fun xs=>some (x :: xs))
def Zm5:V→Option V:=@V.rec (fun _=>Option V) (fun _=>Unit) (fun d=>some (.d d)) (fun _=>none) (fun _ _ _ _=>none) (fun _ _ _ _=>none) (fun _ _=>none) (fun _ _ _ _=>none) (fun _=>none) (fun _ _ _ _ _=>none) (fun cs _=>zam (zzs cs) fun cs=>some (.agg cs)) (fun _ _=>none) none () (fun _ _ _ _=>())
def z7x:List V→Option (List V):=@List.rec V (fun _=>Option (List V)) (some []) (fun v _ ih=>zam (Zm5 v) fun x=>zam ih fun xs=>some (x :: xs))
def Zm6:V→Option V:=@V.rec (fun _=>Option V) (fun _=>Unit) (fun d=>some (.d d)) (fun _=>none) (fun _ _ _ _=>none) (fun _ _ _ _=>none) (fun _ _=>none) (fun _ _ _ _=>none) (fun _=>none) (fun _ _ _ _ _=>none) (fun cs _=>zam (zzs cs) fun cs=>some (.agg cs)) (fun vs _=>zam (z7x vs) fun vs=>some (.tup vs)) none () (fun _ _ _ _=>())
theorem zzt {v x:V}(h:Zm4 v=some x):x=v∧isD v=true:=by cases v <;> first | (cases h; exact ⟨rfl,rfl⟩) | cases h
theorem zki:∀ {vs xs:List V},zzs vs=some xs→xs=vs∧∀ c ∈ vs,isD c=true
 | [],xs,h=>by cases h; exact ⟨rfl,by simp⟩
 | v :: vs,xs,h=>by
  obtain ⟨x,h1,h⟩:=zac h
  obtain ⟨ys,h2,h⟩:=zac h
  cases h
  obtain ⟨rfl,k2⟩:=zzt h1
  obtain ⟨rfl,m2⟩:=zki h2
  exact ⟨rfl,by simp [k2]; exact m2⟩
theorem zzu {v x:V}(h:Zm5 v=some x):x=v∧isP v=true:=by
 cases v with
 | agg cs =>
  obtain ⟨ys,h1,h⟩:=zac (show zam (zzs cs) _=some x from h)
  cases h
  obtain ⟨rfl,m2⟩:=zki h1
  exact ⟨rfl,zgu m2⟩
 | _=>first | (cases h; exact ⟨rfl,rfl⟩) | cases h
theorem zoq:∀ {vs xs:List V},z7x vs=some xs→xs=vs∧∀ c ∈ vs,isP c=true
 | [],xs,h=>by cases h; exact ⟨rfl,by simp⟩
 | v :: vs,xs,h=>by
  obtain ⟨x,h1,h⟩:=zac h
  obtain ⟨ys,h2,h⟩:=zac h
  cases h
  obtain ⟨rfl,k2⟩:=zzu h1
  obtain ⟨rfl,m2⟩:=zoq h2
  exact ⟨rfl,by simp [k2]; exact m2⟩
theorem zzv {v x:V}(h:Zm6 v=some x):x=v∧Zar v=true:=by
 cases v with
 | agg cs =>
  obtain ⟨ys,h1,h⟩:=zac (show zam (zzs cs) _=some x from h)
  cases h
  obtain ⟨rfl,m2⟩:=zki h1
  exact ⟨rfl,zgu m2⟩
 | tup cs =>
  obtain ⟨ys,h1,h⟩:=zac (show zam (z7x cs) _=some x from h)
  cases h
  obtain ⟨rfl,m2⟩:=zoq h1
  exact ⟨rfl,zgu m2⟩
 | _=>first | (cases h; exact ⟨rfl,rfl⟩) | cases h
def z3o:Option Nat→V→List (Nat × V)→List (Option Obj)→St:=@Option.rec Nat (fun _=>V→List (Nat × V)→List (Option Obj)→St) (fun _ tm hp=>⟨tm,hp⟩) (fun t v tm hp=>⟨(t,v) :: tm,hp⟩)
theorem zmf (dst:Option Nat)(v:V)(s:St):z3o dst v s.tmps s.heap=s.put dst v:=by cases dst <;> rfl
def zrl:Option (Nat × Bool)→List (Nat × V)→Option Bool:=@Option.rec (Nat × Bool) (fun _=>List (Nat × V)→Option Bool) (fun _=>some true) (fun p tm=>zam (vB (ztr tm p.1)) fun x=>some (ifK p.2 x (z6w x)))
theorem zmg {g:Option (Nat × Bool)}{s:St}{b:Bool}(h:zrl g s.tmps=some b):wanted s g=some b:=by
 cases g with
 | none=>cases h; rfl
 | some p =>
  obtain ⟨t,want⟩:=p
  obtain ⟨x,h1,h⟩:=zac (show zam (vB (ztr s.tmps t)) _=some b from h)
  rw [zih] at h1
  have hv:s.get t = .d (.b x):=zto h1
  simp only [wanted,hv]
  cases h
  cases want <;> cases x <;> rfl
theorem zmh (call:za0){s:St}{g:Option (Nat × Bool)}(hg:wanted s g=some true)(dst:Option Nat)(op:Cop)(pre fresh:Nat):zck call s ⟨dst,op,g,pre⟩ fresh=zck call s ⟨dst,op,none,pre⟩ fresh:=by
 unfold zck
 rw [show wanted s (CO.guard ⟨dst,op,g,pre⟩)=some true from hg]
 rfl
def z6x:V→Bool:=@V.rec (fun _=>Bool) (fun _=>Unit) (fun _=>true) (fun _=>true) (fun _ _ _ _=>true) (fun _ _ _ _=>true) (fun _ _=>true) (fun _ _ _ _=>true) (fun _=>true) (fun _ _ _ _ _=>true) (fun _ _=>false) (fun _ _=>false) false () (fun _ _ _ _=>())
theorem zxe {v:V}(h:z6x v=true):v.cel=some [v]:=by cases v <;> first | rfl | cases h
def Zig {α:Type}:List α→Nat→α→Option (List α):=@List.rec α (fun _=>Nat→α→Option (List α)) (fun _ _=>none) (fun a l ih i x=>@Nat.rec (fun _=>Option (List α)) (some (x :: l)) (fun j _=>zam (ih j x) fun l'=>some (a :: l')) i)
theorem zmi {α:Type}:∀ {l:List α} {i:Nat} {x:α} {l':List α},Zig l i x=some l'→i < l.length∧l'=l.set i x
 | [],i,x,l',h=>by cases h
 | a :: l,0,x,l',h=>by cases h; exact ⟨by simp,rfl⟩
 | a :: l,i + 1,x,l',h=>by
  obtain ⟨m,h1,h⟩:=zac (show zam (Zig l i x) _=some l' from h)
  cases h
  obtain ⟨k1,rfl⟩:=zmi h1
  exact ⟨by simpa using k1,rfl⟩
theorem z3p {cs:List V}{off:Nat}{v:V}(h:off < cs.length):over cs off [v]=some (cs.set off v):=by
 unfold over
 rw [if_pos (show off + [v].length ≤ cs.length from h)]
 congr 1
 rw [List.set_eq_take_append_cons_drop,if_pos h]
 simp
def zzw (n:Nat)(a v:V)(dst:Option Nat)(tm:List (Nat × V))(hp:List (Option Obj)):Option St :=
 ifK (Nat.beq n 1) (ifK (z6x v) (zam (z26 a) fun p=>zam (ztq hp p.1) fun o=>zam (Zif o) fun cs=>zam (Zig cs p.2 v) fun cs'=>zam (Zig hp p.1 (some (.box cs'))) fun hp'=>some (z3o dst .undef tm hp')) none) none
def zzx:Cop→Option Nat→List (Nat × V)→List (Option Obj)→Option St:=fun op dst tm hp=>match op with
 | .st n a v=>zzw n (kev a tm) (kev v tm) dst tm hp
 | _=>none
theorem zrm (call:za0){op:Cop}{s s':St}{dst:Option Nat}(h:zzx op dst s.tmps s.heap=some s')(pre fresh:Nat):∃ e,zck call s ⟨dst,op,none,pre⟩ fresh=some e∧e.on s=s':=by
 cases op
 case st n a v =>
  have h:zzw n (kev a s.tmps) (kev v s.tmps) dst s.tmps s.heap=some s':=h
  rw [zch,zch] at h
  unfold zzw at h
  obtain ⟨hn,h⟩:=zbd h
  obtain ⟨hv,h⟩:=zbd h
  obtain ⟨p,h1,h⟩:=zac h
  obtain ⟨o,h2,h⟩:=zac h
  obtain ⟨cs,h3,h⟩:=zac h
  obtain ⟨cs',h4,h⟩:=zac h
  obtain ⟨hp',h5,h⟩:=zac h
  cases h
  have hn:=Nat.eq_of_beq_eq_true hn
  subst hn
  have ho:s.obj p.1=some (.box cs):=by rw [ztu,h2]; exact zmc h3
  obtain ⟨k1,rfl⟩:=zmi h4
  obtain ⟨k2,rfl⟩:=zmi h5
  have hact:act (.st 1 a v) [s.ev a,s.ev v] [some (.box cs)] fresh=some ⟨.undef,[some (.box (cs.set p.2 (s.ev v)))],none⟩:=by
   rw [zf0 h1]
   simp [act,zga,zxe hv,z3p k1]
  refine ⟨⟨dst,.undef,[p.1],true,[some (.box (cs.set p.2 (s.ev v)))],fresh,[]⟩, ?_, ?_⟩
  ·simp only [zck,wanted,Cop.isCall,Qm,if_false,Cop.args,Qb,Qc]
   rw [show Cop.ids (.st 1 a v) [s.ev a,s.ev v]=[p.1] by rw [zf0 h1]; rfl]
   simp only [Qb,Qc,ho,hact]
   rfl
  ·simp only [Eff.on,if_true,zar,List.length_nil,List.range'_zero]
   exact (zmf dst .undef ⟨s.tmps,s.heap.set p.1 (some (.box (cs.set p.2 (s.ev v))))⟩).symm
 all_goals cases h
section
variable (call:za0)
def zrn (e:Ent)(dst:Option Nat)(tm:List (Nat × V))(hp:List (Option Obj)):Option St :=
 zam (call e.key e.args []) fun rr=>ifK (zh1 rr.2) (ifK (ifK e.lent (z7w rr.1) true) (zam (Zm6 rr.1) fun r=>some (z3o dst r tm hp)) none) none
theorem zn9 {op:Cop}{s s':St}{e:Ent}{dst:Option Nat}(h1:Zkh op s.tmps=some e)(h2:zrn call e dst s.tmps s.heap=some s')(pre fresh:Nat):∃ f,zck call s ⟨dst,op,none,pre⟩ fresh=some f∧f.on s=s':=by
 obtain ⟨hc,vs,res,md,k1,k2,k3,k4,k5⟩:=zzr h1
 obtain ⟨rr,m1,h⟩:=zac h2
 obtain ⟨m2,h⟩:=zbd h
 obtain ⟨m3,h⟩:=zbd h
 obtain ⟨r,m4,h⟩:=zac h
 cases h
 obtain ⟨rfl,m5⟩:=zzv m4
 obtain ⟨r,h'⟩:=rr
 have:=zcv m2
 subst this
 have hfr:za9 md call e.key e.args []=some (r,[]):=by
  cases hl:e.lent with
  | false =>
   rcases k4 hl with rfl | rfl | rfl
   ·exact m1
   ·simp only [za9,m1]
    unfold zdy
    rw [ztw _ m5]
   ·exact m1
  | true =>
   obtain ⟨rfl,hf⟩:=k5 hl
   rw [hl] at m3
   have hsc:=z3n (show z7w r=true from m3)
   simp only [za9,zjh _ k3 hf,m1,hsc,if_true]
 have hent:=zxd call md s.obj (res:=res) (fresh:=fresh) k2 k3 hfr m5
 refine ⟨⟨dst,r,[],true,[],fresh,[]⟩, ?_, ?_⟩
 ·simp only [zck,wanted,hc,if_true,k1,hent]
 ·simp only [Eff.on,if_true,zar,List.length_nil,List.range'_zero]
  exact (zmf dst r s).symm
def zvd (s:St)(o:CO)(fresh:Nat):Option Eff :=
 match callee o.op (zjd (zzq o.op) s.tmps) with
 | none=>none
 | some (key,vs,res,fz)=>match zba (za9 fz call) fz s.obj key vs res fresh with
  | none=>none
  | some (r,is,os,ns)=>some ⟨o.dst,r,is,true,os,fresh,ns⟩
def zzy (s:St)(o:CO)(fresh:Nat):Option Eff :=
 match Zm1 o.op (zjd (zzq o.op) s.tmps) ((Zkg o.op (zjd (zzq o.op) s.tmps)).map s.obj) fresh with
 | none=>none
 | some r=>some ⟨o.dst,r.v,Zkg o.op (zjd (zzq o.op) s.tmps),wrK o.op,r.os,fresh,r.nws⟩
def zve (s:St)(o:CO)(fresh:Nat):Option Eff:=@Bool.rec (fun _=>Option Eff) (zzy s o fresh) (zvd call s o fresh) (Zbh o.op)
theorem zro (s:St)(o:CO)(fresh:Nat)(hg:wanted s o.guard=some true):zve call s o fresh=zck call s o fresh:=by
 obtain ⟨dst,op,guard,pre⟩:=o
 simp only [zck,hg,zve,z3m]
 cases h:op.isCall with
 | true =>
  simp only [zvd,if_true,zex,zvc]
  rfl
 | false =>
  simp only [zzy,zex,zvc,z7s,zzp,Zbg,Qm,if_false]
  rfl
def onK (s:St)(x:Option Eff):Option St:=@Option.rec Eff (fun _=>Option St) none (fun e=>some (e.on s)) x
def orK {α:Type}(x:Option α)(y:Option α):Option α:=@Option.rec α (fun _=>Option α) y some x
def z3q (s:St)(o:CO)(fresh:Nat):Option St :=
 @Option.rec Bool (fun _=>Option St) (onK s (zck call s o fresh))
  (fun b=>ifK b (orK (zam (Zbe o.op s.tmps s.heap) fun v=>some (z3o o.dst v s.tmps s.heap)) (orK (zzx o.op o.dst s.tmps s.heap) (orK (zam (Zkh o.op s.tmps) fun e=>zrn call e o.dst s.tmps s.heap) (onK s (zve call s o fresh))))) (some (z3o o.dst .undef s.tmps s.heap))) (zrl o.guard s.tmps)
theorem zds {α:Type}{x y:Option α}{a:α}(h:orK x y=some a):x=some a ∨ (x=none∧y=some a):=by
 cases x with
 | none=>exact .inr ⟨rfl,h⟩
 | some b=>exact .inl h
theorem zvf {s s':St}{x:Option Eff}(h:onK s x=some s'):∃ e,x=some e∧e.on s=s':=by
 cases x with
 | none=>cases h
 | some e=>cases h; exact ⟨e,rfl,rfl⟩
theorem zxf {s s':St}{o:CO}{fresh:Nat}(h:z3q call s o fresh=some s'):∃ e,zck call s o fresh=some e∧e.on s=s':=by
 unfold z3q at h
 cases hg:zrl o.guard s.tmps with
 | none=>rw [hg] at h; exact zvf h
 | some b =>
  rw [hg] at h
  have hw:=zmg hg
  cases b with
  | false =>
   have h:some (z3o o.dst .undef s.tmps s.heap)=some s':=h
   cases h
   refine ⟨⟨o.dst,.undef,[],false,[],fresh,[]⟩,by simp only [zck,hw], ?_⟩
   simp only [Eff.on,Qm,if_false,List.length_nil,List.range'_zero,zar]
   exact (zmf o.dst .undef s).symm
  | true =>
   obtain ⟨dst,op,g,pre⟩:=o
   rcases zds h with h | ⟨_,h⟩
   ·obtain ⟨v,h1,h⟩:=zac h
    cases h
    rw [zmh call hw]
    obtain ⟨e,k1,k2⟩:=zxc call h1 dst pre fresh
    exact ⟨e,k1,by rw [k2]; exact (zmf dst v s).symm⟩
   ·rcases zds h with h | ⟨_,h⟩
    ·rw [zmh call hw]
     exact zrm call h pre fresh
    ·rcases zds h with h | ⟨_,h⟩
     ·obtain ⟨e,h1,h2⟩:=zac h
      rw [zmh call hw]
      exact zn9 call h1 h2 pre fresh
     ·obtain ⟨e,k1,k2⟩:=zvf h
      exact ⟨e,by rw [← zro call s ⟨dst,op,g,pre⟩ fresh hw]; exact k1,k2⟩
end
def Zm7 (p:CO→Nat):List CO→Nat:=@List.rec CO (fun _=>Nat) 0 (fun o _ ih=>Nat.add (p o) ih)
def zgv:List CO→Nat:=Zm7 fun o=>Zas o.op
def zhv:List CO→Nat:=Zm7 fun o=>ifK (zk7 o.op) 0 1
theorem zkj:∀ (ops:List CO),zgv ops=zax ops
 | []=>rfl
 | o :: r=>by
  show Nat.add (Zas o.op) (zgv r)=_
  rw [ztx,zkj r]; rfl
def z7y {α:Type}(r:List α):List α→Option (List α):=@List.rec α (fun _=>Option (List α)) (some r) (fun a _ ih=>zam ih fun l=>some (a :: l))
theorem zmj {α:Type}{r:List α}:∀ {l m:List α},z7y r l=some m→m=l++r
 | [],m,h=>by cases h; rfl
 | a :: l,m,h=>by
  obtain ⟨x,h1,h⟩:=zac (show zam (z7y r l) _=some m from h)
  cases h
  rw [zmj h1]; rfl
def z7z {α:Type}(x:α):Nat→List α:=@Nat.rec (fun _=>List α) [] (fun _ ih=>x :: ih)
theorem zty {α:Type}(x:α):∀ n,z7z x n=List.replicate n x
 | 0=>rfl
 | n + 1=>by show x :: z7z x n=_; rw [zty x n]; rfl
section
variable (call:za0)
def zij (base:Nat):List CO→Nat→St→Option St :=
 @List.rec CO (fun _=>Nat→St→Option St) (fun _ s=>some s) (fun o _ ih j s=>zam (z3q call s o (base + j)) (ih (j + Zas o.op)))
def zrp (e:Eff):Prop:=e.ids=[]∧e.nws=[]
def zvg:List CO→List Eff→Prop
 | [],[]=>True
 | o :: os,e :: es=>(zk7 o.op=true→zrp e)∧zvg os es
 | _,_=>False
theorem zzz {s:St}{o:CO}{fresh:Nat}{e:Eff}(h:zck call s o fresh=some e)(hq:zk7 o.op=true):zrp e:=by
 obtain ⟨dst,op,g,pre⟩:=o
 have hcall:op.isCall=false:=by cases op <;> first | rfl | cases hq
 have hids:∀ vs,op.ids vs=[]:=fun vs=>by rw [← zzp]; cases op <;> first | rfl | cases hq
 have hn:op.nmk=0:=by cases op <;> first | rfl | cases hq
 rw [zq4] at h
 obtain ⟨_,k2,_,_⟩:=z2d h
 have k2:e.nws.length ≤ op.nmk:=k2
 refine ⟨?_,List.length_eq_zero_iff.1 (by omega)⟩
 rw [← zq4] at h
 unfold zck at h
 split at h
 ·cases h
 ·cases h; rfl
 ·simp only [hcall,Qm,if_false] at h
  split at h
  ·cases h
  ·cases h; exact hids _
theorem zji {base:Nat}:∀ {ops:List CO} {j:Nat} {s s':St} {es:List Eff},zcd call base ops j s=some (s',es)→zvg ops es
 | [],j,s,s',es,h=>by cases h; trivial
 | o :: r,j,s,s',es,h=>by
  simp only [zcd] at h
  split at h
  ·cases h
  ·rename_i e he
   split at h
   ·rename_i s2 es2 hes
    cases h
    exact ⟨zzz call he,zji hes⟩
   ·cases h
theorem zmk {a b:Eff}(h:zrp a ∨ zrp b):znj a b=false:=by
 have hnew:∀ {e:Eff},e.nws=[]→∀ i,e.new i=false:=fun {e} he i=>by unfold Eff.new; rw [he]; simp
 have hany:∀ {e f:Eff},e.nws=[]→f.ids.any e.new=false:=fun {e f} he=>by
  rw [Bool.eq_false_iff]
  intro hh
  obtain ⟨i,_,hi⟩:=List.any_eq_true.1 hh
  rw [hnew he] at hi; cases hi
 unfold znj
 rcases h with ⟨h1,h2⟩ | ⟨h1,h2⟩
 ·rw [h1,hany h2]; simp
 ·rw [h1,hany h2]; simp
theorem zvh {e:Eff}(he:zrp e){k:Nat}:∀ {os:List CO} {es:List Eff},zdh e k os es=true
 | [],_=>rfl
 | _ :: _,[]=>rfl
 | o :: os,e' :: es=>by simp [zdh,zmk (.inl he),zvh he]
theorem zvi {e:Eff}{k:Nat}:∀ {os:List CO} {es:List Eff},zhv os=0→zvg os es→zdh e k os es=true
 | [],_,_,_=>rfl
 | _ :: _,[],_,_=>rfl
 | o :: os,e' :: es,hn,hq=>by
  have hn:Nat.add (ifK (zk7 o.op) 0 1) (zhv os)=0:=hn
  have h1:zk7 o.op=true:=by
   cases hb:zk7 o.op with
   | true=>rfl
   | false=>rw [hb] at hn; have:1 + zhv os=0:=hn; omega
  have h2:zhv os=0:=by rw [h1] at hn; have:0 + zhv os=0:=hn; omega
  simp [zdh,zmk (.inr (hq.1 h1)),zvi h2 hq.2]
theorem zkk:∀ {os:List CO} {es:List Eff} {k:Nat},zhv os ≤ 1→zvg os es→zf3 os es k=true
 | [],[],_,_,_=>rfl
 | [],_ :: _,_,_,h=>h.elim
 | _ :: _,[],_,_,h=>h.elim
 | o :: os,e :: es,k,hn,hq=>by
  have hn:Nat.add (ifK (zk7 o.op) 0 1) (zhv os) ≤ 1:=hn
  cases hb:zk7 o.op with
  | true =>
   rw [hb] at hn
   have h2:zhv os ≤ 1:=by have:0 + zhv os ≤ 1:=hn; omega
   simp [zf3,zvh (hq.1 hb),zkk h2 hq.2]
  | false =>
   rw [hb] at hn
   have h2:zhv os=0:=by have:1 + zhv os ≤ 1:=hn; omega
   simp [zf3,zvi h2 hq.2,zkk (by omega:zhv os ≤ 1) hq.2]
theorem zgw {base:Nat}:∀ {ops:List CO} {j:Nat} {s s':St},zij call base ops j s=some s'→∃ es,zcd call base ops j s=some (s',es)
 | [],j,s,s',h=>by cases h; exact ⟨[],rfl⟩
 | o :: r,j,s,s',h=>by
  obtain ⟨s1,h1,h⟩:=zac (show zam (z3q call s o (base + j)) (zij call base r (j + Zas o.op))=some s' from h)
  obtain ⟨e,k1,rfl⟩:=zxf call h1
  rw [ztx] at h
  obtain ⟨es,k2⟩:=zgw h
  exact ⟨e :: es,by simp only [zcd,k1,k2]⟩
end
def zf1 (e:Eff)(k:Nat)(p:CO × Eff):Bool:=ifK (p.1.pre.testBit k) true (z6w (znj e p.2))
def zvj:List CO→List Eff→List (CO × Eff):=@List.rec CO (fun _=>List Eff→List (CO × Eff)) (fun _=>[]) (fun o _ ih es=>@List.rec Eff (fun _=>List (CO × Eff)) [] (fun e es' _=>(o,e) :: ih es') es)
structure Raced where
 ok:Bool
 touch:List (CO × Eff)
def zxg:List (CO × Eff)→Nat→Raced:=@List.rec (CO × Eff) (fun _=>Nat→Raced) (fun _=>⟨true,[]⟩) (fun p rest ih k =>
 @Raced.rec (fun _=>Raced) (fun ok tl=>ifK ok (ifK (zh1 p.2.ids) ⟨zol (zf1 p.2 k) tl,tl⟩ ⟨zol (zf1 p.2 k) rest,p :: tl⟩) ⟨false,[]⟩) (ih (Nat.succ k)))
theorem zrq (e:Eff)(k:Nat)(p:CO × Eff):zf1 e k p=(p.1.pre.testBit k || !znj e p.2):=by
 unfold zf1 ifK
 rw [zmb]
 cases p.1.pre.testBit k <;> rfl
theorem zgx (e:Eff)(k:Nat):∀ (os:List CO) (es:List Eff),(∀ p ∈ zvj os es,zf1 e k p=true)→zdh e k os es=true
 | [],es,_=>by cases es <;> rfl
 | o :: os,[],_=>rfl
 | o :: os,e' :: es,h=>by
  have h1:=h (o,e') (List.mem_cons_self ..)
  rw [zrq] at h1
  simp only [zdh,h1,Bool.true_and]
  exact zgx e k os es (fun p hp=>h p (List.mem_cons_of_mem _ hp))
theorem zrr {a b:Eff}(h1:a.ids=[])(h2:b.ids=[]):znj a b=false:=by
 unfold znj; rw [h1,h2]; simp
theorem zvk:∀ (os:List CO) (es:List Eff) (k:Nat),(zxg (zvj os es) k).ok=true→zf3 os es k=true∧∀ p ∈ zvj os es,p ∈ (zxg (zvj os es) k).touch ∨ p.2.ids=[]
 | [],es,k,_=>⟨by cases es <;> rfl,fun p hp=>by cases hp⟩
 | o :: os,[],k,_=>⟨rfl,fun p hp=>by cases hp⟩
 | o :: os,e :: es,k,h=>by
  have heq:zxg (zvj (o :: os) (e :: es)) k=@Raced.rec (fun _=>Raced) (fun ok tl=>ifK ok (ifK (zh1 e.ids) ⟨zol (zf1 e k) tl,tl⟩ ⟨zol (zf1 e k) (zvj os es),(o,e) :: tl⟩) ⟨false,[]⟩) (zxg (zvj os es) (Nat.succ k)):=rfl
  rw [heq] at h ⊢
  cases hr:zxg (zvj os es) (Nat.succ k) with
  | mk ok tl =>
   rw [hr] at h
   cases ok with
   | false=>cases h
   | true =>
    obtain ⟨m1,m2⟩:=zvk os es (k + 1) (by rw [hr])
    rw [hr] at m2
    cases hn:zh1 e.ids with
    | true =>
     have h:(ifK (zh1 e.ids) (⟨zol (zf1 e k) tl,tl⟩:Raced) ⟨zol (zf1 e k) (zvj os es),(o,e) :: tl⟩).ok=true:=h
     rw [hn] at h
     have hall:=zfk (show zol (zf1 e k) tl=true from h)
     have hids:=zcv hn
     refine ⟨?_, ?_⟩
     ·simp only [zf3,m1,Bool.and_true]
      refine zgx e k os es (fun p hp=>?_)
      rcases m2 p hp with hm | hm
      ·exact hall p hm
      ·rw [zrq,zrr hids hm]; simp
     ·show ∀ p ∈ (o,e) :: zvj os es,p ∈ tl ∨ p.2.ids=[]
      intro p hp
      rcases List.mem_cons.1 hp with rfl | hp
      ·exact .inr hids
      ·exact m2 p hp
    | false =>
     have h:(ifK (zh1 e.ids) (⟨zol (zf1 e k) tl,tl⟩:Raced) ⟨zol (zf1 e k) (zvj os es),(o,e) :: tl⟩).ok=true:=h
     rw [hn] at h
     have hall:=zfk (show zol (zf1 e k) (zvj os es)=true from h)
     refine ⟨?_, ?_⟩
     ·simp only [zf3,m1,Bool.and_true]
      exact zgx e k os es hall
     ·show ∀ p ∈ (o,e) :: zvj os es,p ∈ (o,e) :: tl ∨ p.2.ids=[]
      intro p hp
      rcases List.mem_cons.1 hp with rfl | hp
      ·exact .inl (List.mem_cons_self ..)
      ·rcases m2 p hp with hm | hm
       ·exact .inl (List.mem_cons_of_mem _ hm)
       ·exact .inr hm
section
variable (call:za0)
def zvl (s:St)(o:CO)(fresh:Nat):Option Eff:=@Option.rec Bool (fun _=>Option Eff) (zck call s o fresh)
  (fun b=>ifK b (zve call s o fresh) (zck call s o fresh)) (zrl o.guard s.tmps)
theorem zz0 (s:St)(o:CO)(fresh:Nat):zvl call s o fresh=zck call s o fresh:=by
 unfold zvl
 cases hg:zrl o.guard s.tmps with
 | none=>rfl
 | some b =>
  cases b with
  | true=>exact zro call s o fresh (zmg hg)
  | false=>rfl
def Eff.onK (e:Eff)(s:St):St:=@Eff.rec (fun _=>St) (fun dst v ids wr os fresh nws=>ifK (ifK wr (zh1 ids) true) (ifK (zh1 nws) (z3o dst v s.tmps s.heap) (Eff.on ⟨dst,v,ids,wr,os,fresh,nws⟩ s)) (Eff.on ⟨dst,v,ids,wr,os,fresh,nws⟩ s)) e
theorem Eff.onK_eq (e:Eff)(s:St):e.onK s=e.on s:=by
 obtain ⟨dst,v,ids,wr,os,fresh,nws⟩:=e
 show ifK (ifK wr (zh1 ids) true) (ifK (zh1 nws) (z3o dst v s.tmps s.heap) (Eff.on ⟨dst,v,ids,wr,os,fresh,nws⟩ s)) (Eff.on ⟨dst,v,ids,wr,os,fresh,nws⟩ s)=_
 have main:nws=[]→(wr=true→ids=[])→z3o dst v s.tmps s.heap=Eff.on ⟨dst,v,ids,wr,os,fresh,nws⟩ s:=fun h1 h2=>by
  subst h1
  rw [zmf]
  unfold Eff.on
  cases wr with
  | false=>simp [zar]
  | true=>rw [h2 rfl]; cases os <;> simp [zar]
 cases hn:zh1 nws with
 | false=>cases ifK wr (zh1 ids) true <;> rfl
 | true =>
  cases hc:ifK wr (zh1 ids) true with
  | false=>rfl
  | true =>
   refine main (zcv hn) (fun hw=>?_)
   subst hw
   exact zcv hc
structure Ran where
 s:St
 es:List Eff
def zz1 (base:Nat):List CO→Nat→St→Option Ran :=
 @List.rec CO (fun _=>Nat→St→Option Ran) (fun _ s=>some ⟨s,[]⟩) (fun o _ ih j s=>zam (zvl call s o (base + j)) fun e=>zam (ih (j + Zas o.op) (e.onK s)) fun r=>some ⟨r.s,e :: r.es⟩)
theorem zk8 {base:Nat}:∀ {ops:List CO} {j:Nat} {s:St} {r:Ran},zz1 call base ops j s=some r→zcd call base ops j s=some (r.s,r.es)
 | [],j,s,r,h=>by cases h; rfl
 | o :: ops,j,s,r,h=>by
  obtain ⟨e,h1,h⟩:=zac (show zam (zvl call s o (base + j)) _=some r from h)
  obtain ⟨r2,h2,h⟩:=zac h
  cases h
  rw [zz0] at h1
  rw [Eff.onK_eq,ztx] at h2
  simp only [zcd,h1,zk8 h2]
def z70 (ops:List CO)(s:St):Option St :=
 zam (z7y (z7z none (zgv ops)) s.heap) fun hp=>zje (zy0 s.heap) fun b=>zam (zz1 call b ops 0 ⟨s.tmps,hp⟩) fun r=>ifK (zxg (zvj ops r.es) 0).ok (some r.s) none
theorem zxh {ops:List CO}{s s':St}(h:z70 call ops s=some s'):zbb call true ops s=some s':=by
 obtain ⟨hp,h1,h⟩:=zac (show zam (z7y (z7z none (zgv ops)) s.heap) _=some s' from h)
 rw [ze5,zig] at h
 obtain ⟨r,h2,h⟩:=zac h
 obtain ⟨h3,h⟩:=zbd h
 cases h
 have:=zmj h1
 rw [zty,zkj] at this
 subst this
 have he:=zk8 call h2
 unfold zbb
 simp only [he,(zvk _ _ _ h3).1,if_true]
end
section
variable (call:za0)
def zp3 (draw:Bool)(ops:List CO)(s:St):Option St :=
 ifK (ifK draw (Nat.ble (zhv ops) 1) true)
  (ifK (Nat.beq (zgv ops) 0) (zij call (zy0 s.heap) ops 0 s) (zam (z7y (z7z none (zgv ops)) s.heap) fun hp=>zje (zy0 s.heap) fun b=>zij call b ops 0 ⟨s.tmps,hp⟩))
  (orK (ifK draw (z70 call ops s) none) (zbb call draw ops s))
theorem zrs {draw:Bool}{ops:List CO}{s s':St}(h:zp3 call draw ops s=some s'):zbb call draw ops s=some s':=by
 unfold zp3 at h
 have fin:∀ es,(draw=true→zhv ops ≤ 1)→zcd call s.heap.length ops 0 { s with heap:=s.heap++List.replicate (zax ops) none }=some (s',es)→zbb call draw ops s=some s':=fun es hd he=>by
  unfold zbb
  simp only [he]
  cases draw with
  | false=>rfl
  | true=>simp [zkk (hd rfl) (zji call he)]
 have go:(draw=true→zhv ops ≤ 1)→(ifK (Nat.beq (zgv ops) 0) (zij call (zy0 s.heap) ops 0 s) (zam (z7y (z7z none (zgv ops)) s.heap) fun hp=>zje (zy0 s.heap) fun b=>zij call b ops 0 ⟨s.tmps,hp⟩))=some s'→zbb call draw ops s=some s':=fun hd h=>by
  rw [zkj,zig] at h
  cases hz:Nat.beq (zax ops) 0 with
  | true =>
   rw [hz] at h
   obtain ⟨es,k⟩:=zgw call (show zij call s.heap.length ops 0 s=some s' from h)
   refine fin es hd ?_
   rw [Nat.eq_of_beq_eq_true hz]
   simpa using k
  | false =>
   rw [hz] at h
   obtain ⟨hp,h1,h⟩:=zac (show zam (z7y (z7z none (zax ops)) s.heap) _=some s' from h)
   rw [ze5] at h
   have:=zmj h1
   rw [zty] at this
   subst this
   obtain ⟨es,k⟩:=zgw call h
   exact fin es hd k
 cases draw with
 | false=>exact go (fun h=>by cases h) h
 | true =>
  cases hb:Nat.ble (zhv ops) 1 with
  | true=>rw [hb] at h; exact go (fun _=>Nat.le_of_ble_eq_true hb) h
  | false =>
   rw [hb] at h
   rcases zds (show orK (z70 call ops s) (zbb call true ops s)=some s' from h) with h | ⟨_,h⟩
   ·exact zxh call h
   ·exact h
def zz2:List V→Nat→Nat→Option (List V):=@List.rec V (fun _=>Nat→Nat→Option (List V)) (fun off n=>ifK (Nat.beq n 0) (ifK (Nat.beq off 0) (some []) none) none)
 (fun a _ ih off n=>@Nat.rec (fun _=>Option (List V)) (@Nat.rec (fun _=>Option (List V)) (some []) (fun m _=>zam (ih 0 m) fun l=>some (a :: l)) n) (fun o _=>ih o n) off)
theorem zkl:∀ {cs:List V} {off n:Nat} {l:List V},zz2 cs off n=some l→off + n ≤ cs.length∧l=(cs.drop off).take n
 | [],off,n,l,h=>by
  obtain ⟨h1,h⟩:=zbd (show ifK (Nat.beq n 0) _ none=some l from h)
  obtain ⟨h2,h⟩:=zbd h
  cases h
  rw [Nat.eq_of_beq_eq_true h1,Nat.eq_of_beq_eq_true h2]
  simp
 | a :: cs,0,0,l,h=>by cases h; simp
 | a :: cs,0,n + 1,l,h=>by
  obtain ⟨m,h1,h⟩:=zac (show zam (zz2 cs 0 n) _=some l from h)
  cases h
  obtain ⟨k1,k2⟩:=zkl h1
  refine ⟨by simp; omega, ?_⟩
  rw [k2]; simp
 | a :: cs,off + 1,n,l,h=>by
  obtain ⟨k1,k2⟩:=zkl (show zz2 cs off n=some l from h)
  exact ⟨by simp; omega,by rw [k2]; simp⟩
def Zkj (s:St):Ret→Option V:=@Ret.rec (fun _=>Option V) (fun _=>none) (fun t=>z3j (ztr s.tmps t)) (fun t agg n=>zam (z26 (ztr s.tmps t)) fun p=>zam (ztq s.heap p.1) fun o=>zam (Zif o) fun cs =>
 ifK agg (zam (zz2 cs p.2 n) fun l=>zam (zvb l) fun l=>some (.agg l)) (ifK (Nat.beq n 1) (zam (ztq cs p.2) z7u) none))
theorem zxi {v:V}(h:isD v=true):isP v=true:=by obtain ⟨d,rfl⟩:=z3i h; rfl
theorem zz3 {s:St}{r:Ret}{v:V}(h:Zkj s r=some v):zyd s r=some v∧isP v=true:=by
 cases r with
 | raw t=>cases h
 | slot t =>
  have h:z3j (ztr s.tmps t)=some v:=h
  rw [zih] at h
  exact zop h
 | cell t agg n =>
  obtain ⟨p,h1,h⟩:=zac (show zam (z26 (ztr s.tmps t)) _=some v from h)
  obtain ⟨o,h2,h⟩:=zac h
  obtain ⟨cs,h3,h⟩:=zac h
  rw [zih] at h1
  have hg:s.get t = .ptr p.1 p.2:=zf0 h1
  have ho:s.obj p.1=some (.box cs):=by rw [ztu,h2]; exact zmc h3
  cases agg with
  | true =>
   obtain ⟨l,h4,h⟩:=zac (show zam (zz2 cs p.2 n) _=some v from h)
   obtain ⟨l',h5,h⟩:=zac h
   cases h
   obtain ⟨k1,rfl⟩:=zkl h4
   obtain ⟨m1,m2⟩:=zii h5
   have hlen:((cs.drop p.2).take n).length=n:=by simp; omega
   refine ⟨?_,zgu m2⟩
   simp only [zyd,hg,ho,zbn,k1,if_true,ze7,hlen,V.hand,m1]
  | false =>
   obtain ⟨h4,h⟩:=zbd (show ifK (Nat.beq n 1) _ none=some v from h)
   obtain ⟨c,h5,h6⟩:=zac h
   have hn:=Nat.eq_of_beq_eq_true h4
   subst hn
   rw [ze4] at h5
   obtain ⟨m1,m2⟩:=zoo h6
   refine ⟨?_,zxi m2⟩
   simp only [zyd,hg,ho,zmd h5,ze7,Qm,if_false,m1]
def Zbi (s:St):List Ret→Option (List V):=@List.rec Ret (fun _=>Option (List V)) (some []) (fun r _ ih=>zam (Zkj s r) fun v=>zam ih fun vs=>some (v :: vs))
theorem zor {s:St}:∀ {rs:List Ret} {vs:List V},Zbi s rs=some vs→zc8 s rs=some vs∧∀ v ∈ vs,isP v=true
 | [],vs,h=>by cases h; exact ⟨rfl,by simp⟩
 | r :: rs,vs,h=>by
  obtain ⟨v,h1,h⟩:=zac (show zam (Zkj s r) _=some vs from h)
  obtain ⟨ws,h2,h⟩:=zac h
  cases h
  obtain ⟨k1,k2⟩:=zz3 h1
  obtain ⟨m1,m2⟩:=zor h2
  exact ⟨by simp only [zc8,k1,m1],by simp [k2]; exact m2⟩
def zp4 (h:List (Option Obj))(s:St)(rets:List Ret):Option (V × List (Option Obj)) :=
 ifK (zh1 h) (orK (zam (Zbi s rets) fun vs=>some (zej vs,[])) (zdo 0 s rets)) (zdo h.length s rets)
theorem zk9 {h:List (Option Obj)}{s:St}{rets:List Ret}{r:V × List (Option Obj)}(hr:zp4 h s rets=some r):zdo h.length s rets=some r:=by
 unfold zp4 at hr
 cases hn:zh1 h with
 | false=>rw [hn] at hr; exact hr
 | true =>
  rw [hn] at hr
  have:=zcv hn
  subst this
  rcases zds hr with hr | ⟨_,hr⟩
  ·obtain ⟨vs,h1,hr⟩:=zac hr
   cases hr
   obtain ⟨k1,k2⟩:=zor h1
   obtain ⟨m1,m2,_⟩:=zjf (zau []) zbh k2
   have hT:Zar (zej vs)=true:=by
    match vs,k2 with
    | [v],k2 =>
     have:=k2 v (by simp)
     rcases zgs this with ⟨d,rfl⟩ | ⟨cs,rfl,hc⟩
     ·rfl
     ·exact zgu hc
    | [],_=>rfl
    | a :: b :: r,k2=>exact zgu k2
   have hreach:zbt s.obj far (List.range 0++V.refsAll vs) []=some []:=by rw [m2]; rfl
   unfold zdo
   simp only [k1,zku,List.length_nil,hreach,Qc,zbj,(zrk _ _ hT).1]
  ·exact hr
end
def z71:V→Option V:=@V.rec (fun _=>Option V) (fun _=>Unit) (fun d=>some (.d d)) (fun sz=>some (.nil sz)) (fun a b c d=>some (.own a b c d)) (fun a b c d=>some (.arr a b c d)) (fun a b=>some (.ptr a b)) (fun a b c d=>some (.pm a b c d)) (fun a=>some (.map a)) (fun a b c _ _=>some (.fn a b c)) (fun a _=>some (.agg a)) (fun a _=>some (.tup a)) (some .bad) () (fun _ _ _ _=>())
theorem z3r (v:V):z71 v=some v:=by cases v <;> rfl
def Zbj:List Nat→List (Nat × V)→Option (List (Nat × V)):=@List.rec Nat (fun _=>List (Nat × V)→Option (List (Nat × V))) (fun _=>some []) (fun t _ ih tm=>zam (z71 (ztr tm t)) fun v=>zam (ih tm) fun l=>some ((t,v) :: l))
theorem zos:∀ {ks:List Nat} {s:St} {l:List (Nat × V)},Zbj ks s.tmps=some l→l=zcs s ks
 | [],s,l,h=>by cases h; rfl
 | t :: ks,s,l,h=>by
  obtain ⟨v,h1,h⟩:=zac (show zam (z71 (ztr s.tmps t)) _=some l from h)
  obtain ⟨m,h2,h⟩:=zac h
  cases h
  rw [z3r,zih] at h1
  cases h1
  rw [zos h2]; rfl
def zz4 (ann:Ann)(s:St):Option St:=ifK (ifK (zh1 ann.own) (ifK (zh1 ann.ownB) (ifK (zh1 ann.dat) (zh1 ann.datB) false) false) false) (zam (Zbj ann.keep s.tmps) fun tm=>some ⟨tm,s.heap⟩) none
theorem zp5 {a b:Bool}(h:ifK a b false=true):a=true∧b=true:=by
 cases a with
 | true=>exact ⟨rfl,h⟩
 | false=>cases h
theorem ztz {ann:Ann}{s s':St}(h:zz4 ann s=some s'):enter ann s=s':=by
 obtain ⟨hc,h⟩:=zbd h
 obtain ⟨c1,hc⟩:=zp5 hc
 obtain ⟨c2,hc⟩:=zp5 hc
 obtain ⟨c3,c4⟩:=zp5 hc
 obtain ⟨tm,h1,h⟩:=zac h
 cases h
 unfold enter z3a
 simp only [zcv c1,zcv c2,zcv c3,zcv c4,List.foldl_nil]
 rw [zos h1]
def Zkk:V→Option V:=@V.rec (fun _=>Option V) (fun _=>Unit) (fun d=>some (.d d)) (fun sz=>some (.d (.l sz []))) (fun _ _ sz xs=>some (.d (.l sz xs))) (fun a b c d=>some (.arr a b c d)) (fun a b=>some (.ptr a b)) (fun a b c d=>some (.pm a b c d)) (fun a=>some (.map a)) (fun a b c _ _=>some (.fn a b c)) (fun _ _=>none) (fun a _=>some (.tup a)) (some .bad) () (fun _ _ _ _=>())
theorem zz5 {v x:V}(h:Zkk v=some x):z1x v=x:=by cases v <;> first | (cases h; rfl) | cases h
def Zm8:List Nat→List (Nat × V)→Option (List (Nat × V)):=@List.rec Nat (fun _=>List (Nat × V)→Option (List (Nat × V))) some (fun t _ ih tm=>zam (Zkk (ztr tm t)) fun v=>ih ((t,v) :: tm))
theorem zrt:∀ {ks:List Nat} {s:St} {l:List (Nat × V)},Zm8 ks s.tmps=some l→ks.foldl zfv s=⟨l,s.heap⟩
 | [],s,l,h=>by cases h; rfl
 | t :: ks,s,l,h=>by
  obtain ⟨v,h1,h⟩:=zac (show zam (Zkk (ztr s.tmps t)) _=some l from h)
  rw [zih] at h1
  have:=zz5 h1
  rw [List.foldl_cons]
  have hs:zfv s t=⟨(t,v) :: s.tmps,s.heap⟩:=by
   unfold zfv St.set St.get
   rw [this]
  rw [hs]
  exact zrt (s:=⟨(t,v) :: s.tmps,s.heap⟩) h
section
variable (hp:List (Option Obj)) (n:Nat)
def Zm9:Option Obj→Option Nat:=@Option.rec Obj (fun _=>Option Nat) none (@Obj.rec (fun _=>Option Nat) (fun _=>none) (fun _=>none) (fun v _=>some v) (fun _ _ _=>none) (fun _=>none) (fun _ _ _=>none))
def Zna:Option Obj→Option Nat:=@Option.rec Obj (fun _=>Option Nat) none (@Obj.rec (fun _=>Option Nat) (fun _=>none) (fun _=>none) (fun _ _=>none) (fun v _ _=>some v) (fun _=>none) (fun _ _ _=>none))
theorem zz6 {o:Option Obj}{v:Nat}(h:Zm9 o=some v):∃ sz,o=some (.tok v sz):=by
 cases o with
 | none=>cases h
 | some o=>cases o <;> first | (injection h with h; rw [h]; exact ⟨_,rfl⟩) | cases h
theorem zz7 {o:Option Obj}{v:Nat}(h:Zna o=some v):∃ sz xs,o=some (.arr v sz xs):=by
 cases o with
 | none=>cases h
 | some o=>cases o <;> first | (injection h with h; rw [h]; exact ⟨_,_,rfl⟩) | cases h
def nC:V→Option V:=@V.rec (fun _=>Option V) (fun _=>Unit) (fun d=>some (.d d)) (fun sz=>some (.nil sz))
 (fun id ver sz xs=>ifK (Nat.ble (Nat.succ id) n) (zam (ztq hp id) fun o=>zam (Zm9 o) fun v=>ifK (Nat.beq ver v) (some (.own id 0 sz xs)) (some (.d (.l sz xs)))) none)
 (fun id ver off len=>ifK (Nat.ble (Nat.succ id) n) (zam (ztq hp id) fun o=>zam (Zna o) fun v=>ifK (Nat.beq ver v) (some (.arr id ver off len)) (some .bad)) none)
 (fun id off=>ifK (Nat.ble (Nat.succ id) n) (some (.ptr id off)) none) (fun _ _ _ _=>none) (fun id=>ifK (Nat.ble (Nat.succ id) n) (some (.map id)) none)
 (fun k a c _ _=>ifK (V.under n (.fn k a c)) (ifK (V.fine (.fn k a c)) (some (.fn k a c)) none) none) (fun _ _=>none) (fun _ _=>none) (some .bad) () (fun _ _ _ _=>())
theorem zvm {i:Nat}(h:i < n):(hp.take n)[i]?=hp[i]?:=by rw [List.getElem?_take,if_pos h]
theorem zz8 {v x:V}(h:nC hp n v=some x):V.under n v=true∧zc5 (hp.take n) v=x∧(∀ cs,v ≠ .agg cs)∧(∀ cs,v ≠ .tup cs):=by
 cases v with
 | d d=>cases h; exact ⟨rfl,rfl,by simp,by simp⟩
 | nil sz=>cases h; exact ⟨rfl,rfl,by simp,by simp⟩
 | own id ver sz xs =>
  obtain ⟨h1,h⟩:=zbd (show ifK (Nat.ble (Nat.succ id) n) _ none=some x from h)
  obtain ⟨o,h2,h⟩:=zac h
  obtain ⟨v,h3,hf⟩:=zac h
  have hlt:id < n:=Nat.le_of_ble_eq_true h1
  obtain ⟨sz',rfl⟩:=zz6 h3
  rw [ze4] at h2
  refine ⟨by simp [V.under,hlt], ?_,by simp,by simp⟩
  simp only [zc5,zvm hp n hlt,h2,Option.join_some]
  by_cases e:ver=v
  ·subst e; rw [zjc] at hf; cases hf; simp
  ·rw [zu7 e] at hf; cases hf; simp [e]
 | arr id ver off len =>
  obtain ⟨h1,h⟩:=zbd (show ifK (Nat.ble (Nat.succ id) n) _ none=some x from h)
  obtain ⟨o,h2,h⟩:=zac h
  obtain ⟨v,h3,hf⟩:=zac h
  have hlt:id < n:=Nat.le_of_ble_eq_true h1
  obtain ⟨sz',xs,rfl⟩:=zz7 h3
  rw [ze4] at h2
  refine ⟨by simp [V.under,hlt], ?_,by simp,by simp⟩
  simp only [zc5,zvm hp n hlt,h2,Option.join_some]
  by_cases e:ver=v
  ·subst e; rw [zjc] at hf; cases hf; simp
  ·rw [zu7 e] at hf; cases hf; simp [e]
 | ptr id off =>
  obtain ⟨h1,h⟩:=zbd (show ifK (Nat.ble (Nat.succ id) n) _ none=some x from h)
  cases h
  have hlt:id < n:=Nat.le_of_ble_eq_true h1
  exact ⟨by simp [V.under,hlt],rfl,by simp,by simp⟩
 | map id =>
  obtain ⟨h1,h⟩:=zbd (show ifK (Nat.ble (Nat.succ id) n) _ none=some x from h)
  cases h
  have hlt:id < n:=Nat.le_of_ble_eq_true h1
  exact ⟨by simp [V.under,hlt],rfl,by simp,by simp⟩
 | fn k a c =>
  obtain ⟨h1,h⟩:=zbd (show ifK (V.under n (.fn k a c)) _ none=some x from h)
  obtain ⟨h2,h⟩:=zbd h
  cases h
  exact ⟨h1,by simp only [zc5,h2,if_true],by simp,by simp⟩
 | bad=>cases h; exact ⟨rfl,rfl,by simp,by simp⟩
 | _=>cases h
def nCs:List V→Option (List V):=@List.rec V (fun _=>Option (List V)) (some []) (fun v _ ih=>zam (nC hp n v) fun x=>zam ih fun xs=>some (x :: xs))
theorem zly:∀ {vs xs:List V},nCs hp n vs=some xs→V.underAll n vs=true∧vs.map (zc5 (hp.take n))=xs
 | [],xs,h=>by cases h; exact ⟨rfl,rfl⟩
 | v :: vs,xs,h=>by
  obtain ⟨x,h1,h⟩:=zac (show zam (nC hp n v) _=some xs from h)
  obtain ⟨ys,h2,h⟩:=zac h
  cases h
  obtain ⟨k1,k2,_⟩:=zz8 hp n h1
  obtain ⟨m1,m2⟩:=zly h2
  exact ⟨by simp [V.underAll,k1,m1],by simp [k2,m2]⟩
def nV (v:V):Option V:=orK (nC hp n v) (orK (zam (z7t v) fun cs=>zam (nCs hp n cs) fun cs=>some (.agg cs)) (zam (Zj5 v) fun vs=>ifK (zh1 vs) (some (.tup [])) none))
theorem zt0 {v x:V}(h:nV hp n v=some x):V.under n v=true∧zdq (hp.take n) v=x:=by
 rcases zds h with h | ⟨_,h⟩
 ·obtain ⟨k1,k2,k3,k4⟩:=zz8 hp n h
  refine ⟨k1, ?_⟩
  cases v with
  | agg cs=>exact absurd rfl (k3 cs)
  | tup cs=>exact absurd rfl (k4 cs)
  | _=>exact k2
 ·rcases zds h with h | ⟨_,h⟩
  ·obtain ⟨cs,h1,h⟩:=zac h
   obtain ⟨ds,h2,h⟩:=zac h
   cases h
   obtain ⟨k1,k2⟩:=zly hp n h2
   rw [zjb h1]
   exact ⟨by simp [V.under,k1],by simp [zdq,k2]⟩
  ·obtain ⟨vs,h1,h⟩:=zac h
   obtain ⟨h2,h⟩:=zbd h
   cases h
   rw [zrh h1,zcv h2]
   exact ⟨rfl,rfl⟩
def Zbk (tm:List (Nat × V)):List Nat→Option (List (Nat × V)):=@List.rec Nat (fun _=>Option (List (Nat × V))) (some []) (fun t _ ih=>zam (nV hp n (ztr tm t)) fun v=>zam ih fun l=>some ((t,v) :: l))
theorem zot {s:St}:∀ {ks:List Nat} {l:List (Nat × V)},Zbk hp n s.tmps ks=some l→zcl n (zcs s ks)=true∧zdi (hp.take n) (zcs s ks)=l
 | [],l,h=>by cases h; exact ⟨rfl,rfl⟩
 | t :: ks,l,h=>by
  obtain ⟨v,h1,h⟩:=zac (show zam (nV hp n (ztr s.tmps t)) _=some l from h)
  obtain ⟨m,h2,h⟩:=zac h
  cases h
  rw [zih] at h1
  obtain ⟨k1,k2⟩:=zt0 hp n h1
  obtain ⟨m1,m2⟩:=zot h2
  have k1:V.under n (s.get t)=true:=k1
  have k2:zdq (hp.take n) (s.get t)=v:=k2
  exact ⟨by simp [zcs,zcl,k1,m1],by simp [zcs,zdi,k2,m2]⟩
def z72:List (List V)→Option (List (List V)):=@List.rec (List V) (fun _=>Option (List (List V))) (some []) (fun r _ ih=>zam (nCs hp n r) fun x=>zam ih fun xs=>some (x :: xs))
theorem zou:∀ {vs xs:List (List V)},z72 hp n vs=some xs→zbr n vs=true∧(vs.map fun r=>r.map (zc5 (hp.take n)))=xs
 | [],xs,h=>by cases h; exact ⟨rfl,rfl⟩
 | v :: vs,xs,h=>by
  obtain ⟨x,h1,h⟩:=zac (show zam (nCs hp n v) _=some xs from h)
  obtain ⟨ys,h2,h⟩:=zac h
  cases h
  obtain ⟨k1,k2⟩:=zly hp n h1
  obtain ⟨m1,m2⟩:=zou h2
  exact ⟨by simp [zbr,k1,m1],by simp [k2,m2]⟩
def Zkl:List (List D × V)→Option (List (List D × V)):=@List.rec (List D × V) (fun _=>Option (List (List D × V))) (some []) (fun p _ ih=>zam (nV hp n p.2) fun x=>zam ih fun xs=>some ((p.1,x) :: xs))
theorem zru:∀ {vs xs:List (List D × V)},Zkl hp n vs=some xs→zct n vs=true∧(vs.map fun p=>(p.1,zdq (hp.take n) p.2))=xs
 | [],xs,h=>by cases h; exact ⟨rfl,rfl⟩
 | v :: vs,xs,h=>by
  obtain ⟨x,h1,h⟩:=zac (show zam (nV hp n v.2) _=some xs from h)
  obtain ⟨ys,h2,h⟩:=zac h
  cases h
  obtain ⟨k1,k2⟩:=zt0 hp n h1
  obtain ⟨m1,m2⟩:=zru h2
  exact ⟨by obtain ⟨a,b⟩:=v; simp [zct,m1]; exact k1,by simp [k2,m2]⟩
def nVs:List V→Option (List V):=@List.rec V (fun _=>Option (List V)) (some []) (fun v _ ih=>zam (nV hp n v) fun x=>zam ih fun xs=>some (x :: xs))
theorem zvn:∀ {vs xs:List V},nVs hp n vs=some xs→V.underAll n vs=true∧vs.map (zdq (hp.take n))=xs
 | [],xs,h=>by cases h; exact ⟨rfl,rfl⟩
 | v :: vs,xs,h=>by
  obtain ⟨x,h1,h⟩:=zac (show zam (nV hp n v) _=some xs from h)
  obtain ⟨ys,h2,h⟩:=zac h
  cases h
  obtain ⟨k1,k2⟩:=zt0 hp n h1
  obtain ⟨m1,m2⟩:=zvn h2
  exact ⟨by simp [V.underAll,k1,m1],by simp [k2,m2]⟩
def nO:Option Obj→Option (Option Obj):=@Option.rec Obj (fun _=>Option (Option Obj)) (some none) (@Obj.rec (fun _=>Option (Option Obj)) (fun cs=>zam (nCs hp n cs) fun cs=>some (some (.box cs))) (fun ds=>some (some (.cst ds))) (fun _ sz=>some (some (.tok 0 sz))) (fun v sz xs=>zam (z72 hp n xs) fun xs=>some (some (.arr v sz xs))) (fun kvs=>zam (Zkl hp n kvs) fun kvs=>some (some (.map kvs))) (fun j key caps=>zam (nVs hp n caps) fun caps=>some (some (.lp j key caps))))
theorem z73 {o x:Option Obj}(h:nO hp n o=some x):Obj.under n o=true∧zbp (hp.take n) o=x:=by
 cases o with
 | none=>cases h; exact ⟨rfl,rfl⟩
 | some o =>
  cases o with
  | box cs =>
   obtain ⟨ds,h2,h⟩:=zac (show zam (nCs hp n cs) _=some x from h)
   cases h
   obtain ⟨k1,k2⟩:=zly hp n h2
   exact ⟨k1,by simp [zbp,k2]⟩
  | cst ds=>cases h; exact ⟨rfl,rfl⟩
  | tok v sz=>cases h; exact ⟨rfl,rfl⟩
  | arr v sz xs =>
   obtain ⟨ds,h2,h⟩:=zac (show zam (z72 hp n xs) _=some x from h)
   cases h
   obtain ⟨k1,k2⟩:=zou hp n h2
   exact ⟨k1,by simp [zbp,k2]⟩
  | map kvs =>
   obtain ⟨ds,h2,h⟩:=zac (show zam (Zkl hp n kvs) _=some x from h)
   cases h
   obtain ⟨k1,k2⟩:=zru hp n h2
   exact ⟨k1,by simp [zbp,k2]⟩
  | lp j key caps =>
   obtain ⟨ds,h2,h⟩:=zac (show zam (nVs hp n caps) _=some x from h)
   cases h
   obtain ⟨k1,k2⟩:=zvn hp n h2
   exact ⟨k1,by simp [zbp,k2]⟩
def Zbl:List (Option Obj)→Nat→Option (List (Option Obj)):=@List.rec (Option Obj) (fun _=>Nat→Option (List (Option Obj))) (fun _=>some []) (fun o _ ih k=>@Nat.rec (fun _=>Option (List (Option Obj))) (some []) (fun k' _=>zam (nO hp n o) fun o'=>zam (ih k') fun l=>some (o' :: l)) k)
theorem zov:∀ {h:List (Option Obj)} {k:Nat} {l:List (Option Obj)},Zbl hp n h k=some l→(h.take k).all (Obj.under n)=true∧(h.take k).map (zbp (hp.take n))=l
 | [],k,l,h=>by cases h; simp
 | o :: h,0,l,hh=>by cases hh; simp
 | o :: h,k + 1,l,hh=>by
  obtain ⟨x,h1,hh⟩:=zac (show zam (nO hp n o) _=some l from hh)
  obtain ⟨ys,h2,hh⟩:=zac hh
  cases hh
  obtain ⟨k1,k2⟩:=z73 hp n h1
  obtain ⟨m1,m2⟩:=zov h2
  exact ⟨by simp only [List.take_succ_cons,List.all_cons,k1,m1]; rfl,by simp [k2,m2]⟩
end
def z74 (ann:Ann)(n:Nat)(s:St):Option St:=ifK ann.tr (ifK (zh1 ann.datB) (zam (Zm8 ann.dat s.tmps) fun tm=>zam (Zbk s.heap n tm ann.keep) fun tm'=>zam (Zbl s.heap n s.heap n) fun hp'=>some ⟨tm',hp'⟩) none) none
theorem zxj {ann:Ann}{n:Nat}{s s':St}(h:z74 ann n s=some s'):zkt ann n s=some s':=by
 obtain ⟨h1,h⟩:=zbd h
 obtain ⟨h2,h⟩:=zbd h
 obtain ⟨tm,h3,h⟩:=zac h
 obtain ⟨tm',h4,h⟩:=zac h
 obtain ⟨hp',h5,h⟩:=zac h
 cases h
 have hd:z3a ann s=⟨tm,s.heap⟩:=by
  unfold z3a
  rw [zcv h2,List.foldl_nil]
  exact zrt h3
 obtain ⟨k1,k2⟩:=zot s.heap n (s:=⟨tm,s.heap⟩) h4
 obtain ⟨m1,m2⟩:=zov s.heap n h5
 unfold zkt
 simp only [hd,h1,if_true,k1,m1,Bool.and_self,k2,m2]
section
variable (call:za0) (n:Nat)
def Zol (draw:Bool)(ops:List CO)(s:St):Option (Ex × St):=zam (zp3 call draw ops s) fun s'=>some (.normal,s')
def Zom (f g:St→Option (Ex × St))(s:St):Option (Ex × St):=zam (f s) fun p=>@Ex.rec (fun _=>Option (Ex × St)) (g p.2) (fun id=>some (.exit id,p.2)) (some (.ret,p.2)) p.1
def Zkm (c:A)(f g:St→Option (Ex × St))(s:St):Option (Ex × St):=zam (vB (kev c s.tmps)) fun b=>@Bool.rec (fun _=>Option (Ex × St)) (g s) (f s) b
def Zbm (id:Nat)(f:St→Option (Ex × St))(s:St):Option (Ex × St):=zam (f s) fun p=>@Ex.rec (fun _=>Option (Ex × St)) (some (.normal,p.2)) (fun id'=>ifK (Nat.beq id' id) (some (.normal,p.2)) (some (.exit id',p.2))) (some (.ret,p.2)) p.1
def zz9 (f:St→Option (Ex × St))(bk:St→Option St):Nat→St→Option (Ex × St) :=
 @Nat.rec (fun _=>St→Option (Ex × St)) (fun _=>none) (fun _ ih s=>zam (f s) fun p=>@Ex.rec (fun _=>Option (Ex × St)) (zam (bk p.2) ih) (fun id=>some (.exit id,p.2)) (some (.ret,p.2)) p.1)
def Zkn (ann:Ann)(f:St→Option (Ex × St))(s:St):Option (Ex × St) :=
 zam (orK (zz4 ann s) (some (enter ann s))) fun s0=>zje (zy0 s0.heap) fun m=>zz9 f (fun s'=>orK (z74 ann m s') (zkt ann m s')) n s0
def zt1:CCode→St→Option (Ex × St) :=
 @CCode.rec (fun _=>St→Option (Ex × St)) (fun s=>some (.normal,s)) (Zol call) (fun _ _ f g=>Zom f g) (fun c _ _ f g=>Zkm c f g) (fun id _ f=>Zbm id f) (fun ann _ f=>Zkn n ann f) (fun id s=>some (.exit id,s)) (fun s=>some (.ret,s)) (fun own f key ks res s=>ze8 call f key ks res (own.foldl zdn s))
theorem zml {f g:St→Option (Ex × St)}{bk bk':St→Option St}(hf:∀ s r,f s=some r→g s=some r)(hb:∀ s r,bk s=some r→bk' s=some r):∀ {m:Nat} {s:St} {r:Ex × St},zz9 f bk m s=some r→zhc g bk' m s=some r
 | 0,s,r,h=>by cases h
 | m + 1,s,r,h=>by
  obtain ⟨p,h1,h⟩:=zac (show zam (f s) _=some r from h)
  obtain ⟨ex,s'⟩:=p
  simp only [zhc,hf _ _ h1]
  cases ex with
  | normal =>
   obtain ⟨s2,h2,h⟩:=zac (show zam (bk s') (zz9 f bk m)=some r from h)
   simp only [hb _ _ h2]
   exact zml hf hb h
  | exit id=>exact h
  | ret=>exact h
theorem zc4:∀ (c:CCode) {s:St} {r:Ex × St},zt1 call n c s=some r→zbl call n c s=some r
 | .skip,s,r,h=>h
 | .region draw ops,s,r,h=>by
  obtain ⟨s',h1,h⟩:=zac (show zam (zp3 call draw ops s) _=some r from h)
  simp only [zbl,zrs call h1]
  exact h
 | .seq a b,s,r,h=>by
  obtain ⟨p,h1,h⟩:=zac (show zam (zt1 call n a s) _=some r from h)
  obtain ⟨ex,s'⟩:=p
  simp only [zbl,zc4 a h1]
  cases ex with
  | normal=>exact zc4 b h
  | exit id=>exact h
  | ret=>exact h
 | .cond c a b,s,r,h=>by
  obtain ⟨x,h1,h⟩:=zac (show zam (vB (kev c s.tmps)) _=some r from h)
  have h1:=zto h1
  rw [zch] at h1
  simp only [zbl,h1]
  cases x with
  | true=>exact zc4 a h
  | false=>exact zc4 b h
 | .block id a,s,r,h=>by
  obtain ⟨p,h1,h⟩:=zac (show zam (zt1 call n a s) _=some r from h)
  obtain ⟨ex,s'⟩:=p
  simp only [zbl,zc4 a h1]
  cases ex with
  | normal=>exact h
  | exit id' =>
   simp only
   have h:ifK (Nat.beq id' id) (some (Ex.normal,s')) (some (.exit id',s'))=some r:=h
   by_cases e:id'=id
   ·subst e; rw [zjc] at h; rw [if_pos rfl]; exact h
   ·rw [zu7 e] at h; rw [if_neg e]; exact h
  | ret=>exact h
 | .loop ann a,s,r,h=>by
  obtain ⟨s0,h1,h⟩:=zac (show zam (orK (zz4 ann s) (some (enter ann s))) _=some r from h)
  have h0:enter ann s=s0:=by
   rcases zds h1 with h1 | ⟨_,h1⟩
   ·exact ztz h1
   ·cases h1; rfl
  rw [ze5,zig] at h
  simp only [zbl,h0]
  refine zml (f:=zt1 call n a) (bk:=fun s'=>orK (z74 ann s0.heap.length s') (zkt ann s0.heap.length s')) (fun s r h=>zc4 a h) (fun s r h=>?_) h
  rcases zds h with h | ⟨_,h⟩
  ·exact zxj h
  ·exact h
 | .exit id,s,r,h=>h
 | .ret,s,r,h=>h
 | .range own f key ks res,s,r,h=>h
end
def zvo:List V→Nat→Option (List (Nat × V)):=@List.rec V (fun _=>Nat→Option (List (Nat × V))) (fun _=>some []) (fun a _ ih i=>zam (ih (Nat.succ i)) fun l=>some ((i,a) :: l))
theorem zmm:∀ {args:List V} {i:Nat} {l:List (Nat × V)},zvo args i=some l→l=(args.zipIdx i).map fun p=>(p.2,p.1)
 | [],i,l,h=>by cases h; rfl
 | a :: as,i,l,h=>by
  obtain ⟨m,h1,h⟩:=zac (show zam (zvo as (Nat.succ i)) _=some l from h)
  cases h
  rw [zmm h1]; rfl
def z6y (call:za0)(n key:Nat)(args:List V)(h:List (Option Obj)):Fn→Option (V × List (Option Obj)) :=
 @Fn.rec (fun _=>Option (V × List (Option Obj))) (fun f=>zam (zvo args 0) fun tm=>zam (zt1 call n f.body ⟨tm,h⟩) fun p=>@Ex.rec (fun _=>Option (V × List (Option Obj))) (zp4 h p.2 f.rets) (fun _=>none) (zp4 h p.2 f.rets) p.1) (fun ps ks a c=>zg7 (zt1 call n a) (zt1 call n c) key ps ks args h) (fun impl=>impl args h)
inductive FTree where
 | leaf (key:Nat) (f:Fn)
 | node (m:Nat) (l r:FTree)
def FTree.get:FTree→Nat→Option Fn:=@FTree.rec (fun _=>Nat→Option Fn) (fun key f k=>ifK (Nat.beq key k) (some f) none) (fun m _ _ l r k=>@Bool.rec (fun _=>Option Fn) (r k) (l k) (Nat.ble k m))
end
open Go
theorem zp6 {E:Nat→Option Fn}:∀ (c:CCode) {n:Nat} {s:St} {r:Ex × St},zbl (lcall E) n c s=some r→lx E c s=some r
 | .skip,n,s,r,h=>by rw [zul]; exact h
 | .exit id,n,s,r,h=>by rw [zum]; exact h
 | .ret,n,s,r,h=>by rw [z1r]; exact h
 | .region d ops,n,s,r,h=>by
  rw [zg8]
  exact h
 | .seq a b,n,s,r,h=>by
  rw [zso]
  simp only [zbl] at h
  cases ha:zbl (lcall E) n a s with
  | none=>rw [ha] at h; cases h
  | some p =>
   obtain ⟨ex,s'⟩:=p
   rw [ha] at h
   rw [zp6 a ha]
   cases ex with
   | normal=>exact zp6 b h
   | exit id=>exact h
   | ret=>exact h
 | .cond c a b,n,s,r,h=>by
  rw [zqp]
  simp only [zbl] at h
  split at h
  ·rename_i e; simp only [e]; exact zp6 a h
  ·rename_i e; simp only [e]; exact zp6 b h
  ·cases h
 | .block id a,n,s,r,h=>by
  rw [zhn]
  simp only [zbl] at h
  cases ha:zbl (lcall E) n a s with
  | none=>rw [ha] at h; cases h
  | some p =>
   rw [ha] at h
   rw [zp6 a ha]
   exact h
 | .loop ann c,n,s,r,h=>by
  rw [z91]
  simp only [zbl] at h
  have key:∀ (m k:Nat) (s:St),zhc (zbl (lcall E) n c) (zkt ann m) k s=some r→lloop E c ann m s=some r:=by
   intro m k
   induction k with
   | zero=>intro s h; cases h
   | succ k ih =>
    intro s h
    rw [zl6]
    simp only [zhc] at h
    cases hc:zbl (lcall E) n c s with
    | none=>rw [hc] at h; cases h
    | some p =>
     obtain ⟨ex,s'⟩:=p
     rw [hc] at h
     rw [zp6 c hc]
     cases ex with
     | normal =>
      simp only at h ⊢
      cases hb:zkt ann m s' with
      | none=>rw [hb] at h; cases h
      | some s''=>rw [hb] at h; exact ih s'' h
     | exit id=>exact h
     | ret=>exact h
  exact key _ n _ h
 | .range own f key ks res,n,s,r,h=>by rw [zwn]; exact h
noncomputable section
def zh2 {α:Type}(o:Option α)(f:α→Bool):Bool:=@Option.rec α (fun _=>Bool) false f o
theorem zb3 {α:Type}{o:Option α}{f:α→Bool}(h:zh2 o f=true):∃ a,o=some a∧f a=true:=by
 cases o with
 | none=>cases h
 | some a=>exact ⟨a,rfl,h⟩
theorem zcq {a b:Bool}(h:ifK a b false=true):a=true∧b=true:=by
 cases a with
 | true=>exact ⟨rfl,h⟩
 | false=>cases h
def z0a (x y:Bool):Bool:=@Bool.rec (fun _=>Bool) (@Bool.rec (fun _=>Bool) true false y) y x
theorem z3s {x y:Bool}(h:z0a x y=true):x=y:=by cases x <;> cases y <;> first | rfl | cases h
def zow:List UInt8→List UInt8→Bool:=@List.rec UInt8 (fun _=>List UInt8→Bool) zh1 (fun a _ ih ys=>@List.rec UInt8 (fun _=>Bool) false (fun b bs _=>ifK (Nat.beq a.toNat b.toNat) (ih bs) false) ys)
theorem zrv:∀ {x y:List UInt8},zow x y=true→x=y
 | [],y,h=>(zcv h).symm
 | a :: x,[],h=>by cases h
 | a :: x,b :: y,h=>by
  obtain ⟨h1,h2⟩:=zcq (show ifK (Nat.beq a.toNat b.toNat) (zow x y) false=true from h)
  rw [zrv h2,UInt8.toNat_inj.1 (Nat.eq_of_beq_eq_true h1)]
def dT:D→Nat:=@D.rec (fun _=>Nat) (fun _=>Unit) (fun _=>Unit) (fun _=>0) (fun _ _=>0) (fun _=>0) (fun _ _ _=>0) (fun _ _ _=>0) (fun _ _ _ _ _=>0) 1 2 3 () (fun _ _ _ _=>()) () (fun _ _ _ _=>())
def Zih:D→D→Bool:=@D.rec (fun _=>D→Bool) (fun _=>List (List D)→Bool) (fun _=>List D→Bool)
 (fun x y=>zh2 (dB y) fun b=>z0a x b)
 (fun k n y=>zh2 (dI y) fun p=>ifK (ztt k p.1) (eqK n p.2) false)
 (fun x y=>zh2 (dS y) fun s=>zow x s)
 (fun sz xs ih y=>zh2 (dL y) fun p=>ifK (Nat.beq sz p.1) (ih p.2) false)
 (fun xs off ih y=>zh2 (dQ y) fun p=>ifK (Nat.beq off p.2) (ih p.1) false)
 (fun _ _ _ _ _ _=>false)
 (fun y=>Nat.beq (dT y) 1) (fun y=>Nat.beq (dT y) 2) (fun y=>Nat.beq (dT y) 3)
 zh1 (fun _ _ ih1 ih2 ys=>@List.rec (List D) (fun _=>Bool) false (fun y ys _=>ifK (ih1 y) (ih2 ys) false) ys)
 zh1 (fun _ _ ih1 ih2 ys=>@List.rec D (fun _=>Bool) false (fun y ys _=>ifK (ih1 y) (ih2 ys) false) ys)
theorem z75 (x:D):∀ y,Zih x y=true→x=y:=by
 refine @D.rec (fun x=>∀ y,Zih x y=true→x=y)
  (fun xs=>∀ ys,@D.rec_1 (fun _=>D→Bool) (fun _=>List (List D)→Bool) (fun _=>List D→Bool)
 (fun x y=>zh2 (dB y) fun b=>z0a x b)
 (fun k n y=>zh2 (dI y) fun p=>ifK (ztt k p.1) (eqK n p.2) false)
 (fun x y=>zh2 (dS y) fun s=>zow x s)
 (fun sz xs ih y=>zh2 (dL y) fun p=>ifK (Nat.beq sz p.1) (ih p.2) false)
 (fun xs off ih y=>zh2 (dQ y) fun p=>ifK (Nat.beq off p.2) (ih p.1) false)
 (fun _ _ _ _ _ _=>false)
 (fun y=>Nat.beq (dT y) 1) (fun y=>Nat.beq (dT y) 2) (fun y=>Nat.beq (dT y) 3)
 zh1 (fun _ _ ih1 ih2 ys=>@List.rec (List D) (fun _=>Bool) false (fun y ys _=>ifK (ih1 y) (ih2 ys) false) ys)
 zh1 (fun _ _ ih1 ih2 ys=>@List.rec D (fun _=>Bool) false (fun y ys _=>ifK (ih1 y) (ih2 ys) false) ys) xs ys=true→xs=ys)
  (fun xs=>∀ ys,@D.rec_2 (fun _=>D→Bool) (fun _=>List (List D)→Bool) (fun _=>List D→Bool)
 (fun x y=>zh2 (dB y) fun b=>z0a x b)
 (fun k n y=>zh2 (dI y) fun p=>ifK (ztt k p.1) (eqK n p.2) false)
 (fun x y=>zh2 (dS y) fun s=>zow x s)
 (fun sz xs ih y=>zh2 (dL y) fun p=>ifK (Nat.beq sz p.1) (ih p.2) false)
 (fun xs off ih y=>zh2 (dQ y) fun p=>ifK (Nat.beq off p.2) (ih p.1) false)
 (fun _ _ _ _ _ _=>false)
 (fun y=>Nat.beq (dT y) 1) (fun y=>Nat.beq (dT y) 2) (fun y=>Nat.beq (dT y) 3)
 zh1 (fun _ _ ih1 ih2 ys=>@List.rec (List D) (fun _=>Bool) false (fun y ys _=>ifK (ih1 y) (ih2 ys) false) ys)
 zh1 (fun _ _ ih1 ih2 ys=>@List.rec D (fun _=>Bool) false (fun y ys _=>ifK (ih1 y) (ih2 ys) false) ys) xs ys=true→xs=ys)
  ?_ ?_ ?_ ?_ ?_ ?_ ?_ ?_ ?_ ?_ ?_ ?_ ?_ x
 ·intro x y h
  obtain ⟨b,h1,h2⟩:=zb3 (show zh2 (dB y) (fun b=>z0a x b)=true from h)
  rw [zza h1,z3s h2]
 ·intro k n y h
  obtain ⟨p,h1,h2⟩:=zb3 (show zh2 (dI y) (fun p=>ifK (ztt k p.1) (eqK n p.2) false)=true from h)
  obtain ⟨h2,h3⟩:=zcq h2
  rw [zzf] at h3
  rw [zy9 h1,zu9 h2,eq_of_beq h3]
 ·intro x y h
  obtain ⟨b,h1,h2⟩:=zb3 (show zh2 (dS y) (fun s=>zow x s)=true from h)
  rw [zzb h1,zrv h2]
 ·intro sz xs ih y h
  obtain ⟨p,h1,h2⟩:=zb3 (o:=dL y) h
  obtain ⟨h2,h3⟩:=zcq h2
  rw [zzj h1,Nat.eq_of_beq_eq_true h2,ih _ h3]
 ·intro xs off ih y h
  obtain ⟨p,h1,h2⟩:=zb3 (o:=dQ y) h
  obtain ⟨h2,h3⟩:=zcq h2
  rw [zzc h1,Nat.eq_of_beq_eq_true h2,ih _ h3]
 ·intro _ _ _ _ _ y h; cases h
 ·intro y h; cases y <;> first | rfl | cases h
 ·intro y h; cases y <;> first | rfl | cases h
 ·intro y h; cases y <;> first | rfl | cases h
 ·intro ys h; exact (zcv h).symm
 ·intro a as ih1 ih2 ys h
  cases ys with
  | nil=>cases h
  | cons y ys =>
   obtain ⟨h1,h2⟩:=zcq h
   rw [ih1 _ h1,ih2 _ h2]
 ·intro ys h; exact (zcv h).symm
 ·intro a as ih1 ih2 ys h
  cases ys with
  | nil=>cases h
  | cons y ys =>
   obtain ⟨h1,h2⟩:=zcq h
   rw [ih1 _ h1,ih2 _ h2]
def vNl:V→Option Nat:=@V.rec (fun _=>Option Nat) (fun _=>Unit) (fun _=>none) some (fun _ _ _ _=>none) (fun _ _ _ _=>none) (fun _ _=>none) (fun _ _ _ _=>none) (fun _=>none) (fun _ _ _ _ _=>none) (fun _ _=>none) (fun _ _=>none) none () (fun _ _ _ _=>())
theorem zvp {v:V}{x:Nat}(h:vNl v=some x):v = .nil x:=by cases v <;> first | cases h; rfl | cases h
def vTp:V→Option (List V):=@V.rec (fun _=>Option (List V)) (fun _=>Unit) (fun _=>none) (fun _=>none) (fun _ _ _ _=>none) (fun _ _ _ _=>none) (fun _ _=>none) (fun _ _ _ _=>none) (fun _=>none) (fun _ _ _ _ _=>none) (fun _ _=>none) (fun vs _=>some vs) none () (fun _ _ _ _=>())
theorem zvq {v:V}{x:List V}(h:vTp v=some x):v = .tup x:=by cases v <;> first | cases h; rfl | cases h
def Zii {α:Type}(o:Option α)(f:α→Bool)(b:Bool):Bool:=@Option.rec α (fun _=>Bool) b f o
def z6z (f:V→V→Bool):List V→List V→Bool:=@List.rec V (fun _=>List V→Bool) zh1 (fun x _ ih vs=>@List.rec V (fun _=>Bool) false (fun v vs _=>ifK (f x v) (ih vs) false) vs)
theorem zmn {f:V→V→Bool}(hf:∀ x y,f x y=true→x=y):∀ {xs vs:List V},z6z f xs vs=true→xs=vs
 | [],vs,h=>(zcv h).symm
 | x :: xs,[],h=>by cases h
 | x :: xs,v :: vs,h=>by
  obtain ⟨h1,h2⟩:=zcq (show ifK (f x v) (z6z f xs vs) false=true from h)
  rw [hf _ _ h1,zmn hf h2]
def vAr:V→Option (Nat × Nat × Nat × Nat):=@V.rec (fun _=>Option (Nat × Nat × Nat × Nat)) (fun _=>Unit) (fun _=>none) (fun _=>none) (fun _ _ _ _=>none) (fun a b c d=>some (a,b,c,d)) (fun _ _=>none) (fun _ _ _ _=>none) (fun _=>none) (fun _ _ _ _ _=>none) (fun _ _=>none) (fun _ _=>none) none () (fun _ _ _ _=>())
theorem zvr {v:V}{x:Nat × Nat × Nat × Nat}(h:vAr v=some x):v = .arr x.1 x.2.1 x.2.2.1 x.2.2.2:=by cases v <;> first | cases h; rfl | cases h
def Zat (x y:V):Bool:=Zii (vD x) (fun a=>zh2 (vD y) fun b=>Zih a b) (Zii (vNl x) (fun a=>zh2 (vNl y) fun b=>Nat.beq a b)
 (zh2 (vAr x) fun a=>zh2 (vAr y) fun b=>ifK (Nat.beq a.1 b.1) (ifK (Nat.beq a.2.1 b.2.1) (ifK (Nat.beq a.2.2.1 b.2.2.1) (Nat.beq a.2.2.2 b.2.2.2) false) false) false))
theorem zt2 (x y:V)(h:Zat x y=true):x=y:=by
 unfold Zat at h
 cases hx:vD x with
 | some a =>
  rw [hx] at h
  obtain ⟨b,h1,h2⟩:=zb3 (show zh2 (vD y) (fun b=>Zih a b)=true from h)
  rw [zgr hx,zgr h1,z75 _ _ h2]
 | none =>
  rw [hx] at h
  cases hn:vNl x with
  | some a =>
   rw [hn] at h
   obtain ⟨b,h2,h3⟩:=zb3 (show zh2 (vNl y) (fun b=>Nat.beq a b)=true from h)
   rw [zvp hn,zvp h2,Nat.eq_of_beq_eq_true h3]
  | none =>
   rw [hn] at h
   obtain ⟨a,h1,h⟩:=zb3 (o:=vAr x) h
   obtain ⟨b,h2,h⟩:=zb3 h
   obtain ⟨e1,h⟩:=zcq h
   obtain ⟨e2,h⟩:=zcq h
   obtain ⟨e3,e4⟩:=zcq h
   rw [zvr h1,zvr h2,Nat.eq_of_beq_eq_true e1,Nat.eq_of_beq_eq_true e2,Nat.eq_of_beq_eq_true e3,Nat.eq_of_beq_eq_true e4]
def Zbn (x y:V):Bool:=Zii (z7t x) (fun a=>zh2 (z7t y) fun b=>z6z Zat a b) (Zat x y)
theorem z0b (x y:V)(h:Zbn x y=true):x=y:=by
 unfold Zbn at h
 cases hx:z7t x with
 | some a =>
  rw [hx] at h
  obtain ⟨b,h1,h2⟩:=zb3 (show zh2 (z7t y) (fun b=>z6z Zat a b)=true from h)
  rw [zjb hx,zjb h1,zmn zt2 h2]
 | none=>rw [hx] at h; exact zt2 _ _ h
def Zij (x y:V):Bool:=Zii (vTp x) (fun a=>zh2 (vTp y) fun b=>z6z Zbn a b) (Zbn x y)
theorem z0c (x y:V)(h:Zij x y=true):x=y:=by
 unfold Zij at h
 cases hx:vTp x with
 | some a =>
  rw [hx] at h
  obtain ⟨b,h1,h2⟩:=zb3 (show zh2 (vTp y) (fun b=>z6z Zbn a b)=true from h)
  rw [zvq hx,zvq h1,zmn z0b h2]
 | none=>rw [hx] at h; exact z0b _ _ h
def Zko:Option Obj→Option (Nat × Nat × List (List V)):=@Option.rec Obj (fun _=>Option (Nat × Nat × List (List V))) none (@Obj.rec (fun _=>Option (Nat × Nat × List (List V))) (fun _=>none) (fun _=>none) (fun _ _=>none) (fun v s x=>some (v,s,x)) (fun _=>none) (fun _ _ _=>none))
theorem zrw {o:Option Obj}{x:Nat × Nat × List (List V)}(h:Zko o=some x):o=some (.arr x.1 x.2.1 x.2.2):=by
 cases o with
 | none=>cases h
 | some o=>cases o <;> first | cases h; rfl | cases h
def z3t {α:Type}(f:α→α→Bool):List α→List α→Bool:=@List.rec α (fun _=>List α→Bool) zh1 (fun x _ ih vs=>@List.rec α (fun _=>Bool) false (fun v vs _=>ifK (f x v) (ih vs) false) vs)
theorem zp7 {α:Type}{f:α→α→Bool}(hf:∀ x y,f x y=true→x=y):∀ {xs vs:List α},z3t f xs vs=true→xs=vs
 | [],vs,h=>(zcv h).symm
 | x :: xs,[],h=>by cases h
 | x :: xs,v :: vs,h=>by
  obtain ⟨h1,h2⟩:=zcq (show ifK (f x v) (z3t f xs vs) false=true from h)
  rw [hf _ _ h1,zp7 hf h2]
def Znb (x y:Option Obj):Bool:=zh2 (Zko x) fun a=>zh2 (Zko y) fun b=>ifK (Nat.beq a.1 b.1) (ifK (Nat.beq a.2.1 b.2.1) (z3t (z6z Zat) a.2.2 b.2.2) false) false
theorem z76 (x y:Option Obj)(h:Znb x y=true):x=y:=by
 obtain ⟨a,h1,h⟩:=zb3 h
 obtain ⟨b,h2,h⟩:=zb3 h
 obtain ⟨e1,h⟩:=zcq h
 obtain ⟨e2,h⟩:=zcq h
 rw [zrw h1,zrw h2,Nat.eq_of_beq_eq_true e1,Nat.eq_of_beq_eq_true e2,zp7 (fun x y=>zmn zt2) h]
abbrev zxk:=Nat × List V × V × List (Option Obj)
def z0d:List V→List V→Bool:=z6z Zij
theorem zxl {xs vs:List V}(h:z0d xs vs=true):vs=xs:=(zmn z0c h).symm
def z3u:List zxk→za0:=@List.rec zxk (fun _=>za0) (fun _ _ _=>none) (fun f _ ih key args h=>orK (ifK (Nat.beq key f.1) (ifK (zh1 h) (ifK (z0d f.2.1 args) (some (f.2.2.1,f.2.2.2)) none) none) none) (ih key args h))
def zgn (E:Nat→Option Fn)(f:zxk):Prop:=lcall E f.1 f.2.1 []=some (f.2.2.1,f.2.2.2)
theorem zvs {E:Nat→Option Fn}:∀ {F:List zxk},(∀ f ∈ F,zgn E f)→Le (z3u F) (lcall E)
 | [],_=>fun _ _ _ _ h=>by cases h
 | f :: F,hF=>fun key args h r hr=>by
  rcases zds (show orK (ifK (Nat.beq key f.1) _ none) (z3u F key args h)=some r from hr) with hr | ⟨_,hr⟩
  ·obtain ⟨h1,hr⟩:=zbd hr
   obtain ⟨h2,hr⟩:=zbd hr
   obtain ⟨h3,hr⟩:=zbd hr
   cases hr
   rw [Nat.eq_of_beq_eq_true h1,zcv h2,zxl h3]
   exact hF f List.mem_cons_self
  ·exact zvs (fun f hf=>hF f (List.mem_cons_of_mem _ hf)) key args h r hr
def zox (F:List zxk)(E:Nat→Option Fn):Nat→za0 :=
 @Nat.rec (fun _=>za0) (fun _ _ _=>none) (fun k ih key args h=>orK (z3u F key args h) (zam (E key) (z6y ih k key args h)))
theorem zjj {E:Nat→Option Fn}{F:List zxk}(hF:∀ f ∈ F,zgn E f):∀ (k:Nat),Le (zox F E k) (lcall E)
 | 0=>fun _ _ _ _ h=>by cases h
 | k + 1=>fun key args h r hr=>by
  rcases zds (show orK (z3u F key args h) (zam (E key) (z6y (zox F E k) k key args h))=some r from hr) with hr | ⟨_,hr⟩
  ·exact zvs hF _ _ _ _ hr
  obtain ⟨fn,h1,hr⟩:=zac hr
  cases fn with
  | prim f=>rw [zyc h1]; exact hr
  | round ps ks a c =>
   rw [zun h1]
   exact znf (fun s r hs=>zp6 a (zb9 (zjj hF k) a (Nat.le_refl k) (zc4 (zox F E k) k a hs))) (fun s r hs=>zp6 c (zb9 (zjj hF k) c (Nat.le_refl k) (zc4 (zox F E k) k c hs))) hr
  | code f =>
   obtain ⟨tm,h2,hr⟩:=zac (show zam (zvo args 0) _=some r from hr)
   obtain ⟨p,h3,hr⟩:=zac hr
   obtain ⟨ex,s⟩:=p
   have hs:=zb9 (zjj hF k) f.body (Nat.le_refl k) (zc4 (zox F E k) k f.body h3)
   rw [zmm h2] at hs
   have hs:lx E f.body (zj7 args h)=some (ex,s):=zp6 _ hs
   rw [zks h1,hs]
   cases ex with
   | normal=>exact zk9 hr
   | exit id=>cases hr
   | ret=>exact zk9 hr
def Zbo (F:List zxk)(E:Nat→Option Fn)(key:Nat)(args:List V)(d:V)(os:List (Option Obj)):Bool:=zh2 (zox F E 300 key args []) fun r=>ifK (z3t Znb r.2 os) (Zij r.1 d) false
theorem zjk {F:List zxk}{E:Nat→Option Fn}{key:Nat}{args:List V}{d:V}{os:List (Option Obj)}(hF:∀ f ∈ F,zgn E f)(h:Zbo F E key args d os=true):zgn E (key,args,d,os):=by
 obtain ⟨r,h1,h2⟩:=zb3 h
 obtain ⟨h2,h3⟩:=zcq h2
 have:=zjj hF 300 _ _ _ _ h1
 obtain ⟨v,h'⟩:=r
 have e1:h'=os:=zp7 z76 h2
 have e2:v=d:=z0c _ _ h3
 subst e1 e2
 exact this
theorem zgy {E:Nat→Option Fn}:∀ f ∈ ([]:List zxk),zgn E f:=fun f h=>by cases h
theorem zoy {E:Nat→Option Fn}{f:zxk}{F:List zxk}(h:zgn E f)(hF:∀ f ∈ F,zgn E f):∀ g ∈ f :: F,zgn E g:=fun g hg=>by
 rcases List.mem_cons.1 hg with rfl | hg
 ·exact h
 ·exact hF g hg
end
open Go
section
variable (E:Nat→Option Fn)
def WX (c:CCode)(s:St)(Q:Ex→St→Prop):Prop:=∃ ex s',lx E c s=some (ex,s')∧Q ex s'
def LX (c:CCode)(ann:Ann)(n:Nat)(s:St)(Q:Ex→St→Prop):Prop:=∃ ex s',lloop E c ann n s=some (ex,s')∧Q ex s'
def zrx (b:CCode)(Q:Ex→St→Prop):Ex→St→Prop:=fun ex s=>match ex with
 | .normal=>WX E b s Q
 | ex=>Q ex s
def zcw (id:Nat)(Q:Ex→St→Prop):Ex→St→Prop:=fun ex s=>match ex with
 | .exit id'=>if id'=id then Q .normal s else Q (.exit id') s
 | ex=>Q ex s
def zaa (c:CCode)(ann:Ann)(n:Nat)(Q:Ex→St→Prop):Ex→St→Prop:=fun ex s=>match ex with
 | .normal=>∃ s',zkt ann n s=some s'∧LX E c ann n s' Q
 | ex=>Q ex s
end
section
variable {E:Nat→Option Fn} {Q:Ex→St→Prop} {s:St}
theorem z77 (h:Q .normal s):WX E .skip s Q:=⟨_,_,zul s,h⟩
theorem z78 {id:Nat}(h:Q (.exit id) s):WX E (.exit id) s Q:=⟨_,_,zum id s,h⟩
theorem Zbp (h:Q .ret s):WX E .ret s Q:=⟨_,_,z1r s,h⟩
theorem Zbq {a b:CCode}(h:WX E a s (zrx E b Q)):WX E (.seq a b) s Q:=by
 obtain ⟨ex,s',h1,h2⟩:=h
 cases ex with
 | normal =>
  obtain ⟨ex2,s2,h3,h4⟩:=h2
  exact ⟨ex2,s2,by rw [zso,h1]; exact h3,h4⟩
 | exit id=>exact ⟨_,s',by rw [zso,h1],h2⟩
 | ret=>exact ⟨_,s',by rw [zso,h1],h2⟩
theorem z3v {id:Nat}{c:CCode}(h:WX E c s (zcw id Q)):WX E (.block id c) s Q:=by
 obtain ⟨ex,s',h1,h2⟩:=h
 cases ex with
 | normal=>exact ⟨_,s',by rw [zhn,h1],h2⟩
 | ret=>exact ⟨_,s',by rw [zhn,h1],h2⟩
 | exit id' =>
  by_cases e:id'=id
  ·simp only [zcw,e,if_true] at h2
   exact ⟨.normal,s',by rw [zhn,h1]; simp [e],h2⟩
  ·simp only [zcw,e,if_false] at h2
   exact ⟨.exit id',s',by rw [zhn,h1]; simp [e],h2⟩
theorem z0e {c:A}{a b:CCode}(x:Bool)(hc:s.ev c = .d (.b x))(h1:x=true→WX E a s Q)(h2:x=false→WX E b s Q):WX E (.cond c a b) s Q:=by
 cases x with
 | true =>
  obtain ⟨ex,s',k1,k2⟩:=h1 rfl
  exact ⟨ex,s',by rw [zqp,hc]; exact k1,k2⟩
 | false =>
  obtain ⟨ex,s',k1,k2⟩:=h2 rfl
  exact ⟨ex,s',by rw [zqp,hc]; exact k1,k2⟩
theorem zah {ann:Ann}{c:CCode}{n:Nat}(h:WX E c s (zaa E c ann n Q)):LX E c ann n s Q:=by
 obtain ⟨ex,s',h1,h2⟩:=h
 cases ex with
 | normal =>
  obtain ⟨s2,h3,ex2,s3,h4,h5⟩:=h2
  exact ⟨ex2,s3,by rw [zl6,h1]; simp only [h3]; exact h4,h5⟩
 | exit id=>exact ⟨_,s',by rw [zl6,h1],h2⟩
 | ret=>exact ⟨_,s',by rw [zl6,h1],h2⟩
theorem z79 {key:Nat}{f:CFn}(h:E key=some (.code f)){args:List V}{hp:List (Option Obj)}{r:V × List (Option Obj)}
  (k:WX E f.body (zj7 args hp) (fun ex s=>(ex = .normal ∨ ex = .ret)∧zdo hp.length s f.rets=some r)):lcall E key args hp=some r:=by
 obtain ⟨ex,s,h1,h2,h3⟩:=k
 rw [zks h,h1]
 rcases h2 with rfl | rfl <;> exact h3
theorem z3w {key:Nat}{f:CFn}(h:E key=some (.code f)){args:List V}{hp:List (Option Obj)}{R:V × List (Option Obj)→Prop}
  (k:WX E f.body (zj7 args hp) (fun ex s=>(ex = .normal ∨ ex = .ret)∧∃ r,zdo hp.length s f.rets=some r∧R r)):∃ r,lcall E key args hp=some r∧R r:=by
 obtain ⟨ex,s,h1,h2,r,h3,h4⟩:=k
 refine ⟨r, ?_,h4⟩
 rw [zks h,h1]
 rcases h2 with rfl | rfl <;> exact h3
end
structure Foot where
 ids:List Nat
 wr:Bool
 fresh:Nat
 len:Nat
def Eff.foot (e:Eff):Foot:=⟨e.ids,e.wr,e.fresh,e.nws.length⟩
def Foot.new (e:Foot)(i:Nat):Bool:=decide (e.fresh ≤ i∧i < e.fresh + e.len)
def Zbr (a b:Foot):Bool:=(a.wr || b.wr) && a.ids.any (fun i=>b.ids.contains i) || a.ids.any b.new || b.ids.any a.new
def zjl (e:Foot)(k:Nat):List CO→List Foot→Bool
 | o :: os,e' :: es=>(o.pre.testBit k || !Zbr e e') && zjl e k os es
 | _,_=>true
def zmo:List CO→List Foot→Nat→Bool
 | _ :: os,e :: es,k=>zjl e k os es && zmo os es (k + 1)
 | _,_,_=>true
theorem zla {e:Eff}{k:Nat}:∀ (os:List CO) (es:List Eff),zjl e.foot k os (es.map Eff.foot)=zdh e k os es
 | [],es=>by cases es <;> rfl
 | o :: os,[]=>rfl
 | o :: os,e' :: es=>by
  simp only [Qb,zjl,zdh,zla os es]
  rfl
theorem zkm:∀ (os:List CO) (es:List Eff) (k:Nat),zmo os (es.map Eff.foot) k=zf3 os es k
 | [],es,k=>by cases es <;> rfl
 | o :: os,[],k=>rfl
 | o :: os,e :: es,k=>by simp only [Qb,zmo,zf3,zkm os es,zla]
section
variable (C:za0) (base:Nat)
def rgo:List CO→Nat→St→List Foot→(St→List Foot→Prop)→Prop
 | [],_,s,es,K=>K s es.reverse
 | o :: r,j,s,es,K=>match zck C s o (base + j) with
  | none=>False
  | some e=>rgo r (j + o.op.nmk) (e.on s) (e.foot :: es) K
end
theorem z0f {C:za0}{base:Nat}:∀ (ops:List CO) (j:Nat) (s:St) (es:List Foot) (K:St→List Foot→Prop),rgo C base ops j s es K→∃ s' es',zcd C base ops j s=some (s',es')∧K s' (es.reverse++es'.map Eff.foot)
 | [],j,s,es,K,h=>⟨s,[],rfl,by simpa [rgo] using h⟩
 | o :: r,j,s,es,K,h=>by
  simp only [rgo] at h
  split at h
  ·exact h.elim
  ·rename_i e he
   obtain ⟨s',es',h1,h2⟩:=z0f r _ _ _ K h
   refine ⟨s',e :: es',by simp only [zcd,he,h1], ?_⟩
   simpa using h2
def more:Nat→List (Option Obj)
 | 0=>[]
 | n + 1=>none :: more n
theorem zmp (n:Nat):more n=List.replicate n none:=by
 induction n with
 | zero=>rfl
 | succ n ih=>rw [more,ih,List.replicate_succ]
section
variable {E:Nat→Option Fn} {Q:Ex→St→Prop} {s:St}
end
open Go
def evT (tm:List (Nat × V)):A→V
 | .t i=>za1 tm i
 | .k v=>v
def zbc (hp:List (Option Obj))(i:Nat):Option Obj:=(hp[i]?).join
def z0g (d:Option Nat)(v:V)(tm:List (Nat × V)):List (Nat × V):=match d with | some d=>(d,v) :: tm | none=>tm
theorem zmq (tm:List (Nat × V))(hp:List (Option Obj)):(⟨tm,hp⟩:St).ev=evT tm:=by funext a; cases a <;> rfl
def gd (want:Bool):V→Option Bool
 | .d (.b x)=>some (x == want)
 | .tup []=>some false
 | _=>none
def go (C:za0)(K:St→List Foot→Prop)(b:Nat)(r:List CO)(j:Nat)(tm:List (Nat × V))(hp:List (Option Obj))(es:List Foot):Prop:=rgo C b r j ⟨tm,hp⟩ es K
section
variable {C:za0} {K:St→List Foot→Prop} {b:Nat} {r:List CO} {j:Nat} {tm:List (Nat × V)} {hp:List (Option Obj)} {es:List Foot} {d p:Nat}
def zmr (C:za0)(K:St→List Foot→Prop)(b:Nat)(dst:Option Nat)(op:Cop)(r:List CO)(j:Nat)(tm:List (Nat × V))(hp:List (Option Obj))(es:List Foot)(ids:List Nat):Option Res→Prop
 | none=>False
 | some e=>go C K b r (j + op.nmk) (z0g dst e.v tm) (zar (if op.wr then zar hp ids e.os else hp) (List.range' (b + j) e.nws.length) e.nws) (⟨ids,op.wr,b + j,e.nws.length⟩ :: es)
theorem zbe (dst:Option Nat)(op:Cop)(hc:op.isCall=false):go C K b (⟨dst,op,none,p⟩ :: r) j tm hp es =
  zmr C K b dst op r j tm hp es (op.ids (op.args.map (evT tm))) (act op (op.args.map (evT tm)) ((op.ids (op.args.map (evT tm))).map (zbc hp)) (b + j)):=by
 have ho:(⟨tm,hp⟩:St).obj=zbc hp:=rfl
 simp only [go,rgo,zck,wanted,zmq,hc,Qm,if_false,ho]
 cases act op (op.args.map (evT tm)) ((op.ids (op.args.map (evT tm))).map (zbc hp)) (b + j) with
 | none=>rfl
 | some e=>cases dst <;> rfl
def goG (C:za0)(K:St→List Foot→Prop)(b:Nat)(dst:Option Nat)(op:Cop)(p:Nat)(r:List CO)(j:Nat)(tm:List (Nat × V))(hp:List (Option Obj))(es:List Foot):Option Bool→Prop
 | none=>False
 | some false=>go C K b r (j + op.nmk) (z0g dst .undef tm) hp (⟨[],false,b + j,0⟩ :: es)
 | some true=>go C K b (⟨dst,op,none,p⟩ :: r) j tm hp es
theorem z3x (dst:Option Nat)(op:Cop)(t:Nat)(want:Bool):go C K b (⟨dst,op,some (t,want),p⟩ :: r) j tm hp es=goG C K b dst op p r j tm hp es (gd want (za1 tm t)):=by
 have hg:wanted ⟨tm,hp⟩ (some (t,want))=gd want (za1 tm t):=rfl
 have h1:zck C ⟨tm,hp⟩ ⟨dst,op,some (t,want),p⟩ (b + j)=match gd want (za1 tm t) with
   | none=>none
   | some false=>some ⟨dst,.undef,[],false,[],b + j,[]⟩
   | some true=>zck C ⟨tm,hp⟩ ⟨dst,op,none,p⟩ (b + j):=by
  rw [← hg]
  unfold zck
  cases wanted ⟨tm,hp⟩ (some (t,want)) with
  | none=>rfl
  | some x=>cases x <;> rfl
 rw [go,rgo,h1]
 cases gd want (za1 tm t) with
 | none=>rfl
 | some x =>
  cases x with
  | false=>cases dst <;> rfl
  | true=>rfl
def bk (L:List Nat)(fresh i:Nat):Nat:=if i < L.length then L.getD i 0 else fresh + (i - L.length)
def shf (L:List Nat)(h:List (Option Obj))(i:Nat):Nat:=if i < L.length then zog (h.getD i none) else 0
def Zik (L:List Nat)(h:List (Option Obj))(res fresh:Nat)(r:V):Option (List (Option Obj))→Option (V × List Nat × List (Option Obj) × List (Option Obj))
 | none=>none
 | some os=>if L.length ≤ os.length∧os.length ≤ L.length + res then some (V.ren (bk L fresh) (shf L h) r,L,os.take L.length,os.drop L.length) else none
def Zkp (L:List Nat)(h:List (Option Obj))(res fresh:Nat):Option (V × List (Option Obj))→Option (V × List Nat × List (Option Obj) × List (Option Obj))
 | none=>none
 | some (r,h')=>Zik L h res fresh r (zbj (bk L fresh) (shf L h) 0 h')
def Zil (C:za0)(key:Nat)(hs:List V)(L:List Nat)(res fresh:Nat):Option (List (Option Obj))→Option (V × List Nat × List (Option Obj) × List (Option Obj))
 | none=>none
 | some h=>Zkp L h res fresh (C key (V.renAll (zau L) zbh hs) h)
def Zim (C:za0)(obj:Nat→Option Obj)(key:Nat)(hs:List V)(res fresh:Nat):Option (List Nat)→Option (V × List Nat × List (Option Obj) × List (Option Obj))
 | none=>none
 | some L=>Zil C key hs L res fresh (zbj (zau L) zbh 0 (L.map obj))
def zrb (C:za0)(obj:Nat→Option Obj)(key:Nat)(res fresh:Nat):Option (List V)→Option (V × List Nat × List (Option Obj) × List (Option Obj))
 | none=>none
 | some hs=>Zim C obj key hs res fresh (zbt obj far (V.refsAll hs) [])
theorem zgz (C:za0)(md:Md)(obj:Nat→Option Obj)(key:Nat)(vs:List V)(res fresh:Nat):zba C md obj key vs res fresh=zrb C obj key res fresh (md.hands vs):=by
 unfold zba
 cases md.hands vs with
 | none=>rfl
 | some hs =>
  simp only [zrb]
  cases zbt obj far (V.refsAll hs) [] with
  | none=>rfl
  | some L =>
   simp only [Zim]
   cases zbj (zau L) zbh 0 (L.map obj) with
   | none=>rfl
   | some h =>
    simp only [Zil]
    cases C key (V.renAll (zau L) zbh hs) h with
    | none=>rfl
    | some x =>
     obtain ⟨r,h'⟩:=x
     show (match zbj (bk L fresh) (shf L h) 0 h' with | none=>none | some os=>_)=Zik L h res fresh r (zbj (bk L fresh) (shf L h) 0 h')
     cases zbj (bk L fresh) (shf L h) 0 h' <;> rfl
theorem zoz (fz:Bool)(vs:List V):(zqs fz).hands vs=V.handAll vs:=by cases fz <;> rfl
def zxm (m:Nat)(r:V)(h:List (Option Obj)):List Nat→Option (V × List (Option Obj))
 | []=>some (r,h)
 | _ :: _=>zdy m r h
theorem zo0 (m:Nat)(r:V)(h:List (Option Obj)):zdy m r h=zxm m r h (zeu m r):=by
 cases hx:zeu m r with
 | nil=>unfold zdy; rw [hx]; rfl
 | cons a l=>rfl
def z8a (m:Nat):Option (V × List (Option Obj))→Option (V × List (Option Obj))
 | none=>none
 | some (r,h)=>zdy m r h
theorem z3y (C:za0)(key:Nat)(as:List V)(h:List (Option Obj)):za9 (zqs true) C key as h=z8a h.length (C key as h):=by
 unfold za9
 simp only [zqs]
 cases C key as h with
 | none=>rfl
 | some x=>obtain ⟨r,h'⟩:=x; rfl
def zjm (C:za0)(K:St→List Foot→Prop)(b:Nat)(dst:Option Nat)(n:Nat)(r:List CO)(j:Nat)(tm:List (Nat × V))(hp:List (Option Obj))(es:List Foot):Option (V × List Nat × List (Option Obj) × List (Option Obj))→Prop
 | none=>False
 | some (v,is,os,ns)=>go C K b r (j + n) (z0g dst v tm) (zar (zar hp is os) (List.range' (b + j) ns.length) ns) (⟨is,true,b + j,ns.length⟩ :: es)
theorem z8b (dst:Option Nat)(key:Nat)(as:List A)(res:Nat)(fz:Bool):go C K b (⟨dst,.call key as res fz,none,p⟩ :: r) j tm hp es =
  zjm C K b dst res r j tm hp es (zrb (za9 (zqs fz) C) (zbc hp) key res (b + j) (V.handAll (as.map (evT tm)))):=by
 have ho:(⟨tm,hp⟩:St).obj=zbc hp:=rfl
 simp only [go,rgo,zck,wanted,zmq,Cop.isCall,if_true,callee,Cop.args,ho,zgz,zoz]
 cases zrb (za9 (zqs fz) C) (zbc hp) key res (b + j) (V.handAll (as.map (evT tm))) with
 | none=>rfl
 | some x=>obtain ⟨v,is,os,ns⟩:=x; cases dst <;> rfl
def zik:V→List V→Option (Nat × List V)
 | .d (.f key first cap),as=>some (key,ofDs first++as++ofDs cap)
 | .fn key [.map id] [],as=>some (key,.fn key [.map id] [] :: as)
 | .fn key first cap,as=>some (key,first++as++cap)
 | _,_=>none
def zp8 (C:za0)(K:St→List Foot→Prop)(b:Nat)(dst:Option Nat)(res:Nat)(fz:Bool)(r:List CO)(j:Nat)(tm:List (Nat × V))(hp:List (Option Obj))(es:List Foot):Option (Nat × List V)→Prop
 | none=>False
 | some (key,as)=>zjm C K b dst res r j tm hp es (zrb (za9 (zqs fz) C) (zbc hp) key res (b + j) (V.handAll as))
theorem z3z (dst:Option Nat)(f:A)(as:List A)(res:Nat)(fz:Bool):go C K b (⟨dst,.callv f as res fz,none,p⟩ :: r) j tm hp es =
  zp8 C K b dst res fz r j tm hp es (zik (evT tm f) (as.map (evT tm))):=by
 have ho:(⟨tm,hp⟩:St).obj=zbc hp:=rfl
 have h1:callee (.callv f as res fz) ((Cop.args (.callv f as res fz)).map (evT tm))=match zik (evT tm f) (as.map (evT tm)) with | some (k,as)=>some (k,as,res,zqs fz) | none=>none:=by
  simp only [Cop.args,Qb]
  generalize evT tm f=fv
  cases fv with
  | d x=>cases x <;> rfl
  | fn k a c =>
   rcases a with _ | ⟨x,_ | ⟨y,a⟩⟩
   ·rfl
   ·cases x with
    | map id=>cases c <;> rfl
    | _=>rfl
   ·cases x <;> rfl
  | _=>rfl
 simp only [go,rgo,zck,wanted,zmq,Cop.isCall,if_true,h1,ho]
 cases zik (evT tm f) (as.map (evT tm)) with
 | none=>rfl
 | some x =>
  obtain ⟨key,vs⟩:=x
  simp only [zp8,zgz,zoz]
  cases zrb (za9 (zqs fz) C) (zbc hp) key res (b + j) (V.handAll vs) with
  | none=>rfl
  | some x=>obtain ⟨v,is,os,ns⟩:=x; cases dst <;> rfl
theorem Zkq (x:A):go C K b (⟨some d,.mv x,none,p⟩ :: r) j tm hp es=go C K b r j ((d,evT tm x) :: tm) hp (⟨[],false,b + j,0⟩ :: es):=by
 rw [zbe _ _ rfl]; rfl
def goV (C:za0)(K:St→List Foot→Prop)(b d:Nat)(r:List CO)(j:Nat)(tm:List (Nat × V))(hp:List (Option Obj))(es:List Foot)(ids:List Nat):Option V→Prop
 | none=>False
 | some v=>go C K b r j ((d,v) :: tm) hp (⟨ids,false,b + j,0⟩ :: es)
def oD:Option D→Option V
 | some x=>some (.d x)
 | none=>none
theorem Zbs (op:BinOp)(x y:A):go C K b (⟨some d,.bin op x y,none,p⟩ :: r) j tm hp es=goV C K b d r j tm hp es [] (oD (binOp op (evT tm x) (evT tm y))):=by
 rw [zbe _ _ rfl]
 simp only [Cop.args,Qb,Qc,Cop.ids,act]
 cases binOp op (evT tm x) (evT tm y) <;> rfl
theorem Zkr (op:UnOp)(x:A):go C K b (⟨some d,.un op x,none,p⟩ :: r) j tm hp es=goV C K b d r j tm hp es [] (oD (unOp op (evT tm x))):=by
 rw [zbe _ _ rfl]
 simp only [Cop.args,Qb,Qc,Cop.ids,act]
 cases unOp op (evT tm x) <;> rfl
def z8c:V→V→V→Option V
 | .d (.b c),x,y=>some (if c then x else y)
 | _,_,_=>none
theorem z8d (x y z:A):go C K b (⟨some d,.pick x y z,none,p⟩ :: r) j tm hp es=goV C K b d r j tm hp es [] (z8c (evT tm x) (evT tm y) (evT tm z)):=by
 rw [zbe _ _ rfl]
 simp only [Cop.args,Qb,Qc,Cop.ids]
 generalize evT tm x=v
 cases v with
 | d x=>cases x <;> rfl
 | _=>rfl
def faV (o:Nat):V→Option V
 | .ptr id q=>some (.ptr id (q + o))
 | .pm id ver idx q=>some (.pm id ver idx (q + o))
 | .d (.q ds q)=>some (.d (.q ds (q + o)))
 | _=>none
theorem Zks (o:Nat)(x:A):go C K b (⟨some d,.fa o x,none,p⟩ :: r) j tm hp es=goV C K b d r j tm hp es [] (faV o (evT tm x)):=by
 rw [zbe _ _ rfl]
 simp only [Cop.args,Qb,Qc,Cop.ids]
 generalize evT tm x=v
 cases v with
 | d x=>cases x <;> rfl
 | _=>rfl
def asO (ag:Bool)(n:Nat):Option (List V)→Option V
 | some c=>ze7 ag n c
 | none=>none
def flV (ag:Bool)(o n:Nat):V→Option V
 | .agg cs=>asO ag n (zbn cs o n)
 | _=>none
theorem Zkt (ag:Bool)(o n:Nat)(x:A):go C K b (⟨some d,.fl ag o n x,none,p⟩ :: r) j tm hp es=goV C K b d r j tm hp es [] (flV ag o n (evT tm x)):=by
 rw [zbe _ _ rfl]
 simp only [Cop.args,Qb,Qc,Cop.ids,act]
 generalize evT tm x=v
 cases v with
 | agg cs =>
  simp only [flV]
  cases zbn cs o n with
  | none=>rfl
  | some c=>simp only [asO]; cases ze7 ag n c <;> rfl
 | _=>rfl
def zt3:V→Option V
 | .ptr id off=>some (.ptr id off)
 | .pm id ver idx off=>some (.pm id ver idx off)
 | .d (.q ds off)=>some (.d (.q ds off))
 | .d (.f k a c)=>some (.d (.f k a c))
 | .fn k a c=>some (.fn k a c)
 | _=>none
theorem z8e (x:A):go C K b (⟨some d,.nilc x,none,p⟩ :: r) j tm hp es=goV C K b d r j tm hp es [] (zt3 (evT tm x)):=by
 rw [zbe _ _ rfl]
 simp only [Cop.args,Qb,Qc,Cop.ids]
 generalize evT tm x=v
 cases v with
 | d x=>cases x <;> rfl
 | _=>rfl
def z8f (k:IntKind):V→Option V
 | .d (.i _ n)=>some (.d (.i k (k.wrap n)))
 | _=>none
theorem z8g (k:IntKind)(x:A):go C K b (⟨some d,.conv k x,none,p⟩ :: r) j tm hp es=goV C K b d r j tm hp es [] (z8f k (evT tm x)):=by
 rw [zbe _ _ rfl]
 simp only [Cop.args,Qb,Qc,Cop.ids]
 generalize evT tm x=v
 cases v with
 | d x=>cases x <;> rfl
 | _=>rfl
def Zin (i:Nat):V→Option V
 | .tup ws=>ws[i]?
 | _=>none
theorem Zbt (x:A)(i:Nat):go C K b (⟨some d,.ext x i,none,p⟩ :: r) j tm hp es=goV C K b d r j tm hp es [] (Zin i (evT tm x)):=by
 rw [zbe _ _ rfl]
 simp only [Cop.args,Qb,Qc,Cop.ids,act]
 generalize evT tm x=v
 cases v with
 | tup ws=>simp only [Zin]; cases ws[i]? <;> rfl
 | _=>rfl
def zes:V→List Nat
 | .ptr id _=>[id]
 | .pm id _ _ _=>[id]
 | _=>[]
def ldO (ag:Bool)(n off:Nat):Option Obj→Option V
 | some (.box cs)=>asO ag n (zbn cs off n)
 | some (.cst ds)=>asO ag n (zbn (ofDs ds) off n)
 | _=>none
def ldR (ag:Bool)(n off:Nat):Option (List V)→Option V
 | some row=>asO ag n (zbn row off n)
 | none=>none
def ldA (ag:Bool)(n ver idx off:Nat):Option Obj→Option V
 | some (.arr ver' _ xs)=>if ver=ver' then ldR ag n off xs[idx]? else none
 | _=>none
def ldT (ag:Bool)(n:Nat)(hp:List (Option Obj)):V→Option V
 | .ptr id off=>ldO ag n off (zbc hp id)
 | .d (.q ds off)=>asO ag n (zbn (ofDs ds) off n)
 | .pm id ver idx off=>ldA ag n ver idx off (zbc hp id)
 | _=>none
theorem zo1 (ds:List D)(off n:Nat):zbn (ofDs ds) off n=(match znh ds off n with | some c=>some (ofDs c) | none=>none):=by
 unfold zbn znh ofDs
 rw [Qf]
 split
 ·simp only [List.map_take,List.map_drop]
 ·rfl
theorem Zku (ag:Bool)(n:Nat)(x:A):go C K b (⟨some d,.ld ag n x,none,p⟩ :: r) j tm hp es=goV C K b d r j tm hp es (zes (evT tm x)) (ldT ag n hp (evT tm x)):=by
 rw [zbe _ _ rfl]
 simp only [Cop.args,Qb,Qc,act]
 have h1:Cop.ids (.ld ag n x) [evT tm x]=zes (evT tm x):=by cases evT tm x <;> rfl
 have h2:ldT ag n hp (evT tm x)=zfg ag n [evT tm x] ((zes (evT tm x)).map (zbc hp)):=by
  cases evT tm x with
  | ptr id off =>
   simp only [ldT,zes,Qb,Qc]
   cases zbc hp id with
   | none=>rfl
   | some o =>
    cases o with
    | box cs=>simp only [ldO,zfg]; cases zbn cs off n <;> rfl
    | cst ds =>
     simp only [ldO,zfg,zo1]
     cases znh ds off n <;> rfl
    | _=>rfl
  | pm id ver idx off =>
   simp only [ldT,zes,Qb,Qc]
   cases zbc hp id with
   | none=>rfl
   | some o =>
    cases o with
    | arr ver' sz xs =>
     simp only [ldA,zfg]
     split
     ·cases xs[idx]? with
      | none=>rfl
      | some row=>simp only [ldR]; cases zbn row off n <;> rfl
     ·rfl
    | _=>rfl
  | d x =>
   cases x with
   | q ds off =>
    simp only [ldT,zes,Qc,zfg,zo1]
    cases znh ds off n <;> rfl
   | _=>rfl
  | _=>rfl
 rw [h1,h2]
 cases zfg ag n [evT tm x] ((zes (evT tm x)).map (zbc hp)) <;> rfl
def stO (n id off:Nat)(hp:List (Option Obj))(c:Option (List V)):Option Obj→Option (List (Option Obj))
 | some (.box cs)=>match c with
  | some c=>if c.length=n then match over cs off c with | some cs'=>some (hp.set id (some (.box cs'))) | none=>none else none
  | none=>none
 | _=>none
def stA (n id ver idx off:Nat)(hp:List (Option Obj))(c:Option (List V)):Option Obj→Option (List (Option Obj))
 | some (.arr ver' sz xs)=>if ver=ver' then match xs[idx]?,c with
   | some row,some c=>if c.length=n then match over row off c with | some row'=>some (hp.set id (some (.arr ver' sz (xs.set idx row')))) | none=>none else none
   | _,_=>none
  else none
 | _=>none
def stT (n:Nat)(hp:List (Option Obj)):V→V→Option (List (Option Obj))
 | .ptr id off,v=>stO n id off hp v.cel (zbc hp id)
 | .pm id ver idx off,v=>stA n id ver idx off hp v.cel (zbc hp id)
 | _,_=>none
def goH (C:za0)(K:St→List Foot→Prop)(b:Nat)(dst:Option Nat)(r:List CO)(j:Nat)(tm:List (Nat × V))(es:List Foot)(ids:List Nat):Option (List (Option Obj))→Prop
 | none=>False
 | some hp=>go C K b r j (z0g dst .undef tm) hp (⟨ids,true,b + j,0⟩ :: es)
theorem Zkv (dst:Option Nat)(n:Nat)(x y:A):go C K b (⟨dst,.st n x y,none,p⟩ :: r) j tm hp es=goH C K b dst r j tm es (zes (evT tm x)) (stT n hp (evT tm x) (evT tm y)):=by
 rw [zbe _ _ rfl]
 simp only [Cop.args,Qb,Qc,act]
 have h1:∀ v,Cop.ids (.st n x y) [evT tm x,v]=zes (evT tm x):=fun v=>by cases evT tm x <;> rfl
 rw [h1]
 generalize evT tm y=v
 cases evT tm x with
 | ptr id off =>
  simp only [stT,zes,Qb,Qc]
  cases zbc hp id with
  | none=>rfl
  | some o =>
   cases o with
   | box cs =>
    simp only [stO,zga]
    cases v.cel with
    | none=>rfl
    | some c =>
     by_cases hc:c.length=n
     ·simp only [hc,if_true]; cases over cs off c <;> rfl
     ·simp only [hc,if_false]; rfl
   | _=>rfl
 | pm id ver idx off =>
  simp only [stT,zes,Qb,Qc]
  cases zbc hp id with
  | none=>rfl
  | some o =>
   cases o with
   | arr ver' sz xs =>
    simp only [stA,zga]
    by_cases hv:ver=ver'
    ·simp only [hv,if_true]
     cases xs[idx]? with
     | none=>rfl
     | some row =>
      cases v.cel with
      | none=>rfl
      | some c =>
       by_cases hc:c.length=n
       ·simp only [hc,if_true]; cases over row off c <;> rfl
       ·simp only [hc,if_false]; rfl
    ·simp only [hv,if_false]; rfl
   | _=>rfl
 | _=>rfl
def zbv:V→List Nat
 | .arr id _ _ _=>[id]
 | _=>[]
def Zbu:Option (List D)→Option V
 | some r=>some (.d (.q r 0))
 | none=>none
def iaO (sz id ver off len:Nat)(i:Int):Option Obj→Option V
 | some (.arr ver' sz' _)=>if ver=ver'∧sz'=sz∧0 ≤ i∧i < len then some (.pm id ver (off + i.toNat) 0) else none
 | _=>none
def iaT (sz:Nat)(hp:List (Option Obj)):V→V→Option V
 | .d (.l sz' xs),.d (.i _ i)=>if sz'=sz∧0 ≤ i then Zbu xs[i.toNat]? else none
 | .own _ _ sz' xs,.d (.i _ i)=>if sz'=sz∧0 ≤ i then Zbu xs[i.toNat]? else none
 | .arr id ver off len,.d (.i _ i)=>iaO sz id ver off len i (zbc hp id)
 | _,_=>none
theorem Zkw (sz:Nat)(x y:A):go C K b (⟨some d,.ia sz x y,none,p⟩ :: r) j tm hp es=goV C K b d r j tm hp es (zbv (evT tm x)) (iaT sz hp (evT tm x) (evT tm y)):=by
 rw [zbe _ _ rfl]
 simp only [Cop.args,Qb,Qc,act]
 have h1:∀ v,Cop.ids (.ia sz x y) [evT tm x,v]=zbv (evT tm x):=fun v=>by cases evT tm x <;> rfl
 rw [h1]
 generalize evT tm y=v
 have h2:iaT sz hp (evT tm x) v=zss sz [evT tm x,v] ((zbv (evT tm x)).map (zbc hp)):=by
  cases evT tm x with
  | d x =>
   cases x with
   | l sz' xs =>
    cases v with
    | d y =>
     cases y with
     | i k i=>simp only [iaT,zbv,Qc,zss]; by_cases hc:sz'=sz∧0 ≤ i <;> simp only [hc,and_self,if_true,if_false] <;> first | rfl | (cases xs[i.toNat]? <;> rfl)
     | _=>rfl
    | _=>rfl
   | _=>cases v <;> rfl
  | own id ver sz' xs =>
   cases v with
   | d y =>
    cases y with
    | i k i=>simp only [iaT,zbv,Qc,zss]; by_cases hc:sz'=sz∧0 ≤ i <;> simp only [hc,and_self,if_true,if_false] <;> first | rfl | (cases xs[i.toNat]? <;> rfl)
    | _=>rfl
   | _=>rfl
  | arr id ver off len =>
   cases v with
   | d y =>
    cases y with
    | i k i =>
     simp only [iaT,zbv,Qb,Qc]
     cases zbc hp id with
     | none=>rfl
     | some o=>cases o <;> rfl
    | _=>simp only [iaT,zbv,Qb,Qc]; cases zbc hp id with | none=>rfl | some o=>cases o <;> rfl
   | _=>simp only [iaT,zbv,Qb,Qc]; cases zbc hp id with | none=>rfl | some o=>cases o <;> rfl
  | _=>rfl
 rw [h2]
 cases zss sz [evT tm x,v] ((zbv (evT tm x)).map (zbc hp)) <;> rfl
def goB (C:za0)(K:St→List Foot→Prop)(b d:Nat)(r:List CO)(j:Nat)(tm:List (Nat × V))(hp:List (Option Obj))(es:List Foot):Option (List V)→Prop
 | none=>False
 | some c=>go C K b r (j + 1) ((d,.ptr (b + j) 0) :: tm) (hp.set (b + j) (some (.box c))) (⟨[],false,b + j,1⟩ :: es)
theorem Zbv (x:A):go C K b (⟨some d,.box x,none,p⟩ :: r) j tm hp es=goB C K b d r j tm hp es (evT tm x).cel:=by
 rw [zbe _ _ rfl]
 simp only [Cop.args,Qb,Qc,act,Cop.ids]
 cases (evT tm x).cel <;> rfl
theorem z8h (z:V):go C K b (⟨some d,.zero z,none,p⟩ :: r) j tm hp es=go C K b r (j + 1) ((d,.ptr (b + j) 0) :: tm) (hp.set (b + j) (some (.box z.cells))) (⟨[],false,b + j,1⟩ :: es):=by
 rw [zbe _ _ rfl]; rfl
def Znc:V→Option V
 | .d (.l _ xs)=>some (.d (.i .i64 xs.length))
 | .own _ _ _ xs=>some (.d (.i .i64 xs.length))
 | .nil _=>some (.d (.i .i64 0))
 | .arr _ _ _ n=>some (.d (.i .i64 n))
 | _=>none
theorem z8i (x:A):go C K b (⟨some d,.len 0 x,none,p⟩ :: r) j tm hp es=match evT tm x with
  | .map id=>zmr C K b (some d) (.len 0 x) r j tm hp es [id] none
  | v=>goV C K b d r j tm hp es [] (Znc v):=by
 rw [zbe _ _ rfl]
 simp only [Cop.args,Qb,Qc]
 generalize evT tm x=v
 cases v with
 | d x=>cases x <;> rfl
 | _=>rfl
def Znd:V→Option V
 | .d (.s x)=>some (.d (.i .i64 x.length))
 | _=>none
theorem z8j (x:A):go C K b (⟨some d,.len 1 x,none,p⟩ :: r) j tm hp es=match evT tm x with
  | .map id=>zmr C K b (some d) (.len 1 x) r j tm hp es [id] none
  | v=>goV C K b d r j tm hp es [] (Znd v):=by
 rw [zbe _ _ rfl]
 simp only [Cop.args,Qb,Qc]
 generalize evT tm x=v
 cases v with
 | d x=>cases x <;> rfl
 | _=>rfl
def z0h (cs:Option (List V)):Option V:=match cs with | some c=>some (.agg c) | none=>none
theorem z30 (z:List V)(ps:List (Nat × Nat × A)):go C K b (⟨some d,.build z ps,none,p⟩ :: r) j tm hp es=goV C K b d r j tm hp es [] (z0h (ziw z (ps.map fun q=>(q.1,q.2.1,evT tm q.2.2)))):=by
 rw [zbe _ _ rfl]
 have hz:∀ (ps:List (Nat × Nat × A)),z54 ps ((ps.map (·.2.2)).map (evT tm))=ps.map fun q=>(q.1,q.2.1,evT tm q.2.2):=by
  intro ps
  induction ps with
  | nil=>rfl
  | cons q ps ih=>obtain ⟨a,c,e⟩:=q; simp only [Qb,z54,ih]
 simp only [Cop.args,Cop.ids,act,hz]
 cases ziw z (ps.map fun q=>(q.1,q.2.1,evT tm q.2.2)) <;> rfl
def goT (C:za0)(K:St→List Foot→Prop)(b d sz:Nat)(r:List CO)(j:Nat)(tm:List (Nat × V))(hp:List (Option Obj))(es:List Foot):Option (List (List D))→Prop
 | none=>False
 | some xs=>go C K b r (j + 1) ((d,.own (b + j) 0 sz xs) :: tm) (hp.set (b + j) (some (.tok 0 sz))) (⟨[],false,b + j,1⟩ :: es)
theorem Zbw (sz n:Nat)(z:List D)(ps:List (Nat × A)):go C K b (⟨some d,.bsl sz n z ps,none,p⟩ :: r) j tm hp es=goT C K b d sz r j tm hp es (zix sz (List.replicate n z) (ps.map fun q=>(q.1,evT tm q.2))):=by
 rw [zbe _ _ rfl]
 have hz:∀ (ps:List (Nat × A)),zy6 ps ((ps.map (·.2)).map (evT tm))=ps.map fun q=>(q.1,evT tm q.2):=by
  intro ps
  induction ps with
  | nil=>rfl
  | cons q ps ih=>obtain ⟨a,e⟩:=q; simp only [Qb,zy6,ih]
 simp only [Cop.args,Cop.ids,act,hz]
 cases zix sz (List.replicate n z) (ps.map fun q=>(q.1,evT tm q.2)) <;> rfl
def Zio (C:za0)(K:St→List Foot→Prop)(b d sz bytes:Nat)(r:List CO)(j:Nat)(tm:List (Nat × V))(hp:List (Option Obj))(es:List Foot)(id ver sz':Nat)(xs ys:List (List D)):Option Obj→Prop
 | some (.tok ver' sz'')=>(ver=ver'∧sz'=sz∧sz''=sz∧za4 (xs.length + ys.length) bytes=true)∧go C K b r (j + 1) ((d,.own id (ver + 1) sz (xs++ys)) :: tm) (hp.set id (some (.tok (ver + 1) sz))) (⟨[id],true,b + j,0⟩ :: es)
 | _=>False
def goA (C:za0)(K:St→List Foot→Prop)(b d sz bytes:Nat)(r:List CO)(j:Nat)(tm:List (Nat × V))(hp:List (Option Obj))(es:List Foot):V→Option (List (List D))→Prop
 | .nil _,some ys=>za4 ys.length bytes=true∧go C K b r (j + 1) ((d,.own (b + j) 0 sz ys) :: tm) (hp.set (b + j) (some (.tok 0 sz))) (⟨[],true,b + j,1⟩ :: es)
 | .own id ver sz' xs,some ys=>Zio C K b d sz bytes r j tm hp es id ver sz' xs ys (zbc hp id)
 | _,_=>False
theorem Zbx (sz bytes:Nat)(x y:A):go C K b (⟨some d,.app sz bytes x y,none,p⟩ :: r) j tm hp es=goA C K b d sz bytes r j tm hp es (evT tm x) (zet sz (evT tm y)):=by
 rw [zbe _ _ rfl]
 simp only [Cop.args,Qb,Qc,act]
 generalize evT tm y=v at *
 cases evT tm x with
 | nil sz' =>
  cases hy:zet sz v with
  | none=>simp only [Cop.ids,Qc,zdw,hy]; rfl
  | some ys =>
   cases hr:za4 ys.length bytes with
   | true=>simp only [Cop.ids,Qc,zdw,hy,hr,if_true,goA,true_and]; rfl
   | false=>simp only [Cop.ids,Qc,zdw,hy,hr,goA,false_and,Qm,if_false]; rfl
 | own id ver sz' xs =>
  simp only [Cop.ids,Qb,Qc]
  cases hy:zet sz v with
  | none =>
   simp only [goA]
   cases zbc hp id with
   | none=>rfl
   | some o =>
    cases o with
    | tok ver' sz''=>simp only [zdw,hy]; split <;> rfl
    | _=>rfl
  | some ys =>
   simp only [goA]
   cases zbc hp id with
   | none=>rfl
   | some o =>
    cases o with
    | tok ver' sz'' =>
     simp only [zdw,hy,Zio]
     by_cases hc:ver=ver'∧sz'=sz∧sz''=sz
     ·rw [if_pos hc]
      obtain ⟨rfl,rfl,rfl⟩:=hc
      cases hr:za4 (xs.length + ys.length) bytes with
      | true=>simp only [if_true,and_self,true_and]; rfl
      | false=>simp only [Qm,and_false,false_and,if_false]; rfl
     ·rw [if_neg hc]
      refine propext ⟨fun h=>h.elim,fun h=>hc ⟨h.1.1,h.1.2.1,h.1.2.2.1⟩⟩
    | _=>rfl
 | _=>rfl
def Zkx (sz:Nat)(xs:List (List D)):Option (Nat × Nat)→Option V
 | some (l,h)=>some (.d (.l sz ((xs.take h).drop l)))
 | none=>none
def Zky (id ver sz:Nat)(xs:List (List D)):Option (Nat × Nat)→Option V
 | some (l,h)=>if h=xs.length then some (.own id ver sz (xs.drop l)) else some (.d (.l sz ((xs.take h).drop l)))
 | none=>none
def zn7 (sz:Nat)(hp:List (Option Obj))(x:V)(lo hi:Option V):Option V:=zcr sz x lo hi ((zbv x).map (zbc hp))
def Zip (sz id ver off:Nat)(bs:Option (Nat × Nat)):Option Obj→Option V
 | some (.arr _ sz' _)=>if sz'=sz then match bs with
   | some (l,h)=>some (.arr id ver (off + l) (h - l))
   | none=>none
  else none
 | _=>none
theorem Zby (sz:Nat)(hp:List (Option Obj))(xs:List (List D))(lo hi:Option V):zn7 sz hp (.d (.l sz xs)) lo hi=Zkx sz xs (zbi lo hi xs.length):=by
 simp only [zn7,zcr,if_true]
 cases zbi lo hi xs.length <;> rfl
theorem z31 (id ver sz:Nat)(hp:List (Option Obj))(xs:List (List D))(lo hi:Option V):zn7 sz hp (.own id ver sz xs) lo hi=Zky id ver sz xs (zbi lo hi xs.length):=by
 simp only [zn7,zcr,if_true]
 cases zbi lo hi xs.length <;> rfl
theorem z32 (id ver off len sz:Nat)(hp:List (Option Obj))(lo hi:Option V):zn7 sz hp (.arr id ver off len) lo hi=Zip sz id ver off (zbi lo hi len) (zbc hp id):=by
 simp only [zn7,zcr,zbv,Qb,Qc]
 cases zbc hp id with
 | none=>rfl
 | some o=>cases o <;> rfl
theorem zjn (sz:Nat)(x:A)(lo hi:Option A)(v:V)(r:List V):Cop.ids (.slc sz x lo hi) (v :: r)=zbv v:=by cases v <;> rfl
theorem z33 (sz:Nat)(x:A):go C K b (⟨some d,.slc sz x none none,none,p⟩ :: r) j tm hp es=goV C K b d r j tm hp es (zbv (evT tm x)) (zn7 sz hp (evT tm x) none none):=by
 rw [zbe _ _ rfl]
 simp only [Cop.args,Option.toList_none,List.append_nil,Qb,Qc,zjn,act]
 unfold zn7
 cases zcr sz (evT tm x) none none ((zbv (evT tm x)).map (zbc hp)) <;> rfl
theorem z34 (sz:Nat)(x lo:A):go C K b (⟨some d,.slc sz x (some lo) none,none,p⟩ :: r) j tm hp es=goV C K b d r j tm hp es (zbv (evT tm x)) (zn7 sz hp (evT tm x) (some (evT tm lo)) none):=by
 rw [zbe _ _ rfl]
 simp only [Cop.args,Option.toList_none,Option.toList_some,List.append_nil,List.cons_append,List.nil_append,Qb,Qc,zjn,act]
 unfold zn7
 cases zcr sz (evT tm x) (some (evT tm lo)) none ((zbv (evT tm x)).map (zbc hp)) <;> rfl
theorem z35 (sz:Nat)(x hi:A):go C K b (⟨some d,.slc sz x none (some hi),none,p⟩ :: r) j tm hp es=goV C K b d r j tm hp es (zbv (evT tm x)) (zn7 sz hp (evT tm x) none (some (evT tm hi))):=by
 rw [zbe _ _ rfl]
 simp only [Cop.args,Option.toList_none,Option.toList_some,List.append_nil,List.cons_append,List.nil_append,Qb,Qc,zjn,act]
 unfold zn7
 cases zcr sz (evT tm x) none (some (evT tm hi)) ((zbv (evT tm x)).map (zbc hp)) <;> rfl
theorem z36 (sz:Nat)(x lo hi:A):go C K b (⟨some d,.slc sz x (some lo) (some hi),none,p⟩ :: r) j tm hp es=goV C K b d r j tm hp es (zbv (evT tm x)) (zn7 sz hp (evT tm x) (some (evT tm lo)) (some (evT tm hi))):=by
 rw [zbe _ _ rfl]
 simp only [Cop.args,Option.toList_some,List.cons_append,List.nil_append,Qb,Qc,zjn,act]
 unfold zn7
 cases zcr sz (evT tm x) (some (evT tm lo)) (some (evT tm hi)) ((zbv (evT tm x)).map (zbc hp)) <;> rfl
def Zau (neg:Bool):V→V→Option V
 | .d (.b x),.d (.b y)=>some (.d (.b (if neg then x != y else x == y)))
 | _,_=>none
theorem Zbz (neg:Bool)(x y:A):go C K b (⟨some d,.eqb neg x y,none,p⟩ :: r) j tm hp es=goV C K b d r j tm hp es [] (Zau neg (evT tm x) (evT tm y)):=by
 rw [zbe _ _ rfl]
 simp only [Cop.args,Qb,Qc,Cop.ids,act]
 generalize evT tm x=u
 generalize evT tm y=v
 cases u with
 | d u =>
  cases u with
  | b u =>
   cases v with
   | d v=>cases v <;> rfl
   | _=>rfl
  | _=>rfl
 | _=>rfl
theorem z8k (x y:Bool):Zau false (.d (.b x)) (.d (.b y))=some (.d (.b (decide (x=y)))):=by cases x <;> cases y <;> rfl
theorem z8l (x y:Bool):Zau true (.d (.b x)) (.d (.b y))=some (.d (.b (decide (¬ x=y)))):=by cases x <;> cases y <;> rfl
def zt4 (neg:Bool)(x:V):Option V:=match zj5 x with
 | some r=>some (.d (.b (if neg then !r else r)))
 | none=>none
theorem z8m (neg:Bool)(x:A):go C K b (⟨some d,.nils neg x,none,p⟩ :: r) j tm hp es=goV C K b d r j tm hp es [] (zt4 neg (evT tm x)):=by
 rw [zbe _ _ rfl]
 simp only [Cop.args,Qb,Qc,Cop.ids,act,zt4]
 cases zj5 (evT tm x) <;> rfl
def ixO:Option UInt8→Option V
 | some c=>some (.d (.i .u8 c.toNat))
 | none=>none
def Ziq:V→V→Option V
 | .d (.s x),.d (.i _ i)=>if 0 ≤ i then ixO x[i.toNat]? else none
 | _,_=>none
theorem Zb0 (x y:A):go C K b (⟨some d,.ixs x y,none,p⟩ :: r) j tm hp es=goV C K b d r j tm hp es [] (Ziq (evT tm x) (evT tm y)):=by
 rw [zbe _ _ rfl]
 simp only [Cop.args,Qb,Qc,Cop.ids,act]
 generalize evT tm x=u
 generalize evT tm y=v
 cases u with
 | d u =>
  cases u with
  | s u =>
   cases v with
   | d v =>
    cases v with
    | i k i =>
     simp only [Ziq]
     by_cases h:0 ≤ i
     ·simp only [h,if_true]; cases u[i.toNat]? <;> rfl
     ·simp only [h,if_false]; rfl
    | _=>rfl
   | _=>rfl
  | _=>rfl
 | _=>rfl
def Zkz (x:List UInt8):Option (Nat × Nat)→Option V
 | some (l,h)=>some (.d (.s ((x.take h).drop l)))
 | none=>none
def z27 (lo hi:Option V):V→Option V
 | .d (.s x)=>Zkz x (zbi lo hi x.length)
 | _=>none
theorem z37 (x lo:A):go C K b (⟨some d,.sls x (some lo) none,none,p⟩ :: r) j tm hp es=goV C K b d r j tm hp es [] (z27 (some (evT tm lo)) none (evT tm x)):=by
 rw [zbe _ _ rfl]
 simp only [Cop.args,Option.toList,List.append_nil,Qb,Qc,Cop.ids,act,List.cons_append,List.nil_append]
 generalize evT tm x=u
 cases u with
 | d u =>
  cases u with
  | s u=>simp only [z27]; cases zbi (some (evT tm lo)) none u.length <;> rfl
  | _=>rfl
 | _=>rfl
theorem z38 (x hi:A):go C K b (⟨some d,.sls x none (some hi),none,p⟩ :: r) j tm hp es=goV C K b d r j tm hp es [] (z27 none (some (evT tm hi)) (evT tm x)):=by
 rw [zbe _ _ rfl]
 simp only [Cop.args,Option.toList,List.append_nil,Qb,Qc,Cop.ids,act,List.cons_append,List.nil_append]
 generalize evT tm x=u
 cases u with
 | d u =>
  cases u with
  | s u=>simp only [z27]; cases zbi none (some (evT tm hi)) u.length <;> rfl
  | _=>rfl
 | _=>rfl
theorem z39 (x lo hi:A):go C K b (⟨some d,.sls x (some lo) (some hi),none,p⟩ :: r) j tm hp es=goV C K b d r j tm hp es [] (z27 (some (evT tm lo)) (some (evT tm hi)) (evT tm x)):=by
 rw [zbe _ _ rfl]
 simp only [Cop.args,Option.toList,Qb,Qc,Cop.ids,act,List.cons_append,List.nil_append]
 generalize evT tm x=u
 cases u with
 | d u =>
  cases u with
  | s u=>simp only [z27]; cases zbi (some (evT tm lo)) (some (evT tm hi)) u.length <;> rfl
  | _=>rfl
 | _=>rfl
def Zk0:Option (List UInt8)→Option V
 | some b=>some (.d (.s b))
 | none=>none
theorem Zb1 (x:A):go C K b (⟨some d,.bts x,none,p⟩ :: r) j tm hp es=goV C K b d r j tm hp es [] (Zk0 (zh9 (evT tm x))):=by
 rw [zbe _ _ rfl]
 simp only [Cop.args,Qb,Qc,Cop.ids,act]
 cases zh9 (evT tm x) <;> rfl
def Zk1 (n:Int):Option (List UInt8)→Option (List UInt8)
 | some b=>some (UInt8.ofNat n.toNat :: b)
 | none=>none
theorem zms (n:Int)(r:List (List D)):zdx ([.i .u8 n] :: r)=Zk1 n (zdx r):=by
 rw [zdx]
 cases zdx r <;> rfl
def Zb2 (n:Nat)(z:List D):List (List D):=List.replicate n z
def Zk2 (n:Nat):List UInt8:=List.replicate n 0
theorem zo2:∀ (n:Nat),zdx (Zb2 n [.i .u8 0])=some (Zk2 n)
 | 0=>rfl
 | n + 1=>by
  have:=zo2 n
  unfold Zb2 Zk2 at *
  rw [List.replicate_succ,zms,this]; rfl
def Zb3 (sz bytes fresh:Nat)(z:List D)(ow:Bool):V→V→Option (V × Obj)
 | .d (.i _ l),.d (.i _ c)=>if 0 ≤ l∧l ≤ c∧za4 c.toNat bytes then
   if l=0 ∨ ow=true then some (.own fresh 0 sz (List.replicate l.toNat z),.tok 0 sz)
   else if l=c then some (.arr fresh 0 0 l.toNat,.arr 0 sz (List.replicate l.toNat (ofDs z))) else none
  else none
 | _,_=>none
def goN (C:za0)(K:St→List Foot→Prop)(b d:Nat)(r:List CO)(j:Nat)(tm:List (Nat × V))(hp:List (Option Obj))(es:List Foot):Option (V × Obj)→Prop
 | none=>False
 | some (v,o)=>go C K b r (j + 1) ((d,v) :: tm) (hp.set (b + j) (some o)) (⟨[],false,b + j,1⟩ :: es)
theorem Zb4 (sz bytes:Nat)(z:List D)(ow:Bool)(x y:A):go C K b (⟨some d,.mks sz bytes z ow x y,none,p⟩ :: r) j tm hp es=goN C K b d r j tm hp es (Zb3 sz bytes (b + j) z ow (evT tm x) (evT tm y)):=by
 rw [zbe _ _ rfl]
 simp only [Cop.args,Qb,Qc,Cop.ids,act]
 generalize evT tm x=u
 generalize evT tm y=v
 cases u with
 | d u =>
  cases u with
  | i k l =>
   cases v with
   | d v =>
    cases v with
    | i k' c =>
     simp only [Zb3]
     by_cases h1:0 ≤ l∧l ≤ c∧za4 c.toNat bytes=true
     ·rw [if_pos h1,if_pos h1]
      by_cases h2:l=0 ∨ ow=true
      ·rw [if_pos h2,if_pos h2]; rfl
      ·rw [if_neg h2,if_neg h2]
       by_cases h3:l=c
       ·rw [if_pos h3,if_pos h3]; rfl
       ·rw [if_neg h3,if_neg h3]; rfl
     ·rw [if_neg h1,if_neg h1]; rfl
    | _=>rfl
   | _=>rfl
  | _=>rfl
 | _=>rfl
def rng:Nat→Nat→List Nat
 | _,0=>[]
 | i,n + 1=>i :: rng (i + 1) n
theorem z60:∀ (n i:Nat),rng i n=List.range' i n
 | 0,i=>rfl
 | n + 1,i=>by rw [rng,z60 n,List.range'_succ]
def Zk3 (vs:List V)(L:List Nat):Option (List (Option Obj))→Option (V × List (Option Obj))
 | some h=>some (V.ren (zau L) zbh (zej vs),h)
 | none=>none
def Zir (vs:List V)(hp:List (Option Obj)):Option (List Nat)→Option (V × List (Option Obj))
 | some L=>Zk3 vs L (zbj (zau L) zbh 0 (L.map (zbc hp)))
 | none=>none
def zy1 (m:Nat)(hp:List (Option Obj)):Option (List V)→Option (V × List (Option Obj))
 | some vs=>Zir vs hp (zbt (zbc hp) far (rng 0 m++V.refsAll vs) [])
 | none=>none
theorem zhm (m:Nat)(rs:List Ret):zdo m ⟨tm,hp⟩ rs=zy1 m hp (zc8 ⟨tm,hp⟩ rs):=by
 unfold zdo
 cases zc8 ⟨tm,hp⟩ rs with
 | none=>rfl
 | some vs =>
  simp only [zy1]
  rw [z60,← List.range_eq_range']
  show (match zbt (zbc hp) far (List.range m++V.refsAll vs) [] with | none=>none | some L=>_)=_
  cases zbt (zbc hp) far (List.range m++V.refsAll vs) [] with
  | none=>rfl
  | some L =>
   simp only [Zir]
   show (match zbj (zau L) zbh 0 (L.map (zbc hp)) with | none=>none | some h=>_)=_
   cases zbj (zau L) zbh 0 (L.map (zbc hp)) <;> rfl
def Zav (tm:List (Nat × V))(hp:List (Option Obj))(t:Nat):V→St
 | .nil sz=>⟨(t,.own hp.length 0 sz []) :: tm,hp++[some (.tok 0 sz)]⟩
 | _=>⟨tm,hp⟩
def zlb:List Nat→St→St
 | [],s=>s
 | t :: r,s=>zlb r (zep s t)
def zlc:List (Nat × Nat)→St→St
 | [],s=>s
 | t :: r,s=>zlc r (zdn s t)
theorem zry (t:Nat):zep ⟨tm,hp⟩ t=Zav tm hp t (za1 tm t):=by
 unfold zep
 show (match za1 tm t with | .nil sz=>_ | _=>_)=_
 cases za1 tm t <;> rfl
def zlr (tm:List (Nat × V)):List Nat→List (Nat × V)
 | []=>[]
 | t :: r=>(t,za1 tm t) :: zlr tm r
theorem zlz (tm:List (Nat × V))(hp:List (Option Obj)):∀ (l:List Nat),zcs ⟨tm,hp⟩ l=zlr tm l
 | []=>rfl
 | t :: r=>by rw [zcs,zlr,zlz tm hp r]; rfl
def z4a (l:List Nat):St→St
 | ⟨tm,hp⟩=>⟨zlr tm l,hp⟩
def zil:List Nat→St→St
 | [],s=>s
 | t :: r,s=>zil r (zfv s t)
def zim:List (Nat × Nat)→St→St
 | [],s=>s
 | t :: r,s=>zim r (zib s t)
theorem zt5 (k o:List Nat)(ob:List (Nat × Nat))(da:List Nat)(db:List (Nat × Nat))(tr:Bool)(s:St):z3a ⟨k,o,ob,da,db,tr⟩ s=zim db (zil da s):=by
 have h1:∀ (l:List Nat) (s:St),l.foldl zfv s=zil l s:=by
  intro l
  induction l with
  | nil=>intro s; rfl
  | cons t l ih=>intro s; exact ih _
 have h2:∀ (l:List (Nat × Nat)) (s:St),l.foldl zib s=zim l s:=by
  intro l
  induction l with
  | nil=>intro s; rfl
  | cons t l ih=>intro s; exact ih _
 unfold z3a
 simp only [h1,h2]
def z8n (tm:List (Nat × V))(hp:List (Option Obj))(id k:Nat)(cs:List V):Option V→St
 | some v=>⟨tm,hp.set id (some (.box (cs.set k (zsw v))))⟩
 | none=>⟨tm,hp⟩
def z4b (tm:List (Nat × V))(hp:List (Option Obj))(id k:Nat):Option Obj→St
 | some (.box cs)=>z8n tm hp id k cs cs[k]?
 | _=>⟨tm,hp⟩
def z4c (tm:List (Nat × V))(hp:List (Option Obj))(c:Nat):V→St
 | .ptr id off=>z4b tm hp id (off + c) (zbc hp id)
 | _=>⟨tm,hp⟩
theorem z0i (t c:Nat):zib ⟨tm,hp⟩ (t,c)=z4c tm hp c (za1 tm t):=by
 unfold zib
 show (match za1 tm t with | .ptr id off=>_ | _=>_)=_
 cases za1 tm t with
 | ptr id off =>
  simp only [z4c]
  show (match zbc hp id with | some (.box cs)=>_ | _=>_)=_
  cases zbc hp id with
  | none=>rfl
  | some o =>
   cases o with
   | box cs=>simp only [z4b]; cases cs[off + c]? <;> rfl
   | _=>rfl
 | _=>rfl
def z0j (tm:List (Nat × V))(hp:List (Option Obj))(id k:Nat)(cs:List V):Option V→St
 | some (.nil sz)=>⟨tm,(hp.set id (some (.box (cs.set k (.own hp.length 0 sz [])))))++[some (.tok 0 sz)]⟩
 | _=>⟨tm,hp⟩
def z4d (tm:List (Nat × V))(hp:List (Option Obj))(id k:Nat):Option Obj→St
 | some (.box cs)=>z0j tm hp id k cs cs[k]?
 | _=>⟨tm,hp⟩
def Zb5 (tm:List (Nat × V))(hp:List (Option Obj))(c:Nat):V→St
 | .ptr id off=>z4d tm hp id (off + c) (zbc hp id)
 | _=>⟨tm,hp⟩
def zt6 (tm:List (Nat × V))(hp:List (Option Obj))(t c:Nat):V→St
 | .nil sz=>⟨(t,.arr hp.length 0 0 0) :: tm,hp++[some (.arr 0 sz [])]⟩
 | v=>Zb5 tm hp c v
theorem z0k (t c:Nat):zdn ⟨tm,hp⟩ (t,c)=zt6 tm hp t c (za1 tm t):=by
 unfold zdn
 show (match za1 tm t with | .ptr id off=>_ | .nil sz=>_ | _=>_)=_
 cases za1 tm t with
 | ptr id off =>
  simp only [zt6,Zb5]
  show (match zbc hp id with | some (.box cs)=>_ | _=>_)=_
  cases zbc hp id with
  | none=>rfl
  | some o =>
   cases o with
   | box cs =>
    simp only [z4d]
    cases cs[off + c]? with
    | none=>rfl
    | some v=>cases v <;> rfl
   | _=>rfl
 | _=>rfl
theorem z4e (k o:List Nat)(ob:List (Nat × Nat))(da:List Nat)(db:List (Nat × Nat))(tr:Bool)(s:St):enter ⟨k,o,ob,da,db,tr⟩ s=z4a k (zim db (zil da (zlc ob (zlb o s)))):=by
 have h1:∀ (l:List Nat) (s:St),l.foldl zep s=zlb l s:=by
  intro l
  induction l with
  | nil=>intro s; rfl
  | cons t l ih=>intro s; exact ih _
 have h2:∀ (l:List (Nat × Nat)) (s:St),l.foldl zdn s=zlc l s:=by
  intro l
  induction l with
  | nil=>intro s; rfl
  | cons t l ih=>intro s; exact ih _
 unfold enter
 simp only [h1,h2,zt5]
 cases zim db (zil da (zlc ob (zlb o s))) with
 | mk tm hp=>simp only [z4a,zlz]
def zhw (n:Nat)(tm:List (Nat × V))(h:List (Option Obj)):Option St:=if zcl n tm && underH n h then some ⟨zdi h tm,normH h h⟩ else none
where
 underH (n:Nat):List (Option Obj)→Bool
  | []=>true
  | o :: r=>Obj.under n o && underH n r
 normH (h:List (Option Obj)):List (Option Obj)→List (Option Obj)
  | []=>[]
  | o :: r=>zbp h o :: normH h r
theorem zrz (n:Nat):∀ (h:List (Option Obj)),zhw.underH n h=h.all (Obj.under n)
 | []=>rfl
 | o :: r=>by simp [zhw.underH,zrz n r]
theorem zvt (h:List (Option Obj)):∀ (l:List (Option Obj)),zhw.normH h l=l.map (zbp h)
 | []=>rfl
 | o :: r=>by simp [zhw.normH,zvt h r]
def z4f (k:List Nat)(n:Nat):St→Option St
 | ⟨tm,hp⟩=>zhw n (zlr tm k) (hp.take n)
def zvu (k:List Nat):St→Option St
 | ⟨tm,hp⟩=>some ⟨zlr tm k,hp⟩
theorem z8o (k o:List Nat)(ob:List (Nat × Nat))(da:List Nat)(db:List (Nat × Nat))(n:Nat)(s:St):zkt ⟨k,o,ob,da,db,true⟩ n s=z4f k n (zim db (zil da s)):=by
 unfold zkt
 simp only [zt5]
 cases zim db (zil da s) with
 | mk tm hp=>simp only [if_true,zlz,zrz,zvt,z4f,zhw]
theorem z4g (k o:List Nat)(ob:List (Nat × Nat))(da:List Nat)(db:List (Nat × Nat))(n:Nat)(s:St):zkt ⟨k,o,ob,da,db,false⟩ n s=zvu k (zim db (zil da s)):=by
 unfold zkt
 simp only [zt5]
 cases zim db (zil da s) with
 | mk tm hp=>simp only [Qm,if_false,zlz,zvu]
def z4h (id ver sz:Nat)(xs:List (List D)):Option Obj→V
 | some (.tok ver' _)=>if ver=ver' then .own id 0 sz xs else .d (.l sz xs)
 | _=>.d (.l sz xs)
theorem zr0 (h:List (Option Obj))(id ver sz:Nat)(xs:List (List D)):zc5 h (.own id ver sz xs)=z4h id ver sz xs (zbc h id):=by
 simp only [zc5,zbc]
 generalize (h[id]?).join=o
 cases o with
 | none=>rfl
 | some o=>cases o <;> rfl
def z4i (id ver off len:Nat):Option Obj→V
 | some (.arr ver' _ _)=>if ver=ver' then .arr id ver off len else .bad
 | _=>.bad
theorem zr1 (h:List (Option Obj))(id ver off len:Nat):zc5 h (.arr id ver off len)=z4i id ver off len (zbc h id):=by
 simp only [zc5,zbc]
 generalize (h[id]?).join=o
 cases o with
 | none=>rfl
 | some o=>cases o <;> rfl
end
end Ab
