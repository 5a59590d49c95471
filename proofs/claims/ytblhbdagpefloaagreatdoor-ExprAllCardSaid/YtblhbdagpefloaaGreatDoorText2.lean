/-
 Grammars: what they are, and as rows.
-/
import Derived.Test.YtblhbdagpefloaaGreatDoorText0
import Derived.Test.YtblhbdagpefloaaGreatDoorText1
import Derived.Test.YtblhbdagpefloaaGreatDoorPack4
set_option linter.unusedSimpArgs false
set_option linter.unusedVariables false
set_option linter.unusedSectionVars false
set_option linter.unnecessarySimpa false
set_option maxRecDepth 100000
namespace Ab
open Go
inductive GVal where
 | mk (kind i:Int) (s:List UInt8) (l:List GVal)
namespace GVal
def kind:GVal→Int | .mk k _ _ _=>k
def i:GVal→Int | .mk _ i _ _=>i
def s:GVal→List UInt8 | .mk _ _ s _=>s
def l:GVal→List GVal | .mk _ _ _ l=>l
end GVal
mutual
def GVal.row:GVal→List D
 | .mk k i s l=>[.i .i64 k,.i .i64 i,.s s,.l 4 (zab l)]
def zab:List GVal→List (List D)
 | []=>[]
 | x :: r=>GVal.row x :: zab r
end
theorem zbz:∀ (l:List GVal),zab l=l.map GVal.row
 | []=>rfl
 | x :: r=>by simp [zab,zbz r]
structure GTok where
 name:List UInt8
 rex:List UInt8
 skip:Bool
structure GNt where
 name:List UInt8
 inh:List (List UInt8)
 syn:List (List UInt8)
structure GSym where
 tok:Bool
 at_:Int
inductive Exp where
 | mk (op:Int) (v:GVal) (occ attr:Int) (args:List Exp)
namespace Exp
def op:Exp→Int | .mk o _ _ _ _=>o
def v:Exp→GVal | .mk _ v _ _ _=>v
def occ:Exp→Int | .mk _ _ o _ _=>o
def attr:Exp→Int | .mk _ _ _ a _=>a
def args:Exp→List Exp | .mk _ _ _ _ as=>as
end Exp
structure GRule where
 occ:Int
 attr:Int
 e:Exp
structure GProd where
 left:Int
 right:List GSym
 rules:List GRule
structure Gram where
 toks:List GTok
 nts:List GNt
 prods:List GProd
def zc1 (s:List UInt8):List D:=[.s s]
def GTok.row (t:GTok):List D:=[.s t.name,.s t.rex,.b t.skip]
def GNt.row (n:GNt):List D:=[.s n.name,.l 1 (n.inh.map zc1),.l 1 (n.syn.map zc1)]
def GSym.row (s:GSym):List D:=[.b s.tok,.i .i64 s.at_]
mutual
def Exp.row:Exp→List D
 | .mk o v occ attr args=>[.i .i64 o,.i .i64 v.kind,.i .i64 v.i,.s v.s,.l 4 (zab v.l),.i .i64 occ,.i .i64 attr,.l 8 (zrc args)]
def zrc:List Exp→List (List D)
 | []=>[]
 | x :: r=>Exp.row x :: zrc r
end
theorem zpx:∀ (l:List Exp),zrc l=l.map Exp.row
 | []=>rfl
 | x :: r=>by simp [zrc,zpx r]
theorem zds (e:Exp):e.row=[.i .i64 e.op,.i .i64 e.v.kind,.i .i64 e.v.i,.s e.v.s,.l 4 (zab e.v.l),.i .i64 e.occ,.i .i64 e.attr,.l 8 (e.args.map Exp.row)]:=by
 cases e; simp only [Exp.row,zpx]; rfl
def GRule.row (r:GRule):List D:=[.i .i64 r.occ,.i .i64 r.attr,.i .i64 r.e.op,.i .i64 r.e.v.kind,.i .i64 r.e.v.i,.s r.e.v.s,.l 4 (zab r.e.v.l),.i .i64 r.e.occ,.i .i64 r.e.attr,.l 8 (r.e.args.map Exp.row)]
def GProd.row (p:GProd):List D:=[.i .i64 p.left,.l 2 (p.right.map GSym.row),.l 10 (p.rules.map GRule.row)]
def Gram.row (g:Gram):List D:=[.l 3 (g.toks.map GTok.row),.l 3 (g.nts.map GNt.row),.l 3 (g.prods.map GProd.row)]
def zcg (x:Int × Int):List D:=[.i .i64 x.1,.i .i64 x.2]
abbrev Gram.cells (g:Gram):List D:=[.l 3 (g.toks.map GTok.row),.l 3 (g.nts.map GNt.row),.l 3 (g.prods.map GProd.row)]
abbrev GProd.cells (p:GProd):List D:=[.i .i64 p.left,.l 2 (p.right.map GSym.row),.l 10 (p.rules.map GRule.row)]
abbrev Gram.arg (g:Gram):V:=.agg [.d (.l 3 (g.toks.map GTok.row)),.d (.l 3 (g.nts.map GNt.row)),.d (.l 3 (g.prods.map GProd.row))]
abbrev GProd.arg (p:GProd):V:=.agg [.d (.i .i64 p.left),.d (.l 2 (p.right.map GSym.row)),.d (.l 10 (p.rules.map GRule.row))]
abbrev GSym.arg (s:GSym):V:=.agg [.d (.b s.tok),.d (.i .i64 s.at_)]
abbrev GNt.arg (n:GNt):V:=.agg [.d (.s n.name),.d (.l 1 (n.inh.map zc1)),.d (.l 1 (n.syn.map zc1))]
abbrev Exp.arg (e:Exp):V:=.agg [.d (.i .i64 e.op),.d (.i .i64 e.v.kind),.d (.i .i64 e.v.i),.d (.s e.v.s),.d (.l 4 (zab e.v.l)),.d (.i .i64 e.occ),.d (.i .i64 e.attr),.d (.l 8 (e.args.map Exp.row))]
abbrev GVal.arg (v:GVal):V:=.agg [.d (.i .i64 v.kind),.d (.i .i64 v.i),.d (.s v.s),.d (.l 4 (zab v.l))]
abbrev GRule.arg (r:GRule):V:=.agg [.d (.i .i64 r.occ),.d (.i .i64 r.attr),.d (.i .i64 r.e.op),.d (.i .i64 r.e.v.kind),.d (.i .i64 r.e.v.i),.d (.s r.e.v.s),.d (.l 4 (zab r.e.v.l)),.d (.i .i64 r.e.occ),.d (.i .i64 r.e.attr),.d (.l 8 (r.e.args.map Exp.row))]
theorem zwc (e:Exp):zrr true e.row=e.arg:=by rw [zds]; rfl
end Ab
namespace Ab.Vx
open Go
theorem _root_.Ab.GVal.eta (v:GVal):GVal.mk v.kind v.i v.s v.l=v:=by cases v; rfl
theorem zas (v:GVal):v.row=[.i .i64 v.kind,.i .i64 v.i,.s v.s,.l 4 (zab v.l)]:=by cases v; rfl
theorem zad (l:List GVal):(zab l).length=l.length:=by rw [zbz,Qf]
theorem zaw (l:List GVal)(i:Nat):(zab l)[i]?=(l[i]?).map GVal.row:=by rw [zbz,List.getElem?_map]
theorem zh4 (l:List UInt8):(zca l).length=l.length:=by simp [zca]
theorem ztd (l:List UInt8)(i:Nat):(zca l)[i]?=(l[i]?).map fun c=>[.i .u8 c.toNat]:=by simp [zca]
theorem i64_in {n:Int}(h1 : -9223372036854775808 ≤ n)(h2:n ≤ 9223372036854775807):IntKind.i64.wrap n=n:=Go.IntWalk.i64_in n ⟨h1,h2⟩
abbrev zf7 (l:List UInt8)(n:Nat):Option Obj:=some (.box [.d (.l 1 (zca l)),.d (.i .i64 n)])
open Go
variable {E:Nat→Option Fn}
theorem Zg8 (h123:E 123=some (.code Za0))(l:List UInt8)(n:Nat)(hl:l.length ≤ 1000)(hn:n ≤ l.length)(m:Int)(hm:0 < m) :
  ∃ (k:Int) (n':Nat),lcall E 123 [.ptr 0 0,.d (.i .i64 m)] [zf7 l n]=some (.d (.i .i64 k),[zf7 l n'])∧0 ≤ k∧k < m∧n' ≤ l.length:=by
 by_cases h:(l.length:Int) ≤ n
 ·refine ⟨0,n,zbc h123 ?_,by omega,hm,hn⟩
  refine zac (zaa fun K hK=>?_)
  simp only [evW,evX,evM,evN,Nat.reduceAdd]
  refine hK _ _ ?_; clear hK K
  refine zac (zac (zaz fun K hK=>?_))
  simp only [evW,evX,evM,evN,zh4,simprocAttr]
  refine hK _ _ (by rfl) ?_; clear hK K
  refine Zf6 rfl (fun _=>?_) (fun h'=>absurd h h')
  refine zac (zaa fun K hK=>?_)
  simp only [evW,evX,evM,evN]
  refine hK _ _ ?_; clear hK K
  refine zap ⟨.inr rfl, ?_⟩
  simp only [Za0,evR,evX,evC,evN,↓reduceIte,far]
 ·have hlt:n < l.length:=by omega
  have w1:IntKind.i64.wrap ((n:Int) + 1)=((n + 1:Nat):Int):=by rw [i64_in (by omega) (by omega)]; omega
  have w2:IntKind.i64.wrap (((n + 1:Nat):Int) - 1)=(n:Int):=by rw [i64_in (by omega) (by omega)]; omega
  have hc:(l[n].toNat:Int) < 256:=by have:=l[n].toNat_lt; omega
  have w3:IntKind.i64.wrap (l[n].toNat:Int)=(l[n].toNat:Int):=i64_in (by omega) (by omega)
  have hg:(zca l)[n]?=some [.i .u8 l[n].toNat]:=by rw [ztd,Qd hlt]; rfl
  have hm0:¬ m=0:=by omega
  have h0:(0:Int) ≤ n:=by omega
  refine ⟨(l[n].toNat:Int).tmod m,n + 1,zbc h123 ?_,Int.tmod_nonneg _ (by omega),Int.tmod_lt_of_pos _ hm,by omega⟩
  refine zac (zaa fun K hK=>?_)
  simp only [evW,evX,evM,evN,Nat.reduceAdd]
  refine hK _ _ ?_; clear hK K
  refine zac (zac (zaz fun K hK=>?_))
  simp only [evW,evX,evM,evN,zh4,simprocAttr]
  refine hK _ _ (by rfl) ?_; clear hK K
  refine Zf6 rfl (fun h'=>absurd h' h) (fun _=>?_)
  refine zay ?_
  refine zac (zaa fun K hK=>?_)
  simp only [evW,evX,evM,evN,w1,simprocAttr]
  refine hK _ _ ?_; clear hK K
  refine zac (zaz fun K hK=>?_)
  simp only [evW,evX,evM,evN,w2,h0,Qk,hg,w3,hm0,simprocAttr]
  refine hK _ _ (by rfl) ?_; clear hK K
  refine zap ⟨.inr rfl, ?_⟩
  simp only [Za0,evR,evX,evC,evN,↓reduceIte,far]
open Go
def sgn (less:Bool):Int:=if less then -1 else 1
mutual
def zda:GVal→GVal→Int
 | .mk k i s l,.mk k' i' s' l'=>if k=k' then if i=i' then if s=s' then zfs l l' else sgn (bytesLess s s') else sgn (decide (i < i')) else sgn (decide (k < k'))
def zfs:List GVal→List GVal→Int
 | [],[]=>0
 | [],_ :: _=>-1
 | _ :: _,[]=>1
 | x :: xs,y :: ys=>if zda x y=0 then zfs xs ys else zda x y
end
theorem zgi (a b:GVal):zda a b=if a.kind=b.kind then if a.i=b.i then if a.s=b.s then zfs a.l b.l else sgn (bytesLess a.s b.s) else sgn (decide (a.i < b.i)) else sgn (decide (a.kind < b.kind)):=by
 cases a; cases b; simp only [zda,GVal.kind,GVal.i,GVal.s,GVal.l]; rfl
inductive Small:GVal→Prop where
 | mk {v:GVal} (h:v.l.length ≤ 1000) (hs:∀ x ∈ v.l,Small x):Small v
theorem Small.len {v:GVal}(h:Small v):v.l.length ≤ 1000:=by cases h; assumption
theorem Small.sub {v:GVal}(h:Small v):∀ x ∈ v.l,Small x:=by cases h; assumption
theorem z9n (h131:E 131=some (.code z3e))(b:Bool):lcall E 131 [.d (.b b)] []=some (.d (.i .i64 (sgn b)),[]):=by
 refine zbc h131 ?_
 refine zac (zaa fun K hK=>?_)
 simp only [evW,evX,evM,evN]
 refine hK _ _ ?_; clear hK K
 refine zac (zac ?_)
 refine zaa fun K hK=>?_
 simp only [evW,evX,evM,evN,simprocAttr]
 refine hK _ _ ?_; clear hK K
 cases b with
 | true =>
  refine zaf true rfl (fun _=>?_) (fun h=>by cases h)
  refine zac (zaa fun K hK=>?_)
  simp only [evW,evX,evM,evN,Int.reduceNeg]
  refine hK _ _ ?_; clear hK K
  refine zap ⟨.inr rfl, ?_⟩
  simp only [evR,evX,evC,evN,↓reduceIte,far,z3e,sgn]
 | false =>
  refine zaf false rfl (fun h=>by cases h) (fun _=>?_)
  refine zay ?_
  refine zac (zaa fun K hK=>?_)
  simp only [evW,evX,evM,evN]
  refine hK _ _ ?_; clear hK K
  refine zap ⟨.inr rfl, ?_⟩
  simp only [evR,evX,evC,evN,↓reduceIte,far,z3e,sgn]
theorem zbl {α:Type}{l:List α}{i:Nat}(h:i < l.length):l.drop i=l[i] :: l.drop (i + 1):=List.drop_eq_getElem_cons h
abbrev zmd (v:GVal):Option Obj:=some (.box [.d (.i .i64 v.kind),.d (.i .i64 v.i),.d (.s v.s),.d (.l 4 (zab v.l))])
theorem zwd {a b:List GVal}{i:Nat}(h1:i ≤ a.length)(h2:i ≤ b.length)(h:a.length ≤ i ∨ b.length ≤ i):zfs (a.drop i) (b.drop i)=(if a.length=b.length then 0 else sgn (decide (a.length < b.length))):=by
 by_cases e1:a.length=i
 ·rw [List.drop_eq_nil_of_le (show a.length ≤ i by omega)]
  by_cases e2:b.length=i
  ·rw [List.drop_eq_nil_of_le (show b.length ≤ i by omega),if_pos (by omega)]; simp only [zfs]
  ·rw [zbl (show i < b.length by omega),if_neg (by omega),zfs,show decide (a.length < b.length)=true by simp; omega]; rfl
 ·rw [zbl (show i < a.length by omega),List.drop_eq_nil_of_le (show b.length ≤ i by omega),if_neg (by omega),zfs,show decide (a.length < b.length)=false by simp; omega]; rfl
def z9o:CCode:=match zvm.body with
 | .seq _ (.seq _ (.seq (.seq _ (.block _ (.loop _ c))) _))=>c
 | _=>.skip
theorem z4y (h115:E 115=some (.code zvm)){a b:GVal}(ha:a.l.length ≤ 1000)(hb:b.l.length ≤ 1000)(ih:∀ x ∈ a.l,∀ y ∈ b.l,lcall E 115 [x.arg,y.arg] []=some (.d (.i .i64 (zda x y)),[]))
  {Q:Ex→St→Prop} (hx:∀ tm,zba tm 2 = .ptr 0 0→zba tm 3 = .ptr 1 0→zfs a.l b.l=(if a.l.length=b.l.length then 0 else sgn (decide (a.l.length < b.l.length)))→Q (.exit 1) ⟨tm,[zmd a,zmd b]⟩)
  (hr:∀ tm,zba tm 4 = .d (.i .i64 (zfs a.l b.l))→Q .ret ⟨tm,[zmd a,zmd b]⟩) :
  ∀ (n i:Nat),i + n=a.l.length→i ≤ b.l.length→zfs a.l b.l=zfs (a.l.drop i) (b.l.drop i)→LX E z9o ⟨[2,3,5],[],[],[],[],true⟩ 2 ⟨[(2,.ptr 0 0),(3,.ptr 1 0),(5,.d (.i .i64 i))],[zmd a,zmd b]⟩ Q:=by
 intro n
 induction n with
 | zero =>
  intro i hi hib hc
  have hna:¬ ((i:Int) < a.l.length):=by omega
  have hcl:=hc.trans (zwd (by omega) hib (.inl (by omega)))
  refine zan (zac (zac ?_))
  refine zaa fun K hK=>?_
  simp only [evW,evX,evM,evN,zad,hna,simprocAttr]
  refine hK _ _ ?_; clear hK K
  refine zaf false rfl (fun h=>by cases h) (fun _=>zb9 ?_)
  exact hx _ rfl rfl hcl
 | succ n ihn =>
  intro i hi hib hc
  have hya:(i:Int) < a.l.length:=by omega
  by_cases hib2:i=b.l.length
  ·have hcl:=hc.trans (zwd (by omega) hib (.inr (by omega)))
   have hnb:¬ ((i:Int) < b.l.length):=by omega
   refine zan (zac (zac ?_))
   refine zaa fun K hK=>?_
   simp only [evW,evX,evM,evN,zad,hya,hnb,simprocAttr]
   refine hK _ _ ?_; clear hK K
   refine zaf false rfl (fun h=>by cases h) (fun _=>zb9 ?_)
   exact hx _ rfl rfl hcl
  ·have hyb:(i:Int) < b.l.length:=by omega
   have la:i < a.l.length:=by omega
   have lb:i < b.l.length:=by omega
   have h0:(0:Int) ≤ i:=by omega
   have ga:(zab a.l)[i]?=some (GVal.row a.l[i]):=by rw [zaw,Qd la]; rfl
   have gb:(zab b.l)[i]?=some (GVal.row b.l[i]):=by rw [zaw,Qd lb]; rfl
   have hcall:=ih a.l[i] (List.getElem_mem la) b.l[i] (List.getElem_mem lb)
   rw [zbl la,zbl lb,zfs] at hc
   generalize a.l[i]=x at *
   generalize b.l[i]=y at *
   refine zan (zac (zac ?_))
   refine zaa fun K hK=>?_
   simp only [evW,evX,evM,evN,zad,hya,hyb,simprocAttr]
   refine hK _ _ ?_; clear hK K
   refine zaf true rfl (fun _=>zay ?_) (fun h=>by cases h)
   refine zac (za2 ?_)
   refine zac (zaz fun K hK=>?_)
   simp only [evW,evX,evM,evN,evC,far,h0,Qk,ga,gb,zas,hcall,simprocAttr]
   refine hK _ _ (by rfl) ?_; clear hK K
   by_cases hxy:zda x y=0
   ·refine zac (zaa fun K hK=>?_)
    simp only [evW,evX,evM,evN,not_true_eq_false,hxy,simprocAttr]
    refine hK _ _ ?_; clear hK K
    refine zaf false rfl (fun h=>by cases h) (fun _=>zay ?_)
    have w:IntKind.i64.wrap ((i:Int) + 1)=((i + 1:Nat):Int):=by rw [i64_in (by omega) (by omega)]; omega
    rw [if_pos hxy] at hc
    refine zaa fun K hK=>?_
    simp only [evW,evX,evM,evN,w,simprocAttr]
    refine hK _ _ ?_; clear hK K
    refine ⟨_, ?_,ihn (i + 1) (by omega) (by omega) hc⟩
    simp only [evH,evX,evN,simprocAttr]
   ·refine zac (zaa fun K hK=>?_)
    simp only [evW,evX,evM,evN,not_false_eq_true,hxy,simprocAttr]
    refine hK _ _ ?_; clear hK K
    refine zaf true rfl (fun _=>?_) (fun h=>by cases h)
    rw [if_neg hxy] at hc
    refine zac (zaa fun K hK=>?_)
    simp only [evW,evX,evM,evN,simprocAttr]
    refine hK _ _ ?_; clear hK K
    refine zap ?_
    exact hr _ (by rw [hc]; rfl)
theorem zn9 (h115:E 115=some (.code zvm))(h131:E 131=some (.code z3e)):∀ (a b:GVal),Small a→Small b→lcall E 115 [a.arg,b.arg] []=some (.d (.i .i64 (zda a b)),[]):=by
 intro a b ha
 induction ha generalizing b with
 | @mk a hal hsub ih =>
 intro hb
 have ih':∀ x ∈ a.l,∀ y ∈ b.l,lcall E 115 [x.arg,y.arg] []=some (.d (.i .i64 (zda x y)),[]):=fun x hx y hy=>ih x hx y (hb.sub y hy)
 have sg:=z9n h131
 refine zbc h115 ?_
 refine zac (zaa fun K hK=>?_)
 simp only [evW,evX,evM,evN,simprocAttr]
 refine hK _ _ ?_; clear hK K
 refine zac (za2 ?_)
 by_cases h1:a.kind=b.kind
 ·refine zac (zaa fun K hK=>?_)
  simp only [evW,evX,evM,evN,not_true_eq_false,eq_true h1,simprocAttr]
  refine hK _ _ ?_; clear hK K
  refine zaf false rfl (fun h=>by cases h) (fun _=>?_)
  by_cases h2:a.i=b.i
  ·refine zac (zaa fun K hK=>?_)
   simp only [evW,evX,evM,evN,not_true_eq_false,eq_true h2,simprocAttr]
   refine hK _ _ ?_; clear hK K
   refine zaf false rfl (fun h=>by cases h) (fun _=>?_)
   by_cases h3:a.s=b.s
   ·refine zac (zaa fun K hK=>?_)
    simp only [evW,evX,evM,evN,not_true_eq_false,eq_true h3,simprocAttr]
    refine hK _ _ ?_; clear hK K
    refine zaf false rfl (fun h=>by cases h) (fun _=>zay ?_)
    have hcm:zda a b=zfs a.l b.l:=by rw [zgi,if_pos h1,if_pos h2,if_pos h3]
    refine zac (zac ?_)
    refine zaa fun K hK=>?_
    simp only [evW,evX,evM,evN,Nat.reduceAdd]
    refine hK _ _ ?_; clear hK K
    refine za2 (zcy ?_)
    simp only [evH,evX,evN,simprocAttr]
    refine z4y h115 hal hb.len ih' (fun tm t2 t3 hc=>?_) (fun tm t4=>?_) a.l.length 0 (by omega) (by omega) (by simp)
    ·refine zac (zac ?_)
     by_cases hl:a.l.length=b.l.length
     ·refine zaa fun K hK=>?_
      simp only [evW,evX,evM,evN,t2,t3,zad,hl,simprocAttr]
      refine hK _ _ ?_; clear hK K
      refine zaf true rfl (fun _=>?_) (fun h=>by cases h)
      refine zac (zaa fun K hK=>?_)
      simp only [evW,evX,evM,evN,Nat.reduceAdd]
      refine hK _ _ ?_; clear hK K
      refine zap ⟨.inr rfl, ?_⟩
      simp only [evR,evX,evC,evN,↓reduceIte,far,zvm]
      rw [hcm,hc,if_pos hl]
     ·have hl':¬ (a.l.length:Int)=b.l.length:=by omega
      refine zaa fun K hK=>?_
      simp only [evW,evX,evM,evN,t2,t3,zad,hl',simprocAttr]
      refine hK _ _ ?_; clear hK K
      refine zaf false rfl (fun h=>by cases h) (fun _=>zay ?_)
      refine zac (zaa fun K hK=>?_)
      simp only [evW,evX,evM,evN,evC,far,t2,t3,zad,sg,simprocAttr]
      refine hK _ _ ?_; clear hK K
      refine zap ⟨.inr rfl, ?_⟩
      simp only [evR,evX,evC,evN,↓reduceIte,far,zvm]
      rw [hcm,hc,if_neg hl]
      simp
    ·refine ⟨.inr rfl, ?_⟩
     simp only [evR,evC,evN,far,zvm,t4,hcm]
   ·refine zac (zaa fun K hK=>?_)
    simp only [evW,evX,evM,evN,not_false_eq_true,h3,simprocAttr]
    refine hK _ _ ?_; clear hK K
    refine zaf true rfl (fun _=>?_) (fun h=>by cases h)
    refine zac (zaa fun K hK=>?_)
    simp only [evW,evX,evM,evN,evC,far,sg,simprocAttr]
    refine hK _ _ ?_; clear hK K
    refine zap ⟨.inr rfl, ?_⟩
    simp only [evR,evX,evC,evN,↓reduceIte,far,zvm]
    rw [zgi,if_pos h1,if_pos h2,if_neg h3]
  ·refine zac (zaa fun K hK=>?_)
   simp only [evW,evX,evM,evN,not_false_eq_true,h2,simprocAttr]
   refine hK _ _ ?_; clear hK K
   refine zaf true rfl (fun _=>?_) (fun h=>by cases h)
   refine zac (zaa fun K hK=>?_)
   simp only [evW,evX,evM,evN,evC,far,sg,simprocAttr]
   refine hK _ _ ?_; clear hK K
   refine zap ⟨.inr rfl, ?_⟩
   simp only [evR,evX,evC,evN,↓reduceIte,far,zvm]
   rw [zgi,if_pos h1,if_neg h2]
 ·refine zac (zaa fun K hK=>?_)
  simp only [evW,evX,evM,evN,not_false_eq_true,h1,simprocAttr]
  refine hK _ _ ?_; clear hK K
  refine zaf true rfl (fun _=>?_) (fun h=>by cases h)
  refine zac (zaa fun K hK=>?_)
  simp only [evW,evX,evM,evN,evC,far,sg,simprocAttr]
  refine hK _ _ ?_; clear hK K
  refine zap ⟨.inr rfl, ?_⟩
  simp only [evR,evX,evC,evN,↓reduceIte,far,zvm]
  rw [zgi,if_neg h1]
open Go
theorem z0n (h121:E 121=some (.code c121))(hc:∀ (a b:GVal),Small a→Small b→lcall E 115 [a.arg,b.arg] []=some (.d (.i .i64 (zda a b)),[]))(a b:GVal)(ha:Small a)(hb:Small b) :
  lcall E 121 [a.arg,b.arg] []=some (.d (.b (decide (zda a b=0))),[]):=by
 have hab:=hc a b ha hb
 refine zbc h121 ?_
 refine zac (zaa fun K hK=>?_)
 simp only [evW,evX,evM,evN,simprocAttr]
 refine hK _ _ ?_; clear hK K
 refine zac (zaa fun K hK=>?_)
 simp only [evW,evX,evM,evN,evC,far,hab,simprocAttr]
 refine hK _ _ ?_; clear hK K
 refine zap ⟨.inr rfl, ?_⟩
 simp only [evR,evX,evC,evN,↓reduceIte,far,c121]
abbrev W64 (n:Int):Int:=IntKind.i64.wrap n
mutual
def zfy:GVal→Int
 | .mk k i s l=>zme (W64 (1 + W64 ((s.length:Int).tdiv 16))) l
def zme:Int→List GVal→Int
 | n,[]=>n
 | n,x :: r=>zme (W64 (n + zfy x)) r
end
theorem zrd (v:GVal):zfy v=zme (W64 (1 + W64 ((v.s.length:Int).tdiv 16))) v.l:=by cases v; simp only [zfy,GVal.s,GVal.l]
def z4z:CCode:=match z58.body with
 | .seq _ (.seq _ (.seq (.seq _ (.block _ (.loop _ c))) _))=>c
 | _=>.skip
theorem z0o {v:GVal}(hv:v.l.length ≤ 1000)(ih:∀ x ∈ v.l,lcall E 113 [x.arg] []=some (.d (.i .i64 (zfy x)),[])){T:Int}{Q:Ex→St→Prop}(hx:∀ tm,zba tm 3 = .d (.i .i64 T)→Q (.exit 0) ⟨tm,[zmd v]⟩) :
  ∀ (n i:Nat) (acc:Int),i + n=v.l.length→zme acc (v.l.drop i)=T→LX E z4z ⟨[1,3,4],[],[],[],[],true⟩ 1 ⟨[(1,.ptr 0 0),(3,.d (.i .i64 acc)),(4,.d (.i .i64 i))],[zmd v]⟩ Q:=by
 intro n
 induction n with
 | zero =>
  intro i acc hi hT
  have hn:¬ ((i:Int) < v.l.length):=by omega
  rw [List.drop_eq_nil_of_le (by omega),zme] at hT
  refine zan (zac (zac ?_))
  refine zaa fun K hK=>?_
  simp only [evW,evX,evM,evN,zad,hn,simprocAttr]
  refine hK _ _ ?_; clear hK K
  refine zaf false rfl (fun h=>by cases h) (fun _=>zb9 ?_)
  exact hx _ (by rw [← hT]; rfl)
 | succ n ihn =>
  intro i acc hi hT
  have hy:(i:Int) < v.l.length:=by omega
  have la:i < v.l.length:=by omega
  have h0:(0:Int) ≤ i:=by omega
  have ga:(zab v.l)[i]?=some (GVal.row v.l[i]):=by rw [zaw,Qd la]; rfl
  have hcall:=ih v.l[i] (List.getElem_mem la)
  rw [zbl la,zme] at hT
  generalize v.l[i]=x at *
  have w:IntKind.i64.wrap ((i:Int) + 1)=((i + 1:Nat):Int):=by rw [i64_in (by omega) (by omega)]; omega
  refine zan (zac (zac ?_))
  refine zaa fun K hK=>?_
  simp only [evW,evX,evM,evN,zad,hy,simprocAttr]
  refine hK _ _ ?_; clear hK K
  refine zaf true rfl (fun _=>zay ?_) (fun h=>by cases h)
  refine zac (za2 ?_)
  refine zaa fun K hK=>?_
  simp only [evW,evX,evM,evN,evC,far,h0,Qk,ga,zas,hcall,simprocAttr]
  refine hK _ _ ?_; clear hK K
  refine zaa fun K hK=>?_
  simp only [evW,evX,evM,evN,w,simprocAttr]
  refine hK _ _ ?_; clear hK K
  refine ⟨_, ?_,ihn (i + 1) _ (by omega) hT⟩
  simp only [evH,evX,evN,simprocAttr]
theorem zpy (h113:E 113=some (.code z58)):∀ (v:GVal),Small v→lcall E 113 [v.arg] []=some (.d (.i .i64 (zfy v)),[]):=by
 intro v hs
 induction hs with
 | @mk v hl hsub ih =>
 refine zbc h113 ?_
 refine zac (zaa fun K hK=>?_)
 simp only [evW,evX,evM,evN,↓reduceIte]
 refine hK _ _ ?_; clear hK K
 refine zac (zaa fun K hK=>?_)
 simp only [evW,evX,evM,evN,simprocAttr]
 refine hK _ _ ?_; clear hK K
 refine zac (zac ?_)
 refine zaa fun K hK=>?_
 simp only [evW,evX,evM,evN]
 refine hK _ _ ?_; clear hK K
 refine za2 (zcy ?_)
 simp only [evH,evX,evN,simprocAttr]
 refine z0o hl ih (fun tm t3=>?_) v.l.length 0 _ (by omega) rfl
 refine zac (zaa fun K hK=>?_)
 simp only [evW,evX,evM,evN,↓reduceIte,t3]
 refine hK _ _ ?_; clear hK K
 refine zap ⟨.inr rfl, ?_⟩
 simp only [evR,evX,evC,evN,↓reduceIte,far,z58,zrd]
def z0p:CCode:=match Zay.body with
 | .seq _ (.seq _ (.seq (.seq _ (.block _ (.loop _ c))) _))=>c
 | _=>.skip
theorem zxv {v:GVal}(hv:v.l.length ≤ 1000)(ih:∀ x ∈ v.l,lcall E 112 [x.arg] []=some (.d (.i .i64 (zfy x)),[])){T:Int}{Q:Ex→St→Prop}(hx:∀ tm,zba tm 3 = .d (.i .i64 T)→Q (.exit 0) ⟨tm,[zmd v]⟩) :
  ∀ (n i:Nat) (acc:Int),i + n=v.l.length→zme acc (v.l.drop i)=T→LX E z0p ⟨[3,12,13,14],[],[],[],[],true⟩ 1 ⟨[(3,.d (.i .i64 acc)),(12,.d (.l 4 (zab v.l))),(13,.d (.i .i64 v.l.length)),(14,.d (.i .i64 i))],[zmd v]⟩ Q:=by
 intro n
 induction n with
 | zero =>
  intro i acc hi hT
  have hn:¬ ((i:Int) < v.l.length):=by omega
  rw [List.drop_eq_nil_of_le (by omega),zme] at hT
  refine zan ?_
  refine zac (zaa fun K hK=>?_)
  simp only [evW,evX,evM,evN,hn,simprocAttr]
  refine hK _ _ ?_; clear hK K
  refine zac (zaf false rfl (fun h=>by cases h) (fun _=>zb9 ?_))
  exact hx _ (by rw [← hT]; rfl)
 | succ n ihn =>
  intro i acc hi hT
  have hy:(i:Int) < v.l.length:=by omega
  have la:i < v.l.length:=by omega
  have h0:(0:Int) ≤ i:=by omega
  have ga:(zab v.l)[i]?=some (GVal.row v.l[i]):=by rw [zaw,Qd la]; rfl
  have hcall:=ih v.l[i] (List.getElem_mem la)
  rw [zbl la,zme] at hT
  generalize v.l[i]=x at *
  have w:IntKind.i64.wrap ((i:Int) + 1)=((i + 1:Nat):Int):=by rw [i64_in (by omega) (by omega)]; omega
  refine zan ?_
  refine zac (zaa fun K hK=>?_)
  simp only [evW,evX,evM,evN,hy,simprocAttr]
  refine hK _ _ ?_; clear hK K
  refine zac (zaf true rfl (fun _=>zay ?_) (fun h=>by cases h))
  refine zac (za2 (zac ?_))
  refine zaa fun K hK=>?_
  simp only [evW,evX,evM,evN,h0,Qk,ga,zas,simprocAttr]
  refine hK _ _ ?_; clear hK K
  refine zaa fun K hK=>?_
  simp only [evW,evX,evM,evN,evC,far,hcall,simprocAttr]
  refine hK _ _ ?_; clear hK K
  refine zaa fun K hK=>?_
  simp only [evW,evX,evM,evN,w,simprocAttr]
  refine hK _ _ ?_; clear hK K
  refine ⟨_, ?_,ihn (i + 1) _ (by omega) hT⟩
  simp only [evH,evX,evN,simprocAttr]
theorem z0q (h112:E 112=some (.code Zay)):∀ (v:GVal),Small v→lcall E 112 [v.arg] []=some (.d (.i .i64 (zfy v)),[]):=by
 intro v hs
 induction hs with
 | @mk v hl hsub ih =>
 refine zbc h112 ?_
 refine zac (zaa fun K hK=>?_)
 simp only [evW,evX,evM,evN,↓reduceIte]
 refine hK _ _ ?_; clear hK K
 refine zac (zaa fun K hK=>?_)
 simp only [evW,evX,evM,evN,simprocAttr]
 refine hK _ _ ?_; clear hK K
 refine zac (zac ?_)
 refine zaa fun K hK=>?_
 simp only [evW,evX,evM,evN,zad,simprocAttr]
 refine hK _ _ ?_; clear hK K
 refine za2 (zcy ?_)
 simp only [evH,evX,evN,simprocAttr]
 refine zxv hl ih (fun tm t3=>?_) v.l.length 0 _ (by omega) rfl
 refine zac (zaa fun K hK=>?_)
 simp only [evW,evX,evM,evN,↓reduceIte,t3]
 refine hK _ _ ?_; clear hK K
 refine zap ⟨.inr rfl, ?_⟩
 simp only [evR,evX,evC,evN,↓reduceIte,far,Zay,zrd]
mutual
def szN:GVal→Nat
 | .mk k i s l=>1 + s.length / 16 + szL l
def szL:List GVal→Nat
 | []=>0
 | x :: r=>szN x + szL r
end
theorem zgt (v:GVal):szN v=1 + v.s.length / 16 + szL v.l:=by cases v; simp only [szN,GVal.s,GVal.l]
theorem zre:∀ {l:List GVal} {x:GVal},x ∈ l→szN x ≤ szL l
 | y :: r,x,h=>by
  simp only [szL]
  rcases List.mem_cons.1 h with rfl | h
  ·omega
  ·have:=zre h; omega
theorem zur {v x:GVal}(h:x ∈ v.l):szN x < szN v:=by
 have:=zre h
 rw [zgt v]; omega
theorem zte:∀ (l:List GVal) (n:Nat),n + szL l ≤ 1000000000000→(∀ x ∈ l,zfy x=szN x)→zme (n:Int) l=((n + szL l:Nat):Int)
 | [],n,_,_=>by simp [zme,szL]
 | x :: r,n,h,hx=>by
  simp only [szL] at h
  simp only [zme,szL]
  rw [hx x (by simp)]
  have:W64 ((n:Int) + (szN x:Int))=((n + szN x:Nat):Int):=by
   show IntKind.i64.wrap _=_
   rw [i64_in (by omega) (by omega)]; omega
  rw [this,zte r (n + szN x) (by omega) (fun y hy=>hx y (by simp [hy]))]
  congr 1; omega
theorem zgu:∀ (v:GVal),szN v ≤ 1000000000000→zfy v=szN v:=by
 have main:∀ (n:Nat) (v:GVal),szN v < n→szN v ≤ 1000000000000→zfy v=szN v:=by
  intro n
  induction n with
  | zero=>intro v h; omega
  | succ n ih =>
   intro v hn hv
   have hsub:∀ x ∈ v.l,zfy x=szN x:=fun x hx=>by
    have:=zur hx
    exact ih x (by omega) (by omega)
   rw [zrd]
   rw [zgt] at hv ⊢
   have h1:W64 ((v.s.length:Int).tdiv 16)=((v.s.length / 16:Nat):Int):=by
    show IntKind.i64.wrap _=_
    have:(v.s.length:Int).tdiv 16=((v.s.length / 16:Nat):Int):=by
     rw [Int.tdiv_eq_ediv_of_nonneg (by omega)]; omega
    rw [this,i64_in (by omega) (by omega)]
   have h2:W64 (1 + ((v.s.length / 16:Nat):Int))=((1 + v.s.length / 16:Nat):Int):=by
    show IntKind.i64.wrap _=_
    rw [i64_in (by omega) (by omega)]; omega
   rw [h1,h2,zte _ _ hv hsub]
 exact fun v h=>main _ v (Nat.lt_succ_self _) h
open Go
def zfm (v:GVal):List UInt8:=match v.l with | []=>[] | x :: _=>x.s
theorem zwe {k:Nat}{n:CFn}(hk:E k=some (.code n))(hn:n=Za4)(v:GVal):lcall E k [v.arg] []=some (.d (.s (zfm v)),[]):=by
 subst hn
 refine zbc hk ?_
 refine zac (zaa fun K hK=>?_)
 simp only [evW,evX,evM,evN,↓reduceIte]
 refine hK _ _ ?_; clear hK K
 refine zac (zac ?_)
 cases hl:v.l with
 | nil =>
  refine zaa fun K hK=>?_
  simp only [evW,evX,evM,evN,zab,simprocAttr]
  refine hK _ _ ?_; clear hK K
  refine zaf true rfl (fun _=>?_) (fun h=>by cases h)
  refine zac (zaa fun K hK=>?_)
  simp only [evW,evX,evM,evN]
  refine hK _ _ ?_; clear hK K
  refine zap ⟨.inr rfl, ?_⟩
  simp only [evR,evX,evC,evN,↓reduceIte,far,Za4,zfm,hl]
 | cons x r =>
  have hne:¬ ((r.length:Int) + 1=0):=by omega
  refine zaa fun K hK=>?_
  simp only [evW,evX,evM,evN,zab,zad,Int.natCast_add,Int.cast_ofNat_Int,hne,simprocAttr]
  refine hK _ _ ?_; clear hK K
  refine zaf false rfl (fun h=>by cases h) (fun _=>zay ?_)
  refine zac (zaa fun K hK=>?_)
  simp only [evW,evX,evM,evN,Int.toNat_zero,zas,Std.le_refl,simprocAttr]
  refine hK _ _ ?_; clear hK K
  refine zap ⟨.inr rfl, ?_⟩
  simp only [evR,evX,evC,evN,↓reduceIte,far,Za4,zfm,hl]
theorem zcc (a b:List GVal):zab (a++b)=zab a++zab b:=by simp [zbz]
theorem zdd (a:List GVal)(n:Nat):(zab a).take n=zab (a.take n):=by simp [zbz,List.map_take]
theorem zcu (a:List GVal)(n:Nat):(zab a).drop n=zab (a.drop n):=by simp [zbz,List.map_drop]
def zb4 (k:List UInt8):List GVal→Nat
 | []=>0
 | x :: r=>if bytesLess (zfm x) k then zb4 k r + 1 else 0
def zjo (k:List UInt8)(l:List GVal):Bool:=match l[zb4 k l]? with
 | some x=>decide (0 < x.l.length) && decide (zfm x=k)
 | none=>false
theorem zoa (k:List UInt8):∀ (l:List GVal),zb4 k l ≤ l.length
 | []=>Nat.le_refl _
 | x :: r=>by
  simp only [zb4]
  split
  ·simpa using zoa k r
  ·exact Nat.zero_le _
def z40:CCode:=match z3b.body with
 | .seq _ (.seq _ (.seq (.block _ (.loop _ c)) _))=>c
 | _=>.skip
theorem z0r (hkey:∀ v:GVal,lcall E 138 [v.arg] []=some (.d (.s (zfm v)),[])){l:List GVal}(hl:l.length ≤ 1000)(k:List UInt8){Q:Ex→St→Prop}
  (hx:∀ tm,zba tm 0 = .d (.l 4 (zab l))→zba tm 1 = .d (.s k)→zba tm 6 = .d (.i .i64 (zb4 k l:Nat))→Q (.exit 0) ⟨tm,[]⟩) :
  ∀ (n i:Nat),i + n=l.length→zb4 k l=i + zb4 k (l.drop i)→LX E z40 ⟨[0,1,6],[],[],[],[],true⟩ 0 ⟨[(0,.d (.l 4 (zab l))),(1,.d (.s k)),(6,.d (.i .i64 i))],[]⟩ Q:=by
 intro n
 induction n with
 | zero =>
  intro i hi hp
  have hn:¬ ((i:Int) < l.length):=by omega
  rw [List.drop_eq_nil_of_le (by omega),zb4,Nat.add_zero] at hp
  refine zan (zac (zac ?_))
  refine zaa fun K hK=>?_
  simp only [evW,evX,evM,evN,zad,hn,simprocAttr]
  refine hK _ _ ?_; clear hK K
  refine zaf false rfl (fun h=>by cases h) (fun _=>zb9 ?_)
  exact hx _ rfl rfl (by rw [hp]; rfl)
 | succ n ihn =>
  intro i hi hp
  have hy:(i:Int) < l.length:=by omega
  have la:i < l.length:=by omega
  have h0:(0:Int) ≤ i:=by omega
  have ga:(zab l)[i]?=some (GVal.row l[i]):=by rw [zaw,Qd la]; rfl
  rw [zbl la,zb4] at hp
  have hcall:=hkey l[i]
  generalize l[i]=x at *
  have w:IntKind.i64.wrap ((i:Int) + 1)=((i + 1:Nat):Int):=by rw [i64_in (by omega) (by omega)]; omega
  refine zan (zac (zac ?_))
  cases hb:bytesLess (zfm x) k with
  | true =>
   rw [hb,if_pos rfl] at hp
   refine zaa fun K hK=>?_
   simp only [evW,evX,evM,evN,evC,far,zad,hy,h0,Qk,ga,zas,hcall,hb,simprocAttr]
   refine hK _ _ ?_; clear hK K
   refine zaf true rfl (fun _=>zay ?_) (fun h=>by cases h)
   refine za2 ?_
   refine zaa fun K hK=>?_
   simp only [evW,evX,evM,evN,w,simprocAttr]
   refine hK _ _ ?_; clear hK K
   refine ⟨_, ?_,ihn (i + 1) (by omega) (by omega)⟩
   simp only [evH,evX,evN,simprocAttr]
  | false =>
   rw [hb,if_neg (by simp),Nat.add_zero] at hp
   refine zaa fun K hK=>?_
   simp only [evW,evX,evM,evN,evC,far,zad,hy,h0,Qk,ga,zas,hcall,hb,simprocAttr]
   refine hK _ _ ?_; clear hK K
   refine zaf false rfl (fun h=>by cases h) (fun _=>zb9 ?_)
   exact hx _ rfl rfl (by rw [hp]; rfl)
theorem zpz (h120:E 120=some (.code z3b))(hkey:∀ v:GVal,lcall E 138 [v.arg] []=some (.d (.s (zfm v)),[])){l:List GVal}(hl:l.length ≤ 1000)(k:List UInt8) :
  lcall E 120 [.d (.l 4 (zab l)),.d (.s k)] []=some (.tup [.d (.i .i64 (zb4 k l:Nat)),.d (.b (zjo k l))],[]):=by
 refine zbc h120 ?_
 refine zac (zaa fun K hK=>?_)
 simp only [evW,evX,evM,evN,Nat.reduceAdd]
 refine hK _ _ ?_; clear hK K
 refine zac (zaa fun K hK=>?_)
 simp only [evW,evX,evM,evN]
 refine hK _ _ ?_; clear hK K
 refine zac (za2 (zcy ?_))
 simp only [evH,evX,evN,simprocAttr]
 refine z0r hkey hl k (fun tm t0 t1 t6=>?_) l.length 0 (by omega) (by simp)
 have hle:=zoa k l
 by_cases hlt:zb4 k l < l.length
 ·have ga:(zab l)[zb4 k l]?=some (GVal.row l[zb4 k l]):=by rw [zaw,Qd hlt]; rfl
  have hh:zjo k l=(decide (0 < l[zb4 k l].l.length) && decide (zfm l[zb4 k l]=k)):=by unfold zjo; rw [Qd hlt]
  have hcall:=hkey l[zb4 k l]
  have hy:((zb4 k l:Nat):Int) < l.length:=by omega
  have h0:(0:Int) ≤ (zb4 k l:Nat):=by omega
  rw [hh]
  generalize l[zb4 k l]=x at *
  by_cases hx:x.l.length=0
  ·have hx':¬ ((0:Int) < x.l.length):=by omega
   refine zac (zaa fun K hK=>?_)
   simp only [evW,evX,evM,evN,t0,t6,zad,hy,h0,Qk,ga,zas,hx',simprocAttr]
   refine hK _ _ ?_; clear hK K
   refine zap ⟨.inr rfl, ?_⟩
   simp only [evR,evX,evC,evN,far,z3b,simprocAttr]
   simp [hx]
  ·have hx':(0:Int) < x.l.length:=by omega
   refine zac (zaa fun K hK=>?_)
   simp only [evW,evX,evM,evN,evC,far,t0,t1,t6,zad,hy,h0,Qk,ga,zas,hx',hcall,simprocAttr]
   refine hK _ _ ?_; clear hK K
   refine zap ⟨.inr rfl, ?_⟩
   simp only [evR,evX,evC,evN,far,z3b,simprocAttr]
   simp [Nat.pos_of_ne_zero hx]
 ·have hy:¬ (((zb4 k l:Nat):Int) < l.length):=by omega
  have hh:zjo k l=false:=by unfold zjo; rw [Qe (by omega)]
  refine zac (zaa fun K hK=>?_)
  simp only [evW,evX,evM,evN,t0,t6,zad,hy,simprocAttr]
  refine hK _ _ ?_; clear hK K
  refine zap ⟨.inr rfl, ?_⟩
  simp only [evR,evX,evC,evN,far,z3b,hh,simprocAttr]
def zdp (v:GVal):List GVal→Nat
 | []=>0
 | x :: r=>if zda x v < 0 then zdp v r + 1 else 0
theorem zob (v:GVal):∀ (l:List GVal),zdp v l ≤ l.length
 | []=>Nat.le_refl _
 | x :: r=>by
  simp only [zdp]
  split
  ·simpa using zob v r
  ·exact Nat.zero_le _
def ziq (l:List GVal)(v:GVal):List GVal:=match l[zdp v l]? with
 | some x=>if zda x v=0 then l else l.take (zdp v l)++[v]++l.drop (zdp v l)
 | none=>l.take (zdp v l)++[v]++l.drop (zdp v l)
def z9p:CCode:=match z1y.body with
 | .seq _ (.seq _ (.seq (.block _ (.loop _ c)) _))=>c
 | _=>.skip
theorem z41 {v:GVal}{l:List GVal}(hcmp:∀ x ∈ l,lcall E 115 [x.arg,v.arg] []=some (.d (.i .i64 (zda x v)),[]))(hl:l.length ≤ 1000){Q:Ex→St→Prop}
  (hx:∀ tm,zba tm 0 = .d (.l 4 (zab l))→zba tm 3 = .ptr 0 0→zba tm 5 = .d (.i .i64 (zdp v l:Nat))→Q (.exit 0) ⟨tm,[zmd v]⟩) :
  ∀ (n i:Nat),i + n=l.length→zdp v l=i + zdp v (l.drop i)→LX E z9p ⟨[0,3,5],[],[],[],[],true⟩ 1 ⟨[(0,.d (.l 4 (zab l))),(3,.ptr 0 0),(5,.d (.i .i64 i))],[zmd v]⟩ Q:=by
 intro n
 induction n with
 | zero =>
  intro i hi hp
  have hn:¬ ((i:Int) < l.length):=by omega
  rw [List.drop_eq_nil_of_le (by omega),zdp,Nat.add_zero] at hp
  refine zan (zac (zac ?_))
  refine zaz fun K hK=>?_
  simp only [evW,evX,evM,evN,zad,hn,simprocAttr]
  refine hK _ _ (by rfl) ?_; clear hK K
  refine zaf false rfl (fun h=>by cases h) (fun _=>zb9 ?_)
  exact hx _ rfl rfl (by rw [hp]; rfl)
 | succ n ihn =>
  intro i hi hp
  have hy:(i:Int) < l.length:=by omega
  have la:i < l.length:=by omega
  have h0:(0:Int) ≤ i:=by omega
  have ga:(zab l)[i]?=some (GVal.row l[i]):=by rw [zaw,Qd la]; rfl
  rw [zbl la,zdp] at hp
  have hcall:=hcmp l[i] (List.getElem_mem la)
  generalize l[i]=x at *
  have w:IntKind.i64.wrap ((i:Int) + 1)=((i + 1:Nat):Int):=by rw [i64_in (by omega) (by omega)]; omega
  refine zan (zac (zac ?_))
  by_cases hb:zda x v < 0
  ·rw [if_pos hb] at hp
   refine zaz fun K hK=>?_
   simp only [evW,evX,evM,evN,evC,far,zad,hy,h0,Qk,ga,zas,hcall,hb,simprocAttr]
   refine hK _ _ (by rfl) ?_; clear hK K
   refine zaf true rfl (fun _=>zay ?_) (fun h=>by cases h)
   refine za2 ?_
   refine zaa fun K hK=>?_
   simp only [evW,evX,evM,evN,w,simprocAttr]
   refine hK _ _ ?_; clear hK K
   refine ⟨_, ?_,ihn (i + 1) (by omega) (by omega)⟩
   simp only [evH,evX,evN,simprocAttr]
  ·rw [if_neg hb,Nat.add_zero] at hp
   refine zaz fun K hK=>?_
   simp only [evW,evX,evM,evN,evC,far,zad,hy,h0,Qk,ga,zas,hcall,hb,simprocAttr]
   refine hK _ _ (by rfl) ?_; clear hK K
   refine zaf false rfl (fun h=>by cases h) (fun _=>zb9 ?_)
   exact hx _ rfl rfl (by rw [hp]; rfl)
theorem zb3 {n:Nat}(h:n ≤ 2000):zbi n 56=true:=by unfold zbi; exact Ql (by omega)
def z9q:CCode:=match z1y.body with
 | .seq _ (.seq _ (.seq _ (.seq _ c)))=>c
 | _=>.skip
theorem zwf {v:GVal}{l:List GVal}(hl:l.length ≤ 1000){tm:List (Nat × V)}(t0:zba tm 0 = .d (.l 4 (zab l)))(t3:zba tm 3 = .ptr 0 0)(t5:zba tm 5 = .d (.i .i64 (zdp v l:Nat))){T:List GVal}(hT:T=l.take (zdp v l)++[v]++l.drop (zdp v l)) :
  WX E z9q ⟨tm,[zmd v]⟩ (fun ex s=>(ex = .normal ∨ ex = .ret)∧zdw 0 s z1y.rets=some (.d (.l 4 (zab T)),[])):=by
 have hle:=zob v l
 have h0:(0:Int) ≤ (zdp v l:Nat):=by omega
 have hle':((zdp v l:Nat):Int) ≤ l.length:=by omega
 have hlen:(l.take (zdp v l)).length=zdp v l:=by simp; omega
 have hlen2:(l.drop (zdp v l)).length=l.length - zdp v l:=by simp
 have r1:zbi ((zdp v l)) 56=true:=zb3 (by omega)
 have r2:zbi (zdp v l + 1) 56=true:=zb3 (by omega)
 have r3:zbi (zdp v l + 1 + (l.length - zdp v l)) 56=true:=zb3 (by omega)
 refine zac (zaz fun K hK=>?_)
 simp only [evW,evX,evM,evN,t0,t3,t5,zad,h0,hle',Qk,zdd,zcu,hlen,hlen2,Qg,r1,r2,r3,List.take_length,simprocAttr]
 refine hK _ _ (by rfl) ?_; clear hK K
 refine zap ⟨.inr rfl, ?_⟩
 simp only [evR,evX,evC,evN,↓reduceIte,far,z1y]
 rw [hT]
 simp [zbz,zas]
theorem ztf (h117:E 117=some (.code z1y)){v:GVal}{l:List GVal}(hcmp:∀ x ∈ l,lcall E 115 [x.arg,v.arg] []=some (.d (.i .i64 (zda x v)),[]))(hl:l.length ≤ 1000) :
  lcall E 117 [.d (.l 4 (zab l)),v.arg] []=some (.d (.l 4 (zab (ziq l v))),[]):=by
 refine zbc h117 ?_
 refine zac (zaa fun K hK=>?_)
 simp only [evW,evX,evM,evN,simprocAttr]
 refine hK _ _ ?_; clear hK K
 refine zac (zaa fun K hK=>?_)
 simp only [evW,evX,evM,evN]
 refine hK _ _ ?_; clear hK K
 refine zac (za2 (zcy ?_))
 simp only [evH,evX,evN,simprocAttr]
 refine z41 hcmp hl (fun tm t0 t3 t5=>?_) l.length 0 (by omega) (by simp)
 have hle:=zob v l
 have h0:(0:Int) ≤ (zdp v l:Nat):=by omega
 have hle':((zdp v l:Nat):Int) ≤ l.length:=by omega
 have r1:zbi ((zdp v l)) 56=true:=zb3 (by omega)
 have r2:zbi (zdp v l + 1) 56=true:=zb3 (by omega)
 have r3:zbi (zdp v l + 1 + (l.length - zdp v l)) 56=true:=zb3 (by omega)
 have r4:zbi l.length 56=true:=zb3 (by omega)
 refine zac (zac ?_)
 by_cases hlt:zdp v l < l.length
 ·have ga:(zab l)[zdp v l]?=some (GVal.row l[zdp v l]):=by rw [zaw,Qd hlt]; rfl
  have hh:ziq l v=if zda l[zdp v l] v=0 then l else l.take (zdp v l)++[v]++l.drop (zdp v l):=by unfold ziq; rw [Qd hlt]
  have hcall:=hcmp l[zdp v l] (List.getElem_mem hlt)
  have hy:((zdp v l:Nat):Int) < l.length:=by omega
  generalize l[zdp v l]=x at *
  by_cases hb:zda x v=0
  ·rw [if_pos hb] at hh
   refine zaz fun K hK=>?_
   simp only [evW,evX,evM,evN,evC,far,t0,t3,t5,zad,hy,h0,Qk,ga,zas,hcall,hb,simprocAttr]
   refine hK _ _ (by rfl) ?_; clear hK K
   refine zaf true rfl (fun _=>?_) (fun h=>by cases h)
   refine zac (zaa fun K hK=>?_)
   simp only [evW,evX,evM,evN,t0,zad,r4,simprocAttr]
   refine hK _ _ ?_; clear hK K
   refine zap ⟨.inr rfl, ?_⟩
   simp only [evR,evX,evC,evN,↓reduceIte,far,z1y,hh]
  ·rw [if_neg hb] at hh
   refine zaz fun K hK=>?_
   simp only [evW,evX,evM,evN,evC,far,t0,t3,t5,zad,hy,h0,Qk,ga,zas,hcall,hb,simprocAttr]
   refine hK _ _ (by rfl) ?_; clear hK K
   refine zaf false rfl (fun h=>by cases h) (fun _=>zay ?_)
   refine zwf hl ?_ ?_ ?_ hh <;> first | exact t0 | exact t3 | exact t5
 ·have hy:¬ (((zdp v l:Nat):Int) < l.length):=by omega
  have hh:ziq l v=l.take (zdp v l)++[v]++l.drop (zdp v l):=by unfold ziq; rw [Qe (by omega)]
  refine zaz fun K hK=>?_
  simp only [evW,evX,evM,evN,t0,t5,zad,hy,simprocAttr]
  refine hK _ _ (by rfl) ?_; clear hK K
  refine zaf false rfl (fun h=>by cases h) (fun _=>zay ?_)
  refine zwf hl ?_ ?_ ?_ hh <;> first | exact t0 | exact t3 | exact t5
open Go
theorem ztg {P:GVal→Prop}(h:∀ v:GVal,(∀ x ∈ v.l,P x)→P v):∀ v,P v:=by
 have:∀ (n:Nat) (v:GVal),sizeOf v < n→P v:=by
  intro n
  induction n with
  | zero=>intro v hv; omega
  | succ n ih =>
   intro v hv
   refine h v fun x hx=>ih x ?_
   cases v with
   | mk k i s l =>
    have:=List.sizeOf_lt_of_mem hx
    simp only [GVal.l] at this
    simp only [GVal.mk.sizeOf_spec] at hv
    omega
 exact fun v=>this _ v (Nat.lt_succ_self _)
theorem zec:∀ (x:List UInt8),bytesLess x x=false
 | []=>rfl
 | a :: x=>by simp [bytesLess,zec x]
theorem zig:∀ (x y:List UInt8),bytesLess x y=true ∨ x=y ∨ bytesLess y x=true
 | [],[]=>.inr (.inl rfl)
 | [],_ :: _=>.inl rfl
 | _ :: _,[]=>.inr (.inr rfl)
 | a :: x,b :: y=>by
  simp only [bytesLess,Bool.or_eq_true,Qi,Qh,beq_iff_eq]
  rcases UInt8.lt_or_lt_of_ne (a:=a) (b:=b) |> fun f=>(Classical.em (a=b)).elim (fun e=>Or.inl e) (fun e=>Or.inr (f e)) with e | h | h
  ·subst e
   rcases zig x y with h | h | h
   ·exact .inl (.inr ⟨rfl,h⟩)
   ·exact .inr (.inl (by rw [h]))
   ·exact .inr (.inr (.inr ⟨rfl,h⟩))
  ·exact .inl (.inl h)
  ·exact .inr (.inr (.inl h))
theorem zkn:∀ {x y z:List UInt8},bytesLess x y=true→bytesLess y z=true→bytesLess x z=true
 | x,y,[],h,k=>by cases y <;> simp [bytesLess] at k
 | [],y,c :: z,h,k=>rfl
 | a :: x,[],c :: z,h,k=>by simp [bytesLess] at h
 | a :: x,b :: y,c :: z,h,k=>by
  simp only [bytesLess,Bool.or_eq_true,Qi,Qh,beq_iff_eq] at *
  rcases h with h | ⟨rfl,h⟩
  ·rcases k with k | ⟨rfl,k⟩
   ·exact .inl (UInt8.lt_trans h k)
   ·exact .inl h
  ·rcases k with k | ⟨rfl,k⟩
   ·exact .inl k
   ·exact .inr ⟨rfl,zkn h k⟩
theorem zmr {x y:List UInt8}(h:bytesLess x y=true):bytesLess y x=false:=by
 cases k:bytesLess y x with
 | false=>rfl
 | true=>have:=zkn h k; rw [zec] at this; cases this
theorem zed (b:Bool):sgn b=1∧b=false ∨ sgn b = -1∧b=true:=by cases b <;> simp [sgn]
theorem zth:∀ (l m:List GVal),(∀ x ∈ l,∀ y,zda x y=0→x=y)→zfs l m=0→l=m
 | [],[],_,_=>rfl
 | [],_ :: _,_,h=>by simp [zfs] at h
 | _ :: _,[],_,h=>by simp [zfs] at h
 | x :: r,y :: t,hx,h=>by
  simp only [zfs] at h
  by_cases e:zda x y=0
  ·rw [if_pos e] at h
   rw [hx x (by simp) y e,zth r t (fun z hz=>hx z (by simp [hz])) h]
  ·rw [if_neg e] at h; exact absurd h e
theorem zwg:∀ (a b:GVal),zda a b=0→a=b:=by
 intro a
 induction a using ztg with
 | _ a ih =>
  intro b h
  rw [zgi] at h
  by_cases e1:a.kind=b.kind
  ·rw [if_pos e1] at h
   by_cases e2:a.i=b.i
   ·rw [if_pos e2] at h
    by_cases e3:a.s=b.s
    ·rw [if_pos e3] at h
     have:=zth _ _ ih h
     rw [← GVal.eta a,← GVal.eta b,e1,e2,e3,this]
    ·rw [if_neg e3] at h; rcases zed (bytesLess a.s b.s) with ⟨k,_⟩ | ⟨k,_⟩ <;> rw [k] at h <;> simp at h
   ·rw [if_neg e2] at h; rcases zed (decide (a.i < b.i)) with ⟨k,_⟩ | ⟨k,_⟩ <;> rw [k] at h <;> simp at h
  ·rw [if_neg e1] at h; rcases zed (decide (a.kind < b.kind)) with ⟨k,_⟩ | ⟨k,_⟩ <;> rw [k] at h <;> simp at h
theorem zus {p q:Bool}(h:q = !p):sgn q = - sgn p:=by subst h; cases p <;> rfl
theorem zwh:∀ (l m:List GVal),(∀ x ∈ l,∀ y,zda y x = - zda x y)→zfs m l = - zfs l m
 | [],[],_=>by simp [zfs]
 | [],_ :: _,_=>by simp [zfs]
 | _ :: _,[],_=>by simp [zfs]
 | x :: r,y :: t,hx=>by
  simp only [zfs]
  rw [hx x (by simp) y]
  by_cases e:zda x y=0
  ·rw [if_pos e,if_pos (by omega)]; exact zwh r t fun z hz=>hx z (by simp [hz])
  ·rw [if_neg e,if_neg (by omega)]
theorem z9r:∀ (a b:GVal),zda b a = - zda a b:=by
 intro a
 induction a using ztg with
 | _ a ih =>
  intro b
  rw [zgi a b,zgi b a]
  by_cases e1:a.kind=b.kind
  ·rw [if_pos e1,if_pos e1.symm]
   by_cases e2:a.i=b.i
   ·rw [if_pos e2,if_pos e2.symm]
    by_cases e3:a.s=b.s
    ·rw [if_pos e3,if_pos e3.symm]; exact zwh _ _ ih
    ·rw [if_neg e3,if_neg (fun h=>e3 h.symm)]
     refine zus ?_
     rcases zig a.s b.s with h | h | h
     ·rw [h,zmr h]; rfl
     ·exact absurd h e3
     ·rw [h,zmr h]; rfl
   ·rw [if_neg e2,if_neg (fun h=>e2 h.symm)]
    refine zus ?_
    by_cases h:a.i < b.i
    ·simp [h]; omega
    ·simp [h]; omega
  ·rw [if_neg e1,if_neg (fun h=>e1 h.symm)]
   refine zus ?_
   by_cases h:a.kind < b.kind
   ·simp [h]; omega
   ·simp [h]; omega
theorem zp0:∀ (l m n:List GVal),(∀ x ∈ l,∀ y z,zda x y < 0→zda y z < 0→zda x z < 0)→zfs l m < 0→zfs m n < 0→zfs l n < 0
 | [],[],n,_,h,k=>k
 | [],_ :: _,[],_,h,k=>by simp [zfs] at k
 | [],_ :: _,_ :: _,_,h,k=>by simp [zfs]
 | _ :: _,[],n,_,h,k=>by simp [zfs] at h
 | _ :: _,_ :: _,[],_,h,k=>by simp [zfs] at k
 | x :: r,y :: t,z :: u,hx,h,k=>by
  simp only [zfs] at *
  by_cases e1:zda x y=0
  ·rw [if_pos e1] at h
   have:=zwg _ _ e1
   subst this
   by_cases e2:zda x z=0
   ·rw [if_pos e2] at k ⊢
    exact zp0 r t u (fun w hw=>hx w (by simp [hw])) h k
   ·rw [if_neg e2] at k ⊢; exact k
  ·rw [if_neg e1] at h
   by_cases e2:zda y z=0
   ·have:=zwg _ _ e2
    subst this
    rw [if_neg e1]; exact h
   ·rw [if_neg e2] at k
    have:=hx x (by simp) y z h k
    rw [if_neg (by omega)]; exact this
theorem zti:∀ (a b c:GVal),zda a b < 0→zda b c < 0→zda a c < 0:=by
 intro a
 induction a using ztg with
 | _ a ih =>
  intro b c h k
  rw [zgi] at *
  by_cases e1:a.kind=b.kind
  ·rw [if_pos e1] at h
   rw [e1]
   by_cases f1:b.kind=c.kind
   ·rw [if_pos f1] at k ⊢
    by_cases e2:a.i=b.i
    ·rw [if_pos e2] at h
     rw [e2]
     by_cases f2:b.i=c.i
     ·rw [if_pos f2] at k ⊢
      by_cases e3:a.s=b.s
      ·rw [if_pos e3] at h
       rw [e3]
       by_cases f3:b.s=c.s
       ·rw [if_pos f3] at k ⊢
        exact zp0 _ _ _ ih h k
       ·rw [if_neg f3] at k ⊢; exact k
      ·rw [if_neg e3] at h
       have h':bytesLess a.s b.s=true:=by rcases zed (bytesLess a.s b.s) with ⟨q,_⟩ | ⟨_,q⟩; (rw [q] at h; omega); exact q
       by_cases f3:b.s=c.s
       ·rw [← f3,if_neg e3]; exact h
       ·rw [if_neg f3] at k
        have k':bytesLess b.s c.s=true:=by rcases zed (bytesLess b.s c.s) with ⟨q,_⟩ | ⟨_,q⟩; (rw [q] at k; omega); exact q
        have:=zkn h' k'
        rw [if_neg (fun e=>by rw [e,zec] at this; cases this),this]; decide
     ·rw [if_neg f2] at k ⊢; exact k
    ·rw [if_neg e2] at h
     have h':a.i < b.i:=by rcases zed (decide (a.i < b.i)) with ⟨q,_⟩ | ⟨_,q⟩; (rw [q] at h; omega); exact of_decide_eq_true q
     have k':b.i ≤ c.i:=by
      by_cases f2:b.i=c.i
      ·omega
      ·rw [if_neg f2] at k
       rcases zed (decide (b.i < c.i)) with ⟨q,_⟩ | ⟨_,q⟩
       ·rw [q] at k; omega
       ·have:=of_decide_eq_true q; omega
     rw [if_neg (by omega),show decide (a.i < c.i)=true from Ql (by omega)]; decide
   ·rw [if_neg f1] at k ⊢; exact k
  ·rw [if_neg e1] at h
   have h':a.kind < b.kind:=by rcases zed (decide (a.kind < b.kind)) with ⟨q,_⟩ | ⟨_,q⟩; (rw [q] at h; omega); exact of_decide_eq_true q
   have k':b.kind ≤ c.kind:=by
    by_cases f1:b.kind=c.kind
    ·omega
    ·rw [if_neg f1] at k
     rcases zed (decide (b.kind < c.kind)) with ⟨q,_⟩ | ⟨_,q⟩
     ·rw [q] at k; omega
     ·have:=of_decide_eq_true q; omega
   rw [if_neg (by omega),show decide (a.kind < c.kind)=true from Ql (by omega)]; decide
open Go
def zbe (p:GVal→GVal→Bool):List GVal→Bool
 | []=>true
 | [_]=>true
 | x :: y :: r=>p x y && zbe p (y :: r)
def zcz (v:GVal):Bool:=decide (v.kind=4) && (match v.l with | [x,_]=>decide (x.kind=3) | _=>false)
def ltV (a b:GVal):Bool:=decide (zda a b < 0)
def ltK (a b:GVal):Bool:=bytesLess (zfm a) (zfm b)
def zbv (k:Int)(l:List GVal):Bool:=if k=4 then true else if k=5 then zbe ltV l else if k=6 then l.all zcz && zbe ltK l else l.isEmpty
def zc0 (k i:Int):Bool:=if k=1 then true else if k=2 then decide (i=0 ∨ i=1) else if k=7 then decide (1 ≤ i∧i ≤ 13) else decide (i=0)
mutual
def zeq:GVal→Bool
 | .mk k i s l=>decide (1 ≤ k∧k ≤ 7) && zc0 k i && (decide (k=3) || s.isEmpty) && zbv k l && zxw l
def zxw:List GVal→Bool
 | []=>true
 | x :: r=>!decide (x.kind=7) && zeq x && zxw r
end
theorem zko:∀ (l:List GVal),zxw l=l.all fun x=>!decide (x.kind=7) && zeq x
 | []=>rfl
 | x :: r=>by simp only [zxw,List.all_cons,zko r]
theorem zb0 (v:GVal):zeq v=(decide (1 ≤ v.kind∧v.kind ≤ 7) && zc0 v.kind v.i && (decide (v.kind=3) || v.s.isEmpty) && zbv v.kind v.l && zxw v.l):=by cases v; simp only [zeq]; rfl
theorem zll {p:GVal→GVal→Bool}{x:GVal}{l:List GVal}(h:zbe p (x :: l)=true):zbe p l=true:=by
 cases l with
 | nil=>rfl
 | cons y r=>simp only [zbe,Qi] at h; exact h.2
theorem zp1 {p:GVal→GVal→Bool}{x:GVal}{l:List GVal}(h:zbe p l=true)(hx:∀ y ∈ l.head?,p x y=true):zbe p (x :: l)=true:=by
 cases l with
 | nil=>rfl
 | cons y r=>simp only [zbe,Qi]; exact ⟨hx y (by simp),h⟩
theorem zoc {p:GVal→GVal→Bool}(ht:∀ a b c,p a b=true→p b c=true→p a c=true){x:GVal}:∀ {l:List GVal},zbe p (x :: l)=true→∀ y ∈ l,p x y=true
 | [],_,y,hy=>by cases hy
 | z :: r,h,y,hy=>by
  simp only [zbe,Qi] at h
  rcases List.mem_cons.1 hy with rfl | hy
  ·exact h.1
  ·exact ht _ _ _ h.1 (zoc ht h.2 y hy)
theorem z0s (a b c:GVal)(h:ltV a b=true)(k:ltV b c=true):ltV a c=true:=by
 simp only [ltV,Qh] at *; exact zti a b c h k
theorem z0t (a b c:GVal)(h:ltK a b=true)(k:ltK b c=true):ltK a c=true:=zkn h k
theorem zkp {p:GVal→GVal→Bool}{v:GVal}{pos:List GVal→Nat}(h0:pos []=0)(h1:∀ x r,pos (x :: r)=if p x v=true then pos r + 1 else 0) :
  ∀ (l:List GVal),zbe p l=true→(∀ x,l[pos l]?=some x→p v x=true)→zbe p (l.take (pos l)++[v]++l.drop (pos l))=true
 | [],_,_=>by rw [h0]; rfl
 | x :: r,h,hv=>by
  rw [h1] at *
  by_cases e:p x v=true
  ·rw [if_pos e] at *
   simp only [List.take_succ_cons,List.drop_succ_cons,List.cons_append]
   have ih:=zkp h0 h1 r (zll h) (fun y hy=>hv y (by simpa using hy))
   refine zp1 ih fun y hy=>?_
   cases hr:pos r with
   | zero =>
    rw [hr] at hy
    simp only [List.take_zero,List.nil_append,List.cons_append,List.head?_cons,Option.mem_def,Qa] at hy
    rw [← hy]; exact e
   | succ n =>
    cases r with
    | nil=>rw [h0] at hr; cases hr
    | cons z t =>
     rw [hr] at hy
     simp only [List.take_succ_cons,List.cons_append,List.head?_cons,Option.mem_def,Qa] at hy
     rw [← hy]
     simp only [zbe,Qi] at h
     exact h.1
  ·rw [if_neg e] at *
   simp only [List.take_zero,List.nil_append,List.drop_zero,List.cons_append]
   exact zp1 h fun y hy=>hv y (by simpa using hy)
theorem zp2 {l:List GVal}{v:GVal}(h:zbe ltV l=true):zbe ltV (ziq l v)=true:=by
 have key:(∀ x,l[zdp v l]?=some x→zda x v ≠ 0)→zbe ltV (l.take (zdp v l)++[v]++l.drop (zdp v l))=true:=fun hne=>by
  refine zkp (pos:=zdp v) rfl (fun x r=>?_) l h (fun x hx=>?_)
  ·simp only [zdp,ltV,Qh]
  ·have:∀ (l:List GVal) x,l[zdp v l]?=some x→¬ zda x v < 0:=by
    intro l
    induction l with
    | nil=>intro x hx; simp at hx
    | cons y r ih =>
     intro x hx
     simp only [zdp] at hx
     split at hx
     ·exact ih x (by simpa using hx)
     ·simp at hx; subst hx; assumption
   have h1:=this l x hx
   have h2:=hne x hx
   have:=z9r x v
   simp only [ltV,Qh]
   omega
 unfold ziq
 cases hx:l[zdp v l]? with
 | none=>exact key (fun x hx'=>by rw [hx] at hx'; cases hx')
 | some x =>
  simp only
  split
  ·exact h
  ·rename_i hne
   exact key (fun y hy=>by rw [hx] at hy; cases hy; exact hne)
theorem zrf {l:List GVal}{v x:GVal}(h:x ∈ ziq l v):x ∈ l ∨ x=v:=by
 have key:x ∈ l.take (zdp v l)++[v]++l.drop (zdp v l)→x ∈ l ∨ x=v:=fun h=>by
  simp only [List.mem_append,List.mem_singleton] at h
  rcases h with (h | h) | h
  ·exact .inl (List.mem_of_mem_take h)
  ·exact .inr h
  ·exact .inl (List.mem_of_mem_drop h)
 unfold ziq at h
 split at h
 ·split at h
  ·exact .inl h
  ·exact key h
 ·exact key h
theorem zut (l:List GVal)(v:GVal):(ziq l v).length ≤ l.length + 1:=by
 have hle:=zob v l
 unfold ziq
 split
 ·split
  ·omega
  ·simp; omega
 ·simp; omega
theorem zih {k i:Int}{s:List UInt8}{l:List GVal}(h:l.length ≤ 1000)(hs:∀ x ∈ l,Small x):Small (.mk k i s l):=.mk h hs
def z42 (n:Int):Prop:=-9223372036854775808 ≤ n∧n ≤ 9223372036854775807
theorem Zbg:z42 0:=⟨by decide,by decide⟩
inductive FitV:GVal→Prop where
 | mk {v:GVal} (h:z42 v.i) (hl:∀ x ∈ v.l,FitV x):FitV v
theorem FitV.i {v:GVal}(h:FitV v):z42 v.i:=by cases h; assumption
theorem FitV.l {v:GVal}(h:FitV v):∀ x ∈ v.l,FitV x:=by cases h; assumption
structure GenOk (m:Nat)(v:GVal):Prop where
 size:szN v ≤ m
 small:Small v
 len:v.l.length ≤ 3
 may:zeq v=true
 good:v.kind ≠ 7
 fit:FitV v
theorem zuu {m:Nat}{l:List GVal}(h:∀ x ∈ l,GenOk m x):zxw l=true:=by
 rw [zko,List.all_eq_true]
 intro x hx
 simp [(h x hx).may,(h x hx).good]
theorem zwi {m:Nat}:∀ {l:List GVal},(∀ x ∈ l,GenOk m x)→szL l ≤ l.length * m
 | [],_=>by simp [szL]
 | x :: r,h=>by
  simp only [szL,List.length_cons]
  have h1:=(h x (by simp)).size
  have h2:=zwi (l:=r) fun y hy=>h y (by simp [hy])
  rw [Nat.add_mul]; omega
def bnd:Nat→Nat
 | 0=>3
 | d + 1=>1 + 3 * (2 + bnd d)
open Go
def zyg (E:Nat→Option Fn)(l:List UInt8)(deep:Nat):Prop:=∀ (n:Nat),n ≤ l.length →
 ∃ v n',lcall E 109 [.ptr 0 0,.d (.i .i64 deep)] [zf7 l n]=some (v.arg,[zf7 l n'])∧n' ≤ l.length∧GenOk (bnd deep) v
def z43 (E:Nat→Option Fn)(l:List UInt8)(m:Nat)(deep:Int):Prop:=∀ (n:Nat),n ≤ l.length →
 ∃ vs n',lcall E 124 [.ptr 0 0,.d (.i .i64 deep)] [zf7 l n]=some (.d (.l 4 (zab vs)),[zf7 l n'])∧n' ≤ l.length∧vs.length ≤ 3∧∀ x ∈ vs,GenOk m x
def zyh (E:Nat→Option Fn)(l:List UInt8):Prop:=∀ (n:Nat),n ≤ l.length→∀ (m:Int),0 < m →
  ∃ (k:Int) (n':Nat),lcall E 123 [.ptr 0 0,.d (.i .i64 m)] [zf7 l n]=some (.d (.i .i64 k),[zf7 l n'])∧0 ≤ k∧k < m∧n' ≤ l.length
def z44:CCode:=match z8a.body with
 | .seq _ (.seq _ (.seq (.seq _ (.block _ (.loop _ c))) _))=>c
 | _=>.skip
theorem z0u {l:List UInt8}{deep:Nat}(hg:zyg E l deep){w:Int}(hw:IntKind.i64.wrap (w - 1)=deep){Q:Ex→St→Prop}
  (hx:∀ tm vs n,zba tm 5 = .own 5 0 4 (zab vs)→n ≤ l.length→vs.length ≤ 3→(∀ x ∈ vs,GenOk (bnd deep) x)→Q (.exit 0) ⟨tm,[zf7 l n,none,none,none,none,some (.tok 0 4)]⟩) :
  ∀ (i:Nat) (vs:List GVal) (n:Nat),i + vs.length ≤ 3→n ≤ l.length→(∀ x ∈ vs,GenOk (bnd deep) x)→LX E z44 ⟨[0,1,5,6],[5],[],[],[],true⟩ 6 ⟨[(0,.ptr 0 0),(1,.d (.i .i64 w)),(5,.own 5 0 4 (zab vs)),(6,.d (.i .i64 i))],[zf7 l n,none,none,none,none,some (.tok 0 4)]⟩ Q:=by
 intro i
 induction i with
 | zero =>
  intro vs n hi hn hv
  refine zan (zac (zac ?_))
  have h0:¬ ((0:Int) < ((0:Nat):Int)):=by omega
  refine zaa fun K hK=>?_
  simp only [evW,evX,evM,evN,h0,simprocAttr]
  refine hK _ _ ?_; clear hK K
  refine zaf false rfl (fun h=>by cases h) (fun _=>zb9 ?_)
  exact hx _ vs n rfl hn (by omega) hv
 | succ i ih =>
  intro vs n hi hn hv
  obtain ⟨v,n1,hc,hn1,hok⟩:=hg n hn
  have h0:(0:Int) < ((i + 1:Nat):Int):=by omega
  have w1:IntKind.i64.wrap (((i + 1:Nat):Int) - 1)=(i:Int):=by rw [i64_in (by omega) (by omega)]; omega
  have r1:zbi (vs.length + 1) 56=true:=zb3 (by omega)
  refine zan (zac (zac ?_))
  refine zaa fun K hK=>?_
  simp only [evW,evX,evM,evN,h0,simprocAttr]
  refine hK _ _ ?_; clear hK K
  refine zaf true rfl (fun _=>zay ?_) (fun h=>by cases h)
  refine zac (za2 ?_)
  refine zaa fun K hK=>?_
  simp only [evW,evX,evM,evN,evC,far,hw,hc,zad,r1,simprocAttr]
  refine hK _ _ ?_; clear hK K
  have hrow:zab vs++[[.i .i64 v.kind,.i .i64 v.i,.s v.s,.l 4 (zab v.l)]]=zab (vs++[v]):=by simp [zbz,zas]
  refine zaa fun K hK=>?_
  simp only [evW,evX,evM,evN,w1,hrow,simprocAttr]
  refine hK _ _ ?_; clear hK K
  refine ⟨_, ?_,ih (vs++[v]) n1 (by simp; omega) hn1 (fun x hx=>?_)⟩
  ·simp only [evH,evX,evN,simprocAttr]
  ·rcases List.mem_append.1 hx with h | h
   ·exact hv x h
   ·simp only [List.mem_singleton] at h; subst h; exact hok
theorem z9s (h124:E 124=some (.code z8a)){l:List UInt8}(hnum:zyh E l){deep:Nat}(hd:deep ≤ 100)(hg:zyg E l deep):z43 E l (bnd deep) ((deep + 1:Nat):Int):=by
 intro n hn
 obtain ⟨k,n1,hc,k0,k1,hn1⟩:=hnum n hn 4 (by omega)
 obtain ⟨i,rfl⟩:∃ i:Nat,k=i:=⟨k.toNat,by omega⟩
 have hw:IntKind.i64.wrap (((deep + 1:Nat):Int) - 1)=deep:=by rw [i64_in (by omega) (by omega)]; omega
 have:∃ r,lcall E 124 [.ptr 0 0,.d (.i .i64 ((deep + 1:Nat):Int))] [zf7 l n]=some r∧∃ vs n',r=(.d (.l 4 (zab vs)),[zf7 l n'])∧n' ≤ l.length∧vs.length ≤ 3∧∀ x ∈ vs,GenOk (bnd deep) x:=by
  refine zkd h124 ?_
  refine zac (zaa fun K hK=>?_)
  simp only [evW,evX,evM,evN,Nat.reduceAdd]
  refine hK _ _ ?_; clear hK K
  refine zac (zaa fun K hK=>?_)
  simp only [evW,evX,evM,evN]
  refine hK _ _ ?_; clear hK K
  refine zac (zac ?_)
  refine zaa fun K hK=>?_
  simp only [evW,evX,evM,evN,evC,far,hc,simprocAttr]
  refine hK _ _ ?_; clear hK K
  refine za2 (zcy ?_)
  simp only [evH,evX,evN,simprocAttr]
  refine z0u hg hw (fun tm vs n2 t5 hn2 hlen hv=>?_) i [] n1 (by simp; omega) hn1 (by simp)
  refine zac (zaa fun K hK=>?_)
  simp only [evW,evX,evM,evN,t5,simprocAttr]
  refine hK _ _ ?_; clear hK K
  refine zap ⟨.inr rfl,_, ?_,vs,n2,rfl,hn2,hlen,hv⟩
  simp only [evR,evX,evC,evN,↓reduceIte,far,z8a]
 obtain ⟨r,h1,vs,n',rfl,h2⟩:=this
 exact ⟨vs,n',h1,h2⟩
open Go
theorem zha {m:Nat}{k i:Int}{s:List UInt8}{l:List GVal}(hz:1 + s.length / 16 + szL l ≤ m)(hk:k ≠ 7)(hl:l.length ≤ 3)(h:zeq (.mk k i s l)=true)(hs:∀ x ∈ l,Small x)(hi:z42 i)(hf:∀ x ∈ l,FitV x):GenOk m (.mk k i s l) :=
 ⟨by rw [szN]; exact hz,zih (by omega) hs,hl,h,hk,⟨hi,hf⟩⟩
abbrev zyi:Option Obj:=some (.box [.d (.i .i64 0),.d (.i .i64 0),.d (.s []),.nil 4])
abbrev Zin (m:Nat)(l:List UInt8):Ex→St→Prop:=fun ex s=>(ex = .normal ∨ ex = .ret)∧∃ r,zdw 1 s zvl.rets=some r∧∃ v n',r=(GVal.arg v,[zf7 l n'])∧n' ≤ l.length∧GenOk m v
def zrg:CCode→CCode
 | .seq _ (.cond _ _ e)=>e
 | _=>.skip
def z9t:CCode→CCode
 | .seq _ (.cond _ t _)=>t
 | _=>.skip
def z9u:CCode:=match zvl.body with
 | .seq _ (.seq (.seq _ (.block _ c)) _)=>c
 | _=>.skip
def Zg9:CCode:=z9t (zrg (zrg z9u))
def z9v:CCode:=z9t (zrg (zrg (zrg z9u)))
def z6s:CCode:=z9t (zrg (zrg (zrg (zrg z9u))))
def z6t:CCode:=match zvl.body with
 | .seq _ (.seq _ c)=>c
 | _=>.skip
theorem z0v {m:Nat}(hm:3 ≤ m){l:List UInt8}(hnum:zyh E l){n:Nat}(hn:n ≤ l.length){tm:List (Nat × V)}(t0:zba tm 0 = .ptr 0 0)(t4:zba tm 4 = .ptr 1 0){Q:Ex→St→Prop}(hQ:∀ s,Zin m l .ret s→Q .ret s):WX E Zg9 ⟨tm,[zf7 l n,zyi,none,none,none,none]⟩ Q:=by
 obtain ⟨j,n2,hc2,j0,j1,hn2⟩:=hnum n hn 5 (by omega)
 obtain ⟨i,rfl⟩:∃ i:Nat,j=i:=⟨j.toNat,by omega⟩
 have ht:∃ x,([[.s []],[.s [97]],[.s [98]],[.s [97,98]],[.s [97,45,116,101,120,116,45,111,102,45,50,49,45,98,121,116,101,115,45,120,120]]]:List (List D))[i]?=some [.s x]∧x.length ≤ 21:=by
  have:i=0 ∨ i=1 ∨ i=2 ∨ i=3 ∨ i=4:=by omega
  rcases this with rfl | rfl | rfl | rfl | rfl <;> exact ⟨_,rfl,by decide⟩
 obtain ⟨x,hx,hxl⟩:=ht
 refine zac (zaa fun K hK=>?_)
 simp only [evW,evX,evM,evN,evC,far,t0,t4,hc2,j0,Qk,hx,simprocAttr]
 refine hK _ _ ?_; clear hK K
 refine zap (hQ _ ⟨.inr rfl,_, ?_,.mk 3 0 x [],n2,rfl,hn2,zha (by rw [szL]; omega) (by decide) (by simp) (by simp [zeq,zc0,zbv,zxw]) (by simp) Zbg (by simp)⟩)
 simp only [evR,evX,evC,evN,far,zvl,t4,GVal.arg,GVal.kind,GVal.i,GVal.s,GVal.l,zab,simprocAttr]
theorem z45 {m q:Nat}(hm:1 + 3 * q ≤ m){l:List UInt8}{deep:Nat}(hsome:z43 E l q deep){n:Nat}(hn:n ≤ l.length){tm:List (Nat × V)}(t0:zba tm 0 = .ptr 0 0)(t1:zba tm 1 = .d (.i .i64 deep))(t4:zba tm 4 = .ptr 1 0){Q:Ex→St→Prop}(hQ:∀ s,Zin m l .ret s→Q .ret s):WX E z9v ⟨tm,[zf7 l n,zyi,none,none,none,none]⟩ Q:=by
 obtain ⟨vs,n2,hc,hn2,hlen,hv⟩:=hsome n hn
 refine zac (zaa fun K hK=>?_)
 simp only [evW,evX,evM,evN,evC,far,t0,t1,t4,hc,simprocAttr]
 refine hK _ _ ?_; clear hK K
 refine zap (hQ _ ⟨.inr rfl,_, ?_,.mk 4 0 [] vs,n2,rfl,hn2,zha (by have:=zwi hv; have:=Nat.mul_le_mul_right q hlen; simp only [List.length_nil]; omega) (by decide) hlen (by simp [zeq,zc0,zbv,zuu hv]) (fun x hx=>(hv x hx).small) Zbg (fun x hx=>(hv x hx).fit)⟩)
 simp only [evR,evX,evC,evN,far,zvl,t4,GVal.arg,GVal.kind,GVal.i,GVal.s,GVal.l,simprocAttr]
def Zha (E:Nat→Option Fn):Prop:=∀ (ws:List GVal) (v:GVal),ws.length ≤ 1000→(∀ x ∈ ws,Small x)→Small v→lcall E 117 [.d (.l 4 (zab ws)),v.arg] []=some (.d (.l 4 (zab (ziq ws v))),[])
def z9w:CCode:=match z6s with
 | .seq _ (.seq _ (.seq (.seq _ (.block _ (.loop _ c))) _))=>c
 | _=>.skip
abbrev Zio (k:Int)(ws:List GVal):Option Obj:=some (.box [.d (.i .i64 k),.d (.i .i64 0),.d (.s []),.d (.l 4 (zab ws))])
theorem z47 {q:Nat}(hins:Zha E){l:List UInt8}{n:Nat}{vs:List GVal}(hvl:vs.length ≤ 3)(hv:∀ x ∈ vs,GenOk q x){Q:Ex→St→Prop}
  (hx:∀ tm ws,zba tm 4 = .ptr 1 0→zba tm 6 = .ptr 6 0→ws.length ≤ 3→(∀ x ∈ ws,GenOk q x)→zbe ltV ws=true→Q (.exit 1) ⟨tm,[zf7 l n,zyi,none,none,none,none,Zio 5 ws,none,none,none,none]⟩) :
  ∀ (m i:Nat) (ws:List GVal),i + m=vs.length→ws.length ≤ i→(∀ x ∈ ws,GenOk q x)→zbe ltV ws=true →
   LX E z9w ⟨[4,6,7,8],[],[],[],[(6,3)],true⟩ 11 ⟨[(4,.ptr 1 0),(6,.ptr 6 0),(7,.d (.l 4 (zab vs))),(8,.d (.i .i64 i))],[zf7 l n,zyi,none,none,none,none,Zio 5 ws,none,none,none,none]⟩ Q:=by
 intro m
 induction m with
 | zero =>
  intro i ws hi hw hok hch
  have hn:¬ ((i:Int) < vs.length):=by omega
  refine zan (zac (zac ?_))
  refine zaa fun K hK=>?_
  simp only [evW,evX,evM,evN,zad,hn,simprocAttr]
  refine hK _ _ ?_; clear hK K
  refine zaf false rfl (fun h=>by cases h) (fun _=>zb9 ?_)
  exact hx _ ws rfl rfl (by omega) hok hch
 | succ m ih =>
  intro i ws hi hw hok hch
  have hy:(i:Int) < vs.length:=by omega
  have la:i < vs.length:=by omega
  have h0:(0:Int) ≤ i:=by omega
  have ga:(zab vs)[i]?=some (GVal.row vs[i]):=by rw [zaw,Qd la]; rfl
  have hvi:=hv vs[i] (List.getElem_mem la)
  have hcall:=hins ws vs[i] (by omega) (fun x hx=>(hok x hx).small) hvi.small
  generalize vs[i]=x at *
  have w:IntKind.i64.wrap ((i:Int) + 1)=((i + 1:Nat):Int):=by rw [i64_in (by omega) (by omega)]; omega
  refine zan (zac (zac ?_))
  refine zaa fun K hK=>?_
  simp only [evW,evX,evM,evN,zad,hy,simprocAttr]
  refine hK _ _ ?_; clear hK K
  refine zaf true rfl (fun _=>zay ?_) (fun h=>by cases h)
  refine zac (za2 ?_)
  refine zaz fun K hK=>?_
  simp only [evW,evX,evM,evN,evC,far,h0,Qk,ga,zas,hcall,simprocAttr]
  refine hK _ _ (by rfl) ?_; clear hK K
  refine zaa fun K hK=>?_
  simp only [evW,evX,evM,evN,w,simprocAttr]
  refine hK _ _ ?_; clear hK K
  refine ⟨_, ?_,ih (i + 1) (ziq ws x) (by omega) (by have:=zut ws x; omega) (fun y hy=>?_) (zp2 hch)⟩
  ·simp only [evH,evX,evN,simprocAttr]
  ·rcases zrf hy with h | h
   ·exact hok y h
   ·rw [h]; exact hvi
theorem z9x {m q:Nat}(hm:1 + 3 * q ≤ m)(hins:Zha E){l:List UInt8}{deep:Nat}(hsome:z43 E l q deep){n:Nat}(hn:n ≤ l.length){tm:List (Nat × V)}(t0:zba tm 0 = .ptr 0 0)(t1:zba tm 1 = .d (.i .i64 deep))(t4:zba tm 4 = .ptr 1 0){Q:Ex→St→Prop}(hQ:∀ s,Zin m l .ret s→Q .ret s):WX E z6s ⟨tm,[zf7 l n,zyi,none,none,none,none]⟩ Q:=by
 obtain ⟨vs,n2,hc,hn2,hlen,hv⟩:=hsome n hn
 refine zac (zaa fun K hK=>?_)
 simp only [evW,evX,evM,evN,simprocAttr]
 refine hK _ _ ?_; clear hK K
 refine zac (zaa fun K hK=>?_)
 simp only [evW,evX,evM,evN,evC,far,t0,t1,hc,simprocAttr]
 refine hK _ _ ?_; clear hK K
 refine zac (zac ?_)
 refine zaa fun K hK=>?_
 simp only [evW,evX,evM,evN,Nat.reduceAdd]
 refine hK _ _ ?_; clear hK K
 refine za2 (zcy ?_)
 simp only [evH,evX,evN,t4,simprocAttr]
 refine z47 hins hlen hv (fun tm ws t4 t6 hl hok hch=>?_) vs.length 0 [] (by omega) (by simp) (by simp) rfl
 refine zac (zaa fun K hK=>?_)
 simp only [evW,evX,evM,evN,t4,t6,simprocAttr]
 refine hK _ _ ?_; clear hK K
 refine zap (hQ _ ⟨.inr rfl,_, ?_,.mk 5 0 [] ws,n2,rfl,hn2,zha (by have:=zwi hok; have:=Nat.mul_le_mul_right q hl; simp only [List.length_nil]; omega) (by decide) hl (by simp [zeq,zc0,zbv,zuu hok,hch]) (fun x hx=>(hok x hx).small) Zbg (fun x hx=>(hok x hx).fit)⟩)
 simp only [evR,evX,evC,evN,far,zvl,t4,GVal.arg,GVal.kind,GVal.i,GVal.s,GVal.l,simprocAttr]
def ztj (E:Nat→Option Fn):Prop:=∀ (ws:List GVal) (k:List UInt8),ws.length ≤ 1000→lcall E 120 [.d (.l 4 (zab ws)),.d (.s k)] []=some (.tup [.d (.i .i64 (zb4 k ws:Nat)),.d (.b (zjo k ws))],[])
def z9y:CCode:=match z6t with
 | .seq _ (.seq (.seq _ (.block _ (.loop _ c))) _)=>c
 | _=>.skip
structure EnvInv (m:Nat)(ws:List GVal):Prop where
 ok:∀ x ∈ ws,GenOk m x
 pair:∀ x ∈ ws,zcz x=true
 chain:zbe ltK ws=true
theorem zkq {x:GVal}(h:zcz x=true):x.l.length=2:=by
 unfold zcz at h
 simp only [Qi] at h
 have:=h.2
 split at this
 ·rename_i hl; rw [hl]; rfl
 ·cases this
theorem z9z {m:Nat}{ws:List GVal}(h:EnvInv m ws){k:List UInt8}(hk:zjo k ws=false){p:GVal}(hp:GenOk m p)(hpp:zcz p=true)(hkey:zfm p=k):EnvInv m (ws.take (zb4 k ws)++[p]++ws.drop (zb4 k ws)):=by
 have mem:∀ x,x ∈ ws.take (zb4 k ws)++[p]++ws.drop (zb4 k ws)→x ∈ ws ∨ x=p:=fun x h=>by
  simp only [List.mem_append,List.mem_singleton] at h
  rcases h with (h | h) | h
  ·exact .inl (List.mem_of_mem_take h)
  ·exact .inr h
  ·exact .inl (List.mem_of_mem_drop h)
 refine ⟨fun x hx=>?_,fun x hx=>?_, ?_⟩
 ·rcases mem x hx with h1 | rfl
  ·exact h.ok x h1
  ·exact hp
 ·rcases mem x hx with h1 | rfl
  ·exact h.pair x h1
  ·exact hpp
 ·refine zkp (pos:=zb4 k) rfl (fun x r=>?_) ws h.chain (fun x hx=>?_)
  ·simp only [zb4,ltK,hkey]
  ·have hge:∀ (l:List GVal) x,l[zb4 k l]?=some x→bytesLess (zfm x) k=false:=by
    intro l
    induction l with
    | nil=>intro x hx; simp at hx
    | cons y r ih =>
     intro x hx
     simp only [zb4] at hx
     split at hx
     ·exact ih x (by simpa using hx)
     ·rename_i hb; simp at hx; subst hx; simpa using hb
   have h1:=hge ws x hx
   have h2:zfm x ≠ k:=fun e=>by
    unfold zjo at hk
    rw [hx] at hk
    simp only [e,decide_true,Bool.and_true,decide_eq_false_iff_not] at hk
    have:=zkq (h.pair x (List.mem_of_getElem? hx))
    omega
   simp only [ltK,hkey]
   rcases zig k (zfm x) with h3 | h3 | h3
   ·exact h3
   ·exact absurd h3.symm h2
   ·rw [h1] at h3; cases h3
set_option maxHeartbeats 1000000 in
theorem z48 (hfind:ztj E){l:List UInt8}(hnum:zyh E l){deep:Nat}(hg:zyg E l deep){w0:Int}(hw0:IntKind.i64.wrap (w0 - 1)=deep){Q:Ex→St→Prop}
  (hx:∀ tm ws n,zba tm 4 = .ptr 1 0→zba tm 9 = .ptr 6 0→n ≤ l.length→ws.length ≤ 3→EnvInv (2 + bnd deep) ws→Q (.exit 3) ⟨tm,[zf7 l n,zyi,none,none,none,none,Zio 6 ws,none,none,none,none]⟩) :
  ∀ (i:Nat) (ws:List GVal) (n:Nat),i + ws.length ≤ 3→n ≤ l.length→EnvInv (2 + bnd deep) ws →
   LX E z9y ⟨[0,1,4,9,10],[],[],[],[(9,3)],true⟩ 11 ⟨[(0,.ptr 0 0),(1,.d (.i .i64 w0)),(4,.ptr 1 0),(9,.ptr 6 0),(10,.d (.i .i64 i))],[zf7 l n,zyi,none,none,none,none,Zio 6 ws,none,none,none,none]⟩ Q:=by
 intro i
 induction i with
 | zero =>
  intro ws n hi hn hinv
  have h0:¬ ((0:Int) < ((0:Nat):Int)):=by omega
  refine zan (zac (zac ?_))
  refine zaa fun K hK=>?_
  simp only [evW,evX,evM,evN,h0,simprocAttr]
  refine hK _ _ ?_; clear hK K
  refine zaf false rfl (fun h=>by cases h) (fun _=>zb9 ?_)
  exact hx _ ws n rfl rfl hn (by omega) hinv
 | succ i ih =>
  intro ws n hi hn hinv
  have h0:(0:Int) < ((i + 1:Nat):Int):=by omega
  have w1:IntKind.i64.wrap (((i + 1:Nat):Int) - 1)=(i:Int):=by rw [i64_in (by omega) (by omega)]; omega
  obtain ⟨j,n1,hc,j0,j1,hn1⟩:=hnum n hn 3 (by omega)
  obtain ⟨q,rfl⟩:∃ i:Nat,j=i:=⟨j.toNat,by omega⟩
  have ht:∃ x,([[.s [97]],[.s [98]],[.s [99]]]:List (List D))[q]?=some [.s x]∧x.length ≤ 1:=by
   have:q=0 ∨ q=1 ∨ q=2:=by omega
   rcases this with rfl | rfl | rfl <;> exact ⟨_,rfl,by decide⟩
  obtain ⟨x,hx',hxl⟩:=ht
  have hf:=hfind ws x (by omega)
  refine zan (zac (zac ?_))
  refine zaa fun K hK=>?_
  simp only [evW,evX,evM,evN,h0,simprocAttr]
  refine hK _ _ ?_; clear hK K
  refine zaf true rfl (fun _=>zay ?_) (fun h=>by cases h)
  refine zac (za2 ?_)
  refine zac (zaa fun K hK=>?_)
  simp only [evW,evX,evM,evN,evC,far,hc,j0,Qk,hx',simprocAttr]
  refine hK _ _ ?_; clear hK K
  refine zac (zaa fun K hK=>?_)
  simp only [evW,evX,evM,evN,evC,far,hf,simprocAttr]
  refine hK _ _ ?_; clear hK K
  cases hk:zjo x ws with
  | true =>
   refine zac (zaa fun K hK=>?_)
   simp only [evW,evX,evM,evN,simprocAttr]
   refine hK _ _ ?_; clear hK K
   refine zaf false rfl (fun h=>by cases h) (fun _=>zay ?_)
   refine zaa fun K hK=>?_
   simp only [evW,evX,evM,evN,w1,simprocAttr]
   refine hK _ _ ?_; clear hK K
   refine ⟨_, ?_,ih ws n1 (by omega) hn1 hinv⟩
   simp only [evH,evX,evN,simprocAttr]
  | false =>
   obtain ⟨v,n2,hcv,hn2,hok⟩:=hg n1 hn1
   have hle:=zoa x ws
   have p0:(0:Int) ≤ (zb4 x ws:Nat):=by omega
   have hle':((zb4 x ws:Nat):Int) ≤ ws.length:=by omega
   have hlen:(ws.take (zb4 x ws)).length=zb4 x ws:=by simp; omega
   have hlen2:(ws.drop (zb4 x ws)).length=ws.length - zb4 x ws:=by simp
   have r1:zbi ((zb4 x ws)) 56=true:=zb3 (by omega)
   have r2:zbi (zb4 x ws + 1) 56=true:=zb3 (by omega)
   have r3:zbi (zb4 x ws + 1 + (ws.length - zb4 x ws)) 56=true:=zb3 (by omega)
   have hg7:decide (v.kind=7)=false:=by simp [hok.good]
   have hk3:(GVal.mk 3 0 x []).kind=3:=rfl
   let p:GVal:=.mk 4 0 [] [.mk 3 0 x [],v]
   have hp:GenOk (2 + bnd deep) p:=zha (by have:=hok.size; simp only [szL,szN,List.length_nil]; omega) (by decide) (by simp) (by simp [zeq,zxw,zc0,zbv,hok.may,hg7,hk3]) (fun y hy=>by
    simp only [List.mem_cons,List.not_mem_nil,or_false] at hy
    rcases hy with rfl | rfl
    ·exact zih (by simp) (by simp)
    ·exact hok.small) Zbg (fun y hy=>by
    simp only [List.mem_cons,List.not_mem_nil,or_false] at hy
    rcases hy with rfl | rfl
    ·exact ⟨Zbg,by simp [GVal.l]⟩
    ·exact hok.fit)
   have hpp:zcz p=true:=by simp [zcz,p,GVal.kind,GVal.l]
   have hkey:zfm p=x:=by simp [zfm,p,GVal.l,GVal.s]
   refine zac (zaa fun K hK=>?_)
   simp only [evW,evX,evM,evN,simprocAttr]
   refine hK _ _ ?_; clear hK K
   refine zaf true rfl (fun _=>?_) (fun h=>by cases h)
   refine zac (zaz fun K hK=>?_)
   simp only [evW,evX,evM,evN,evC,far,hw0,hcv,simprocAttr]
   refine hK _ _ (by rfl) ?_; clear hK K
   refine zaz fun K hK=>?_
   simp only [evW,evX,evM,evN,zad,p0,hle',Qk,zdd,zcu,hlen,hlen2,Qg,r1,r2,r3,List.take_length,simprocAttr]
   refine hK _ _ (by rfl) ?_; clear hK K
   have hrow:zab (ws.take (zb4 x ws))++[[.i .i64 4,.i .i64 0,.s [],.l 4 [[.i .i64 3,.i .i64 0,.s x,.l 4 []],[.i .i64 v.kind,.i .i64 v.i,.s v.s,.l 4 (zab v.l)]]]]++zab (ws.drop (zb4 x ws))=zab (ws.take (zb4 x ws)++[p]++ws.drop (zb4 x ws)):=by
    simp [zbz,p,GVal.row,zab,zas]
   refine zaa fun K hK=>?_
   simp only [evW,evX,evM,evN,w1,hrow,simprocAttr]
   refine hK _ _ ?_; clear hK K
   refine ⟨_, ?_,ih (ws.take (zb4 x ws)++[p]++ws.drop (zb4 x ws)) n2 (by simp; omega) hn2 (z9z hinv hk hp hpp hkey)⟩
   simp only [evH,evX,evN,simprocAttr]
theorem z90 {m:Nat}{deep:Nat}(hm:1 + 3 * (2 + bnd deep) ≤ m)(hfind:ztj E){l:List UInt8}(hnum:zyh E l)(hg:zyg E l deep){w0:Int}(hw0:IntKind.i64.wrap (w0 - 1)=deep){n:Nat}(hn:n ≤ l.length){tm:List (Nat × V)}(t0:zba tm 0 = .ptr 0 0)(t1:zba tm 1 = .d (.i .i64 w0))(t4:zba tm 4 = .ptr 1 0){Q:Ex→St→Prop}(hQ:∀ s,Zin m l .ret s→Q .ret s) :
  WX E z6t ⟨tm,[zf7 l n,zyi,none,none,none,none]⟩ Q:=by
 obtain ⟨k,n1,hc,k0,k1,hn1⟩:=hnum n hn 3 (by omega)
 obtain ⟨q,rfl⟩:∃ i:Nat,k=i:=⟨k.toNat,by omega⟩
 refine zac (zaa fun K hK=>?_)
 simp only [evW,evX,evM,evN,simprocAttr]
 refine hK _ _ ?_; clear hK K
 refine zac (zac ?_)
 refine zaa fun K hK=>?_
 simp only [evW,evX,evM,evN,evC,far,t0,hc,simprocAttr]
 refine hK _ _ ?_; clear hK K
 refine za2 (zcy ?_)
 simp only [evH,evX,evN,t0,t1,t4,simprocAttr]
 refine z48 hfind hnum hg hw0 (fun tm ws n2 t4 t9 hn2 hl hinv=>?_) q [] n1 (by simp; omega) hn1 ⟨by simp,by simp,rfl⟩
 have hall:ws.all zcz=true:=List.all_eq_true.2 hinv.pair
 refine zac (zaa fun K hK=>?_)
 simp only [evW,evX,evM,evN,t4,t9,simprocAttr]
 refine hK _ _ ?_; clear hK K
 refine zap (hQ _ ⟨.inr rfl,_, ?_,.mk 6 0 [] ws,n2,rfl,hn2,zha (by have:=zwi hinv.ok; have:=Nat.mul_le_mul_right (2 + bnd deep) hl; simp only [List.length_nil]; omega) (by decide) hl (by simp [zeq,zc0,zbv,zuu hinv.ok,hinv.chain]; exact hinv.pair) (fun x hx=>(hinv.ok x hx).small) Zbg (fun x hx=>(hinv.ok x hx).fit)⟩)
 simp only [evR,evX,evC,evN,far,zvl,t4,GVal.arg,GVal.kind,GVal.i,GVal.s,GVal.l,simprocAttr]
set_option maxHeartbeats 1000000 in
theorem z6u (h109:E 109=some (.code zvl))(hins:Zha E)(hfind:ztj E){l:List UInt8}(hnum:zyh E l){deep:Nat}(hd:deep ≤ 100)(hsome:∀ d,deep=d + 1→z43 E l (bnd d) deep)(hgen:∀ d,deep=d + 1→zyg E l d):zyg E l deep:=by
 intro n hn
 obtain ⟨k,n1,hc,k0,k1,hn1⟩:=hnum n hn 9 (by omega)
 have hb3:3 ≤ bnd deep:=by cases deep <;> simp only [bnd] <;> omega
 have:∃ r,lcall E 109 [.ptr 0 0,.d (.i .i64 deep)] [zf7 l n]=some r∧∃ v n',r=(GVal.arg v,[zf7 l n'])∧n' ≤ l.length∧GenOk (bnd deep) v:=by
  refine zkd h109 ?_
  refine zac (zaa fun K hK=>?_)
  simp only [evW,evX,evM,evN,Nat.reduceAdd]
  refine hK _ _ ?_; clear hK K
  refine zac (zac ?_)
  refine zaa fun K hK=>?_
  simp only [evW,evX,evM,evN,evC,far,hc,simprocAttr]
  refine hK _ _ ?_; clear hK K
  refine za2 ?_
  by_cases hk3:k < 3
  ·refine zac (zaa fun K hK=>?_)
   simp only [evW,evX,evM,evN,hk3,simprocAttr]
   refine hK _ _ ?_; clear hK K
   refine zaf true rfl (fun _=>?_) (fun h=>by cases h)
   obtain ⟨j,n2,hc2,j0,j1,hn2⟩:=hnum n1 hn1 7 (by omega)
   obtain ⟨i,rfl⟩:∃ i:Nat,j=i:=⟨j.toNat,by omega⟩
   have ht:∃ x,([[.i .i64 0],[.i .i64 1],[.i .i64 2],[.i .i64 (-1)],[.i .i64 7],[.i .i64 9223372036854775807],[.i .i64 (-9223372036854775808)]]:List (List D))[i]?=some [.i .i64 x]∧z42 x:=by
    have:i=0 ∨ i=1 ∨ i=2 ∨ i=3 ∨ i=4 ∨ i=5 ∨ i=6:=by omega
    rcases this with rfl | rfl | rfl | rfl | rfl | rfl | rfl <;> exact ⟨_,rfl,by unfold z42; omega⟩
   obtain ⟨x,hx,hxf⟩:=ht
   refine zac (zaa fun K hK=>?_)
   simp only [evW,evX,evM,evN,evC,far,hc2,j0,Qk,hx,simprocAttr]
   refine hK _ _ ?_; clear hK K
   refine zap ⟨.inr rfl,_, ?_,.mk 1 x [] [],n2,rfl,hn2,zha (by simp only [szL,List.length_nil]; omega) (by decide) (by simp) (by simp [zeq,zc0,zbv,zxw]) (by simp) hxf (by simp)⟩
   simp only [evR,evX,evC,evN,far,zvl,GVal.arg,GVal.kind,GVal.i,GVal.s,GVal.l,zab,simprocAttr]
  ·refine zac (zaa fun K hK=>?_)
   simp only [evW,evX,evM,evN,hk3,simprocAttr]
   refine hK _ _ ?_; clear hK K
   refine zaf false rfl (fun h=>by cases h) (fun _=>?_)
   by_cases hk4:k=3
   ·refine zac (zaa fun K hK=>?_)
    simp only [evW,evX,evM,evN,eq_true hk4,simprocAttr]
    refine hK _ _ ?_; clear hK K
    refine zaf true rfl (fun _=>?_) (fun h=>by cases h)
    obtain ⟨j,n2,hc2,j0,j1,hn2⟩:=hnum n1 hn1 2 (by omega)
    refine zac (zaa fun K hK=>?_)
    simp only [evW,evX,evM,evN,evC,far,hc2,simprocAttr]
    refine hK _ _ ?_; clear hK K
    refine zap ⟨.inr rfl,_, ?_,.mk 2 j [] [],n2,rfl,hn2,zha (by simp only [szL,List.length_nil]; omega) (by decide) (by simp) (by have this:j=0 ∨ j=1:=(by omega); simp [zeq,zc0,zbv,zxw,this]) (by simp) (by unfold z42; omega) (by simp)⟩
    simp only [evR,evX,evC,evN,far,zvl,GVal.arg,GVal.kind,GVal.i,GVal.s,GVal.l,zab,simprocAttr]
   ·refine zac (zaa fun K hK=>?_)
    simp only [evW,evX,evM,evN,hk4,simprocAttr]
    refine hK _ _ ?_; clear hK K
    refine zaf false rfl (fun h=>by cases h) (fun _=>?_)
    by_cases hk5:k=4
    ·refine zac (zaa fun K hK=>?_)
     simp only [evW,evX,evM,evN,eq_true hk5,simprocAttr]
     refine hK _ _ ?_; clear hK K
     refine zaf true rfl (fun _=>?_) (fun h=>by cases h)
     refine z0v hb3 hnum hn1 ?_ ?_ (fun s h=>h) <;> rfl
    ·by_cases hd0:(deep:Int)=0
     ·refine zac (zaa fun K hK=>?_)
      simp only [evW,evX,evM,evN,hk5,eq_true hd0,simprocAttr]
      refine hK _ _ ?_; clear hK K
      refine zaf true rfl (fun _=>?_) (fun h=>by cases h)
      refine z0v hb3 hnum hn1 ?_ ?_ (fun s h=>h) <;> rfl
     ·refine zac (zaa fun K hK=>?_)
      simp only [evW,evX,evM,evN,hk5,hd0,simprocAttr]
      refine hK _ _ ?_; clear hK K
      refine zaf false rfl (fun h=>by cases h) (fun _=>?_)
      by_cases hk6:k=5
      ·refine zac (zaa fun K hK=>?_)
       simp only [evW,evX,evM,evN,eq_true hk6,simprocAttr]
       refine hK _ _ ?_; clear hK K
       refine zaf true rfl (fun _=>?_) (fun h=>by cases h)
       obtain ⟨d',rfl⟩:∃ d',deep=d' + 1:=⟨deep - 1,by omega⟩
       refine z45 (q:=bnd d') (by simp only [bnd]; omega) (hsome d' rfl) hn1 ?_ ?_ ?_ (fun s h=>h) <;> rfl
      ·refine zac (zaa fun K hK=>?_)
       simp only [evW,evX,evM,evN,hk6,simprocAttr]
       refine hK _ _ ?_; clear hK K
       refine zaf false rfl (fun h=>by cases h) (fun _=>?_)
       by_cases hk7:k=6
       ·refine zac (zaa fun K hK=>?_)
        simp only [evW,evX,evM,evN,eq_true hk7,simprocAttr]
        refine hK _ _ ?_; clear hK K
        refine zaf true rfl (fun _=>?_) (fun h=>by cases h)
        obtain ⟨d',rfl⟩:∃ d',deep=d' + 1:=⟨deep - 1,by omega⟩
        refine z9x (q:=bnd d') (by simp only [bnd]; omega) hins (hsome d' rfl) hn1 ?_ ?_ ?_ (fun s h=>h) <;> rfl
       ·refine zac (zaa fun K hK=>?_)
        simp only [evW,evX,evM,evN,hk7,simprocAttr]
        refine hK _ _ ?_; clear hK K
        refine zaf false rfl (fun h=>by cases h) (fun _=>zay ?_)
        obtain ⟨d',rfl⟩:∃ d',deep=d' + 1:=⟨deep - 1,by omega⟩
        have hw0:IntKind.i64.wrap (((d' + 1:Nat):Int) - 1)=d':=by rw [i64_in (by omega) (by omega)]; omega
        refine z90 (deep:=d') (by simp only [bnd]; omega) hfind hnum (hgen d' rfl) hw0 hn1 ?_ ?_ ?_ (fun s h=>h) <;> rfl
 obtain ⟨r,h1,v,n',rfl,h2⟩:=this
 exact ⟨v,n',h1,h2⟩
theorem z6v (h109:E 109=some (.code zvl))(h124:E 124=some (.code z8a))(hins:Zha E)(hfind:ztj E){l:List UInt8}(hnum:zyh E l):∀ (deep:Nat),deep ≤ 100→zyg E l deep
 | 0,hd=>z6u h109 hins hfind hnum hd (fun d h=>by omega) (fun d h=>by omega)
 | d + 1,hd=>by
  have ih:=z6v h109 h124 hins hfind hnum d (by omega)
  exact z6u h109 hins hfind hnum hd (fun d' h=>by cases h; exact z9s h124 hnum (by omega) ih) (fun d' h=>by cases h; exact ih)
end Ab.Vx
