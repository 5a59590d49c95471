/-
 Searching a row: the program's Find, place.
-/
import Derived.Test.YtblhbdagpefloaaGreatDoorText3
import Derived.Test.YtblhbdagpefloaaGreatDoorPack5
import Derived.Test.YtblhbdagpefloaaGreatDoorPack4
import Derived.Test.YtblhbdagpefloaaGreatDoorText0
set_option linter.unusedSimpArgs false
set_option linter.unusedVariables false
set_option linter.unusedSectionVars false
set_option linter.unnecessarySimpa false
set_option maxRecDepth 100000
namespace Ab.Vx
open Go
variable {E:Nat→Option Fn}
theorem Zkr (n:Nat)(h:n ≤ 1000000):binOp .shr (.d (.i .u64 (n:Int))) (.d (.i .u64 1))=some (.i .u64 ((n / 2:Nat):Int)):=by
 simp [binOp,zc4,zmg,IntKind.bits]
 exact Int.fdiv_eq_ediv_of_nonneg _ (by omega)
theorem z6z {n:Nat}(h:n ≤ 1000000):IntKind.u64.wrap (n:Int)=(n:Int):=by
 simp only [IntKind.wrap,IntKind.bits,IntKind.signed,Bool.false_and,Qm,if_false]
 omega
structure Part (l:List GVal)(c:GVal→Int)(p:Nat):Prop where
 le:p ≤ l.length
 lo:∀ i x,i < p→l[i]?=some x→c x < 0
 hi:∀ i x,p ≤ i→l[i]?=some x→0 ≤ c x
def z1i:CCode:=match z3h.body with
 | .seq _ (.seq _ (.seq _ (.seq (.block _ (.loop _ c)) _)))=>c
 | _=>.skip
theorem zx3 {f:Nat}{l:List GVal}(hl:l.length ≤ 1000){t:List UInt8}{c:GVal→Int}(ih:∀ x ∈ l,lcall E f [x.arg,.d (.s t)] []=some (.d (.i .i64 (c x)),[])){p:Nat}(hp:Part l c p){Q:Ex→St→Prop}
  (hx:∀ tm,zba tm 0 = .d (.l 4 (zab l))→zba tm 2 = .d (.f f [] [])→zba tm 8 = .d (.i .i64 l.length)→zba tm 9 = .d (.i .i64 p)→zba tm 1 = .d (.s t)→Q (.exit 0) ⟨tm,[]⟩) :
  ∀ (n i j:Nat),j ≤ i + n→i ≤ p→p ≤ j→j ≤ l.length→LX E z1i ⟨[0,1,2,8,9,10],[],[],[],[],true⟩ 0 ⟨[(0,.d (.l 4 (zab l))),(1,.d (.s t)),(2,.d (.f f [] [])),(8,.d (.i .i64 l.length)),(9,.d (.i .i64 i)),(10,.d (.i .i64 j))],[]⟩ Q:=by
 intro n
 induction n with
 | zero =>
  intro i j h1 h2 h3 h4
  have hn:¬ ((i:Int) < j):=by omega
  obtain rfl:i=p:=by omega
  refine zan (zac (zac ?_))
  refine zaa fun K hK=>?_
  simp only [evW,evX,evM,evN,hn,simprocAttr]
  refine hK _ _ ?_; clear hK K
  refine zaf false rfl (fun h=>by cases h) (fun _=>zb9 ?_)
  exact hx _ rfl rfl rfl rfl rfl
 | succ n ihn =>
  intro i j h1 h2 h3 h4
  refine zan (zac (zac ?_))
  by_cases hij:i < j
  ·have hy:(i:Int) < j:=by omega
   have w1:IntKind.i64.wrap ((i:Int) + (j:Int))=((i + j:Nat):Int):=by rw [i64_in (by omega) (by omega)]; omega
   have w2:=z6z (n:=i + j) (by omega)
   have w3:=Zkr (i + j) (by omega)
   have hlt:(i + j) / 2 < j:=by omega
   have hge:i ≤ (i + j) / 2:=by omega
   generalize hh:(i + j) / 2=h at *
   have w4:IntKind.i64.wrap (h:Int)=(h:Int):=i64_in (by omega) (by omega)
   have w5:IntKind.i64.wrap ((h:Int) + 1)=((h + 1:Nat):Int):=by rw [i64_in (by omega) (by omega)]; omega
   have la:h < l.length:=by omega
   have h0:(0:Int) ≤ h:=by omega
   have ga:(zab l)[h]?=some (GVal.row l[h]):=by rw [zaw,Qd la]; rfl
   have hcall:=ih l[h] (List.getElem_mem la)
   have hlo:h < p→c l[h] < 0:=fun hh=>hp.lo h _ hh (Qd la)
   have hhi:p ≤ h→0 ≤ c l[h]:=fun hh=>hp.hi h _ hh (Qd la)
   generalize l[h]=x at *
   refine zaa fun K hK=>?_
   simp only [evW,evX,evM,evN,hy,simprocAttr]
   refine hK _ _ ?_; clear hK K
   refine zaf true rfl (fun _=>zay ?_) (fun h=>by cases h)
   refine za2 ?_
   refine zac (zaa fun K hK=>?_)
   simp only [evW,evX,evM,evN,w1,w2,w3,w4,simprocAttr]
   refine hK _ _ ?_; clear hK K
   refine zac ?_
   by_cases hc:c x < 0
   ·refine zaa fun K hK=>?_
    simp only [evW,evX,evM,evN,evC,far,h0,Qk,ga,zas,hcall,hc,simprocAttr]
    refine hK _ _ ?_; clear hK K
    refine zaf true rfl (fun _=>?_) (fun h=>by cases h)
    refine zaa fun K hK=>?_
    simp only [evW,evX,evM,evN,w5,simprocAttr]
    refine hK _ _ ?_; clear hK K
    have:h < p:=by
     rcases Qn h p with q | q
     ·exact q
     ·have:=hhi q; omega
    refine ⟨_, ?_,ihn (h + 1) j (by omega) (by omega) h3 h4⟩
    simp only [evH,evX,evN,simprocAttr]
   ·refine zaa fun K hK=>?_
    simp only [evW,evX,evM,evN,evC,far,h0,Qk,ga,zas,hcall,hc,simprocAttr]
    refine hK _ _ ?_; clear hK K
    refine zaf false rfl (fun h=>by cases h) (fun _=>?_)
    refine zaa fun K hK=>?_
    simp only [evW,evX,evM,evN,simprocAttr]
    refine hK _ _ ?_; clear hK K
    have:p ≤ h:=by
     rcases Qn h p with q | q
     ·have:=hlo q; omega
     ·exact q
    refine ⟨_, ?_,ihn i h (by omega) h2 this (by omega)⟩
    simp only [evH,evX,evN,simprocAttr]
  ·have hn:¬ ((i:Int) < j):=by omega
   obtain rfl:i=p:=by omega
   refine zaa fun K hK=>?_
   simp only [evW,evX,evM,evN,hn,simprocAttr]
   refine hK _ _ ?_; clear hK K
   refine zaf false rfl (fun h=>by cases h) (fun _=>zb9 ?_)
   exact hx _ rfl rfl rfl rfl rfl
def zto (l:List GVal)(c:GVal→Int)(p:Nat):Bool:=match l[p]? with
 | some x=>decide (c x=0)
 | none=>false
theorem z5j (h150:E 150=some (.code z3h)){f:Nat}{l:List GVal}(hl:l.length ≤ 1000){t:List UInt8}{c:GVal→Int}(ih:∀ x ∈ l,lcall E f [x.arg,.d (.s t)] []=some (.d (.i .i64 (c x)),[])){p:Nat}(hp:Part l c p) :
  lcall E 150 [.d (.l 4 (zab l)),.d (.s t),.d (.f f [] [])] []=some (.tup [.d (.i .i64 p),.d (.b (zto l c p))],[]):=by
 refine zbc h150 ?_
 refine zac (zaa fun K hK=>?_)
 simp only [evW,evX,evM,evN,Nat.reduceAdd]
 refine hK _ _ ?_; clear hK K
 refine zac (zaa fun K hK=>?_)
 simp only [evW,evX,evM,evN,zad,simprocAttr]
 refine hK _ _ ?_; clear hK K
 refine zac (zaa fun K hK=>?_)
 simp only [evW,evX,evM,evN,simprocAttr]
 refine hK _ _ ?_; clear hK K
 refine zac (za2 (zcy ?_))
 simp only [evH,evX,evN,simprocAttr]
 refine zx3 hl ih hp (fun tm t0 t2 t8 t9 t4=>?_) l.length 0 l.length (by omega) (by omega) hp.le (by omega)
 have hle:=hp.le
 by_cases hlt:p < l.length
 ·have ga:(zab l)[p]?=some (GVal.row l[p]):=by rw [zaw,Qd hlt]; rfl
  have hh:zto l c p=decide (c l[p]=0):=by unfold zto; rw [Qd hlt]
  have hcall:=ih l[p] (List.getElem_mem hlt)
  have hy:(p:Int) < l.length:=by omega
  have h0:(0:Int) ≤ p:=by omega
  rw [hh]
  generalize l[p]=x at *
  refine zac (zaa fun K hK=>?_)
  simp only [evW,evX,evM,evN,evC,far,t0,t2,t8,t9,t4,hy,h0,Qk,ga,zas,hcall,simprocAttr]
  refine hK _ _ ?_; clear hK K
  refine zap ⟨.inr rfl, ?_⟩
  simp only [evR,evX,evC,evN,far,z3h,simprocAttr]
 ·have hy:¬ ((p:Int) < l.length):=by omega
  have hh:zto l c p=false:=by unfold zto; rw [Qe (by omega)]
  rw [hh]
  refine zac (zaa fun K hK=>?_)
  simp only [evW,evX,evM,evN,t8,t9,hy,simprocAttr]
  refine hK _ _ ?_; clear hK K
  refine zap ⟨.inr rfl, ?_⟩
  simp only [evR,evX,evC,evN,far,z3h,simprocAttr]
def z1j:CCode:=match z3g.body with
 | .seq _ (.seq _ (.seq _ (.seq (.block _ (.loop _ c)) _)))=>c
 | _=>.skip
theorem zx4 {f:Nat}{l:List GVal}(hl:l.length ≤ 1000){t:GVal}{c:GVal→Int}(ih:∀ x ∈ l,lcall E f [x.arg,t.arg] []=some (.d (.i .i64 (c x)),[])){p:Nat}(hp:Part l c p){Q:Ex→St→Prop}
  (hx:∀ tm,zba tm 0 = .d (.l 4 (zab l))→zba tm 2 = .d (.f f [] [])→zba tm 8 = .d (.i .i64 l.length)→zba tm 9 = .d (.i .i64 p)→zba tm 4 = .ptr 0 0→Q (.exit 0) ⟨tm,[zmd t]⟩) :
  ∀ (n i j:Nat),j ≤ i + n→i ≤ p→p ≤ j→j ≤ l.length→LX E z1j ⟨[0,2,4,8,9,10],[],[],[],[],true⟩ 1 ⟨[(0,.d (.l 4 (zab l))),(2,.d (.f f [] [])),(4,.ptr 0 0),(8,.d (.i .i64 l.length)),(9,.d (.i .i64 i)),(10,.d (.i .i64 j))],[zmd t]⟩ Q:=by
 intro n
 induction n with
 | zero =>
  intro i j h1 h2 h3 h4
  have hn:¬ ((i:Int) < j):=by omega
  obtain rfl:i=p:=by omega
  refine zan (zac (zac ?_))
  refine zaa fun K hK=>?_
  simp only [evW,evX,evM,evN,hn,simprocAttr]
  refine hK _ _ ?_; clear hK K
  refine zaf false rfl (fun h=>by cases h) (fun _=>zb9 ?_)
  exact hx _ rfl rfl rfl rfl rfl
 | succ n ihn =>
  intro i j h1 h2 h3 h4
  refine zan (zac (zac ?_))
  by_cases hij:i < j
  ·have hy:(i:Int) < j:=by omega
   have w1:IntKind.i64.wrap ((i:Int) + (j:Int))=((i + j:Nat):Int):=by rw [i64_in (by omega) (by omega)]; omega
   have w2:=z6z (n:=i + j) (by omega)
   have w3:=Zkr (i + j) (by omega)
   have hlt:(i + j) / 2 < j:=by omega
   have hge:i ≤ (i + j) / 2:=by omega
   generalize hh:(i + j) / 2=h at *
   have w4:IntKind.i64.wrap (h:Int)=(h:Int):=i64_in (by omega) (by omega)
   have w5:IntKind.i64.wrap ((h:Int) + 1)=((h + 1:Nat):Int):=by rw [i64_in (by omega) (by omega)]; omega
   have la:h < l.length:=by omega
   have h0:(0:Int) ≤ h:=by omega
   have ga:(zab l)[h]?=some (GVal.row l[h]):=by rw [zaw,Qd la]; rfl
   have hcall:=ih l[h] (List.getElem_mem la)
   have hlo:h < p→c l[h] < 0:=fun hh=>hp.lo h _ hh (Qd la)
   have hhi:p ≤ h→0 ≤ c l[h]:=fun hh=>hp.hi h _ hh (Qd la)
   generalize l[h]=x at *
   refine zaa fun K hK=>?_
   simp only [evW,evX,evM,evN,hy,simprocAttr]
   refine hK _ _ ?_; clear hK K
   refine zaf true rfl (fun _=>zay ?_) (fun h=>by cases h)
   refine za2 ?_
   refine zac (zaa fun K hK=>?_)
   simp only [evW,evX,evM,evN,w1,w2,w3,w4,simprocAttr]
   refine hK _ _ ?_; clear hK K
   refine zac ?_
   by_cases hc:c x < 0
   ·refine zaz fun K hK=>?_
    simp only [evW,evX,evM,evN,evC,far,h0,Qk,ga,zas,hcall,hc,simprocAttr]
    refine hK _ _ (by rfl) ?_; clear hK K
    refine zaf true rfl (fun _=>?_) (fun h=>by cases h)
    refine zaa fun K hK=>?_
    simp only [evW,evX,evM,evN,w5,simprocAttr]
    refine hK _ _ ?_; clear hK K
    have:h < p:=by
     rcases Qn h p with q | q
     ·exact q
     ·have:=hhi q; omega
    refine ⟨_, ?_,ihn (h + 1) j (by omega) (by omega) h3 h4⟩
    simp only [evH,evX,evN,simprocAttr]
   ·refine zaz fun K hK=>?_
    simp only [evW,evX,evM,evN,evC,far,h0,Qk,ga,zas,hcall,hc,simprocAttr]
    refine hK _ _ (by rfl) ?_; clear hK K
    refine zaf false rfl (fun h=>by cases h) (fun _=>?_)
    refine zaa fun K hK=>?_
    simp only [evW,evX,evM,evN,simprocAttr]
    refine hK _ _ ?_; clear hK K
    have:p ≤ h:=by
     rcases Qn h p with q | q
     ·have:=hlo q; omega
     ·exact q
    refine ⟨_, ?_,ihn i h (by omega) h2 this (by omega)⟩
    simp only [evH,evX,evN,simprocAttr]
  ·have hn:¬ ((i:Int) < j):=by omega
   obtain rfl:i=p:=by omega
   refine zaa fun K hK=>?_
   simp only [evW,evX,evM,evN,hn,simprocAttr]
   refine hK _ _ ?_; clear hK K
   refine zaf false rfl (fun h=>by cases h) (fun _=>zb9 ?_)
   exact hx _ rfl rfl rfl rfl rfl
theorem z5k (h147:E 147=some (.code z3g)){f:Nat}{l:List GVal}(hl:l.length ≤ 1000){t:GVal}{c:GVal→Int}(ih:∀ x ∈ l,lcall E f [x.arg,t.arg] []=some (.d (.i .i64 (c x)),[])){p:Nat}(hp:Part l c p) :
  lcall E 147 [.d (.l 4 (zab l)),t.arg,.d (.f f [] [])] []=some (.tup [.d (.i .i64 p),.d (.b (zto l c p))],[]):=by
 refine zbc h147 ?_
 refine zac (zaa fun K hK=>?_)
 simp only [evW,evX,evM,evN,simprocAttr]
 refine hK _ _ ?_; clear hK K
 refine zac (zaa fun K hK=>?_)
 simp only [evW,evX,evM,evN,zad,simprocAttr]
 refine hK _ _ ?_; clear hK K
 refine zac (zaa fun K hK=>?_)
 simp only [evW,evX,evM,evN,simprocAttr]
 refine hK _ _ ?_; clear hK K
 refine zac (za2 (zcy ?_))
 simp only [evH,evX,evN,simprocAttr]
 refine zx4 hl ih hp (fun tm t0 t2 t8 t9 t4=>?_) l.length 0 l.length (by omega) (by omega) hp.le (by omega)
 have hle:=hp.le
 by_cases hlt:p < l.length
 ·have ga:(zab l)[p]?=some (GVal.row l[p]):=by rw [zaw,Qd hlt]; rfl
  have hh:zto l c p=decide (c l[p]=0):=by unfold zto; rw [Qd hlt]
  have hcall:=ih l[p] (List.getElem_mem hlt)
  have hy:(p:Int) < l.length:=by omega
  have h0:(0:Int) ≤ p:=by omega
  rw [hh]
  generalize l[p]=x at *
  refine zac (zaz fun K hK=>?_)
  simp only [evW,evX,evM,evN,evC,far,t0,t2,t8,t9,t4,hy,h0,Qk,ga,zas,hcall,simprocAttr]
  refine hK _ _ (by rfl) ?_; clear hK K
  refine zap ⟨.inr rfl, ?_⟩
  simp only [evR,evX,evC,evN,far,z3g,simprocAttr]
 ·have hy:¬ ((p:Int) < l.length):=by omega
  have hh:zto l c p=false:=by unfold zto; rw [Qe (by omega)]
  rw [hh]
  refine zac (zaz fun K hK=>?_)
  simp only [evW,evX,evM,evN,t8,t9,hy,simprocAttr]
  refine hK _ _ (by rfl) ?_; clear hK K
  refine zap ⟨.inr rfl, ?_⟩
  simp only [evR,evX,evC,evN,far,z3g,simprocAttr]
theorem zu2 (h135:E 135=some (.code Za3))(h150:E 150=some (.code z3h)){f:Nat}{l:List GVal}(hl:l.length ≤ 1000){t:List UInt8}{c:GVal→Int}(ih:∀ x ∈ l,lcall E f [x.arg,.d (.s t)] []=some (.d (.i .i64 (c x)),[])){p:Nat}(hp:Part l c p) :
  lcall E 135 [.d (.l 4 (zab l)),.d (.s t),.d (.f f [] [])] []=some (.tup [.d (.i .i64 p),.d (.b (zto l c p))],[]):=by
 have:=z5j h150 hl ih hp
 refine zbc h135 ?_
 refine zac (zaa fun K hK=>?_)
 simp only [evW,evX,evM,evN,Nat.reduceAdd]
 refine hK _ _ ?_; clear hK K
 refine zac (zaa fun K hK=>?_)
 simp only [evW,evX,evM,evN,evC,far,this,simprocAttr]
 refine hK _ _ ?_; clear hK K
 refine zap ⟨.inr rfl, ?_⟩
 simp only [evR,evX,evC,evN,far,Za3,simprocAttr]
theorem zu3 (h133:E 133=some (.code Za2))(h147:E 147=some (.code z3g)){f:Nat}{l:List GVal}(hl:l.length ≤ 1000){t:GVal}{c:GVal→Int}(ih:∀ x ∈ l,lcall E f [x.arg,t.arg] []=some (.d (.i .i64 (c x)),[])){p:Nat}(hp:Part l c p) :
  lcall E 133 [.d (.l 4 (zab l)),t.arg,.d (.f f [] [])] []=some (.tup [.d (.i .i64 p),.d (.b (zto l c p))],[]):=by
 have:=z5k h147 hl ih hp
 refine zbc h133 ?_
 refine zac (zaa fun K hK=>?_)
 simp only [evW,evX,evM,evN,simprocAttr]
 refine hK _ _ ?_; clear hK K
 refine zac (zaa fun K hK=>?_)
 simp only [evW,evX,evM,evN,evC,far,this,simprocAttr]
 refine hK _ _ ?_; clear hK K
 refine zap ⟨.inr rfl, ?_⟩
 simp only [evR,evX,evC,evN,far,Za2,simprocAttr]
def z5l (k:List UInt8)(x:GVal):Int:=c3 (bytesLess (zfm x) k) (!(bytesLess (zfm x) k || zfm x == k))
theorem z5m (h136:E 136=some (.code Zfj))(h137:∀ v:GVal,lcall E 137 [v.arg] []=some (.d (.s (zfm v)),[]))(zw5:∀ x y:List UInt8,lcall E 129 [.d (.s x),.d (.s y)] []=some (.d (.i .i64 (c3 (bytesLess x y) (!(bytesLess x y || x == y)))),[]))(x:GVal)(k:List UInt8) :
  lcall E 136 [x.arg,.d (.s k)] []=some (.d (.i .i64 (z5l k x)),[]):=by
 have hk:=h137 x
 refine zbc h136 ?_
 refine zac (zaa fun K hK=>?_)
 simp only [evW,evX,evM,evN,simprocAttr]
 refine hK _ _ ?_; clear hK K
 refine zac (zaa fun K hK=>?_)
 simp only [evW,evX,evM,evN,evC,far,hk,zw5,simprocAttr]
 refine hK _ _ ?_; clear hK K
 refine zap ⟨.inr rfl, ?_⟩
 simp only [evR,evX,evC,evN,↓reduceIte,far,Zfj]
 rfl
theorem zwp (k:List UInt8)(x:GVal):z5l k x < 0 ↔ bytesLess (zfm x) k=true:=by
 have:=z5z (zfm x) k
 exact ⟨fun h=>this ▸ Ql h,fun h=>of_decide_eq_true (this.trans h)⟩
theorem z1k (k:List UInt8)(x:GVal):z5l k x=0 ↔ zfm x=k:=by
 unfold z5l c3
 rcases zig (zfm x) k with h | h | h
 ·have:zfm x ≠ k:=fun e=>by rw [e,zec] at h; cases h
  simp [h,this]
 ·subst h; simp [zec]
 ·have h2:=zmr h
  have:zfm x ≠ k:=fun e=>by rw [e,zec] at h; cases h
  simp [h2,this]
theorem zwq (k:List UInt8):∀ {l:List GVal},zbe ltK l=true→Part l (z5l k) (zb4 k l)
 | [],_=>⟨Nat.zero_le _,fun i x h=>by simp [zb4] at h,fun i x _ h=>by simp at h⟩
 | x :: r,h=>by
  have ih:=zwq k (zll h)
  have hall:=zoc z0t h
  simp only [zb4]
  split
  ·rename_i hb
   refine ⟨by simpa using ih.le,fun i y hi hy=>?_,fun i y hi hy=>?_⟩
   ·cases i with
    | zero=>simp at hy; subst hy; exact (zwp k x).2 hb
    | succ i=>exact ih.lo i y (by omega) (by simpa using hy)
   ·cases i with
    | zero=>omega
    | succ i=>exact ih.hi i y (by omega) (by simpa using hy)
  ·rename_i hb
   have ge:∀ y,y=x ∨ y ∈ r→0 ≤ z5l k y:=fun y hy=>by
    rcases Int.lt_or_le (z5l k y) 0 with hlt | hge
    ·exfalso
     have h1:=(zwp k y).1 hlt
     rcases hy with rfl | hy
     ·exact hb h1
     ·exact hb (zkn (hall y hy) h1)
    ·exact hge
   refine ⟨Nat.zero_le _,fun i y hi=>by omega,fun i y _ hy=>ge y ?_⟩
   have:=List.mem_of_getElem? hy
   simpa using this
theorem Zaf (h119:E 119=some (.code Zfi))(h135:E 135=some (.code Za3))(h150:E 150=some (.code z3h))(h136:∀ (x:GVal) (k:List UInt8),lcall E 136 [x.arg,.d (.s k)] []=some (.d (.i .i64 (z5l k x)),[])){l:List GVal}(hl:l.length ≤ 1000)(hch:zbe ltK l=true)(hne:∀ x ∈ l,0 < x.l.length)(k:List UInt8) :
  lcall E 119 [.d (.l 4 (zab l)),.d (.s k)] []=some (.tup [.d (.i .i64 (zb4 k l:Nat)),.d (.b (zjo k l))],[]):=by
 have:=zu2 h135 h150 (f:=136) hl (t:=k) (fun x _=>h136 x k) (zwq k hch)
 have hh:zto l (z5l k) (zb4 k l)=zjo k l:=by
  unfold zto zjo
  cases hx:l[zb4 k l]? with
  | none=>rfl
  | some x =>
   have h1:=hne x (List.mem_of_getElem? hx)
   have h2:=z1k k x
   simp only [h1,decide_true,Bool.true_and,h2]
 rw [hh] at this
 refine zbc h119 ?_
 refine zac (zaa fun K hK=>?_)
 simp only [evW,evX,evM,evN,Nat.reduceAdd]
 refine hK _ _ ?_; clear hK K
 refine zac (zaa fun K hK=>?_)
 simp only [evW,evX,evM,evN,evC,far,this,simprocAttr]
 refine hK _ _ ?_; clear hK K
 refine zap ⟨.inr rfl, ?_⟩
 simp only [evR,evX,evC,evN,far,Zfi,simprocAttr]
theorem zwr (v:GVal):∀ {l:List GVal},zbe ltV l=true→Part l (fun x=>zda x v) (zdp v l)
 | [],_=>⟨Nat.zero_le _,fun i x h=>by simp [zdp] at h,fun i x _ h=>by simp at h⟩
 | x :: r,h=>by
  have ih:=zwr v (zll h)
  have hall:=zoc z0s h
  simp only [zdp]
  split
  ·rename_i hb
   refine ⟨by simpa using ih.le,fun i y hi hy=>?_,fun i y hi hy=>?_⟩
   ·cases i with
    | zero=>simp at hy; subst hy; exact hb
    | succ i=>exact ih.lo i y (by omega) (by simpa using hy)
   ·cases i with
    | zero=>omega
    | succ i=>exact ih.hi i y (by omega) (by simpa using hy)
  ·rename_i hb
   have ge:∀ y,y=x ∨ y ∈ r→0 ≤ zda y v:=fun y hy=>by
    rcases Int.lt_or_le (zda y v) 0 with hlt | hge
    ·exfalso
     rcases hy with rfl | hy
     ·exact hb hlt
     ·have:=hall y hy
      simp only [ltV,Qh] at this
      exact hb (zti x y v this hlt)
    ·exact hge
   refine ⟨Nat.zero_le _,fun i y hi=>by omega,fun i y _ hy=>ge y ?_⟩
   have:=List.mem_of_getElem? hy
   simpa using this
open Go
def zoh (v:GVal):V × List (Option Obj):=(.agg [.d (.i .i64 v.kind),.d (.i .i64 v.i),.d (.s v.s),.arr 0 0 0 v.l.length],[some (.arr 0 4 ((zab v.l).map ofDs))])
theorem zii (h146:E 146=some (.prim (zex 4 56)))(l:List GVal)(hl:l.length ≤ 1000):lcall E 146 [.d (.l 4 (zab l))] []=some (.arr 0 0 0 l.length,[some (.arr 0 4 ((zab l).map ofDs))]):=by
 have r:zbi (zab l).length 56=true:=zb3 (by rw [zad]; omega)
 rw [zad] at r
 rw [zff h146]
 simp only [zex,zad,r,and_self,if_true]
theorem ztp:∀ (ds:List D),V.toDs (ofDs ds)=some ds
 | []=>rfl
 | d :: ds=>by
  have:=ztp ds
  unfold ofDs at *
  simp only [Qb,V.toDs,V.toD,this]
theorem zij:∀ (rs:List (List D)),zhp (rs.map ofDs)=some rs
 | []=>rfl
 | r :: rs=>by simp only [Qb,zhp,ztp,zij rs]
theorem ztq (obj:Nat→Option Obj){id:Nat}(l:List GVal)(hl:l.length ≤ 1001)(ho:obj id=some (.arr 0 4 ((zab l).map ofDs))):V.lend obj far (.arr id 0 0 l.length)=some (.l 4 (zab l)):=by
 have h2:(zab l).take l.length=zab l:=by rw [← zad,List.take_length]
 have:=zvc (len:=l.length) (off:=0) (n:=4) ho (fun r hr=>by
  rw [zbz] at hr
  obtain ⟨x,_,rfl⟩:=List.mem_map.1 hr
  simp [zas]) (by rw [zad]; omega) (by rw [zad]; omega)
 rw [this,List.drop_zero,h2]
theorem zhc:∀ (l:List (List D)),zch (l.map ofDs)=[]
 | []=>rfl
 | r :: l=>by
  have:∀ (ds:List D),V.refsAll (ofDs ds)=[]:=fun ds=>by
   induction ds with
   | nil=>rfl
   | cons d ds ih=>unfold ofDs at *; simp only [Qb,V.refsAll,V.refs,ih,List.nil_append]
  simp only [Qb,zch,this,zhc l,List.nil_append]
theorem zhd (a b c:D)(l:List GVal)(hl:l.length ≤ 1001):zde 0 (.agg [.d a,.d b,.d c,.arr 0 0 0 l.length]) [some (.arr 0 4 ((zab l).map ofDs))]=some (.agg [.d a,.d b,.d c,.d (.l 4 (zab l))],[]):=by
 have h1:=ztq (fun i=>([some (Obj.arr 0 4 ((zab l).map ofDs))][i]?).join) (id:=0) l hl rfl
 have h2:zb5 (fun i=>([some (Obj.arr 0 4 ((zab l).map ofDs))][i]?).join) far [0] []=some [0]:=by simp [zb5,far,Obj.refs,zhc]
 have h3:zb5 (fun i=>([some (Obj.arr 0 4 ((zab l).map ofDs))][i]?).join) far [] []=some []:=rfl
 have hf:z25 0 (fun i=>([some (Obj.arr 0 4 ((zab l).map ofDs))][i]?).join) (.agg [.d a,.d b,.d c,.arr 0 0 0 l.length])=some (.agg [.d a,.d b,.d c,.d (.l 4 (zab l))]):=by
  simp only [z25,z78,zo6,z77,Nat.le_refl,if_true,h1]
 unfold zde
 rw [show zd1 0 (.agg [.d a,.d b,.d c,.arr 0 0 0 l.length])=[0] by simp [zd1,zf0,zdj,V.arrIds]]
 simp only [hf,h2]
 simp [V.refs,V.refsAll,h3,zbp,V.ren,V.renAll]
theorem zoi (f g:Nat→Nat):∀ (ds:List D),V.renAll f g (ofDs ds)=ofDs ds
 | []=>rfl
 | d :: ds=>by
  have:=zoi f g ds
  unfold ofDs at *
  simp only [Qb,V.renAll,V.ren,this]
theorem zct (f g:Nat→Nat):∀ (rs:List (List D)),zdz f g (rs.map ofDs)=rs.map ofDs
 | []=>rfl
 | r :: rs=>by simp only [Qb,zdz,zoi,zct f g rs]
theorem zkt (n:Nat):∀ (ds:List D),V.underAll n (ofDs ds)=true
 | []=>rfl
 | d :: ds=>by
  have:=zkt n ds
  unfold ofDs at *
  simp only [Qb,V.underAll,V.under,this,Bool.and_self]
theorem zgl (n:Nat):∀ (rs:List (List D)),zfh n (rs.map ofDs)=true
 | []=>rfl
 | r :: rs=>by simp only [Qb,zfh,zkt,zgl n rs,Bool.and_self]
theorem zl6 (h:List (Option Obj)):∀ (ds:List D),(ofDs ds).map (zek h)=ofDs ds
 | []=>rfl
 | d :: ds=>by
  have:=zl6 h ds
  unfold ofDs at *
  simp only [Qb,zek,V.fine,if_true,this]
theorem zhe (h:List (Option Obj)):∀ (rs:List (List D)),(rs.map ofDs).map (fun r=>r.map (zek h))=rs.map ofDs
 | []=>rfl
 | r :: rs=>by simp only [Qb,zl6,zhe h rs]
theorem zl7:∀ (ds:List D),V.refsAll (ofDs ds)=[]
 | []=>rfl
 | d :: ds=>by
  have:=zl7 ds
  unfold ofDs at *
  simp only [Qb,V.refsAll,V.refs,this,List.append_nil]
theorem zee:∀ (rs:List (List D)),zch (rs.map ofDs)=[]
 | []=>rfl
 | r :: rs=>by simp only [Qb,zch,zl7,zee rs,List.append_nil]
theorem zoj (a:Nat):List.range' a 1=[a]:=rfl
def z5n:CCode:=match Za1.body with
 | .seq _ (.seq _ (.seq (.seq _ (.block _ (.loop _ c))) _))=>c
 | _=>.skip
theorem z1l {v:GVal}(hl:v.l.length ≤ 1000)(hsl:∀ x ∈ v.l,x.l.length ≤ 1000)(hm:∀ x ∈ v.l,lcall E 132 [x.arg] []=some (zoh x)){Q:Ex→St→Prop}
  (hx:∀ tm,zba tm 1 = .ptr 0 0→zba tm 2 = .ptr 1 0→zba tm 3 = .arr 2 0 0 v.l.length→Q (.exit 0) ⟨tm,[zmd v,zyi,some (.arr 0 4 ((zab v.l).map ofDs)),none,none,none]⟩) :
  ∀ (m i:Nat),i + m=v.l.length →
   LX E z5n ⟨[1,2,3,9,10,11],[],[],[],[],true⟩ 6 ⟨[(1,.ptr 0 0),(2,.ptr 1 0),(3,.arr 2 0 0 v.l.length),(9,.arr 2 0 0 v.l.length),(10,.d (.i .i64 v.l.length)),(11,.d (.i .i64 i))],[zmd v,zyi,some (.arr 0 4 ((zab v.l).map ofDs)),none,none,none]⟩ Q:=by
 intro m
 induction m with
 | zero =>
  intro i hi
  have hn:¬ ((i:Int) < v.l.length):=by omega
  refine zan (zac ?_)
  refine zaa fun K hK=>?_
  simp only [evW,evX,evM,evN,hn,simprocAttr]
  refine hK _ _ ?_; clear hK K
  refine zac (zaf false rfl (fun h=>by cases h) (fun _=>zb9 ?_))
  exact hx _ rfl rfl rfl
 | succ m ih =>
  intro i hi
  have hy:(i:Int) < v.l.length:=by omega
  have la:i < v.l.length:=by omega
  have h0:(0:Int) ≤ i:=by omega
  have hr:∀ x:GVal,ofDs (GVal.row x)=[.d (.i .i64 x.kind),.d (.i .i64 x.i),.d (.s x.s),.d (.l 4 (zab x.l))]:=fun x=>by rw [zas]; rfl
  have ga:((zab v.l).map ofDs)[i]?=some [.d (.i .i64 v.l[i].kind),.d (.i .i64 v.l[i].i),.d (.s v.l[i].s),.d (.l 4 (zab v.l[i].l))]:=by rw [List.getElem?_map,zaw,Qd la,← hr]; rfl
  have hcall:=hm v.l[i] (List.getElem_mem la)
  have hsx:=hsl v.l[i] (List.getElem_mem la)
  have hset:((zab v.l).map ofDs).set i [.d (.i .i64 v.l[i].kind),.d (.i .i64 v.l[i].i),.d (.s v.l[i].s),.d (.l 4 (zab v.l[i].l))]=(zab v.l).map ofDs:=by
   apply List.ext_getElem?
   intro j
   rw [List.getElem?_set]
   split
   ·rename_i e; subst e; rw [ga,if_pos]; simpa [zad] using la
   ·rfl
  have w:IntKind.i64.wrap ((i:Int) + 1)=((i + 1:Nat):Int):=by rw [i64_in (by omega) (by omega)]; omega
  generalize v.l[i]=x at *
  refine zan (zac ?_)
  refine zaa fun K hK=>?_
  simp only [evW,evX,evM,evN,hy,simprocAttr]
  refine hK _ _ ?_; clear hK K
  refine zac (zaf true rfl (fun _=>zay ?_) (fun h=>by cases h))
  refine zac (za2 ?_)
  refine zac (zaa fun K hK=>?_)
  simp only [evW,evX,evM,evN,hy,h0,Qk,ga,simprocAttr]
  refine hK _ _ ?_; clear hK K
  have hst:∀ hp,stA 4 2 0 i 0 hp (some [.d (.i .i64 x.kind),.d (.i .i64 x.i),.d (.s x.s),.d (.l 4 (zab x.l))]) (some (.arr 0 4 ((zab v.l).map ofDs)))=some (hp.set 2 (some (.arr 0 4 ((zab v.l).map ofDs)))):=fun hp=>by
   simp [stA,ga,over,hset]
  have hsm:∀ a b c,zde 0 (.agg [.d a,.d b,.d c,.arr 0 0 0 x.l.length]) [some (.arr 0 4 ((zab x.l).map ofDs))]=some (.agg [.d a,.d b,.d c,.d (.l 4 (zab x.l))],[]):=fun a b c=>zhd a b c x.l (by omega)
  refine zaa fun K hK=>?_
  simp only [evW,evX,evM,evN,evC,far,hcall,zoh,hsm,hy,h0,Qk,hst,simprocAttr]
  refine hK _ _ ?_; clear hK K
  refine zaa fun K hK=>?_
  simp only [evW,evX,evM,evN,w,simprocAttr]
  refine hK _ _ ?_; clear hK K
  refine ⟨_, ?_,ih (i + 1) (by omega)⟩
  simp only [evH,evX,evN,zgl,zhe,simprocAttr]
theorem Zag (h132:E 132=some (.code Za1))(h146:E 146=some (.prim (zex 4 56))){v:GVal}(h:Small v):lcall E 132 [v.arg] []=some (zoh v):=by
 induction h with
 | mk hl hs ih =>
  rename_i v
  have hc:=zii h146 v.l hl
  refine zbc h132 ?_
  refine zac (zaa fun K hK=>?_)
  simp only [evW,evX,evM,evN,simprocAttr]
  refine hK _ _ ?_; clear hK K
  refine zac (zaa fun K hK=>?_)
  simp only [evW,evX,evM,evN,evC,far,hc,zct,zoj,simprocAttr]
  refine hK _ _ ?_; clear hK K
  refine zac (zac ?_)
  refine zaa fun K hK=>?_
  simp only [evW,evX,evM,evN,simprocAttr]
  refine hK _ _ ?_; clear hK K
  refine za2 (zcy ?_)
  simp only [evH,evX,evN,simprocAttr]
  refine z1l hl (fun x hx=>(hs x hx).len) ih (fun tm t1 t2 t3=>?_) v.l.length 0 (by omega)
  refine zac (zaa fun K hK=>?_)
  simp only [evW,evX,evM,evN,t1,t3,simprocAttr]
  refine hK _ _ ?_; clear hK K
  refine zac (zaa fun K hK=>?_)
  simp only [evW,evX,evM,evN,t1,t2,simprocAttr]
  refine hK _ _ ?_; clear hK K
  refine zap ⟨.inr rfl, ?_⟩
  simp only [evR,evX,evC,evN,far,Za1,t2,zoh,zct,zee,simprocAttr]
open Go
theorem zx5 (l:List GVal)(hl:l.length ≤ 1001):zde 0 (.arr 0 0 0 l.length) [some (.arr 0 4 ((zab l).map ofDs))]=some (.d (.l 4 (zab l)),[]):=by
 have h1:=ztq (fun i=>([some (Obj.arr 0 4 ((zab l).map ofDs))][i]?).join) (id:=0) l hl rfl
 have h2:zb5 (fun i=>([some (Obj.arr 0 4 ((zab l).map ofDs))][i]?).join) far [0] []=some [0]:=by simp [zb5,far,Obj.refs,zhc]
 have hf:z25 0 (fun i=>([some (Obj.arr 0 4 ((zab l).map ofDs))][i]?).join) (.arr 0 0 0 l.length)=some (.d (.l 4 (zab l))):=by
  simp only [z25,z78,z77,Nat.le_refl,if_true,h1]
 unfold zde
 rw [show zd1 0 (.arr 0 0 0 l.length)=[0] by simp [zd1,zf0,V.arrIds]]
 simp only [hf,h2]
 simp [V.refs,zb5,far,zbp,V.ren]
theorem zu4 (h134:E 134=some (.prim zh1))(l:List GVal)(v:GVal)(i:Nat)(hi:i ≤ l.length)(hl:l.length ≤ 1000) :
  lcall E 134 [.arr 0 0 0 l.length,.d (.i .i64 i),.d (.l 4 [v.row])] [some (.arr 0 4 ((zab l).map ofDs))]=some (.d (.l 4 (zab (l.take i++v :: l.drop i))),[some (.arr 1 4 [])]):=by
 have e:zea (zab l) i v.row=zab (l.take i++v :: l.drop i):=by simp [zea,zcc,zdd,zcu,zab]
 rw [zff h134]
 simp only [zh1,zij]
 rw [if_pos ⟨trivial,by simp [zad],by omega,by omega,by omega⟩]
 simp only [Qk,e]
theorem z1m (h116:E 116=some (.code Zaz))(h133:E 133=some (.code Za2))(h147:E 147=some (.code z3g))(h134:E 134=some (.prim zh1))(hmine:∀ v,Small v→lcall E 132 [v.arg] []=some (zoh v))
  (hcmp:∀ (a b:GVal),Small a→Small b→lcall E 114 [a.arg,b.arg] []=some (.d (.i .i64 (zda a b)),[])) {l:List GVal} (hl:l.length ≤ 1000) (hs:∀ x ∈ l,Small x) {v:GVal} (hv:Small v) (hch:zbe ltV l=true) :
  ∃ r h,lcall E 116 [.d (.l 4 (zab l)),v.arg] []=some (r,h)∧zde 0 r h=some (.d (.l 4 (zab (ziq l v))),[]):=by
 have hm:=hmine (.mk 0 0 [] l) (zih hl hs)
 have hp:=zu3 h133 h147 hl (t:=v) (f:=114) (c:=fun x=>zda x v) (fun x hx=>hcmp x v (hs x hx) hv) (zwr v hch)
 have hv2:=hmine v hv
 have hle:=zob v l
 simp only [GVal.arg,GVal.kind,GVal.i,GVal.s,GVal.l,zoh] at hm
 refine (zkd h116 (R:=fun x=>zde 0 x.1 x.2=some (.d (.l 4 (zab (ziq l v))),[])) ?_).elim fun x hx=>⟨x.1,x.2,hx.1,hx.2⟩
 refine zac (zaa fun K hK=>?_)
 simp only [evW,evX,evM,evN,simprocAttr]
 refine hK _ _ ?_; clear hK K
 refine zac (zaa fun K hK=>?_)
 simp only [evW,evX,evM,evN,evC,far,hm,zct,zoj,simprocAttr]
 refine hK _ _ ?_; clear hK K
 refine zac (zaa fun K hK=>?_)
 simp only [evW,evX,evM,evN,evC,far,hp,simprocAttr]
 refine hK _ _ ?_; clear hK K
 refine zac (zac ?_)
 refine zaa fun K hK=>?_
 simp only [evW,evX,evM,evN,simprocAttr]
 refine hK _ _ ?_; clear hK K
 have hins:=zu4 h134 l v (zdp v l) hle hl
 have hrow:=zas v
 cases hh:zto l (fun x=>zda x v) (zdp v l) with
 | true =>
  have e:ziq l v=l:=by
   unfold zto at hh
   unfold ziq
   split at hh
   ·rename_i x hx
    rw [hx]
    exact if_pos (of_decide_eq_true hh)
   ·cases hh
  rw [e]
  refine zaf true rfl (fun _=>?_) (fun h=>by cases h)
  refine zac (zaa fun K hK=>?_)
  simp only [evW,evX,evM,evN,simprocAttr]
  refine hK _ _ ?_; clear hK K
  refine zap ⟨.inr rfl,(.arr 0 0 0 l.length,[some (.arr 0 4 ((zab l).map ofDs))]), ?_,zx5 l (by omega)⟩
  simp only [evR,evX,evC,evN,↓reduceIte,far,Zaz,zct,zee]
 | false =>
  have e:ziq l v=l.take (zdp v l)++v :: l.drop (zdp v l):=by
   unfold zto at hh
   unfold ziq
   split at hh
   ·rename_i x hx
    rw [hx]
    simp [of_decide_eq_false hh]
   ·rename_i hx
    rw [hx]
    simp
  rw [e]
  rw [hrow] at hins
  refine zaf false rfl (fun h=>by cases h) (fun _=>zay ?_)
  have hm2:lcall E 132 [v.arg] []=some (.agg [.d (.i .i64 v.kind),.d (.i .i64 v.i),.d (.s v.s),.arr 0 0 0 v.l.length],[some (.arr 0 4 ((zab v.l).map ofDs))]):=hv2
  have hsm:∀ a b c,zde 0 (.agg [.d a,.d b,.d c,.arr 0 0 0 v.l.length]) [some (.arr 0 4 ((zab v.l).map ofDs))]=some (.agg [.d a,.d b,.d c,.d (.l 4 (zab v.l))],[]):=fun a b c=>zhd a b c v.l (by have:=hv.len; omega)
  refine zac (zaa fun K hK=>?_)
  simp only [evW,evX,evM,evN,evC,far,hm2,hsm,hins,zct,zee,simprocAttr]
  refine hK _ _ ?_; clear hK K
  refine zap ⟨.inr rfl,(.d (.l 4 (zab (l.take (zdp v l)++v :: l.drop (zdp v l)))),[]), ?_,by simp [zde,zd1,zf0,V.arrIds]⟩
  simp only [evR,evX,evC,evN,↓reduceIte,far,Zaz]
open Go
structure XE (E:Nat→Option Fn):Prop where
 e111:E 111=some (.code Zax)
 e112:E 112=some (.code Zay)
 e114:E 114=some (.code Zfh)
 e116:E 116=some (.code Zaz)
 e119:E 119=some (.code Zfi)
 e125:E 125=some (.code z1z)
 e126:E 126=some (.code z59)
 e127:E 127=some (.code c127)
 e128:E 128=some (.code z3c)
 e129:E 129=some (.code zw5)
 e130:E 130=some (.code z3d)
 e132:E 132=some (.code Za1)
 e133:E 133=some (.code Za2)
 e135:E 135=some (.code Za3)
 e136:E 136=some (.code Zfj)
 e137:E 137=some (.code Za4)
 e139:E 139=some (.code z10)
 e140:E 140=some (.code z3f)
 e141:E 141=some (.code Zfk)
 e142:E 142=some (.code z8b)
 e143:E 143=some (.code c143)
 e144:E 144=some (.code Za5)
 e145:E 145=some (.code c145)
 e147:E 147=some (.code z3g)
 e150:E 150=some (.code z3h)
 e151:E 151=some (.code z8c)
 e152:E 152=some (.code Zfl)
 e153:E 153=some (.code z6a)
 e154:E 154=some (.code Zfm)
 e155:E 155=some (.code z6b)
 e192:E 192=some (.code c192)
 e210:E 210=some (.code c210)
 e228:E 228=some (.code zyb)
 e229:E 229=some (.code Zjh)
 e236:E 236=some (.code zsd)
 e237:E 237=some (.code zjb)
 e238:E 238=some (.code Zik)
 e239:E 239=some (.code Zji)
 e241:E 241=some (.code z8d)
 e264:E 264=some (.code Zjj)
 e269:E 269=some (.code c269)
 e276:E 276=some (.code Za6)
 e277:E 277=some (.code zrq)
 e283:E 283=some (.code Zil)
 e284:E 284=some (.code Zfn)
 e285:E 285=some (.code z3i)
 e286:E 286=some (.code z8e)
 e287:E 287=some (.code zmk)
 e292:E 292=some (.code Za8)
 e293:E 293=some (.code Za9)
 e294:E 294=some (.code Zba)
 e297:E 297=some (.code z6d)
 e298:E 298=some (.code zyf)
 e299:E 299=some (.code Zfo)
 e300:E 300=some (.code zub)
 e301:E 301=some (.code z8g)
 e302:E 302=some (.code z6e)
 e303:E 303=some (.code z3k)
 e304:E 304=some (.code Zbb)
 e314:E 314=some (.code Zfp)
 e325:E 325=some (.code Zfq)
 e146:E 146=some (.prim (zex 4 56))
 e134:E 134=some (.prim (zh1))
 e315:E 315=some (.prim (zn5))
 e295:E 295=some (.prim (zkl))
 e296:E 296=some (.prim (zh2))
def zam (op:Int):Int:=if op=0 then 0 else if op=1 then 0 else if op=2 then 0 else if op=3 then 0 else if op=21 then 0 else if op=22 then 0 else if op=11 then 1 else if op=15 then 1 else
 if op=12 then 3 else if op=16 then 3 else if op=14 then -1 else if op > 3∧op < 21 then 2 else -2
theorem zmu (A:XE E)(op:Int):lcall E 236 [.d (.i .i64 op)] []=some (.d (.i .i64 (zam op)),[]):=by
 refine zat A.e236 ?_
 by_cases h0:op=0
 ·subst h0; simp only [zae,zsd,zam,simprocAttr]
 by_cases h1:op=1
 ·subst h1; simp only [zae,zsd,zam,simprocAttr]
 by_cases h2:op=2
 ·subst h2; simp only [zae,zsd,zam,simprocAttr]
 by_cases h3:op=3
 ·subst h3; simp only [zae,zsd,zam,simprocAttr]
 by_cases h21:op=21
 ·subst h21; simp only [zae,zsd,zam,simprocAttr]
 by_cases h22:op=22
 ·subst h22; simp only [zae,zsd,zam,simprocAttr]
 by_cases h11:op=11
 ·subst h11; simp only [zae,zsd,zam,simprocAttr]
 by_cases h15:op=15
 ·subst h15; simp only [zae,zsd,zam,simprocAttr]
 by_cases h12:op=12
 ·subst h12; simp only [zae,zsd,zam,simprocAttr]
 by_cases h16:op=16
 ·subst h16; simp only [zae,zsd,zam,simprocAttr]
 by_cases h14:op=14
 ·subst h14; simp only [zae,zsd,zam,simprocAttr]
 by_cases g1:op > 3
 ·by_cases g2:op < 21
  ·simp only [zae,zsd,zam,h0,h1,h2,h3,h21,h22,h11,h15,h12,h16,h14,eq_true g1,eq_true g2,and_self,simprocAttr]
  ·simp only [zae,zsd,zam,h0,h1,h2,h3,h21,h22,h11,h15,h12,h16,h14,eq_true g1,g2,and_false,simprocAttr]
 ·simp only [zae,zsd,zam,h0,h1,h2,h3,h21,h22,h11,h15,h12,h16,h14,g1,false_and,simprocAttr]
def zhf (v:GVal):Bool:=decide (v.kind=0) && (decide (v.i=0) && (decide (v.s=[]) && decide ((v.l.length:Int)=0)))
theorem Zah (A:XE E)(v:GVal):lcall E 241 [v.arg] []=some (.d (.b (zhf v)),[]):=by
 refine zat A.e241 ?_
 unfold zhf
 by_cases h0:v.kind=0
 ·by_cases h1:v.i=0
  ·by_cases h2:v.s=[]
   ·simp only [zae,z8d,eq_true h0,eq_true h1,h2,zbz,Qf,simprocAttr]
   ·simp only [zae,z8d,eq_true h0,eq_true h1,h2,simprocAttr]
  ·simp only [zae,z8d,eq_true h0,h1,simprocAttr]
 ·simp only [zae,z8d,h0,simprocAttr]
def ze2 (mv:GVal→Bool)(op:Int)(v:GVal)(occ attr:Int):Bool :=
 if op=0 then decide (v.kind ≠ 7) && (mv v && (decide (occ=0) && decide (attr=0))) else
  zhf v && (decide (0 ≤ occ) && (decide (occ ≤ if op=1 then 5 else if op=2 then 5 else if op=3 then 5 else 0) && (decide (0 ≤ attr) && decide (attr ≤ if op=1 then 7 else 0))))
theorem z1n (A:XE E){mv:GVal→Bool}(e:Exp)(hv:e.op=0→lcall E 111 [e.v.arg] []=some (.d (.b (mv e.v)),[])):lcall E 237 [e.arg] []=some (.d (.b (ze2 mv e.op e.v e.occ e.attr)),[]):=by
 have c1:=Zah A e.v
 refine zat A.e237 ?_
 unfold ze2
 by_cases h0:e.op=0
 ·have c2:=hv h0
  rw [if_pos h0]
  by_cases h1:e.v.kind=7
  ·have h1':(e.v.kind != 7)=false:=by simp [h1]
   simp only [zae,zjb,eq_true h0,h1,ne_eq,simprocAttr]
  ·have h1':(e.v.kind != 7)=true:=by simp [h1]
   cases h2:mv e.v
   ·rw [h2] at c2
    simp only [zae,zjb,eq_true h0,h1,c2,ne_eq,simprocAttr]
   ·rw [h2] at c2
    by_cases h3:e.occ=0
    ·simp only [zae,zjb,eq_true h0,h1,c2,eq_true h3,ne_eq,simprocAttr]
    ·simp only [zae,zjb,eq_true h0,h1,c2,h3,ne_eq,simprocAttr]
 ·rw [if_neg h0]
  cases hz:zhf e.v
  ·rw [hz] at c1
   by_cases k1:e.op=1
   ·simp only [zae,zjb,h0,c1,eq_true k1,simprocAttr]
   by_cases k2:e.op=2
   ·simp only [zae,zjb,h0,c1,k1,eq_true k2,simprocAttr]
   by_cases k3:e.op=3
   ·simp only [zae,zjb,h0,c1,k1,k2,eq_true k3,simprocAttr]
   simp only [zae,zjb,h0,c1,k1,k2,k3,simprocAttr]
  ·rw [hz] at c1
   by_cases o1:0 ≤ e.occ
   ·by_cases a1:0 ≤ e.attr
    ·by_cases k1:e.op=1
     ·by_cases o2:e.occ ≤ 5
      ·simp only [zae,zjb,h0,c1,eq_true k1,eq_true o1,eq_true a1,eq_true o2,simprocAttr]
      ·simp only [zae,zjb,h0,c1,eq_true k1,eq_true o1,eq_true a1,o2,simprocAttr]
     ·by_cases k2:e.op=2
      ·by_cases o2:e.occ ≤ 5
       ·simp only [zae,zjb,h0,c1,k1,eq_true k2,eq_true o1,eq_true a1,eq_true o2,simprocAttr]
       ·simp only [zae,zjb,h0,c1,k1,eq_true k2,eq_true o1,eq_true a1,o2,simprocAttr]
      ·by_cases k3:e.op=3
       ·by_cases o2:e.occ ≤ 5
        ·simp only [zae,zjb,h0,c1,k1,k2,eq_true k3,eq_true o1,eq_true a1,eq_true o2,simprocAttr]
        ·simp only [zae,zjb,h0,c1,k1,k2,eq_true k3,eq_true o1,eq_true a1,o2,simprocAttr]
       ·by_cases o2:e.occ ≤ 0
        ·simp only [zae,zjb,h0,c1,k1,k2,k3,eq_true o1,eq_true a1,eq_true o2,simprocAttr]
        ·simp only [zae,zjb,h0,c1,k1,k2,k3,eq_true o1,eq_true a1,o2,simprocAttr]
    ·by_cases k1:e.op=1
     ·by_cases o2:e.occ ≤ 5
      ·simp only [zae,zjb,h0,c1,eq_true k1,eq_true o1,a1,eq_true o2,simprocAttr]
      ·simp only [zae,zjb,h0,c1,eq_true k1,eq_true o1,a1,o2,simprocAttr]
     ·by_cases k2:e.op=2
      ·by_cases o2:e.occ ≤ 5
       ·simp only [zae,zjb,h0,c1,k1,eq_true k2,eq_true o1,a1,eq_true o2,simprocAttr]
       ·simp only [zae,zjb,h0,c1,k1,eq_true k2,eq_true o1,a1,o2,simprocAttr]
      ·by_cases k3:e.op=3
       ·by_cases o2:e.occ ≤ 5
        ·simp only [zae,zjb,h0,c1,k1,k2,eq_true k3,eq_true o1,a1,eq_true o2,simprocAttr]
        ·simp only [zae,zjb,h0,c1,k1,k2,eq_true k3,eq_true o1,a1,o2,simprocAttr]
       ·by_cases o2:e.occ ≤ 0
        ·simp only [zae,zjb,h0,c1,k1,k2,k3,eq_true o1,a1,eq_true o2,simprocAttr]
        ·simp only [zae,zjb,h0,c1,k1,k2,k3,eq_true o1,a1,o2,simprocAttr]
   ·by_cases k1:e.op=1
    ·simp only [zae,zjb,h0,c1,eq_true k1,o1,simprocAttr]
    ·by_cases k2:e.op=2
     ·simp only [zae,zjb,h0,c1,k1,eq_true k2,o1,simprocAttr]
     ·by_cases k3:e.op=3
      ·simp only [zae,zjb,h0,c1,k1,k2,eq_true k3,o1,simprocAttr]
      ·simp only [zae,zjb,h0,c1,k1,k2,k3,o1,simprocAttr]
mutual
def zp7 (mv:GVal→Bool):Exp→Int→Bool
 | .mk op v occ attr args,deep=>decide (1 ≤ deep) && (!decide (zam op = -2) && ((decide (zam op < 0) || decide ((args.length:Int)=zam op)) && (decide ((args.length:Int) ≤ 4) && (ze2 mv op v occ attr && zf8 mv args (deep - 1)))))
def zf8 (mv:GVal→Bool):List Exp→Int→Bool
 | [],_=>true
 | x :: r,d=>zp7 mv x d && zf8 mv r d
end
theorem zik (mv:GVal→Bool)(d:Int):∀ (l:List Exp),(!l.any fun x=>!zp7 mv x d)=zf8 mv l d
 | []=>rfl
 | x :: r=>by
  have:=zik mv d r
  simp only [List.any_cons,zf8,← this,Bool.not_or,Bool.not_not]
theorem zjq (mv:GVal→Bool)(e:Exp)(deep:Int):zp7 mv e deep=(decide (1 ≤ deep) && (!decide (zam e.op = -2) && ((decide (zam e.op < 0) || decide ((e.args.length:Int)=zam e.op)) && (decide ((e.args.length:Int) ≤ 4) && (ze2 mv e.op e.v e.occ e.attr && zf8 mv e.args (deep - 1)))))):=by
 cases e; simp only [zp7]; rfl
inductive AllV (P:GVal→Prop):Exp→Prop where
 | mk {e:Exp} (hv:e.op=0→P e.v) (ha:∀ x ∈ e.args,AllV P x) (hl:e.args.length ≤ 100000):AllV P e
theorem zl8 {x e:Exp}(h:x ∈ e.args):sizeOf x < sizeOf e:=by
 cases e with
 | mk o v oc at_ args =>
  have:=List.sizeOf_lt_of_mem (show x ∈ args from h)
  simp only [Exp.mk.sizeOf_spec]
  omega
theorem Zai (A:XE E){mv:GVal→Bool}{P:GVal→Prop}(hv:∀ v,P v→lcall E 111 [v.arg] []=some (.d (.b (mv v)),[])):∀ (n:Nat) (e:Exp) (deep:Int),sizeOf e < n→AllV P e→0 ≤ deep→deep ≤ 1000000 →
  lcall E 228 [e.arg,.d (.i .i64 deep)] []=some (.d (.b (zp7 mv e deep)),[]):=by
 intro n
 induction n with
 | zero=>intro e deep hs; omega
 | succ n ih =>
  intro e deep hs ha hd1 hd2
  cases ha with
  | mk hve hae hl =>
  have c1:=zmu A e.op
  have c2:=z1n A e (fun h=>hv e.v (hve h))
  have wd:IntKind.i64.wrap (deep - 1)=deep - 1:=z6n (by omega) (by omega)
  refine zat A.e228 ?_
  rw [zjq]
  by_cases d:deep < 1
  ·have d':¬ 1 ≤ deep:=by omega
   simp only [zae,zyb,c1,eq_true d,d',simprocAttr]
  have d':1 ≤ deep:=by omega
  have hp:∀ x ∈ e.args,lcall E 238 (zrr true x.row :: ofDs [.q [.i .i64 deep] 0]) []=some (.d (.b (!zp7 mv x (deep - 1))),[]):=fun x hx=>by
   rw [zwc]
   have c:=ih x (deep - 1) (by have:=zl8 hx; omega) (hae x hx) (by omega) (by omega)
   show lcall E 238 [x.arg,.d (.q [.i .i64 deep] 0)] []=_
   refine zat A.e238 ?_
   simp only [zae,Zik,wd,c,simprocAttr]
  have c3:=z9c (E:=E) (key:=229) (ki:=239) (sz:=8) (ag:=true) A.e229 A.e239 (fun h=>by cases h) (by omega) (fun x _=>by rw [zds]; rfl) hp
  by_cases t2:zam e.op = -2
  ·simp only [zae,zyb,c1,d,eq_true d',eq_true t2,simprocAttr]
  by_cases t0:zam e.op ≥ 0
  ·have t0':¬ zam e.op < 0:=by omega
   by_cases tl:(e.args.length:Int)=zam e.op
   ·have tl':((e.args.length:Int) != zam e.op)=false:=by simp [tl]
    by_cases l4:(e.args.length:Int) > 4
    ·have l4':¬ (e.args.length:Int) ≤ 4:=by omega
     simp only [zae,zyb,c1,d,eq_true d',t2,eq_true t0,t0',eq_true tl,eq_true l4,l4',Qf,simprocAttr]
    ·have l4':(e.args.length:Int) ≤ 4:=by omega
     cases hf:ze2 mv e.op e.v e.occ e.attr
     ·rw [hf] at c2
      simp only [zae,zyb,c1,c2,d,eq_true d',t2,eq_true t0,t0',eq_true tl,l4,eq_true l4',Qf,simprocAttr]
     ·rw [hf] at c2
      simp only [zae,zyb,c1,c2,c3,d,eq_true d',t2,eq_true t0,t0',eq_true tl,l4,eq_true l4',Qf,zik,simprocAttr]
   ·have tl':((e.args.length:Int) != zam e.op)=true:=by simp [tl]
    simp only [zae,zyb,c1,d,eq_true d',t2,eq_true t0,t0',tl,Qf,simprocAttr]
  ·have t0':zam e.op < 0:=by omega
   by_cases l4:(e.args.length:Int) > 4
   ·have l4':¬ (e.args.length:Int) ≤ 4:=by omega
    simp only [zae,zyb,c1,d,eq_true d',t2,t0,eq_true t0',eq_true l4,l4',Qf,simprocAttr]
   ·have l4':(e.args.length:Int) ≤ 4:=by omega
    cases hf:ze2 mv e.op e.v e.occ e.attr
    ·rw [hf] at c2
     simp only [zae,zyb,c1,c2,d,eq_true d',t2,t0,eq_true t0',l4,eq_true l4',Qf,simprocAttr]
    ·rw [hf] at c2
     simp only [zae,zyb,c1,c2,c3,d,eq_true d',t2,t0,eq_true t0',l4,eq_true l4',Qf,zik,simprocAttr]
theorem Zht (A:XE E){mv:GVal→Bool}{P:GVal→Prop}(hv:∀ v,P v→lcall E 111 [v.arg] []=some (.d (.b (mv v)),[])){e:Exp}(h:AllV P e):lcall E 210 [e.arg] []=some (.d (.b (zp7 mv e 12)),[]):=by
 have c1:=Zai A hv (sizeOf e + 1) e 12 (by omega) h (by omega) (by omega)
 refine zat A.e210 ?_
 simp only [zae,c210,c1,simprocAttr]
mutual
def zgv:Exp→List (Int × Int)
 | .mk op v occ attr args=>(if op=1 then [(occ,attr)] else [])++zcd args
def zcd:List Exp→List (Int × Int)
 | []=>[]
 | x :: r=>zgv x++zcd r
end
theorem zmv (e:Exp):zgv e=(if e.op=1 then [(e.occ,e.attr)] else [])++zcd e.args:=by
 cases e; simp only [zgv]; rfl
theorem zws {x:Exp}:∀ {l:List Exp},x ∈ l→(zgv x).length ≤ (zcd l).length
 | y :: r,h=>by
  simp only [zcd,Qg]
  rcases List.mem_cons.1 h with rfl | h
  ·omega
  ·have:=zws h; omega
theorem zro (a b:List (Int × Int)):a.map zcg++b.map zcg=(a++b).map zcg:=by simp
def zil:CCode:=match c192.body with
 | .seq _ (.seq _ (.seq (.seq _ (.block _ (.loop _ c))) _))=>c
 | _=>.skip
set_option maxHeartbeats 1000000 in
theorem zx6 {l:List Exp}{x1 x2 x3 x4 x5 x6 x7 x8:D}(hl:l.length ≤ 100000)(hc:∀ x ∈ l,lcall E 192 [x.arg] []=some (.d (.l 2 ((zgv x).map zcg)),[])){Q:Ex→St→Prop}:∀ (m i:Nat) (out:List (Int × Int)),i + m=l.length→out.length + (zcd (l.drop i)).length ≤ 1000000 →
  (∀ tm,zba tm 2 = .own 1 0 2 ((out++zcd (l.drop i)).map zcg)→Q (.exit 0) ⟨tm,[some (.box [.d x1,.d x2,.d x3,.d x4,.d x5,.d x6,.d x7,.d x8]),some (.tok 0 2)]⟩) →
  LX E zil ⟨[2,17,18,19],[2],[],[],[],true⟩ 2 ⟨[(2,.own 1 0 2 (out.map zcg)),(17,.d (.l 8 (l.map Exp.row))),(18,.d (.i .i64 l.length)),(19,.d (.i .i64 i))],[some (.box [.d x1,.d x2,.d x3,.d x4,.d x5,.d x6,.d x7,.d x8]),some (.tok 0 2)]⟩ Q:=by
 intro m
 induction m with
 | zero =>
  intro i out hi ho hQ
  have hn:¬ ((i:Int) < l.length):=by omega
  rw [List.drop_eq_nil_of_le (by omega)] at hQ
  simp only [zcd,List.append_nil] at hQ
  refine zan ?_
  simp only [zae,zbo,zil,c192,hn,simprocAttr]
  exact hQ _ rfl
 | succ m ih =>
  intro i out hi ho hQ
  have hy:(i:Int) < l.length:=by omega
  have la:i < l.length:=by omega
  have h0:(0:Int) ≤ i:=by omega
  have ga:(l.map Exp.row)[i]?=some (Exp.row l[i]):=by rw [List.getElem?_map,Qd la]; rfl
  have w:IntKind.i64.wrap ((i:Int) + 1)=((i + 1:Nat):Int):=by rw [z6n (by omega) (by omega)]; omega
  have c1:=hc _ (List.getElem_mem la)
  rw [List.drop_eq_getElem_cons la] at hQ ho
  simp only [zcd,Qg,← List.append_assoc] at hQ ho
  generalize l[i]=x at *
  rw [zds] at ga
  have r2:zbi (out.length + (zgv x).length) 16=true:=by unfold zbi; exact Ql (by omega)
  refine zan ?_
  simp only [zae,zbo,zil,c192,eq_true hy,h0,ga,ofDs,c1,Qf,r2,zro,w,simprocAttr]
  refine ⟨_,rfl,ih (i + 1) (out++zgv x) (by omega) (by rw [Qg]; omega) hQ⟩
set_option maxHeartbeats 1000000 in
theorem zx7 {l:List Exp}{x1 x2 x3 x4 x5 x6 x7 x8:D}(hl:l.length ≤ 100000)(hc:∀ x ∈ l,lcall E 192 [x.arg] []=some (.d (.l 2 ((zgv x).map zcg)),[])){Q:Ex→St→Prop}:∀ (m i:Nat) (out:List (Int × Int)),i + m=l.length→out.length + (zcd (l.drop i)).length ≤ 1000000 →
  (∀ tm,zba tm 2 = .own 2 0 2 ((out++zcd (l.drop i)).map zcg)→Q (.exit 0) ⟨tm,[some (.box [.d x1,.d x2,.d x3,.d x4,.d x5,.d x6,.d x7,.d x8]),some (.tok 0 2),some (.tok 0 2)]⟩) →
  LX E zil ⟨[2,17,18,19],[2],[],[],[],true⟩ 3 ⟨[(2,.own 2 0 2 (out.map zcg)),(17,.d (.l 8 (l.map Exp.row))),(18,.d (.i .i64 l.length)),(19,.d (.i .i64 i))],[some (.box [.d x1,.d x2,.d x3,.d x4,.d x5,.d x6,.d x7,.d x8]),some (.tok 0 2),some (.tok 0 2)]⟩ Q:=by
 intro m
 induction m with
 | zero =>
  intro i out hi ho hQ
  have hn:¬ ((i:Int) < l.length):=by omega
  rw [List.drop_eq_nil_of_le (by omega)] at hQ
  simp only [zcd,List.append_nil] at hQ
  refine zan ?_
  simp only [zae,zbo,zil,c192,hn,simprocAttr]
  exact hQ _ rfl
 | succ m ih =>
  intro i out hi ho hQ
  have hy:(i:Int) < l.length:=by omega
  have la:i < l.length:=by omega
  have h0:(0:Int) ≤ i:=by omega
  have ga:(l.map Exp.row)[i]?=some (Exp.row l[i]):=by rw [List.getElem?_map,Qd la]; rfl
  have w:IntKind.i64.wrap ((i:Int) + 1)=((i + 1:Nat):Int):=by rw [z6n (by omega) (by omega)]; omega
  have c1:=hc _ (List.getElem_mem la)
  rw [List.drop_eq_getElem_cons la] at hQ ho
  simp only [zcd,Qg,← List.append_assoc] at hQ ho
  generalize l[i]=x at *
  rw [zds] at ga
  have r2:zbi (out.length + (zgv x).length) 16=true:=by unfold zbi; exact Ql (by omega)
  refine zan ?_
  simp only [zae,zbo,zil,c192,eq_true hy,h0,ga,ofDs,c1,Qf,r2,zro,w,simprocAttr]
  refine ⟨_,rfl,ih (i + 1) (out++zgv x) (by omega) (by rw [Qg]; omega) hQ⟩
theorem Zaj (A:XE E){P:GVal→Prop}:∀ (n:Nat) (e:Exp),sizeOf e < n→AllV P e→(zgv e).length ≤ 1000000→lcall E 192 [e.arg] []=some (.d (.l 2 ((zgv e).map zcg)),[]):=by
 intro n
 induction n with
 | zero=>intro e hs; omega
 | succ n ih =>
  intro e hs ha hlen
  cases ha with
  | mk hve hae hl =>
  rw [zmv,Qg] at hlen
  have hc:∀ x ∈ e.args,lcall E 192 [x.arg] []=some (.d (.l 2 ((zgv x).map zcg)),[]):=fun x hx =>
   ih x (by have:=zl8 hx; omega) (hae x hx) (by have:=zws hx; omega)
  refine zat A.e192 ?_
  rw [zmv]
  by_cases h1:e.op=1
  ·have r1:zbi 1 16=true:=rfl
   rw [if_pos h1] at hlen ⊢
   simp only [zae,c192,eq_true h1,r1,Qf,simprocAttr]
   refine zx7 (by omega) hc e.args.length 0 [(e.occ,e.attr)] (by omega) (by rw [List.drop_zero]; simpa using hlen) (fun tm h2=>?_)
   simp only [zae,h2,simprocAttr]
  ·rw [if_neg h1] at hlen ⊢
   simp only [zae,c192,h1,Qf,simprocAttr]
   refine zx6 (by omega) hc e.args.length 0 [] (by omega) (by rw [List.drop_zero]; simpa using hlen) (fun tm h2=>?_)
   simp only [zae,h2,simprocAttr]
open Go
def zef (e:Int):GVal:=.mk 7 e [] []
def zjr (b:Bool):GVal:=.mk 2 (if b then 1 else 0) [] []
def zok (n:Int):GVal:=.mk 1 n [] []
theorem gF:(∀ k i s l,GVal.kind (.mk k i s l)=k)∧(∀ k i s l,GVal.i (.mk k i s l)=i)∧(∀ k i s l,GVal.s (.mk k i s l)=s)∧(∀ k i s l,GVal.l (.mk k i s l)=l)∧zab []=[]∧(∀ x r,zab (x :: r)=GVal.row x :: zab r):=⟨fun _ _ _ _=>rfl,fun _ _ _ _=>rfl,fun _ _ _ _=>rfl,fun _ _ _ _=>rfl,rfl,fun _ _=>rfl⟩
theorem eF:(∀ o v c a l,Exp.op (.mk o v c a l)=o)∧(∀ o v c a l,Exp.v (.mk o v c a l)=v)∧(∀ o v c a l,Exp.occ (.mk o v c a l)=c)∧(∀ o v c a l,Exp.attr (.mk o v c a l)=a)∧(∀ o v c a l,Exp.args (.mk o v c a l)=l):=⟨fun _ _ _ _ _=>rfl,fun _ _ _ _ _=>rfl,fun _ _ _ _ _=>rfl,fun _ _ _ _ _=>rfl,fun _ _ _ _ _=>rfl⟩
theorem zey (A:XE E)(e:Int):lcall E 283 [.d (.i .i64 e)] []=some ((zef e).arg,[]):=by
 refine zat A.e283 ?_
 simp only [zae,Zil,simprocAttr]
 rfl
theorem zim (A:XE E)(b:Bool):lcall E 299 [.d (.b b)] []=some ((zjr b).arg,[]):=by
 refine zat A.e299 ?_
 cases b
 ·simp only [zae,Zfo,simprocAttr]
  rfl
 ·simp only [zae,Zfo,simprocAttr]
  rfl
def zez:List GVal→List Int→Bool
 | _,[]=>true
 | [],_ :: _=>false
 | v :: l,k :: ks=>decide (v.kind=k) && zez l ks
def zf9 (ws:List Int):List (List D):=ws.map fun k=>[.i .i64 k]
def zku:CCode:=match z6d.body with
 | .seq _ (.seq (.seq _ (.block _ (.loop _ c))) _)=>c
 | _=>.skip
theorem zx8 {l:List GVal}{ws:List Int}(hl:l.length ≤ 100000)(hw:ws.length ≤ l.length){Q:Ex→St→Prop}
  (hno:∀ tm hp,zez l ws=false→zba tm 4 = .d (.b false)→Q .ret ⟨tm,hp⟩) (hyes:∀ tm hp,zez l ws=true→Q (.exit 0) ⟨tm,hp⟩):∀ (m i:Nat),i + m=ws.length→zez l ws=zez (l.drop i) (ws.drop i) →
  LX E zku ⟨[0,7,8,9],[],[],[],[],true⟩ 0 ⟨[(0,.d (.l 4 (zab l))),(7,.d (.l 1 (zf9 ws))),(8,.d (.i .i64 ws.length)),(9,.d (.i .i64 i))],[]⟩ Q:=by
 intro m
 induction m with
 | zero =>
  intro i hi he
  have hn:¬ ((i:Int) < (ws.length:Int)):=by omega
  rw [show ws.drop i=[] from List.drop_eq_nil_of_le (by omega)] at he
  refine zan ?_
  simp only [zae,zbo,zku,z6d,hn,simprocAttr]
  exact hyes _ _ (by rw [he]; cases l.drop i <;> rfl)
 | succ m ih =>
  intro i hi he
  have hy:(i:Int) < (ws.length:Int):=by omega
  have la:i < ws.length:=by omega
  have ll:i < l.length:=by omega
  have h0:(0:Int) ≤ i:=by omega
  have gw:(zf9 ws)[i]?=some [.i .i64 ws[i]]:=by unfold zf9; rw [List.getElem?_map,Qd la]; rfl
  have gl:(zab l)[i]?=some (GVal.row l[i]):=by rw [zaw,Qd ll]; rfl
  have w:IntKind.i64.wrap ((i:Int) + 1)=((i + 1:Nat):Int):=by rw [i64_in (by omega) (by omega)]; omega
  rw [List.drop_eq_getElem_cons la,List.drop_eq_getElem_cons ll] at he
  simp only [zez] at he
  generalize l[i]=x at *
  generalize ws[i]=k at *
  rw [zas] at gl
  refine zan ?_
  by_cases hx:x.kind=k
  ·rw [Ql hx,Bool.true_and] at he
   simp only [zae,zbo,zku,z6d,eq_true hy,eq_true h0,gw,gl,w,eq_true hx,simprocAttr]
   exact ⟨_,rfl,ih (i + 1) (by omega) he⟩
  ·rw [decide_eq_false hx,Bool.false_and] at he
   simp only [zae,zbo,zku,z6d,eq_true hy,eq_true h0,gw,gl,hx,simprocAttr]
   exact hno _ _ he rfl
theorem zga (A:XE E){l:List GVal}{ws:List Int}(hl:l.length ≤ 100000)(hw:ws.length ≤ l.length):lcall E 297 [.d (.l 4 (zab l)),.d (.l 1 (zf9 ws))] []=some (.d (.b (zez l ws)),[]):=by
 have hk:(zf9 ws).length=ws.length:=by simp [zf9]
 refine zat A.e297 ?_
 simp only [zae,z6d,hk,simprocAttr]
 refine zx8 hl hw (fun tm hp h h4=>?_) (fun tm hp h=>?_) ws.length 0 (by omega) (by rw [List.drop_zero,List.drop_zero])
 ·rw [h]
  simp only [zae,h4]
 ·rw [h]
  simp only [zae,↓reduceIte]
open Go
abbrev zi0:Int:=-9223372036854775808
abbrev zol:Int:=9223372036854775807
def zcv (n:Int):Prop:=zi0 ≤ n∧n ≤ zol
instance (n:Int):Decidable (zcv n):=inferInstanceAs (Decidable (_∧_))
def zu5 (x y:Int):Int:=IntKind.i64.wrap (BitVec.ofInt IntKind.i64.bits x ^^^ BitVec.ofInt IntKind.i64.bits y).toNat
def z60 (x y:Int):Int:=IntKind.i64.wrap (BitVec.ofInt IntKind.i64.bits x &&& BitVec.ofInt IntKind.i64.bits y).toNat
theorem zlo (v:BitVec 64):IntKind.i64.wrap (v.toNat:Int)=v.toInt:=by
 have h:=v.isLt
 rw [IntKind.wrap_i64,BitVec.toInt_eq_toNat_cond]
 split <;> omega
theorem ztr {x:Int}(h:zcv x):(BitVec.ofInt 64 x).toInt=x:=by
 obtain ⟨h1,h2⟩:=h
 simp only [zi0,zol] at h1 h2
 rw [BitVec.toInt_ofInt,Int.bmod_eq_of_le (by omega) (by omega)]
theorem zkv {x:Int}(h:zcv x):(BitVec.ofInt 64 x).msb=decide (x < 0):=by
 rw [BitVec.msb_eq_toInt,ztr h]
theorem zx9 (v:BitVec 64):zcv v.toInt:=by
 have h:=v.isLt
 unfold zcv
 rw [BitVec.toInt_eq_toNat_cond]
 split <;> simp [zi0,zol] <;> omega
theorem zmw {x y:Int}(hx:zcv x)(hy:zcv y):decide (zu5 x y < 0)=(decide (x < 0) != decide (y < 0)):=by
 show decide (IntKind.i64.wrap ((BitVec.ofInt 64 x ^^^ BitVec.ofInt 64 y:BitVec 64).toNat:Int) < 0)=_
 rw [zlo,← BitVec.msb_eq_toInt,BitVec.msb_xor,zkv hx,zkv hy]
theorem zkw (x y:Int):zcv (zu5 x y):=by
 show zcv (IntKind.i64.wrap ((BitVec.ofInt 64 x ^^^ BitVec.ofInt 64 y:BitVec 64).toNat:Int))
 rw [zlo]; exact zx9 _
theorem zwt {x y:Int}(hx:zcv x)(hy:zcv y):decide (z60 x y < 0)=(decide (x < 0) && decide (y < 0)):=by
 show decide (IntKind.i64.wrap ((BitVec.ofInt 64 x &&& BitVec.ofInt 64 y:BitVec 64).toNat:Int) < 0)=_
 rw [zlo,← BitVec.msb_eq_toInt,BitVec.msb_and,zkv hx,zkv hy]
theorem zh7 (n:Int):zcv (IntKind.i64.wrap n):=by
 unfold zcv; rw [IntKind.wrap_i64]; simp only [zi0,zol]; omega
theorem zcs {n:Int}(h:zcv n):IntKind.i64.wrap n=n:=z6n h.1 h.2
theorem z5o {a b:Int}(ha:zcv a)(hb:zcv b):decide (z60 (zu5 a (IntKind.i64.wrap (a + b))) (zu5 b (IntKind.i64.wrap (a + b))) < 0) = !decide (zcv (a + b)):=by
 rw [zwt (zkw _ _) (zkw _ _),zmw ha (zh7 _),zmw hb (zh7 _)]
 by_cases h:zcv (a + b)
 ·rw [Ql h,zcs h]
  unfold zcv at *
  simp only [zi0,zol] at *
  by_cases h1:a < 0 <;> by_cases h2:b < 0 <;> by_cases h3:a + b < 0 <;> simp only [h1,h2,h3,decide_true,decide_false] <;> first | rfl | (exfalso; omega)
 ·rw [decide_eq_false h,IntKind.wrap_i64]
  unfold zcv at *
  simp only [zi0,zol] at *
  by_cases h1:a < 0 <;> by_cases h2:b < 0 <;> by_cases h3:(a + b + 9223372036854775808) % 18446744073709551616 - 9223372036854775808 < 0 <;> simp only [h1,h2,h3,decide_true,decide_false] <;> first | rfl | (exfalso; omega)
theorem z5p {a b:Int}(ha:zcv a)(hb:zcv b):decide (z60 (zu5 a b) (zu5 a (IntKind.i64.wrap (a - b))) < 0) = !decide (zcv (a - b)):=by
 rw [zwt (zkw _ _) (zkw _ _),zmw ha hb,zmw ha (zh7 _)]
 by_cases h:zcv (a - b)
 ·rw [Ql h,zcs h]
  unfold zcv at *
  simp only [zi0,zol] at *
  by_cases h1:a < 0 <;> by_cases h2:b < 0 <;> by_cases h3:a - b < 0 <;> simp only [h1,h2,h3,decide_true,decide_false] <;> first | rfl | (exfalso; omega)
 ·rw [decide_eq_false h,IntKind.wrap_i64]
  unfold zcv at *
  simp only [zi0,zol] at *
  by_cases h1:a < 0 <;> by_cases h2:b < 0 <;> by_cases h3:(a - b + 9223372036854775808) % 18446744073709551616 - 9223372036854775808 < 0 <;> simp only [h1,h2,h3,decide_true,decide_false] <;> first | rfl | (exfalso; omega)
theorem zwu {a b:Int}(ha:zcv a)(hb:zcv b)(h0:a ≠ 0) :
  ((!decide (IntKind.i64.wrap ((IntKind.i64.wrap (a * b)).tdiv a)=b)) || (decide (a = -1) && decide (b=zi0))) = !decide (zcv (a * b)):=by
 by_cases h:zcv (a * b)
 ·rw [Ql h,zcs h,Int.mul_tdiv_cancel_left _ h0,zcs hb,Ql rfl]
  have:¬ (a = -1∧b=zi0):=fun ⟨e1,e2⟩=>by
   subst e1; subst e2
   exact absurd h (by decide)
  by_cases e1:a = -1 <;> by_cases e2:b=zi0 <;> simp_all
 ·rw [decide_eq_false h]
  by_cases e:a = -1∧b=zi0
  ·rw [Ql e.1,Ql e.2]; simp
  ·rw [show (decide (a = -1) && decide (b=zi0))=false by
    by_cases e1:a = -1 <;> by_cases e2:b=zi0 <;> simp_all]
   have hne:¬ (IntKind.i64.wrap ((IntKind.i64.wrap (a * b)).tdiv a)=b):=fun hq=>by
    have hc:=zh7 (a * b)
    have hd:∃ k:Int,IntKind.i64.wrap (a * b)=a * b - k * 18446744073709551616:=⟨(a * b + 9223372036854775808) / 18446744073709551616,by rw [IntKind.wrap_i64]; omega⟩
    obtain ⟨k,hk⟩:=hd
    have hk0:k ≠ 0:=fun e0=>by
     rw [e0] at hk
     have h2:a * b=IntKind.i64.wrap (a * b):=by omega
     exact h (by rw [h2]; exact hc)
    generalize IntKind.i64.wrap (a * b)=c at *
    have hm:=Int.tmod_add_mul_tdiv c a
    have h1:(c.tmod a).natAbs < a.natAbs:=by rw [Int.natAbs_tmod]; exact Nat.mod_lt _ (by omega)
    generalize c.tmod a=r at *
    generalize hqq:c.tdiv a=q at *
    by_cases hf:zcv q
    ·rw [zcs hf] at hq
     subst hq
     unfold zcv at *
     simp only [zi0,zol] at *
     generalize a * q=p at *
     omega
    ·-- the quotient of the least number by -1
     have hq2:q.natAbs ≤ c.natAbs:=by rw [← hqq,Int.natAbs_tdiv]; exact Nat.div_le_self _ _
     unfold zcv at *
     simp only [zi0,zol] at *
     have:q=9223372036854775808:=by omega
     subst this
     have hc2:c = -9223372036854775808:=by omega
     rw [IntKind.wrap_i64] at hq
     have hb2:b = -9223372036854775808:=by omega
     have ha2:a = -1:=by omega
     exact e ⟨ha2,hb2⟩
   rw [decide_eq_false hne]; rfl
open Go
def zoo (n:Int):GVal:=if zcv n then zok n else zef 5
def zoz (op a b:Int):GVal :=
 if op=4 then (if z60 (zu5 a (W64 (a + b))) (zu5 b (W64 (a + b))) < 0 then zef 5 else zok (W64 (a + b)))
 else if op=5 then (if z60 (zu5 a b) (zu5 a (W64 (a - b))) < 0 then zef 5 else zok (W64 (a - b)))
 else if a=0 then zok (W64 (a * b)) else if W64 ((W64 (a * b)).tdiv a)=b then (if a = -1∧b = -9223372036854775808 then zef 5 else zok (W64 (a * b))) else zef 5
theorem z5q (x y:Int):binOp .xor (.d (.i .i64 x)) (.d (.i .i64 y))=some (.i .i64 (zu5 x y)):=rfl
theorem z5r (x y:Int):binOp .and (.d (.i .i64 x)) (.d (.i .i64 y))=some (.i .i64 (z60 x y)):=rfl
theorem Zak {a b:Int}(ha:zcv a)(hb:zcv b):zoz 4 a b=zoo (a + b)∧zoz 5 a b=zoo (a - b)∧zoz 6 a b=zoo (a * b):=by
 refine ⟨?_, ?_, ?_⟩
 ·have ho:=z5o ha hb
  unfold zoz zoo W64
  rw [if_pos rfl]
  by_cases h:zcv (a + b)
  ·rw [Ql h] at ho
   rw [if_pos h,if_neg (of_decide_eq_false ho),zcs h]
  ·rw [decide_eq_false h] at ho
   rw [if_neg h,if_pos (of_decide_eq_true ho)]
 ·have ho:=z5p ha hb
  unfold zoz zoo W64
  rw [if_neg (by decide),if_pos rfl]
  by_cases h:zcv (a - b)
  ·rw [Ql h] at ho
   rw [if_pos h,if_neg (of_decide_eq_false ho),zcs h]
  ·rw [decide_eq_false h] at ho
   rw [if_neg h,if_pos (of_decide_eq_true ho)]
 ·unfold zoz zoo W64
  rw [if_neg (by decide),if_neg (by decide)]
  by_cases h0:a=0
  ·subst h0
   have h:zcv (0 * b):=by rw [Int.zero_mul]; decide
   rw [if_pos rfl,if_pos h,zcs h]
  ·rw [if_neg h0]
   have ho:=zwu ha hb h0
   by_cases h:zcv (a * b)
   ·rw [Ql h,zcs h,Int.mul_tdiv_cancel_left _ h0,zcs hb,Ql rfl,Bool.not_true,Bool.false_or] at ho
    rw [if_pos h,zcs h,Int.mul_tdiv_cancel_left _ h0,zcs hb,if_pos rfl,if_neg]
    rintro ⟨e1,e2⟩
    rw [Ql e1,Ql (show b=zi0 from e2)] at ho
    cases ho
   ·rw [decide_eq_false h,Bool.not_false] at ho
    rw [if_neg h]
    by_cases hq:IntKind.i64.wrap ((IntKind.i64.wrap (a * b)).tdiv a)=b
    ·rw [Ql hq,Bool.not_true,Bool.false_or,Qi,Qh,Qh] at ho
     rw [if_pos hq,if_pos ho]
    ·rw [if_neg hq]
theorem Zal (A:XE E)(a b:Int):lcall E 298 [.d (.i .i64 4),.d (.i .i64 a),.d (.i .i64 b)] []=some ((zoz 4 a b).arg,[]):=by
 have b5:=zey A 5
 refine zat A.e298 ?_
 unfold zoz W64
 rw [if_pos rfl]
 by_cases h:z60 (zu5 a (IntKind.i64.wrap (a + b))) (zu5 b (IntKind.i64.wrap (a + b))) < 0
 ·rw [if_pos h]
  simp only [zae,zyf,z5q,z5r,eq_true h,b5,simprocAttr]
 ·rw [if_neg h]
  simp only [zae,zyf,z5q,z5r,h,simprocAttr]
  rfl
theorem Zam (A:XE E)(a b:Int):lcall E 298 [.d (.i .i64 5),.d (.i .i64 a),.d (.i .i64 b)] []=some ((zoz 5 a b).arg,[]):=by
 have b5:=zey A 5
 refine zat A.e298 ?_
 unfold zoz W64
 rw [if_neg (by decide),if_pos rfl]
 by_cases h:z60 (zu5 a b) (zu5 a (IntKind.i64.wrap (a - b))) < 0
 ·rw [if_pos h]
  simp only [zae,zyf,z5q,z5r,eq_true h,b5,simprocAttr]
 ·rw [if_neg h]
  simp only [zae,zyf,z5q,z5r,h,simprocAttr]
  rfl
theorem Zan (A:XE E)(a b:Int):lcall E 298 [.d (.i .i64 6),.d (.i .i64 a),.d (.i .i64 b)] []=some ((zoz 6 a b).arg,[]):=by
 have b5:=zey A 5
 refine zat A.e298 ?_
 unfold zoz W64
 rw [if_neg (by decide),if_neg (by decide)]
 by_cases h0:a=0
 ·subst h0
  rw [if_pos rfl]
  simp only [zae,zyf,simprocAttr]
  rfl
 ·rw [if_neg h0]
  by_cases hq:IntKind.i64.wrap ((IntKind.i64.wrap (a * b)).tdiv a)=b
  ·rw [if_pos hq]
   by_cases e1:a = -1
   ·by_cases e2:b = -9223372036854775808
    ·rw [if_pos ⟨e1,e2⟩]
     simp only [zae,zyf,h0,eq_true hq,eq_true e1,eq_true e2,b5,simprocAttr]
    ·rw [if_neg (fun h=>e2 h.2)]
     simp only [zae,zyf,h0,eq_true hq,eq_true e1,e2,simprocAttr]
     rfl
   ·rw [if_neg (fun h=>e1 h.1)]
    simp only [zae,zyf,h0,eq_true hq,e1,simprocAttr]
    rfl
  ·rw [if_neg hq]
   simp only [zae,zyf,h0,hq,b5,simprocAttr]
open Go
theorem zeg:∀ (xs:List (List D)),zch (xs.map ofDs)=[]
 | []=>rfl
 | r :: rs=>by simp only [Qb,zch,zh0,zeg rs,List.nil_append]
theorem zgb (f sh:Nat→Nat):∀ (xs:List (List D)),zdz f sh (xs.map ofDs)=xs.map ofDs
 | []=>rfl
 | r :: rs=>by simp only [Qb,zdz,zkj,zgb f sh rs]
theorem zp8 {v sz n:Nat}{rows:List (List D)}(hn:n=rows.length)(hr:∀ r ∈ rows,r.length ≤ 20)(hl:rows.length < 3000):zde 0 (.arr 0 v 0 n) [some (.arr v sz (rows.map ofDs))]=some (.d (.l sz rows),[]):=by
 have h0:zd1 0 (.arr 0 v 0 n)=[0]:=rfl
 have h1:V.lend (fun i=>(([some (.arr v sz (rows.map ofDs))]:List (Option Obj))[i]?).join) far (.arr 0 v 0 n)=some (.l sz rows):=by
  rw [zvc (n:=20) rfl hr (by omega) (by omega)]
  subst hn
  simp
 have h2:z25 0 (fun i=>(([some (.arr v sz (rows.map ofDs))]:List (Option Obj))[i]?).join) (.arr 0 v 0 n)=some (.d (.l sz rows)):=by
  show (if 0 ≤ 0 then (match V.lend (fun i=>(([some (.arr v sz (rows.map ofDs))]:List (Option Obj))[i]?).join) far (.arr 0 v 0 n) with | some d=>some (V.d d) | none=>none) else some (.arr 0 v 0 n))=_
  rw [h1]; rfl
 have h3:zb5 (fun i=>(([some (.arr v sz (rows.map ofDs))]:List (Option Obj))[i]?).join) far [0] []=some [0]:=by
  show zb5 _ 4095 ([]++zch (rows.map ofDs)) ([]++[0])=_
  rw [zeg]; rfl
 unfold zde
 simp only [h0,h2,h3]
 rfl
def Zhu (C:zbg)(K:St→List Foot→Prop)(b d sz bytes:Nat)(r:List CO)(j:Nat)(tm:List (Nat × V))(hp:List (Option Obj))(es:List Foot)(id ver off len:Nat)(y:V)(ys:List (List V)):Option Obj→Prop
 | some (.arr ver' sz' xs)=>((ver=ver'∧sz'=sz∧off + len ≤ xs.length∧y.other id=true∧zbi (len + ys.length) bytes=true) ∧
    go C K b r (j + 1) ((d,.arr id (ver + 1) 0 (len + ys.length)) :: tm) (za6 hp (id :: zb8 y) (some (.arr (ver + 1) sz ((xs.drop off).take len++ys)) :: (zb8 y).map (zbk hp))) (⟨id :: zb8 y,true,b + j,0⟩ :: es))
 | _=>False
theorem Zj9 :
  (∀ (C:zbg) (K:St→List Foot→Prop) (b d sz bytes:Nat) (r:List CO) (j:Nat) (tm:List (Nat × V)) (hp:List (Option Obj)) (es:List Foot) (id ver off len:Nat) (y:V) (ys:List (List V)),z7u C K b d sz bytes r j tm hp es (.arr id ver off len) y (some ys)=Zhu C K b d sz bytes r j tm hp es id ver off len y ys (zbk hp id)) ∧
  (∀ (C:zbg) (K:St→List Foot→Prop) (b d sz bytes:Nat) (r:List CO) (j:Nat) (tm:List (Nat × V)) (hp:List (Option Obj)) (es:List Foot) (id ver off len:Nat) (y:V) (ys:List (List V)) (ver' sz':Nat) (xs:List (List V)),Zhu C K b d sz bytes r j tm hp es id ver off len y ys (some (.arr ver' sz' xs))=((ver=ver'∧sz'=sz∧off + len ≤ xs.length∧y.other id=true∧zbi (len + ys.length) bytes=true) ∧
    go C K b r (j + 1) ((d,.arr id (ver + 1) 0 (len + ys.length)) :: tm) (za6 hp (id :: zb8 y) (some (.arr (ver + 1) sz ((xs.drop off).take len++ys)) :: (zb8 y).map (zbk hp))) (⟨id :: zb8 y,true,b + j,0⟩ :: es))) ∧
  (∀ (i:Nat) (x:D),V.other i (.d x)=true):=by
 refine ⟨fun C K b d sz bytes r j tm hp es id ver off len y ys=>?_, ?_, ?_⟩
 ·simp only [z7u]
  cases zbk hp id with
  | none=>rfl
  | some o=>cases o <;> rfl
 ·intros; rfl
 ·intros; rfl
theorem evZ :
  (∀ (x:A),Cop.nmk (.capn x)=0)∧(∀ (sz b:Nat) (z:List D) (x y:A),Cop.nmk (.apz sz b z x y)=1)∧(∀ (sz b:Nat) (x y:A),Cop.nmk (.apa sz b x y)=1)∧(∀ (k r:Nat) (ars:List A),Cop.nmk (.callr k ars r)=r)∧(∀ (s:Nat),zb8 (.nil s)=[]) ∧
  (∀ C K b r j tm hp es (d p sz bytes:Nat) (z:List D) (x y:A),go C K b (⟨some d,.apz sz bytes z x y,none,p⟩ :: r) j tm hp es=(match Ze1 sz bytes (b + j) z (evT tm x) (evT tm y) with
  | some (v,o)=>go C K b r (j + 1) ((d,v) :: tm) (hp.set (b + j) (some o)) (⟨[],true,b + j,1⟩ :: es)
  | none=>False)) ∧
  (∀ (sz bytes f s:Nat) (z:List D) (k:IntKind) (n:Int),Ze1 sz bytes f z (.nil s) (.d (.i k n))=if 0 ≤ n∧zbi n.toNat bytes=true then some (.arr f 0 0 n.toNat,.arr 0 sz (List.replicate n.toNat (ofDs z))) else none) ∧
  (∀ C K b r j tm hp es (d p:Nat) (x:A),go C K b (⟨some d,.capn x,none,p⟩ :: r) j tm hp es=goV C K b d r j tm hp es [] (match evT tm x with | .nil _=>some (.d (.i .i64 0)) | _=>none)) ∧
  (∀ (C:zbg) (K:St→List Foot→Prop) (b d sz bytes:Nat) (r:List CO) (j:Nat) (tm:List (Nat × V)) (hp:List (Option Obj)) (es:List Foot) (s:Nat) (y:V) (ys:List (List V)),z7u C K b d sz bytes r j tm hp es (.nil s) y (some ys)=(zbi ys.length bytes=true∧go C K b r (j + 1) ((d,.arr (b + j) 0 0 ys.length) :: tm) (za6 (za6 hp (zb8 y) ((zb8 y).map (zbk hp))) [b + j] [some (.arr 0 sz ys)]) (⟨zb8 y,true,b + j,1⟩ :: es))) ∧
  (∀ (sz:Nat) (hp:List (Option Obj)) (s:Nat) (xs:List (List D)),Zat sz hp (.d (.l s xs))=if s=sz then some (xs.map ofDs) else none) ∧
  (∀ (hp:List (Option Obj)) (sz s:Nat) (lo hi:Option V),zon sz hp (.nil s) lo hi=match zbr lo hi 0 with | some _=>some (.nil s) | none=>none):=by
 refine ⟨fun _=>rfl,fun _ _ _ _ _=>rfl,fun _ _ _ _=>rfl,fun _ _ _=>rfl,fun _=>rfl,fun C K b r j tm hp es d p sz bytes z x y=>Ze2 ..,?_,fun C K b r j tm hp es d p x=>z7t .., ?_, ?_, ?_⟩
 ·intros; rfl
 ·intros; rfl
 ·intro sz hp s xs
  simp only [Zat,zb8,Qc,ze0,ze5]
  by_cases h:s=sz <;> simp [h]
 ·intros; rfl
abbrev zR:List V:=[.d (.i .i64 0),.d (.i .i64 0),.d (.s []),.d (.l 4 [])]
theorem z5s (n:Nat):zch (List.replicate n zR)=[]:=by
 induction n with
 | zero=>rfl
 | succ n ih=>simp only [List.replicate_succ,zch,ih]; rfl
theorem z1o (f sh:Nat→Nat)(n:Nat):zdz f sh (List.replicate n zR)=List.replicate n zR:=by
 induction n with
 | zero=>rfl
 | succ n ih=>simp only [List.replicate_succ,zdz,ih]; rfl
theorem z5t (A:XE E):lcall E 325 [.nil 4,.d (.i .i64 0)] []=some (.nil 4,[]):=by
 refine zat A.e325 ?_
 have w0:IntKind.i64.wrap 0=0:=rfl
 simp only [zae,Zfq,evZ,w0,Int.sub_self,simprocAttr]
theorem z5u (A:XE E){n:Nat}(h0:0 < n)(hn:n ≤ 100000):lcall E 325 [.nil 4,.d (.i .i64 n)] []=some (.arr 0 0 0 0,[some (.arr 0 4 (List.replicate n zR))]):=by
 refine zat A.e325 ?_
 have w0:IntKind.i64.wrap 0=0:=rfl
 have h1:¬ (n:Int) < 0:=by omega
 have w1:IntKind.i64.wrap (n:Int)=n:=z6n (by omega) (by omega)
 have h2:(n:Int) > 0:=by omega
 have h3:(0:Int) ≤ (n:Int):=by omega
 have r2:zbi n 56=true:=by unfold zbi; exact Ql (by omega)
 have b1:zbr none (some (.d (.i .i64 0))) 0=some (0,0):=rfl
 have b2:zbr none (some (.d (.i .i64 0))) n=some (0,0):=by
  unfold zbr
  simp only
  rw [if_pos ⟨by omega,by omega,by omega⟩]; rfl
 simp only [zae,Zfq,evZ,w0,Int.sub_self,Int.sub_zero,h1,w1,eq_true h2,eq_true h3,r2,b1,b2,ofDs,z5s,z1o,simprocAttr]
theorem zts (a b:List (List D)):a.map ofDs++b.map ofDs=(a++b).map ofDs:=by simp
theorem z1p (A:XE E){R1 R2:List (List D)}(h1:R1.length ≤ 1000)(h2:R2.length ≤ 1000):∃ v,lcall E 314 [.d (.l 1 [[.l 4 R1],[.l 4 R2]])] []=some (.arr 0 v 0 (R1++R2).length,[some (.arr v 4 ((R1++R2).map ofDs))]):=by
 have w1:IntKind.i64.wrap (0 + (R1.length:Int))=(R1.length:Int):=by rw [Int.zero_add]; exact z6n (by omega) (by omega)
 have w2:IntKind.i64.wrap ((R1.length:Int) + (R2.length:Int))=((R1.length + R2.length:Nat):Int):=by rw [z6n (by omega) (by omega)]; omega
 have n1:¬ (R1.length:Int) < 0:=by omega
 have n2:¬ ((R1.length + R2.length:Nat):Int) < 0:=by omega
 have a1:IntKind.i64.wrap (0 + 1)=1:=rfl
 have a2:IntKind.i64.wrap (1 + 1)=2:=rfl
 have lt:(0:Int) < 2:=by omega
 have r1:zbi R1.length 56=true:=by unfold zbi; exact Ql (by omega)
 have r2:zbi (R1.length + R2.length) 56=true:=by unfold zbi; exact Ql (by omega)
 rcases Nat.eq_zero_or_pos (R1.length + R2.length) with h | h
 ·have e1:R1=[]:=List.eq_nil_of_length_eq_zero (by omega)
  have e2:R2=[]:=List.eq_nil_of_length_eq_zero (by omega)
  subst e1; subst e2
  have g:=z5t A
  refine ⟨1,zat A.e314 ?_⟩
  have z0:zbi 0 56=true:=rfl
  have w0:IntKind.i64.wrap 0=0:=rfl
  simp only [zae,↓reduceIte,Nat.reduceEqDiff,Nat.reduceAdd,reduceCtorEq,Zfp]
  refine zan ?_
  simp only [zae,↓reduceIte,Nat.reduceEqDiff,reduceCtorEq,Int.reduceLT,Int.reduceLE,zbo,Int.reduceToNat,evZ,a1,w0,Int.add_zero]
  refine ⟨_,rfl,zan ?_⟩
  simp only [zae,↓reduceIte,Nat.reduceEqDiff,reduceCtorEq,Int.reduceLT,Int.reduceLE,zbo,Int.reduceToNat,evZ,a2,w0,Int.add_zero]
  refine ⟨_,rfl,zan ?_⟩
  simp only [zae,↓reduceIte,Nat.reduceEqDiff,Nat.reduceAdd,Nat.reduceLeDiff,reduceCtorEq,Int.reduceLE,zbo,Int.reduceToNat,evZ,Int.lt_irrefl,g]
  refine zan ?_
  simp only [zae,↓reduceIte,Nat.reduceEqDiff,Nat.reduceAdd,Int.reduceLT,Int.reduceLE,zbo,Int.reduceToNat,evZ,a1,z0]
  refine ⟨_,rfl,zan ?_⟩
  simp only [zae,↓reduceIte,Nat.reduceEqDiff,Nat.reduceAdd,Nat.reduceLeDiff,Int.reduceLT,Int.reduceLE,zbo,Int.reduceToNat,Zj9,evZ,a2,z0,V.other]
  refine ⟨_,rfl,zan ?_⟩
  simp only [zae,↓reduceIte,Nat.reduceEqDiff,Nat.reduceAdd,Int.reduceLE,zbo,Int.reduceToNat,Int.lt_irrefl,zch,zdz]
 ·have g:=z5u A h (by omega)
  refine ⟨2,zat A.e314 ?_⟩
  simp only [zae,↓reduceIte,Nat.reduceEqDiff,Nat.reduceAdd,reduceCtorEq,Zfp]
  refine zan ?_
  simp only [zae,↓reduceIte,Nat.reduceEqDiff,reduceCtorEq,Int.reduceLT,Int.reduceLE,zbo,Int.reduceToNat,evZ,a1,w1,n1]
  refine ⟨_,rfl,zan ?_⟩
  simp only [zae,↓reduceIte,Nat.reduceEqDiff,reduceCtorEq,Int.reduceLT,Int.reduceLE,zbo,Int.reduceToNat,evZ,a2,w2,n2]
  refine ⟨_,rfl,zan ?_⟩
  simp only [zae,↓reduceIte,Nat.reduceEqDiff,Nat.reduceAdd,Nat.reduceLeDiff,Nat.reduceSub,Nat.reduceLT,reduceCtorEq,Int.reduceLE,zbo,Int.reduceToNat,List.range'_one,evZ,Int.lt_irrefl,g,z1o]
  refine zan ?_
  simp only [zae,↓reduceIte,Nat.reduceEqDiff,Nat.reduceAdd,Int.reduceLT,Int.reduceLE,zbo,Int.reduceToNat,Zj9,evZ,a1,List.length_replicate,r1,Qf,V.other,Nat.zero_le]
  refine ⟨_,rfl,zan ?_⟩
  have tk:(R1.map ofDs).take R1.length=R1.map ofDs:=List.take_of_length_le (by simp)
  simp only [zae,↓reduceIte,Nat.reduceEqDiff,Nat.reduceAdd,Int.reduceLT,Int.reduceLE,zbo,Int.reduceToNat,Zj9,evZ,a2,r2,Qf,tk,zts,V.other,Nat.le_refl]
  refine ⟨_,rfl,zan ?_⟩
  simp only [zae,↓reduceIte,Nat.reduceEqDiff,Nat.reduceAdd,Int.reduceLE,zbo,Int.reduceToNat,Int.lt_irrefl,zeg,zgb,Qg]
open Go
theorem Zao (v:GVal):1 ≤ szN v:=by rw [zgt]; omega
theorem z1q:∀ (l:List GVal),l.length ≤ szL l
 | []=>by simp [szL]
 | x :: r=>by
  have:=z1q r
  have:=Zao x
  simp only [szL,List.length_cons]; omega
theorem ztt (v:GVal):szL v.l ≤ szN v:=by rw [zgt]; omega
theorem zfq (v:GVal):v.l.length ≤ szN v:=Nat.le_trans (z1q _) (ztt v)
theorem Zhv (v:GVal):v.s.length ≤ 16 * szN v:=by rw [zgt]; omega
theorem zeh:∀ (v:GVal),szN v ≤ 1000→Small v:=ztg fun v ih h=>by
 have hl:=zfq v
 have:Small (.mk v.kind v.i v.s v.l):=zih (by omega) fun x hx=>ih x hx (by have:=zre hx; have:=ztt v; omega)
 rwa [GVal.eta] at this
theorem zwv (l:List GVal):∀ r ∈ zab l,r.length ≤ 20:=fun r hr=>by
 rw [zbz] at hr
 obtain ⟨x,_,rfl⟩:=List.mem_map.1 hr
 rw [zas]; simp
def ze3 (v:GVal):GVal:=if v.kind=3 then zok v.s.length else if v.kind=4 ∨ v.kind=5 ∨ v.kind=6 then zok v.l.length else zef 4
theorem z1r (A:XE E)(v:GVal):lcall E 302 [v.arg] []=some ((ze3 v).arg,[]):=by
 have b4:=zey A 4
 refine zat A.e302 ?_
 unfold ze3
 by_cases h3:v.kind=3
 ·rw [if_pos h3]
  simp only [zae,z6e,eq_true h3,simprocAttr]
  rfl
 rw [if_neg h3]
 by_cases h4:v.kind=4
 ·rw [if_pos (.inl h4)]
  simp only [zae,z6e,h3,eq_true h4,zad,simprocAttr]
  rfl
 by_cases h5:v.kind=5
 ·rw [if_pos (.inr (.inl h5))]
  simp only [zae,z6e,h3,h4,eq_true h5,zad,simprocAttr]
  rfl
 by_cases h6:v.kind=6
 ·rw [if_pos (.inr (.inr h6))]
  simp only [zae,z6e,h3,h4,h5,eq_true h6,zad,simprocAttr]
  rfl
 ·rw [if_neg (by omega)]
  simp only [zae,z6e,h3,h4,h5,h6,b4,simprocAttr]
def ztv (a b:GVal):GVal:=if a.kind ≠ b.kind ∨ a.kind ≠ 3∧a.kind ≠ 4 then zef 4 else .mk a.kind 0 (a.s++b.s) (a.l++b.l)
theorem Zhw (A:XE E){a b:GVal}(ha:szN a ≤ 500)(hb:szN b ≤ 500):lcall E 301 [a.arg,b.arg] []=some ((ztv a b).arg,[]):=by
 have b4:=zey A 4
 have la:=zfq a
 have lb:=zfq b
 have sa:=Zhv a
 have sb:=Zhv b
 obtain ⟨v,c1⟩:=z1p A (R1:=zab a.l) (R2:=zab b.l) (by rw [zad]; omega) (by rw [zad]; omega)
 rw [← zcc] at c1
 have c2:zyr 0 (.arr 0 v 0 (zab (a.l++b.l)).length) [some (.arr v 4 ((zab (a.l++b.l)).map ofDs))] [0]=some (.d (.l 4 (zab (a.l++b.l))),[]) :=
  zp8 rfl (zwv _) (by rw [zad,Qg]; omega)
 have hs:a.s.length + b.s.length ≤ 4611686018427387904:=by omega
 refine zat A.e301 ?_
 unfold ztv
 by_cases h:a.kind=b.kind
 ·by_cases h3:a.kind=3
  ·rw [if_neg (by omega)]
   simp only [zae,z8g,eq_true h,eq_true h3,hs,c1,c2,simprocAttr]
   exact ⟨by rfl,rfl⟩
  ·by_cases h4:a.kind=4
   ·rw [if_neg (by omega)]
    simp only [zae,z8g,eq_true h,h3,eq_true h4,hs,c1,c2,simprocAttr]
    exact ⟨by rfl,rfl⟩
   ·rw [if_pos (.inr ⟨h3,h4⟩)]
    simp only [zae,z8g,eq_true h,h3,h4,b4,simprocAttr]
 ·rw [if_pos (.inl h)]
  simp only [zae,z8g,h,b4,simprocAttr]
def zej (op:Int)(a b:GVal):GVal:=if op=11 then (if a.kind=2 then zjr (decide (a.i=0)) else zef 4) else if a.kind=2∧b.kind=2 then zjr (if op=9 then !decide (a.i=0) && !decide (b.i=0) else !decide (a.i=0) || !decide (b.i=0)) else zef 4
theorem kr1:zf9 [2]=[[.i .i64 2]]:=rfl
theorem kr2 (a b:Int):zf9 [a,b]=[[.i .i64 a],[.i .i64 b]]:=rfl
theorem Zhx (A:XE E)(a:GVal):lcall E 300 [.d (.i .i64 11),.d (.l 4 [a.row])] []=some ((zej 11 a a).arg,[]):=by
 have b4:=zey A 4
 have t1:=zmu A 11
 have k1:=zga A (l:=[a]) (ws:=[2]) (by simp) (by simp)
 have b1:zbr none (some (.d (.i .i64 1))) 1=some (0,1):=rfl
 have m1:zhn true [.d (.i .i64 1),.d (.i .i64 1)]=some (.i .i64 1):=rfl
 have k11:zam 11=1:=rfl
 rw [kr1] at k1
 simp only [zab,zez,Bool.and_true,zas] at k1
 rw [k11] at t1
 rw [zas]
 refine zat A.e300 ?_
 unfold zej
 rw [if_pos rfl]
 by_cases h:a.kind=2
 ·rw [if_pos h]
  rw [Ql h] at k1
  have tr:=zim A (decide (a.i=0))
  simp only [zae,zub,t1,m1,b1,k1,tr,simprocAttr]
 ·rw [if_neg h]
  rw [decide_eq_false h] at k1
  simp only [zae,zub,t1,m1,b1,k1,b4,simprocAttr]
theorem Zhy (A:XE E)(op:Int)(hop:op=9 ∨ op=10)(a b:GVal):lcall E 300 [.d (.i .i64 op),.d (.l 4 [a.row,b.row])] []=some ((zej op a b).arg,[]):=by
 have b4:=zey A 4
 have t1:=zmu A op
 have k1:=zga A (l:=[a,b]) (ws:=[2]) (by simp) (by simp)
 have k2:=zga A (l:=[a,b]) (ws:=[2,2]) (by simp) (by simp)
 have b1:zbr none (some (.d (.i .i64 2))) 2=some (0,2):=rfl
 have m1:zhn true [.d (.i .i64 2),.d (.i .i64 1)]=some (.i .i64 2):=rfl
 have hk:zam op=2:=by rcases hop with rfl | rfl <;> rfl
 have h11:¬ op=11:=by omega
 rw [kr1] at k1
 rw [kr2] at k2
 simp only [zab,zez,Bool.and_true,zas] at k1 k2
 rw [hk] at t1
 rw [zas,zas]
 refine zat A.e300 ?_
 unfold zej
 rw [if_neg h11]
 by_cases h:a.kind=2
 ·rw [Ql h] at k1 k2
  rw [Bool.true_and] at k2
  by_cases h2:b.kind=2
  ·rw [Ql h2] at k2
   rw [if_pos ⟨h,h2⟩]
   have tr:=zim A (if op=9 then !decide (a.i=0) && !decide (b.i=0) else !decide (a.i=0) || !decide (b.i=0))
   rcases hop with rfl | rfl
   ·simp only [if_true] at tr ⊢
    by_cases ha:a.i=0
    ·simp only [Ql ha,Bool.not_true,Bool.false_and] at tr ⊢
     simp only [zae,zub,t1,m1,b1,k1,k2,eq_true ha,tr,simprocAttr]
    ·by_cases hb:b.i=0
     ·simp only [decide_eq_false ha,Ql hb,Bool.not_false,Bool.not_true,Bool.true_and] at tr ⊢
      simp only [zae,zub,t1,m1,b1,k1,k2,ha,eq_true hb,tr,simprocAttr]
     ·simp only [decide_eq_false ha,decide_eq_false hb,Bool.not_false,Bool.true_and] at tr ⊢
      simp only [zae,zub,t1,m1,b1,k1,k2,ha,hb,tr,simprocAttr]
   ·have h109:¬ ((10:Int)=9):=by omega
    simp only [if_neg h109] at tr ⊢
    by_cases ha:a.i=0
    ·by_cases hb:b.i=0
     ·simp only [Ql ha,Ql hb,Bool.not_true,Bool.false_or] at tr ⊢
      simp only [zae,zub,t1,m1,b1,k1,k2,eq_true ha,eq_true hb,tr,simprocAttr]
     ·simp only [Ql ha,decide_eq_false hb,Bool.not_false,Bool.not_true,Bool.false_or] at tr ⊢
      simp only [zae,zub,t1,m1,b1,k1,k2,eq_true ha,hb,tr,simprocAttr]
    ·simp only [decide_eq_false ha,Bool.not_false,Bool.true_or] at tr ⊢
     simp only [zae,zub,t1,m1,b1,k1,k2,ha,tr,simprocAttr]
  ·rw [decide_eq_false h2] at k2
   rw [if_neg (fun h=>h2 h.2)]
   rcases hop with rfl | rfl
   ·simp only [zae,zub,t1,m1,b1,k1,k2,b4,simprocAttr]
   ·simp only [zae,zub,t1,m1,b1,k1,k2,b4,simprocAttr]
 ·rw [decide_eq_false h] at k1
  rw [if_neg (fun h'=>h h'.1)]
  rcases hop with rfl | rfl
  ·simp only [zae,zub,t1,m1,b1,k1,b4,simprocAttr]
  ·simp only [zae,zub,t1,m1,b1,k1,b4,simprocAttr]
def setG (op:Int)(s v:GVal):GVal:=if s.kind=5 then (if op=20 then zjr (decide ((ziq s.l v).length=s.l.length)) else .mk 5 0 [] (ziq s.l v)) else zef 4
def z5v (E:Nat→Option Fn):Prop:=∀ (l:List GVal) (v:GVal),l.length ≤ 1000→(∀ x ∈ l,Small x)→Small v→zbe ltV l=true →
  ∃ r h,lcall E 116 [.d (.l 4 (zab l)),v.arg] []=some (r,h)∧zde 0 r h=some (.d (.l 4 (zab (ziq l v))),[])
def ztu (E:Nat→Option Fn):Prop:=∀ (l:List GVal) (k:List UInt8),l.length ≤ 1000→zbe ltK l=true→(∀ x ∈ l,0 < x.l.length) →
  lcall E 119 [.d (.l 4 (zab l)),.d (.s k)] []=some (.tup [.d (.i .i64 (zb4 k l:Nat)),.d (.b (zjo k l))],[])
theorem Zhz (A:XE E)(hins:z5v E)(op:Int){s v:GVal}(hs:szN s ≤ 500)(hv:szN v ≤ 500)(hc:s.kind=5→zbe ltV s.l=true):lcall E 304 [.d (.i .i64 op),s.arg,v.arg] []=some ((setG op s v).arg,[]):=by
 have b4:=zey A 4
 refine zat A.e304 ?_
 unfold setG
 by_cases h5:s.kind=5
 ·rw [if_pos h5]
  have ls:=zfq s
  obtain ⟨r,h,i1,i2⟩:=hins s.l v (by omega) (fun x hx=>(zeh s (by omega)).sub x hx) (zeh v (by omega)) (hc h5)
  rw [zk0] at i2
  by_cases h20:op=20
  ·rw [if_pos h20]
   have tr:=zim A (decide (((ziq s.l v).length:Int)=s.l.length))
   have e1:decide (((ziq s.l v).length:Int)=s.l.length)=decide ((ziq s.l v).length=s.l.length):=by
    by_cases e:(ziq s.l v).length=s.l.length
    ·rw [Ql e,Ql (by omega)]
    ·rw [decide_eq_false e,decide_eq_false (by omega)]
   rw [← e1]
   simp only [zae,Zbb,eq_true h5,i1,i2,eq_true h20,zad,tr,simprocAttr]
  ·rw [if_neg h20]
   simp only [zae,Zbb,eq_true h5,i1,i2,h20,simprocAttr]
   rfl
 ·rw [if_neg h5]
  simp only [zae,Zbb,h5,b4,simprocAttr]
open Go
def zlp (k v:GVal):GVal:=.mk 4 0 [] [k,v]
def zu6 (l:List GVal)(k v:GVal):List GVal:=l.take (zb4 k.s l)++zlp k v :: l.drop (if zjo k.s l then zb4 k.s l + 1 else zb4 k.s l)
def zyj (m k:GVal):GVal:=if zjo k.s m.l then (match m.l[zb4 k.s m.l]? with | some (.mk _ _ _ (_ :: x :: _))=>x | _=>zef 7) else zef 7
theorem zom (A:XE E)(op:Int){l:List GVal}(hl:l.length ≤ 100)(h2:2 ≤ l.length)(hk:zez l [6,3]=false):lcall E 303 [.d (.i .i64 op),.d (.l 4 (zab l))] []=some ((zef 4).arg,[]):=by
 have b4:=zey A 4
 have k1:=zga A (l:=l) (ws:=[6,3]) (by omega) (by simpa using h2)
 rw [hk,kr2] at k1
 refine zat A.e303 ?_
 simp only [zae,z3k,k1,b4,simprocAttr]
theorem Zh0 (A:XE E)(hf:ztu E){m k:GVal}(hm:szN m ≤ 500)(h6:m.kind=6)(h3:k.kind=3)(hc:zbe ltK m.l=true)(hp:∀ x ∈ m.l,0 < x.l.length) :
  lcall E 303 [.d (.i .i64 18),.d (.l 4 [m.row,k.row])] []=some ((zjr (zjo k.s m.l)).arg,[]):=by
 have lm:=zfq m
 have k1:=zga A (l:=[m,k]) (ws:=[6,3]) (by simp) (by simp)
 have f1:=hf m.l k.s (by omega) hc hp
 have tr:=zim A (zjo k.s m.l)
 simp only [zab,zez,Bool.and_true,zas,Ql h6,Ql h3,kr2] at k1
 rw [zas,zas]
 refine zat A.e303 ?_
 simp only [zae,z3k,k1,f1,tr,simprocAttr]
theorem zkx {k:List UInt8}{l:List GVal}(h:zjo k l=true):∃ x,l[zb4 k l]?=some x:=by
 unfold zjo at h
 split at h
 ·exact ⟨_,by assumption⟩
 ·cases h
theorem Zh1 (A:XE E)(hf:ztu E){m k:GVal}(hm:szN m ≤ 500)(h6:m.kind=6)(h3:k.kind=3)(hc:zbe ltK m.l=true)(hp:∀ x ∈ m.l,x.l.length=2) :
  lcall E 303 [.d (.i .i64 17),.d (.l 4 [m.row,k.row])] []=some ((zyj m k).arg,[]):=by
 have lm:=zfq m
 have b7:=zey A 7
 have k1:=zga A (l:=[m,k]) (ws:=[6,3]) (by simp) (by simp)
 have f1:=hf m.l k.s (by omega) hc (fun x hx=>by rw [hp x hx]; omega)
 simp only [zab,zez,Bool.and_true,zas,Ql h6,Ql h3,kr2] at k1
 rw [zas,zas]
 refine zat A.e303 ?_
 unfold zyj
 cases hh:zjo k.s m.l with
 | false =>
  rw [hh] at f1
  simp only [zae,z3k,k1,f1,b7,simprocAttr]
 | true =>
  rw [hh] at f1
  obtain ⟨x,hx⟩:=zkx hh
  have h0:(0:Int) ≤ (zb4 k.s m.l:Nat):=by omega
  have gx:(zab m.l)[zb4 k.s m.l]?=some x.row:=by rw [zaw,hx]; rfl
  have l2:=hp x (List.mem_of_getElem? hx)
  obtain ⟨xk,xi,xs,xl⟩:=x
  match xl,l2 with
  | [a,b],_ =>
   rw [if_pos rfl,hx]
   simp only [GVal.row,zab,zas] at gx
   simp only [zae,z3k,k1,f1,eq_true h0,gx,simprocAttr]
theorem zu7 (A:XE E)(l:List GVal)(i:Nat)(hi:i < l.length)(hl:l.length ≤ 1000) :
  lcall E 315 [.arr 0 0 0 l.length,.d (.i .i64 i),.d (.i .i64 ((i + 1:Nat):Int))] [some (.arr 0 4 ((zab l).map ofDs))]=some (.arr 0 1 0 (l.take i++l.drop (i + 1)).length,[some (.arr 1 4 ((zab (l.take i++l.drop (i + 1))).map ofDs))]):=by
 rw [zff A.e315]
 simp only [zn5,zij]
 rw [if_pos ⟨trivial,by simp [zad],by omega,by omega,by omega,by omega⟩]
 have e:(zab l).take i++(zab l).drop (i + 1)=zab (l.take i++l.drop (i + 1)):=by simp [zcc,zdd,zcu]
 have n:i + (l.length - (i + 1))=(l.take i++l.drop (i + 1)).length:=by simp; omega
 simp only [Qk,e,n]
theorem zl9 (A:XE E)(ver:Nat)(l:List GVal)(v:GVal)(i:Nat)(hi:i ≤ l.length)(hl:l.length ≤ 1000) :
  lcall E 134 [.arr 0 ver 0 l.length,.d (.i .i64 i),.d (.l 4 [v.row])] [some (.arr ver 4 ((zab l).map ofDs))]=some (.d (.l 4 (zab (l.take i++v :: l.drop i))),[some (.arr (ver + 1) 4 [])]):=by
 have e:zea (zab l) i v.row=zab (l.take i++v :: l.drop i):=by simp [zea,zcc,zdd,zcu,zab]
 rw [zff A.e134]
 simp only [zh1,zij]
 rw [if_pos ⟨trivial,by simp [zad],by omega,by omega,by omega⟩]
 simp only [Qk,e]
theorem Zh2 (A:XE E)(hf:ztu E){m k v:GVal}(hm:szN m ≤ 500)(h6:m.kind=6)(h3:k.kind=3)(hc:zbe ltK m.l=true)(hp:∀ x ∈ m.l,0 < x.l.length) :
  lcall E 303 [.d (.i .i64 16),.d (.l 4 [m.row,k.row,v.row])] []=some ((GVal.mk 6 0 [] (zu6 m.l k v)).arg,[]):=by
 have lm:=zfq m
 have k1:=zga A (l:=[m,k,v]) (ws:=[6,3]) (by simp) (by simp)
 have f1:=hf m.l k.s (by omega) hc hp
 have cl1:=zii A.e146 m.l (by omega)
 have cl2:=zii A.e146 [k,v] (by simp)
 have st2:zde 0 (.arr 0 0 0 2) [some (.arr 0 4 ((zab [k,v]).map ofDs))]=some (.d (.l 4 (zab [k,v])),[]):=zp8 rfl (zwv _) (by simp [zab])
 have b13:zbr (some (.d (.i .i64 1))) (some (.d (.i .i64 3))) 3=some (1,3):=rfl
 have hle:=zoa k.s m.l
 simp only [zab,zez,Bool.and_true,zas,Ql h6,Ql h3,kr2] at k1
 rw [zas,zas,zas]
 simp only [zab,zas,List.length_cons,List.length_nil,Qb,Qc,ofDs] at cl2 st2
 refine zat A.e303 ?_
 unfold zu6
 cases hh:zjo k.s m.l with
 | false =>
  rw [hh] at f1
  have i1:=zl9 A 0 m.l (zlp k v) (zb4 k.s m.l) (by omega) (by omega)
  simp only [zlp,zas,gF] at i1
  simp only [zae,List.range'_one,z3k,k1,f1,cl1,zgb,zeg,b13,cl2,st2,i1,simprocAttr]
  rfl
 | true =>
  rw [hh] at f1
  obtain ⟨x,hx⟩:=zkx hh
  have hlt:zb4 k.s m.l < m.l.length:=by
   rcases Qn (zb4 k.s m.l) m.l.length with h | h
   ·exact h
   ·rw [Qe h] at hx; cases hx
  have d1:=zu7 A m.l (zb4 k.s m.l) hlt (by omega)
  have w:IntKind.i64.wrap (((zb4 k.s m.l:Nat):Int) + 1)=((zb4 k.s m.l + 1:Nat):Int):=by rw [i64_in (by omega) (by omega)]; omega
  have i1:=zl9 A 1 (m.l.take (zb4 k.s m.l)++m.l.drop (zb4 k.s m.l + 1)) (zlp k v) (zb4 k.s m.l) (by simp; omega) (by simp; omega)
  have e1:(m.l.take (zb4 k.s m.l)++m.l.drop (zb4 k.s m.l + 1)).take (zb4 k.s m.l)=m.l.take (zb4 k.s m.l):=by rw [List.take_append_of_le_length (by simp; omega),List.take_take]; simp
  have e2:(m.l.take (zb4 k.s m.l)++m.l.drop (zb4 k.s m.l + 1)).drop (zb4 k.s m.l)=m.l.drop (zb4 k.s m.l + 1):=by rw [List.drop_append_of_le_length (by simp; omega)]; simp
  rw [e1,e2] at i1
  simp only [zlp,zas,gF] at i1
  rw [if_pos rfl]
  simp only [zae,List.range'_one,z3k,k1,f1,cl1,zgb,zeg,w,d1,b13,cl2,st2,i1,simprocAttr]
  rfl
end Ab.Vx
